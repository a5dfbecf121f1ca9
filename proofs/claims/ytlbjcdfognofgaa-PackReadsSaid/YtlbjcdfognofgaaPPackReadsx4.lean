-- PRINTED BY print.sh 35421559b90ae4d0a3588c463048766b98c2df88dd9212a6774a882060cdf62d: not written by this session
import Derived.Test.YtlbjcdfognofgaaPPackReadsx0
import Derived.Test.YtlbjcdfognofgaaPPackReadsx1
import Derived.Test.YtlbjcdfognofgaaPPackReadsx2
import Derived.Test.YtlbjcdfognofgaaPPackReadsx3
namespace Go.Proofs.Ytlbjcdfognofgaa.PPackReads
open Go.RowKit Go.Proofs.YtlbjcdfognofgaaW.PrintWords Go.Proofs.YtlbjcdfognofgaaW.PrintLast Go.Proofs.YtlbjcdfognofgaaW.PrintMore
attribute [local go_sem] max2_int min2_int max_two min_two max_three min_three max_four min_four   -- for this text's walks alone
set_option linter.unusedVariables false
set_option linter.unusedSimpArgs false

/-! ### horologelaw01_PackReads: function 11 -/
mutual
def horologelaw01_PackReads.j0 : Nat → ByteArray → Int → Bool → Option (Bool)
  | 0, _, _, _ => none
  | k + 1, x0, x1, x47 => if x47 = true then (some false) else ((pack_ReadI.f k x0 x1).bind fun bt160 => ((horologeref01_ReadI.f k x0 x1).bind fun bt163 => (if bt160.1 = bt163.1 then (if bt160.2.1 = bt163.2.1 then (horologelaw01_PackReads.j1 k x0 x1 (bt160.2.2 != bt163.2.2)) else (horologelaw01_PackReads.j1 k x0 x1 true)) else (horologelaw01_PackReads.j1 k x0 x1 true))))
def horologelaw01_PackReads.j1 : Nat → ByteArray → Int → Bool → Option (Bool)
  | 0, _, _, _ => none
  | k + 1, x0, x1, x74 => if x74 = true then (some false) else ((pack_ReadText.f k x0 x1).bind fun bt166 => ((horologeref01_ReadText.f k x0 x1).bind fun bt169 => (if bt166.1.toList = bt169.1.toList then (if bt166.2.1 = bt169.2.1 then (horologelaw01_PackReads.j2 k x0 x1 (bt166.2.2 != bt169.2.2)) else (horologelaw01_PackReads.j2 k x0 x1 true)) else (horologelaw01_PackReads.j2 k x0 x1 true))))
def horologelaw01_PackReads.j2 : Nat → ByteArray → Int → Bool → Option (Bool)
  | 0, _, _, _ => none
  | k + 1, x0, x1, x101 => if x101 = true then (some false) else ((pack_ReadList.f k x0 x1).bind fun bt172 => ((horologeref01_ReadList.f k x0 x1).bind fun bt177 => ((horologeref01_Ints.f k bt172.1 bt177.1).bind fun t182 => (if t182 = true then (if bt172.2.1 = bt177.2.1 then (some (bt172.2.2 == bt177.2.2)) else (some false)) else (some false)))))
end
def horologelaw01_PackReads.f (k : Nat) (a0 : ByteArray) (a1 : Int) : Option (Bool) := (pack_ReadU.f k a0 a1).bind fun bt153 => ((horologeref01_ReadU.f k a0 a1).bind fun bt156 => (if bt153.1 = bt156.1 then (if bt153.2.1 = bt156.2.1 then (if bt153.2.2 = bt156.2.2 then ((horologelaw01_awake.f k).bind fun t159 => (horologelaw01_PackReads.j0 k a0 a1 (!t159))) else (horologelaw01_PackReads.j0 k a0 a1 true)) else (horologelaw01_PackReads.j0 k a0 a1 true)) else (horologelaw01_PackReads.j0 k a0 a1 true)))
theorem horologelaw01_PackReads.mono_l : ∀ k, (∀ y0 y1 y2, LeO (horologelaw01_PackReads.j0 k y0 y1 y2) (horologelaw01_PackReads.j0 (k + 1) y0 y1 y2)) ∧ (∀ y0 y1 y2, LeO (horologelaw01_PackReads.j1 k y0 y1 y2) (horologelaw01_PackReads.j1 (k + 1) y0 y1 y2)) ∧ (∀ y0 y1 y2, LeO (horologelaw01_PackReads.j2 k y0 y1 y2) (horologelaw01_PackReads.j2 (k + 1) y0 y1 y2))
  | 0 => ⟨fun _ _ _ r h => by simp [horologelaw01_PackReads.j0] at h, fun _ _ _ r h => by simp [horologelaw01_PackReads.j1] at h, fun _ _ _ r h => by simp [horologelaw01_PackReads.j2] at h⟩
  | k + 1 => by
    obtain ⟨ih0, ih1, ih2⟩ := horologelaw01_PackReads.mono_l k
    refine ⟨?_, ?_, ?_⟩
    · intro y0 y1 y2
      unfold horologelaw01_PackReads.j0
      repeat' first
      | (with_reducible exact ih0 _ _ _)
      | (with_reducible exact ih1 _ _ _)
      | (with_reducible exact ih2 _ _ _)
      | (with_reducible exact horologelaw01_awake.mono _)
      | (with_reducible exact horologeref01_Ints.mono _ _ _)
      | (with_reducible exact horologeref01_ReadI.mono _ _ _)
      | (with_reducible exact horologeref01_ReadList.mono _ _ _)
      | (with_reducible exact horologeref01_ReadText.mono _ _ _)
      | (with_reducible exact horologeref01_ReadU.mono _ _ _)
      | (with_reducible exact pack_ReadI.mono _ _ _)
      | (with_reducible exact pack_ReadList.mono _ _ _)
      | (with_reducible exact pack_ReadText.mono _ _ _)
      | (with_reducible exact pack_ReadU.mono _ _ _)
      | (with_reducible exact LeO.refl _)
      | (with_reducible exact LeO.none _)
      | (with_reducible refine LeO.ite ?_ ?_)
      | (with_reducible refine LeO.bind ?_ (fun _ => ?_))
      | exact ih0 _ _ _
      | exact ih1 _ _ _
      | exact ih2 _ _ _
      | exact horologelaw01_awake.mono _
      | exact horologeref01_Ints.mono _ _ _
      | exact horologeref01_ReadI.mono _ _ _
      | exact horologeref01_ReadList.mono _ _ _
      | exact horologeref01_ReadText.mono _ _ _
      | exact horologeref01_ReadU.mono _ _ _
      | exact pack_ReadI.mono _ _ _
      | exact pack_ReadList.mono _ _ _
      | exact pack_ReadText.mono _ _ _
      | exact pack_ReadU.mono _ _ _
      | exact LeO.none _
      | refine LeO.ite ?_ ?_
      | refine LeO.bind ?_ (fun _ => ?_)
    · intro y0 y1 y2
      unfold horologelaw01_PackReads.j1
      repeat' first
      | (with_reducible exact ih0 _ _ _)
      | (with_reducible exact ih1 _ _ _)
      | (with_reducible exact ih2 _ _ _)
      | (with_reducible exact horologelaw01_awake.mono _)
      | (with_reducible exact horologeref01_Ints.mono _ _ _)
      | (with_reducible exact horologeref01_ReadI.mono _ _ _)
      | (with_reducible exact horologeref01_ReadList.mono _ _ _)
      | (with_reducible exact horologeref01_ReadText.mono _ _ _)
      | (with_reducible exact horologeref01_ReadU.mono _ _ _)
      | (with_reducible exact pack_ReadI.mono _ _ _)
      | (with_reducible exact pack_ReadList.mono _ _ _)
      | (with_reducible exact pack_ReadText.mono _ _ _)
      | (with_reducible exact pack_ReadU.mono _ _ _)
      | (with_reducible exact LeO.refl _)
      | (with_reducible exact LeO.none _)
      | (with_reducible refine LeO.ite ?_ ?_)
      | (with_reducible refine LeO.bind ?_ (fun _ => ?_))
      | exact ih0 _ _ _
      | exact ih1 _ _ _
      | exact ih2 _ _ _
      | exact horologelaw01_awake.mono _
      | exact horologeref01_Ints.mono _ _ _
      | exact horologeref01_ReadI.mono _ _ _
      | exact horologeref01_ReadList.mono _ _ _
      | exact horologeref01_ReadText.mono _ _ _
      | exact horologeref01_ReadU.mono _ _ _
      | exact pack_ReadI.mono _ _ _
      | exact pack_ReadList.mono _ _ _
      | exact pack_ReadText.mono _ _ _
      | exact pack_ReadU.mono _ _ _
      | exact LeO.none _
      | refine LeO.ite ?_ ?_
      | refine LeO.bind ?_ (fun _ => ?_)
    · intro y0 y1 y2
      unfold horologelaw01_PackReads.j2
      repeat' first
      | (with_reducible exact ih0 _ _ _)
      | (with_reducible exact ih1 _ _ _)
      | (with_reducible exact ih2 _ _ _)
      | (with_reducible exact horologelaw01_awake.mono _)
      | (with_reducible exact horologeref01_Ints.mono _ _ _)
      | (with_reducible exact horologeref01_ReadI.mono _ _ _)
      | (with_reducible exact horologeref01_ReadList.mono _ _ _)
      | (with_reducible exact horologeref01_ReadText.mono _ _ _)
      | (with_reducible exact horologeref01_ReadU.mono _ _ _)
      | (with_reducible exact pack_ReadI.mono _ _ _)
      | (with_reducible exact pack_ReadList.mono _ _ _)
      | (with_reducible exact pack_ReadText.mono _ _ _)
      | (with_reducible exact pack_ReadU.mono _ _ _)
      | (with_reducible exact LeO.refl _)
      | (with_reducible exact LeO.none _)
      | (with_reducible refine LeO.ite ?_ ?_)
      | (with_reducible refine LeO.bind ?_ (fun _ => ?_))
      | exact ih0 _ _ _
      | exact ih1 _ _ _
      | exact ih2 _ _ _
      | exact horologelaw01_awake.mono _
      | exact horologeref01_Ints.mono _ _ _
      | exact horologeref01_ReadI.mono _ _ _
      | exact horologeref01_ReadList.mono _ _ _
      | exact horologeref01_ReadText.mono _ _ _
      | exact horologeref01_ReadU.mono _ _ _
      | exact pack_ReadI.mono _ _ _
      | exact pack_ReadList.mono _ _ _
      | exact pack_ReadText.mono _ _ _
      | exact pack_ReadU.mono _ _ _
      | exact LeO.none _
      | refine LeO.ite ?_ ?_
      | refine LeO.bind ?_ (fun _ => ?_)
theorem horologelaw01_PackReads.mono : ∀ a0 a1 k, LeO (horologelaw01_PackReads.f k a0 a1) (horologelaw01_PackReads.f (k + 1) a0 a1) := by
  intro a0 a1 k
  obtain ⟨ih0, ih1, ih2⟩ := horologelaw01_PackReads.mono_l k
  unfold horologelaw01_PackReads.f
  repeat' first
      | (with_reducible exact ih0 _ _ _)
      | (with_reducible exact ih1 _ _ _)
      | (with_reducible exact ih2 _ _ _)
      | (with_reducible exact horologelaw01_awake.mono _)
      | (with_reducible exact horologeref01_Ints.mono _ _ _)
      | (with_reducible exact horologeref01_ReadI.mono _ _ _)
      | (with_reducible exact horologeref01_ReadList.mono _ _ _)
      | (with_reducible exact horologeref01_ReadText.mono _ _ _)
      | (with_reducible exact horologeref01_ReadU.mono _ _ _)
      | (with_reducible exact pack_ReadI.mono _ _ _)
      | (with_reducible exact pack_ReadList.mono _ _ _)
      | (with_reducible exact pack_ReadText.mono _ _ _)
      | (with_reducible exact pack_ReadU.mono _ _ _)
      | (with_reducible exact LeO.refl _)
      | (with_reducible exact LeO.none _)
      | (with_reducible refine LeO.ite ?_ ?_)
      | (with_reducible refine LeO.bind ?_ (fun _ => ?_))
      | exact ih0 _ _ _
      | exact ih1 _ _ _
      | exact ih2 _ _ _
      | exact horologelaw01_awake.mono _
      | exact horologeref01_Ints.mono _ _ _
      | exact horologeref01_ReadI.mono _ _ _
      | exact horologeref01_ReadList.mono _ _ _
      | exact horologeref01_ReadText.mono _ _ _
      | exact horologeref01_ReadU.mono _ _ _
      | exact pack_ReadI.mono _ _ _
      | exact pack_ReadList.mono _ _ _
      | exact pack_ReadText.mono _ _ _
      | exact pack_ReadU.mono _ _ _
      | exact LeO.none _
      | refine LeO.ite ?_ ?_
      | refine LeO.bind ?_ (fun _ => ?_)
set_option maxHeartbeats 8000000 in
set_option maxRecDepth 100000 in
theorem horologelaw01_PackReads.calls (k : Nat) (a0 : ByteArray) (a1 : Int) (r : Bool) (w : World) (h : horologelaw01_PackReads.f k a0 a1 = some r) :
    Calls Try.prog 11 #[.string a0, .int .i64 a1] w fun e w' => e = .returned (.bool r) ∧ Below w.heap.size w w' := by
  have HB := Aside0.mk (Below.refl w.heap.size w)
  have H : ((pack_ReadU.f k a0 a1).bind fun bt153 => ((horologeref01_ReadU.f k a0 a1).bind fun bt156 => (if bt153.1 = bt156.1 then (if bt153.2.1 = bt156.2.1 then (if bt153.2.2 = bt156.2.2 then ((horologelaw01_awake.f k).bind fun t159 => (horologelaw01_PackReads.j0 k a0 a1 (!t159))) else (horologelaw01_PackReads.j0 k a0 a1 true)) else (horologelaw01_PackReads.j0 k a0 a1 true)) else (horologelaw01_PackReads.j0 k a0 a1 true)))) = some r := h
  clear h
  replace H := Option.bind_eq_some_iff.mp H
  obtain ⟨⟨t153, t154, t155⟩, A30, H⟩ := H
  replace H : ((horologeref01_ReadU.f k a0 a1).bind fun bt156 => (if t153 = bt156.1 then (if t154 = bt156.2.1 then (if t155 = bt156.2.2 then ((horologelaw01_awake.f k).bind fun t159 => (horologelaw01_PackReads.j0 k a0 a1 (!t159))) else (horologelaw01_PackReads.j0 k a0 a1 true)) else (horologelaw01_PackReads.j0 k a0 a1 true)) else (horologelaw01_PackReads.j0 k a0 a1 true))) = some r := H
  have A3 := Aside0.mk A30
  clear A30
  replace H := Option.bind_eq_some_iff.mp H
  obtain ⟨⟨t156, t157, t158⟩, A40, H⟩ := H
  replace H : (if t153 = t156 then (if t154 = t157 then (if t155 = t158 then ((horologelaw01_awake.f k).bind fun t159 => (horologelaw01_PackReads.j0 k a0 a1 (!t159))) else (horologelaw01_PackReads.j0 k a0 a1 true)) else (horologelaw01_PackReads.j0 k a0 a1 true)) else (horologelaw01_PackReads.j0 k a0 a1 true)) = some r := H
  have A4 := Aside0.mk A40
  clear A40
  have HC5 := Aside0.mk H
  clear H
  go_enter Try.func11, Try.ntmps11
  go_upto_region 3 with (first | ((with_reducible refine gate_callee (f := 48) rfl ?_); refine goesL_ (some 20) rfl rfl Try.func48 (by kernel_rfl) rfl #[.string a0, .int .i64 a1] rfl (by (try simp only [List.map_toArray, List.map_cons, List.map_nil]); first | done | rfl | (simp only [List.length_drop, List.length_take]; rfl)) ?_; (with_reducible refine (pack_ReadU.calls k a0 a1 t153 t154 t155 _ A3.out).mono ?_); rintro e w' ⟨rfl, ⟨nd, rfl⟩⟩; refine ⟨_, rfl, ?_⟩) | ((with_reducible refine gate_callee (f := 49) rfl ?_); refine goesL_ (some 27) rfl rfl Try.func49 (by kernel_rfl) rfl #[.string a0, .int .i64 a1] rfl (by (try simp only [List.map_toArray, List.map_cons, List.map_nil]); first | done | rfl | (simp only [List.length_drop, List.length_take]; rfl)) ?_; (with_reducible refine (horologeref01_ReadU.calls k a0 a1 t156 t157 t158 _ A4.out).mono ?_); rintro e w' ⟨rfl, ⟨nd, rfl⟩⟩; refine ⟨_, rfl, ?_⟩))
  (try simp only [Act.put, List.setIfInBounds_toArray, List.set_cons_zero, List.set_cons_succ])
  go_cut [47] (fun v47 wc => ∃ (kq : Nat) (x47_4 : Bool), v47 = .bool x47_4 ∧ Aside0 (horologelaw01_PackReads.j0 kq a0 a1 x47_4 = some r) ∧ Aside0 (kq ≤ k) ∧ Aside0 (Below w.heap.size w wc))
  case first =>
    have H := HC5.out
    clear HC5
    by_cases c6 : t153 = t156
    · rw [if_pos c6] at H
      have c6b0 : (t153 == t156) = true := beq_iff_eq.mpr c6
      have c6b1 : (t153 != t156) = false := bne_eq_false_iff_eq.mpr c6
      clear c6
      (first | rw [c6b0] | (simp only [i64_w, i32_w]; rw [c6b0]) | skip)
      by_cases c7 : t154 = t157
      · rw [if_pos c7] at H
        have c7b0 : (t154 == t157) = true := beq_iff_eq.mpr c7
        have c7b1 : (t154 != t157) = false := bne_eq_false_iff_eq.mpr c7
        clear c7
        by_cases c8 : t155 = t158
        · rw [if_pos c8] at H
          have c8b0 : (t155 == t158) = true := beq_iff_eq.mpr c8
          have c8b1 : (t155 != t158) = false := bne_eq_false_iff_eq.mpr c8
          clear c8
          replace H := Option.bind_eq_some_iff.mp H
          obtain ⟨t159, A90, H⟩ := H
          replace H : (horologelaw01_PackReads.j0 k a0 a1 (!t159)) = some r := H
          have A9 := Aside0.mk A90
          clear A90
          have H' := Aside0.mk H
          clear H
          go_wp2_with (first | (go_at_call 22; (with_reducible refine (horologelaw01_awake.calls k  t159 _ A9.out).mono ?_); rintro e w10 ⟨rfl, hb⟩; have n0_ := Aside0.mk (below_step (by repeat (first | (with_reducible first | exact HB.out | apply below_alloc | apply pw_below_drewN | apply below_drew1) | exact HB.out)) hb); clear HB; have HB := n0_; clear n0_; (try clear hb); (try clear hb2); (try clear hk); (try clear hi)))
          go_meet
          case rel => exact ⟨_, (!t159), (by first | rfl | (simp; done) | (simp [*]; done)), H', ⟨by first | omega | exact Nat.le_refl _⟩, ⟨by repeat (first | (with_reducible first | exact HB.out | apply below_alloc | apply pw_below_drewN | apply below_drew1) | exact HB.out)⟩⟩
        · rw [if_neg c8] at H
          have c8b0 : (t155 == t158) = false := beq_eq_false_iff_ne.mpr c8
          have c8b1 : (t155 != t158) = true := bne_iff_ne.mpr c8
          have H' := Aside0.mk H
          clear H
          go_wp2
          go_meet
          case rel => exact ⟨_, (true), (by first | rfl | (simp; done) | (simp [*]; done)), H', ⟨by first | omega | exact Nat.le_refl _⟩, ⟨by repeat (first | (with_reducible first | exact HB.out | apply below_alloc | apply pw_below_drewN | apply below_drew1) | exact HB.out)⟩⟩
      · rw [if_neg c7] at H
        have c7b0 : (t154 == t157) = false := beq_eq_false_iff_ne.mpr c7
        have c7b1 : (t154 != t157) = true := bne_iff_ne.mpr c7
        have H' := Aside0.mk H
        clear H
        go_wp2
        go_meet
        case rel => exact ⟨_, (true), (by first | rfl | (simp; done) | (simp [*]; done)), H', ⟨by first | omega | exact Nat.le_refl _⟩, ⟨by repeat (first | (with_reducible first | exact HB.out | apply below_alloc | apply pw_below_drewN | apply below_drew1) | exact HB.out)⟩⟩
    · rw [if_neg c6] at H
      have c6b0 : (t153 == t156) = false := beq_eq_false_iff_ne.mpr c6
      have c6b1 : (t153 != t156) = true := bne_iff_ne.mpr c6
      (first | rw [c6b0] | (simp only [i64_w, i32_w]; rw [c6b0]) | skip)
      have H' := Aside0.mk H
      clear H
      go_wp2
      go_meet
      case rel => exact ⟨_, (true), (by first | rfl | (simp; done) | (simp [*]; done)), H', ⟨by first | omega | exact Nat.le_refl _⟩, ⟨by repeat (first | (with_reducible first | exact HB.out | apply below_alloc | apply pw_below_drewN | apply below_drew1) | exact HB.out)⟩⟩
  case rest =>
    clear HC5
    try clear c1
    try clear p2
    try clear c4
    try clear c6
    try clear c6b0
    try clear c6b1
    try clear c7
    try clear c7b0
    try clear c7b1
    try clear c8
    try clear c8b0
    try clear c8b1
    obtain ⟨kq, x47_4, rfl, HA, HJ4, HB⟩ := hcut
    cases kq with
    | zero => exact absurd HA.out (by simp [horologelaw01_PackReads.j0])
    | succ kj4 =>
      have H := HA.out
      clear HA
      simp only [horologelaw01_PackReads.j0] at H
      by_cases c11 : x47_4 = true
      · subst c11
        have H1 : (some false) = some r := by rw [if_pos rfl] at H; exact H
        clear H
        have H := H1
        clear H1
        obtain rfl := Option.some.inj H
        go_wp2
        go_ret
        exact ⟨by first | rfl | (simp [errW_none, errW_some] <;> rfl) | (simp [*, errW_none, errW_some] <;> rfl), by repeat (first | (with_reducible first | exact HB.out | apply below_alloc | apply pw_below_drewN | apply below_drew1) | exact HB.out)⟩
      · replace c11 := Bool.eq_false_iff.mpr c11
        subst c11
        have H1 : ((pack_ReadI.f kj4 a0 a1).bind fun bt160 => ((horologeref01_ReadI.f kj4 a0 a1).bind fun bt163 => (if bt160.1 = bt163.1 then (if bt160.2.1 = bt163.2.1 then (horologelaw01_PackReads.j1 kj4 a0 a1 (bt160.2.2 != bt163.2.2)) else (horologelaw01_PackReads.j1 kj4 a0 a1 true)) else (horologelaw01_PackReads.j1 kj4 a0 a1 true)))) = some r := by rw [if_neg (show ¬ (false = true) by decide)] at H; exact H
        clear H
        have H := H1
        clear H1
        replace H := Option.bind_eq_some_iff.mp H
        obtain ⟨⟨t160, t161, t162⟩, A120, H⟩ := H
        replace H : ((horologeref01_ReadI.f kj4 a0 a1).bind fun bt163 => (if t160 = bt163.1 then (if t161 = bt163.2.1 then (horologelaw01_PackReads.j1 kj4 a0 a1 (t162 != bt163.2.2)) else (horologelaw01_PackReads.j1 kj4 a0 a1 true)) else (horologelaw01_PackReads.j1 kj4 a0 a1 true))) = some r := H
        have A12 := Aside0.mk A120
        clear A120
        replace H := Option.bind_eq_some_iff.mp H
        obtain ⟨⟨t163, t164, t165⟩, A130, H⟩ := H
        replace H : (if t160 = t163 then (if t161 = t164 then (horologelaw01_PackReads.j1 kj4 a0 a1 (t162 != t165)) else (horologelaw01_PackReads.j1 kj4 a0 a1 true)) else (horologelaw01_PackReads.j1 kj4 a0 a1 true)) = some r := H
        have A13 := Aside0.mk A130
        clear A130
        have HC14 := Aside0.mk H
        clear H
        go_upto_region 7 with (first | ((with_reducible refine gate_callee (f := 50) rfl ?_); refine goesL_ (some 51) rfl rfl Try.func50 (by kernel_rfl) rfl #[.string a0, .int .i64 a1] rfl (by (try simp only [List.map_toArray, List.map_cons, List.map_nil]); first | done | rfl | (simp only [List.length_drop, List.length_take]; rfl)) ?_; (with_reducible refine (pack_ReadI.calls kj4 a0 a1 t160 t161 t162 _ A12.out).mono ?_); rintro e w' ⟨rfl, ⟨nd, rfl⟩⟩; refine ⟨_, rfl, ?_⟩) | ((with_reducible refine gate_callee (f := 51) rfl ?_); refine goesL_ (some 58) rfl rfl Try.func51 (by kernel_rfl) rfl #[.string a0, .int .i64 a1] rfl (by (try simp only [List.map_toArray, List.map_cons, List.map_nil]); first | done | rfl | (simp only [List.length_drop, List.length_take]; rfl)) ?_; (with_reducible refine (horologeref01_ReadI.calls kj4 a0 a1 t163 t164 t165 _ A13.out).mono ?_); rintro e w' ⟨rfl, ⟨nd, rfl⟩⟩; refine ⟨_, rfl, ?_⟩))
        (try simp only [Act.put, List.setIfInBounds_toArray, List.set_cons_zero, List.set_cons_succ])
        go_cut [74] (fun v74 wc => ∃ (kq : Nat) (x74_13 : Bool), v74 = .bool x74_13 ∧ Aside0 (horologelaw01_PackReads.j1 kq a0 a1 x74_13 = some r) ∧ Aside0 (kq ≤ kj4) ∧ Aside0 (Below w.heap.size w wc))
        case first =>
          have H := HC14.out
          clear HC14
          by_cases c15 : t160 = t163
          · rw [if_pos c15] at H
            have c15b0 : (t160 == t163) = true := beq_iff_eq.mpr c15
            have c15b1 : (t160 != t163) = false := bne_eq_false_iff_eq.mpr c15
            clear c15
            (first | rw [c15b0] | (simp only [i64_w, i32_w]; rw [c15b0]) | skip)
            by_cases c16 : t161 = t164
            · rw [if_pos c16] at H
              have c16b0 : (t161 == t164) = true := beq_iff_eq.mpr c16
              have c16b1 : (t161 != t164) = false := bne_eq_false_iff_eq.mpr c16
              clear c16
              have H' := Aside0.mk H
              clear H
              go_wp2
              go_meet
              case rel => exact ⟨_, ((t162 != t165)), (by first | rfl | (simp; done) | (simp [*]; done)), H', ⟨by have := HJ4.out; first | omega | exact Nat.le_refl _⟩, ⟨by repeat (first | (with_reducible first | exact HB.out | apply below_alloc | apply pw_below_drewN | apply below_drew1) | exact HB.out)⟩⟩
            · rw [if_neg c16] at H
              have c16b0 : (t161 == t164) = false := beq_eq_false_iff_ne.mpr c16
              have c16b1 : (t161 != t164) = true := bne_iff_ne.mpr c16
              have H' := Aside0.mk H
              clear H
              go_wp2
              go_meet
              case rel => exact ⟨_, (true), (by first | rfl | (simp; done) | (simp [*]; done)), H', ⟨by have := HJ4.out; first | omega | exact Nat.le_refl _⟩, ⟨by repeat (first | (with_reducible first | exact HB.out | apply below_alloc | apply pw_below_drewN | apply below_drew1) | exact HB.out)⟩⟩
          · rw [if_neg c15] at H
            have c15b0 : (t160 == t163) = false := beq_eq_false_iff_ne.mpr c15
            have c15b1 : (t160 != t163) = true := bne_iff_ne.mpr c15
            (first | rw [c15b0] | (simp only [i64_w, i32_w]; rw [c15b0]) | skip)
            have H' := Aside0.mk H
            clear H
            go_wp2
            go_meet
            case rel => exact ⟨_, (true), (by first | rfl | (simp; done) | (simp [*]; done)), H', ⟨by have := HJ4.out; first | omega | exact Nat.le_refl _⟩, ⟨by repeat (first | (with_reducible first | exact HB.out | apply below_alloc | apply pw_below_drewN | apply below_drew1) | exact HB.out)⟩⟩
        case rest =>
          clear HC14
          try clear c1
          try clear p2
          try clear c4
          try clear c5
          try clear c6
          try clear c6b0
          try clear c6b1
          try clear c7
          try clear c7b0
          try clear c7b1
          try clear c8
          try clear c8b0
          try clear c8b1
          try clear c11
          try clear c15
          try clear c15b0
          try clear c15b1
          try clear c16
          try clear c16b0
          try clear c16b1
          try clear p2
          obtain ⟨kq, x74_13, rfl, HA, HJ13, HB⟩ := hcut
          cases kq with
          | zero => exact absurd HA.out (by simp [horologelaw01_PackReads.j1])
          | succ kj13 =>
            have H := HA.out
            clear HA
            simp only [horologelaw01_PackReads.j1] at H
            by_cases c17 : x74_13 = true
            · subst c17
              have H1 : (some false) = some r := by rw [if_pos rfl] at H; exact H
              clear H
              have H := H1
              clear H1
              obtain rfl := Option.some.inj H
              go_wp2
              go_ret
              exact ⟨by first | rfl | (simp [errW_none, errW_some] <;> rfl) | (simp [*, errW_none, errW_some] <;> rfl), by repeat (first | (with_reducible first | exact HB.out | apply below_alloc | apply pw_below_drewN | apply below_drew1) | exact HB.out)⟩
            · replace c17 := Bool.eq_false_iff.mpr c17
              subst c17
              have H1 : ((pack_ReadText.f kj13 a0 a1).bind fun bt166 => ((horologeref01_ReadText.f kj13 a0 a1).bind fun bt169 => (if bt166.1.toList = bt169.1.toList then (if bt166.2.1 = bt169.2.1 then (horologelaw01_PackReads.j2 kj13 a0 a1 (bt166.2.2 != bt169.2.2)) else (horologelaw01_PackReads.j2 kj13 a0 a1 true)) else (horologelaw01_PackReads.j2 kj13 a0 a1 true)))) = some r := by rw [if_neg (show ¬ (false = true) by decide)] at H; exact H
              clear H
              have H := H1
              clear H1
              replace H := Option.bind_eq_some_iff.mp H
              obtain ⟨⟨t166, t167, t168⟩, A180, H⟩ := H
              replace H : ((horologeref01_ReadText.f kj13 a0 a1).bind fun bt169 => (if t166.toList = bt169.1.toList then (if t167 = bt169.2.1 then (horologelaw01_PackReads.j2 kj13 a0 a1 (t168 != bt169.2.2)) else (horologelaw01_PackReads.j2 kj13 a0 a1 true)) else (horologelaw01_PackReads.j2 kj13 a0 a1 true))) = some r := H
              have A18 := Aside0.mk A180
              clear A180
              replace H := Option.bind_eq_some_iff.mp H
              obtain ⟨⟨t169, t170, t171⟩, A190, H⟩ := H
              replace H : (if t166.toList = t169.toList then (if t167 = t170 then (horologelaw01_PackReads.j2 kj13 a0 a1 (t168 != t171)) else (horologelaw01_PackReads.j2 kj13 a0 a1 true)) else (horologelaw01_PackReads.j2 kj13 a0 a1 true)) = some r := H
              have A19 := Aside0.mk A190
              clear A190
              have HC20 := Aside0.mk H
              clear H
              go_upto_region 11 with (first | ((with_reducible refine gate_callee (f := 52) rfl ?_); refine goesL_ (some 78) rfl rfl Try.func52 (by kernel_rfl) rfl #[.string a0, .int .i64 a1] rfl (by (try simp only [List.map_toArray, List.map_cons, List.map_nil]); first | done | rfl | (simp only [List.length_drop, List.length_take]; rfl)) ?_; (with_reducible refine (pack_ReadText.calls kj13 a0 a1 t166 t167 t168 _ A18.out).mono ?_); rintro e w' ⟨rfl, ⟨nd, rfl⟩⟩; refine ⟨_, rfl, ?_⟩) | ((with_reducible refine gate_callee (f := 53) rfl ?_); refine goesL_ (some 85) rfl rfl Try.func53 (by kernel_rfl) rfl #[.string a0, .int .i64 a1] rfl (by (try simp only [List.map_toArray, List.map_cons, List.map_nil]); first | done | rfl | (simp only [List.length_drop, List.length_take]; rfl)) ?_; (with_reducible refine (horologeref01_ReadText.calls kj13 a0 a1 t169 t170 t171 _ A19.out).mono ?_); rintro e w' ⟨rfl, ⟨nd, rfl⟩⟩; refine ⟨_, rfl, ?_⟩))
              (try simp only [Act.put, List.setIfInBounds_toArray, List.set_cons_zero, List.set_cons_succ])
              go_cut [101] (fun v101 wc => ∃ (kq : Nat) (x101_19 : Bool), v101 = .bool x101_19 ∧ Aside0 (horologelaw01_PackReads.j2 kq a0 a1 x101_19 = some r) ∧ Aside0 (kq ≤ kj13) ∧ Aside0 (Below w.heap.size w wc))
              case first =>
                have H := HC20.out
                clear HC20
                by_cases c21 : t166.toList = t169.toList
                · rw [if_pos c21] at H
                  have c21b0 : (t166.toList == t169.toList) = true := beq_iff_eq.mpr c21
                  have c21b1 : (t166.toList != t169.toList) = false := bne_eq_false_iff_eq.mpr c21
                  clear c21
                  (first | rw [c21b0] | (simp only [i64_w, i32_w]; rw [c21b0]) | skip)
                  by_cases c22 : t167 = t170
                  · rw [if_pos c22] at H
                    have c22b0 : (t167 == t170) = true := beq_iff_eq.mpr c22
                    have c22b1 : (t167 != t170) = false := bne_eq_false_iff_eq.mpr c22
                    clear c22
                    have H' := Aside0.mk H
                    clear H
                    go_wp2
                    go_meet
                    case rel => exact ⟨_, ((t168 != t171)), (by first | rfl | (simp; done) | (simp [*]; done)), H', ⟨by have := HJ4.out; have := HJ13.out; first | omega | exact Nat.le_refl _⟩, ⟨by repeat (first | (with_reducible first | exact HB.out | apply below_alloc | apply pw_below_drewN | apply below_drew1) | exact HB.out)⟩⟩
                  · rw [if_neg c22] at H
                    have c22b0 : (t167 == t170) = false := beq_eq_false_iff_ne.mpr c22
                    have c22b1 : (t167 != t170) = true := bne_iff_ne.mpr c22
                    have H' := Aside0.mk H
                    clear H
                    go_wp2
                    go_meet
                    case rel => exact ⟨_, (true), (by first | rfl | (simp; done) | (simp [*]; done)), H', ⟨by have := HJ4.out; have := HJ13.out; first | omega | exact Nat.le_refl _⟩, ⟨by repeat (first | (with_reducible first | exact HB.out | apply below_alloc | apply pw_below_drewN | apply below_drew1) | exact HB.out)⟩⟩
                · rw [if_neg c21] at H
                  have c21b0 : (t166.toList == t169.toList) = false := beq_eq_false_iff_ne.mpr c21
                  have c21b1 : (t166.toList != t169.toList) = true := bne_iff_ne.mpr c21
                  (first | rw [c21b0] | (simp only [i64_w, i32_w]; rw [c21b0]) | skip)
                  have H' := Aside0.mk H
                  clear H
                  go_wp2
                  go_meet
                  case rel => exact ⟨_, (true), (by first | rfl | (simp; done) | (simp [*]; done)), H', ⟨by have := HJ4.out; have := HJ13.out; first | omega | exact Nat.le_refl _⟩, ⟨by repeat (first | (with_reducible first | exact HB.out | apply below_alloc | apply pw_below_drewN | apply below_drew1) | exact HB.out)⟩⟩
              case rest =>
                clear HC20
                try clear c1
                try clear c2
                try clear p2
                try clear c4
                try clear c5
                try clear c6
                try clear c6b0
                try clear c6b1
                try clear c7
                try clear c7b0
                try clear c7b1
                try clear c8
                try clear c8b0
                try clear c8b1
                try clear c11
                try clear c15
                try clear c15b0
                try clear c15b1
                try clear c16
                try clear c16b0
                try clear c16b1
                try clear c17
                try clear c21
                try clear c21b0
                try clear c21b1
                try clear c22
                try clear c22b0
                try clear c22b1
                try clear p2
                obtain ⟨kq, x101_19, rfl, HA, HJ19, HB⟩ := hcut
                cases kq with
                | zero => exact absurd HA.out (by simp [horologelaw01_PackReads.j2])
                | succ kj19 =>
                  have H := HA.out
                  clear HA
                  simp only [horologelaw01_PackReads.j2] at H
                  by_cases c23 : x101_19 = true
                  · subst c23
                    have H1 : (some false) = some r := by rw [if_pos rfl] at H; exact H
                    clear H
                    have H := H1
                    clear H1
                    obtain rfl := Option.some.inj H
                    go_wp2
                    go_ret
                    exact ⟨by first | rfl | (simp [errW_none, errW_some] <;> rfl) | (simp [*, errW_none, errW_some] <;> rfl), by repeat (first | (with_reducible first | exact HB.out | apply below_alloc | apply pw_below_drewN | apply below_drew1) | exact HB.out)⟩
                  · replace c23 := Bool.eq_false_iff.mpr c23
                    subst c23
                    have H1 : ((pack_ReadList.f kj19 a0 a1).bind fun bt172 => ((horologeref01_ReadList.f kj19 a0 a1).bind fun bt177 => ((horologeref01_Ints.f kj19 bt172.1 bt177.1).bind fun t182 => (if t182 = true then (if bt172.2.1 = bt177.2.1 then (some (bt172.2.2 == bt177.2.2)) else (some false)) else (some false))))) = some r := by rw [if_neg (show ¬ (false = true) by decide)] at H; exact H
                    clear H
                    have H := H1
                    clear H1
                    replace H := Option.bind_eq_some_iff.mp H
                    obtain ⟨⟨t172, t173, t174⟩, A240, H⟩ := H
                    replace H : ((horologeref01_ReadList.f kj19 a0 a1).bind fun bt177 => ((horologeref01_Ints.f kj19 t172 bt177.1).bind fun t182 => (if t182 = true then (if t173 = bt177.2.1 then (some (t174 == bt177.2.2)) else (some false)) else (some false)))) = some r := H
                    have A24 := Aside0.mk A240
                    clear A240
                    replace H := Option.bind_eq_some_iff.mp H
                    obtain ⟨⟨t177, t178, t179⟩, A250, H⟩ := H
                    replace H : ((horologeref01_Ints.f kj19 t172 t177).bind fun t182 => (if t182 = true then (if t173 = t178 then (some (t174 == t179)) else (some false)) else (some false))) = some r := H
                    have A25 := Aside0.mk A250
                    clear A250
                    replace H := Option.bind_eq_some_iff.mp H
                    obtain ⟨t182, A260, H⟩ := H
                    replace H : (if t182 = true then (if t173 = t178 then (some (t174 == t179)) else (some false)) else (some false)) = some r := H
                    have A26 := Aside0.mk A260
                    clear A260
                    by_cases c27 : t182 = true
                    · subst c27
                      have H1 : (if t173 = t178 then (some (t174 == t179)) else (some false)) = some r := by rw [if_pos rfl] at H; exact H
                      clear H
                      have H := H1
                      clear H1
                      by_cases c28 : t173 = t178
                      · rw [if_pos c28] at H
                        have c28b0 : (t173 == t178) = true := beq_iff_eq.mpr c28
                        have c28b1 : (t173 != t178) = false := bne_eq_false_iff_eq.mpr c28
                        clear c28
                        obtain rfl := Option.some.inj H
                        go_wp2_with (first | ((with_reducible refine gate_callee (f := 54) rfl ?_); refine goesL_ (some 105) rfl rfl Try.func54 (by kernel_rfl) rfl #[.string a0, .int .i64 a1] rfl (by (try simp only [List.map_toArray, List.map_cons, List.map_nil]); first | done | rfl | (simp only [List.length_drop, List.length_take]; rfl)) ?_; (with_reducible refine (pack_ReadList.calls kj19 a0 a1 t172 t173 t174 _ A24.out).mono ?_); rintro e w29 ⟨v175, rfl, ho0, hb⟩; refine ⟨_, rfl, ?_⟩; have n0_ := Aside0.mk (Kd.R_lower ho0 (below_size (by repeat (first | (with_reducible first | exact HB.out | apply below_alloc | apply pw_below_drewN | apply below_drew1) | exact HB.out)))); have n1_ := Aside0.mk (below_step (by repeat (first | (with_reducible first | exact HB.out | apply below_alloc | apply pw_below_drewN | apply below_drew1) | exact HB.out)) hb); clear HB; have HO176 := n0_; have HB := n1_; clear n0_ n1_; (try clear hb); (try clear hb2); (try clear hk); (try clear hi); (try clear ho0)) | ((with_reducible refine gate_callee (f := 55) rfl ?_); refine goesL_ (some 112) rfl rfl Try.func55 (by kernel_rfl) rfl #[.string a0, .int .i64 a1] rfl (by (try simp only [List.map_toArray, List.map_cons, List.map_nil]); first | done | rfl | (simp only [List.length_drop, List.length_take]; rfl)) ?_; (with_reducible refine (horologeref01_ReadList.calls kj19 a0 a1 t177 t178 t179 _ A25.out).mono ?_); rintro e w30 ⟨v180, rfl, ho0, hb⟩; refine ⟨_, rfl, ?_⟩; have n0_ := Aside0.mk (Kd.R_elder' (by (with_reducible repeat (first | apply Kd.R_alloc | apply Kd.R_drewN | apply Kd.R_drew)); exact HO176.out) (Kd.R_base ho0) hb); have n1_ := Aside0.mk (Kd.R_lower (Kd.R_new' ho0 (Kd.R_lt (by (with_reducible repeat (first | apply Kd.R_alloc | apply Kd.R_drewN | apply Kd.R_drew)); exact HO176.out))) (below_size (by repeat (first | (with_reducible first | exact HB.out | apply below_alloc | apply pw_below_drewN | apply below_drew1) | exact HB.out)))); have n2_ := Aside0.mk (below_step (by repeat (first | (with_reducible first | exact HB.out | apply below_alloc | apply pw_below_drewN | apply below_drew1) | exact HB.out)) hb); clear HO176; clear HB; have HO176 := n0_; have HO181 := n1_; have HB := n2_; clear n0_ n1_ n2_; (try clear hb); (try clear hb2); (try clear hk); (try clear hi); (try clear ho0); obtain ⟨Ao31, co31, eo31⟩ := Kd.R_slice HO176.out; subst eo31; obtain ⟨Ao32, co32, eo32⟩ := Kd.R_slice HO181.out; subst eo32) | ((with_reducible refine gate_callee (f := 56) rfl ?_); refine goesL_ (some 118) rfl rfl Try.func56 (by kernel_rfl) rfl #[.slice Ao31 t172.length co31, .slice Ao32 t177.length co32] rfl (by (try simp only [List.map_toArray, List.map_cons, List.map_nil]); first | done | rfl | (simp only [List.length_drop, List.length_take]; rfl)) ?_; (with_reducible refine (horologeref01_Ints.calls kj19 _ _ t172 _ _ t177 true _ ?side1 ?side2 ?side3 ?side4 A26.out).mono ?_); (case side1 => repeat (first | exact (Kd.R_reads' HO176.out).2.2 | (with_reducible refine Kd.C_alloc ?_ _) | (with_reducible refine Kd.C_drewN ?_ _) | (with_reducible refine Kd.C_drew ?_))); (case side2 => exact (Kd.R_reads' HO176.out).2.1); (case side3 => repeat (first | exact (Kd.R_reads' HO181.out).2.2 | (with_reducible refine Kd.C_alloc ?_ _) | (with_reducible refine Kd.C_drewN ?_ _) | (with_reducible refine Kd.C_drew ?_))); (case side4 => exact (Kd.R_reads' HO181.out).2.1); rintro e w' ⟨rfl, ⟨nd, rfl⟩⟩; refine ⟨_, rfl, ?_⟩))
                        go_ret
                        exact ⟨by first | rfl | (simp [errW_none, errW_some] <;> rfl) | (simp [*, errW_none, errW_some] <;> rfl), by repeat (first | (with_reducible first | exact HB.out | apply below_alloc | apply pw_below_drewN | apply below_drew1) | exact HB.out)⟩
                      · rw [if_neg c28] at H
                        have c28b0 : (t173 == t178) = false := beq_eq_false_iff_ne.mpr c28
                        have c28b1 : (t173 != t178) = true := bne_iff_ne.mpr c28
                        obtain rfl := Option.some.inj H
                        go_wp2_with (first | ((with_reducible refine gate_callee (f := 54) rfl ?_); refine goesL_ (some 105) rfl rfl Try.func54 (by kernel_rfl) rfl #[.string a0, .int .i64 a1] rfl (by (try simp only [List.map_toArray, List.map_cons, List.map_nil]); first | done | rfl | (simp only [List.length_drop, List.length_take]; rfl)) ?_; (with_reducible refine (pack_ReadList.calls kj19 a0 a1 t172 t173 t174 _ A24.out).mono ?_); rintro e w33 ⟨v175, rfl, ho0, hb⟩; refine ⟨_, rfl, ?_⟩; have n0_ := Aside0.mk (Kd.R_lower ho0 (below_size (by repeat (first | (with_reducible first | exact HB.out | apply below_alloc | apply pw_below_drewN | apply below_drew1) | exact HB.out)))); have n1_ := Aside0.mk (below_step (by repeat (first | (with_reducible first | exact HB.out | apply below_alloc | apply pw_below_drewN | apply below_drew1) | exact HB.out)) hb); clear HB; have HO176 := n0_; have HB := n1_; clear n0_ n1_; (try clear hb); (try clear hb2); (try clear hk); (try clear hi); (try clear ho0)) | ((with_reducible refine gate_callee (f := 55) rfl ?_); refine goesL_ (some 112) rfl rfl Try.func55 (by kernel_rfl) rfl #[.string a0, .int .i64 a1] rfl (by (try simp only [List.map_toArray, List.map_cons, List.map_nil]); first | done | rfl | (simp only [List.length_drop, List.length_take]; rfl)) ?_; (with_reducible refine (horologeref01_ReadList.calls kj19 a0 a1 t177 t178 t179 _ A25.out).mono ?_); rintro e w34 ⟨v180, rfl, ho0, hb⟩; refine ⟨_, rfl, ?_⟩; have n0_ := Aside0.mk (Kd.R_elder' (by (with_reducible repeat (first | apply Kd.R_alloc | apply Kd.R_drewN | apply Kd.R_drew)); exact HO176.out) (Kd.R_base ho0) hb); have n1_ := Aside0.mk (Kd.R_lower (Kd.R_new' ho0 (Kd.R_lt (by (with_reducible repeat (first | apply Kd.R_alloc | apply Kd.R_drewN | apply Kd.R_drew)); exact HO176.out))) (below_size (by repeat (first | (with_reducible first | exact HB.out | apply below_alloc | apply pw_below_drewN | apply below_drew1) | exact HB.out)))); have n2_ := Aside0.mk (below_step (by repeat (first | (with_reducible first | exact HB.out | apply below_alloc | apply pw_below_drewN | apply below_drew1) | exact HB.out)) hb); clear HO176; clear HB; have HO176 := n0_; have HO181 := n1_; have HB := n2_; clear n0_ n1_ n2_; (try clear hb); (try clear hb2); (try clear hk); (try clear hi); (try clear ho0); obtain ⟨Ao35, co35, eo35⟩ := Kd.R_slice HO176.out; subst eo35; obtain ⟨Ao36, co36, eo36⟩ := Kd.R_slice HO181.out; subst eo36) | ((with_reducible refine gate_callee (f := 56) rfl ?_); refine goesL_ (some 118) rfl rfl Try.func56 (by kernel_rfl) rfl #[.slice Ao35 t172.length co35, .slice Ao36 t177.length co36] rfl (by (try simp only [List.map_toArray, List.map_cons, List.map_nil]); first | done | rfl | (simp only [List.length_drop, List.length_take]; rfl)) ?_; (with_reducible refine (horologeref01_Ints.calls kj19 _ _ t172 _ _ t177 true _ ?side1 ?side2 ?side3 ?side4 A26.out).mono ?_); (case side1 => repeat (first | exact (Kd.R_reads' HO176.out).2.2 | (with_reducible refine Kd.C_alloc ?_ _) | (with_reducible refine Kd.C_drewN ?_ _) | (with_reducible refine Kd.C_drew ?_))); (case side2 => exact (Kd.R_reads' HO176.out).2.1); (case side3 => repeat (first | exact (Kd.R_reads' HO181.out).2.2 | (with_reducible refine Kd.C_alloc ?_ _) | (with_reducible refine Kd.C_drewN ?_ _) | (with_reducible refine Kd.C_drew ?_))); (case side4 => exact (Kd.R_reads' HO181.out).2.1); rintro e w' ⟨rfl, ⟨nd, rfl⟩⟩; refine ⟨_, rfl, ?_⟩))
                        go_ret
                        exact ⟨by first | rfl | (simp [errW_none, errW_some] <;> rfl) | (simp [*, errW_none, errW_some] <;> rfl), by repeat (first | (with_reducible first | exact HB.out | apply below_alloc | apply pw_below_drewN | apply below_drew1) | exact HB.out)⟩
                    · replace c27 := Bool.eq_false_iff.mpr c27
                      subst c27
                      have H1 : (some false) = some r := by rw [if_neg (show ¬ (false = true) by decide)] at H; exact H
                      clear H
                      have H := H1
                      clear H1
                      obtain rfl := Option.some.inj H
                      go_wp2_with (first | ((with_reducible refine gate_callee (f := 54) rfl ?_); refine goesL_ (some 105) rfl rfl Try.func54 (by kernel_rfl) rfl #[.string a0, .int .i64 a1] rfl (by (try simp only [List.map_toArray, List.map_cons, List.map_nil]); first | done | rfl | (simp only [List.length_drop, List.length_take]; rfl)) ?_; (with_reducible refine (pack_ReadList.calls kj19 a0 a1 t172 t173 t174 _ A24.out).mono ?_); rintro e w37 ⟨v175, rfl, ho0, hb⟩; refine ⟨_, rfl, ?_⟩; have n0_ := Aside0.mk (Kd.R_lower ho0 (below_size (by repeat (first | (with_reducible first | exact HB.out | apply below_alloc | apply pw_below_drewN | apply below_drew1) | exact HB.out)))); have n1_ := Aside0.mk (below_step (by repeat (first | (with_reducible first | exact HB.out | apply below_alloc | apply pw_below_drewN | apply below_drew1) | exact HB.out)) hb); clear HB; have HO176 := n0_; have HB := n1_; clear n0_ n1_; (try clear hb); (try clear hb2); (try clear hk); (try clear hi); (try clear ho0)) | ((with_reducible refine gate_callee (f := 55) rfl ?_); refine goesL_ (some 112) rfl rfl Try.func55 (by kernel_rfl) rfl #[.string a0, .int .i64 a1] rfl (by (try simp only [List.map_toArray, List.map_cons, List.map_nil]); first | done | rfl | (simp only [List.length_drop, List.length_take]; rfl)) ?_; (with_reducible refine (horologeref01_ReadList.calls kj19 a0 a1 t177 t178 t179 _ A25.out).mono ?_); rintro e w38 ⟨v180, rfl, ho0, hb⟩; refine ⟨_, rfl, ?_⟩; have n0_ := Aside0.mk (Kd.R_elder' (by (with_reducible repeat (first | apply Kd.R_alloc | apply Kd.R_drewN | apply Kd.R_drew)); exact HO176.out) (Kd.R_base ho0) hb); have n1_ := Aside0.mk (Kd.R_lower (Kd.R_new' ho0 (Kd.R_lt (by (with_reducible repeat (first | apply Kd.R_alloc | apply Kd.R_drewN | apply Kd.R_drew)); exact HO176.out))) (below_size (by repeat (first | (with_reducible first | exact HB.out | apply below_alloc | apply pw_below_drewN | apply below_drew1) | exact HB.out)))); have n2_ := Aside0.mk (below_step (by repeat (first | (with_reducible first | exact HB.out | apply below_alloc | apply pw_below_drewN | apply below_drew1) | exact HB.out)) hb); clear HO176; clear HB; have HO176 := n0_; have HO181 := n1_; have HB := n2_; clear n0_ n1_ n2_; (try clear hb); (try clear hb2); (try clear hk); (try clear hi); (try clear ho0); obtain ⟨Ao39, co39, eo39⟩ := Kd.R_slice HO176.out; subst eo39; obtain ⟨Ao40, co40, eo40⟩ := Kd.R_slice HO181.out; subst eo40) | ((with_reducible refine gate_callee (f := 56) rfl ?_); refine goesL_ (some 118) rfl rfl Try.func56 (by kernel_rfl) rfl #[.slice Ao39 t172.length co39, .slice Ao40 t177.length co40] rfl (by (try simp only [List.map_toArray, List.map_cons, List.map_nil]); first | done | rfl | (simp only [List.length_drop, List.length_take]; rfl)) ?_; (with_reducible refine (horologeref01_Ints.calls kj19 _ _ t172 _ _ t177 false _ ?side1 ?side2 ?side3 ?side4 A26.out).mono ?_); (case side1 => repeat (first | exact (Kd.R_reads' HO176.out).2.2 | (with_reducible refine Kd.C_alloc ?_ _) | (with_reducible refine Kd.C_drewN ?_ _) | (with_reducible refine Kd.C_drew ?_))); (case side2 => exact (Kd.R_reads' HO176.out).2.1); (case side3 => repeat (first | exact (Kd.R_reads' HO181.out).2.2 | (with_reducible refine Kd.C_alloc ?_ _) | (with_reducible refine Kd.C_drewN ?_ _) | (with_reducible refine Kd.C_drew ?_))); (case side4 => exact (Kd.R_reads' HO181.out).2.1); rintro e w' ⟨rfl, ⟨nd, rfl⟩⟩; refine ⟨_, rfl, ?_⟩))
                      go_ret
                      exact ⟨by first | rfl | (simp [errW_none, errW_some] <;> rfl) | (simp [*, errW_none, errW_some] <;> rfl), by repeat (first | (with_reducible first | exact HB.out | apply below_alloc | apply pw_below_drewN | apply below_drew1) | exact HB.out)⟩

/-- THE ONE PURE STATEMENT of horologelaw01_PackReads: yours. -/
def horologelaw01_PackReads.Pure : Prop := ∀ (a0 : ByteArray) (a1 : Int), a0.size ≤ 140737488351232 → (Lit.int .i64 a1).wf = true → ∃ k, horologelaw01_PackReads.f k a0 a1 = some true
theorem horologelaw01_PackReads.walk (P : horologelaw01_PackReads.Pure) (a0 : ByteArray) (a1 : Int) (w : World) (w0 : a0.size ≤ 140737488351232) (w1 : (Lit.int .i64 a1).wf = true) :
    Calls Try.prog 11 #[.string a0, .int .i64 a1] w fun e w' => e = .returned (.bool true) ∧ Below w.heap.size w w' := by
  obtain ⟨k, h⟩ := P a0 a1 w0 w1
  refine (horologelaw01_PackReads.calls k a0 a1 true w h).mono ?_
  rintro e w' ⟨rfl, hd⟩
  exact ⟨rfl, hd⟩

end Go.Proofs.Ytlbjcdfognofgaa.PPackReads
