/- A state: what it is read as, what it is laid as; the reference comes to the same. -/
import Derived.Test.YtlbjcdfognofgaaRecN
import Derived.Test.YtlbjcdfognofgaaPRecStatesx2
import Derived.Deep.DrawnRows
import Derived.Deep.RegionHeld3
namespace Go.Proofs.Ytlbjcdfognofgaa.StateW
open Go.RowKit Go.Proofs.Ytlbjcdfognofgaa.PRecStates Go.Proofs.YtlbjcdfognofgaaW.PrintWords Go.Proofs.YtlbjcdfognofgaaW.PrintLast Go.Proofs.YtlbjcdfognofgaaW.PrintMore
attribute [local go_sem] max2_int min2_int max_two min_two max_three min_three max_four min_four   -- for this text's walks alone
set_option linter.unusedVariables false
set_option linter.unusedSimpArgs false

/-! ### horologeref20_State: function 47 -/
def horologeref20_State.l0 : Nat → ByteArray → Int → List Int → Int → Int → Option (ByteArray)
  | 0, _, _, _, _, _ => none
  | k + 1, x3, x4, x194000, x194001, x194002 => if x4 < (x194000.length : Int) then (if 0 ≤ x4 then ((horologeref01_I.f k (rd x194000 x4)).bind fun t198 => (if x3.size + t198.size ≤ 9223372036854775807 then (horologeref20_State.l0 k (x3 ++ t198) (wrap64 (x4 + 1)) x194000 x194001 x194002) else (none))) else (none)) else ((horologeref01_I.f k x194001).bind fun t199 => (if x3.size + t199.size ≤ 9223372036854775807 then ((horologeref01_I.f k x194002).bind fun t200 => (if (x3 ++ t199).size + t200.size ≤ 9223372036854775807 then (some ((x3 ++ t199) ++ t200)) else (none))) else (none)))
def horologeref20_State.f (k : Nat) (l0_0 : List Int) (a0_1 : Int) (a0_2 : Int) : Option (ByteArray) := horologeref20_State.l0 k (strOfNums (([((l0_0.length : Int)) % 256] : List Int))) 0 l0_0 a0_1 a0_2
theorem horologeref20_State.mono_l : ∀ k, (∀ y0 y1 y2 y3 y4, LeO (horologeref20_State.l0 k y0 y1 y2 y3 y4) (horologeref20_State.l0 (k + 1) y0 y1 y2 y3 y4))
  | 0 => fun _ _ _ _ _ r h => by simp [horologeref20_State.l0] at h
  | k + 1 => by
    have ih0 := horologeref20_State.mono_l k
    · intro y0 y1 y2 y3 y4
      unfold horologeref20_State.l0
      repeat' first
      | (with_reducible exact ih0 _ _ _ _ _)
      | (with_reducible exact horologeref01_I.mono _ _)
      | (with_reducible exact LeO.refl _)
      | (with_reducible exact LeO.none _)
      | (with_reducible refine LeO.ite ?_ ?_)
      | (with_reducible refine LeO.bind ?_ (fun _ => ?_))
      | exact ih0 _ _ _ _ _
      | exact horologeref01_I.mono _ _
      | exact LeO.none _
      | refine LeO.ite ?_ ?_
      | refine LeO.bind ?_ (fun _ => ?_)
theorem horologeref20_State.mono : ∀ a0 a1 a2 k, LeO (horologeref20_State.f k a0 a1 a2) (horologeref20_State.f (k + 1) a0 a1 a2) := by
  intro a0 a1 a2 k
  have ih0 := horologeref20_State.mono_l k
  unfold horologeref20_State.f
  repeat' first
      | (with_reducible exact ih0 _ _ _ _ _)
      | (with_reducible exact horologeref01_I.mono _ _)
      | (with_reducible exact LeO.refl _)
      | (with_reducible exact LeO.none _)
      | (with_reducible refine LeO.ite ?_ ?_)
      | (with_reducible refine LeO.bind ?_ (fun _ => ?_))
      | exact ih0 _ _ _ _ _
      | exact horologeref01_I.mono _ _
      | exact LeO.none _
      | refine LeO.ite ?_ ?_
      | refine LeO.bind ?_ (fun _ => ?_)
def horologeref20_State.T6 : Bool × List (List Nat × List Nat) := (true, [([], []), ([], []), ([1], [1]), ([2], [2]), ([0, 3], [0, 3]), ([], []), ([5], [5]), ([6, 3], [6]), ([4, 7], [4, 7]), ([8, 7, 0, 1, 2, 3, 4, 5, 6, 7, 8], [8])])
def horologeref20_State.B6 : List Nat := [0, 0, 2, 6, 15, 0, 32, 110, 255, 511]
theorem horologeref20_State.tab6 : rtab .any (opsOf Try.f47 6) = horologeref20_State.T6 := by kernel_rfl
theorem horologeref20_State.bits6 : waitsOk horologeref20_State.T6.2 horologeref20_State.B6 = true := by kernel_rfl
set_option maxHeartbeats 8000000 in
set_option maxRecDepth 100000 in
theorem horologeref20_State.calls (k : Nat) (A0_0 : Option Addr) (c0_0 : Nat) (l0_0 : List Int) (a0_1 : Int) (a0_2 : Int) (r : ByteArray) (w : World) (hr0_0 : Kd.C (Kd.int .i64) w A0_0 l0_0.length l0_0) (hc0_0 : l0_0.length ≤ c0_0) (h : horologeref20_State.f k l0_0 a0_1 a0_2 = some r) :
    Calls Try.prog 47 #[.agg #[.slice A0_0 l0_0.length c0_0, .int .i64 a0_1, .int .i64 a0_2]] w fun e w' => e = .returned (.string r) ∧ Below w.heap.size w w' := by
  have hu48 := Try.underlying48
  have HR0_0 := Aside0.mk hr0_0
  have HC0_0 := Aside0.mk hc0_0
  clear hr0_0 hc0_0
  have HB := Aside0.mk (Below.refl w.heap.size w)
  have H : (horologeref20_State.l0 k (strOfNums (([((l0_0.length : Int)) % 256] : List Int))) 0 l0_0 a0_1 a0_2) = some r := h
  clear h
  obtain ⟨y194, hy194⟩ : ∃ y_ : List Int, y_ = (([((l0_0.length : Int)) % 256] : List Int)) := ⟨_, rfl⟩
  replace H : (horologeref20_State.l0 k (strOfNums y194) 0 l0_0 a0_1 a0_2) = some r := by first | (rw [hy194]; with_reducible exact H) | (have H2_ := (Option.bind_some _ _).symm.trans H; rw [hy194]; with_reducible exact H2_) | (have H2_ := (Option.bind_some _ _).symm.trans H; with_reducible exact H2_) | with_reducible exact H | (rw [hy194]; exact H) | exact H
  have Ny194 := Aside0.mk hy194
  clear hy194
  have H' := Aside0.mk H
  clear H
  go_enter Try.func47, Try.ntmps47
  go_wp2_with (first | ((with_reducible refine gate_dst (N := 1) rfl ?_); refine box_event ?hg (N := 1) ?hd (cs := #[.slice A0_0 l0_0.length c0_0, .int .i64 a0_1, .int .i64 a0_2]) (t := 48) ?hr ?_; (case hd => rfl); (case hg => rfl); (case hr => first | (go_simp; done) | (go_simp; rfl)); intro gb193 hg w2 hbox hb; have n0_ := Aside0.mk (below_step (by repeat (first | (with_reducible first | exact HB.out | apply below_alloc | apply pw_below_drewN | apply below_drew1) | exact HB.out)) hb); have n1_ := Aside0.mk (hbox); have n2_ := Aside0.mk ((by rw [hg]; exact (below_size (by repeat (first | (with_reducible first | exact HB.out | apply below_alloc | apply pw_below_drewN | apply below_drew1) | exact HB.out))) : w.heap.size ≤ gb193)); have n3_ := Aside0.mk ((by rw [hg]; exact (below_size (by repeat (first | (with_reducible first | exact HB.out | apply below_alloc | apply pw_below_drewN | apply below_drew1) | exact HB.out))) : w.heap.size ≤ gb193)); clear HB; have HB := n0_; have BK193 := n1_; have GW193 := n2_; have GE193 := n3_; clear n0_ n1_ n2_ n3_; clear hb hbox hg; have hcz3_0 : w2.cell? ⟨gb193, 0, none⟩ = some (.slice A0_0 l0_0.length c0_0) := (blk_cell BK193.out 0).trans rfl; have hcz3_1 : w2.cell? ⟨gb193, 1, none⟩ = some (.int .i64 a0_1) := (blk_cell BK193.out 1).trans rfl; have hcz3_2 : w2.cell? ⟨gb193, 2, none⟩ = some (.int .i64 a0_2) := (blk_cell BK193.out 2).trans rfl; have hfz3_0 := blk_frozen BK193.out 0; have hfz3_1 := blk_frozen BK193.out 1; have hfz3_2 := blk_frozen BK193.out 2) | ((with_reducible refine gate_dst (N := 9) rfl ?_); refine Kd.R_lit (Kd.int .u8) _ 5 ?hg (N := 9) ?hd (xs := ([((l0_0.length : Int)) % 256] : List Int)) (inner := [.int .u8 (((l0_0.length : Int)) % 256)]) (ok := fun _ => True) (okp := fun _ => True) ?hr ?hp (fun _ hk => hk) trivial (Below.refl _ _) (Nat.le_refl _) (by simp) ?_; (case hd => rfl); (case hg => rfl); (case hr => first | (go_simp; done) | (go_simp; rfl)); (case hp => exact (Reps.one (show Kd.M (Kd.int .u8) _ _ _ (((l0_0.length : Int)) % 256) [.int .u8 (((l0_0.length : Int)) % 256)] from rfl) (Reps.none _ _))); intro v195 w4 ho5 hb hg_ hnew_; clear hg_ hnew_; (first | rw [← Ny194.out] at ho5 | (simp only [Int.reduceToNat] at ho5; rw [← Ny194.out] at ho5)); have n0_ := Aside0.mk (Kd.R_lower ho5 (below_size (by repeat (first | (with_reducible first | exact HB.out | apply below_alloc | apply pw_below_drewN | apply below_drew1 | refine below_set ?_ GE193.out) | exact HB.out)))); have n1_ := Aside0.mk (blk_below (g := gb193) (o := .cells #[.slice A0_0 l0_0.length c0_0, .int .i64 a0_1, .int .i64 a0_2] 48 (0, 0)) (by (with_reducible repeat (first | refine blk_drewN ?_ _ | refine blk_drew ?_ | refine blk_alloc ?_ _)); exact BK193.out) hb); have n2_ := Aside0.mk (below_step (by repeat (first | (with_reducible first | exact HB.out | apply below_alloc | apply pw_below_drewN | apply below_drew1 | refine below_set ?_ GE193.out) | exact HB.out)) hb); clear BK193; clear HB; have HO196 := n0_; have BK193 := n1_; have HB := n2_; clear n0_ n1_ n2_; clear hb ho5; have hcv6 := own_string (P := Try.prog) Try.underlying101 Try.underlying5 Try.underlying9 (Kd.own_of_R HO196.out)))
  go_loopg [3, 4] k (fun kq v3 v4 w' => ∃ (x3_1 : ByteArray) (x4_1 : Int), v3 = .string x3_1 ∧ v4 = .int .i64 x4_1 ∧ Aside0 (horologeref20_State.l0 kq x3_1 x4_1 l0_0 a0_1 a0_2 = some r) ∧ Aside0 (kq ≤ k) ∧ Aside0 (w'.heap[gb193]? = some (.cells #[(.slice A0_0 l0_0.length c0_0), .int .i64 a0_1, .int .i64 a0_2] 48 (0, 0))) ∧ Aside0 (Below w.heap.size w w'))
  case atStart => exact ⟨(strOfNums y194), (0), (by first | rfl | (simp; done) | (simp [*]; done)), (by first | rfl | (simp; done) | (simp [*]; done)), H', ⟨Nat.le_refl _⟩, ⟨by (with_reducible repeat (first | refine blk_drewN ?_ _ | refine blk_drew ?_ | refine blk_alloc ?_ _)); exact BK193.out⟩, ⟨by repeat (first | (with_reducible first | exact HB.out | apply below_alloc | apply pw_below_drewN | apply below_drew1 | refine below_set ?_ GE193.out) | exact HB.out)⟩⟩
  case round =>
    clear H'
    try clear p2
    try clear c4
    try clear hcv6
    try clear hcz3_0
    try clear hcz3_1
    try clear hcz3_2
    try clear hfz3_0
    try clear hfz3_1
    try clear hfz3_2
    obtain ⟨x3_1, x4_1, rfl, rfl, HA, HK1, BK193, HB⟩ := hrel
    cases gk with
    | zero => exact absurd HA.out (by simp [horologeref20_State.l0])
    | succ k1 =>
      have H := HA.out
      clear HA
      simp only [horologeref20_State.l0] at H
      by_cases c7 : x4_1 < (l0_0.length : Int)
      · rw [if_pos c7] at H
        have c7b0 : decide (x4_1 < (l0_0.length : Int)) = true := decide_eq_true c7
        clear c7
        by_cases c8 : 0 ≤ x4_1
        · rw [if_pos c8] at H
          have c8b0 : decide (0 ≤ x4_1) = true := decide_eq_true c8
          clear c8
          replace H := Option.bind_eq_some_iff.mp H
          obtain ⟨t198, A90, H⟩ := H
          replace H : (if x3_1.size + t198.size ≤ 9223372036854775807 then (horologeref20_State.l0 k1 (x3_1 ++ t198) (wrap64 (x4_1 + 1)) l0_0 a0_1 a0_2) else (none)) = some r := H
          have A9 := Aside0.mk A90
          clear A90
          by_cases c10 : x3_1.size + t198.size ≤ 9223372036854775807
          · rw [if_pos c10] at H
            have c10b0 := eq_true c10
            have c10b1 : decide (x3_1.size + t198.size ≤ 9223372036854775807) = true := decide_eq_true c10
            try have c10b2 : (9223372036854775807 < x3_1.size + t198.size) = False := eq_false (Nat.not_lt.2 c10)
            have H' := Aside0.mk H
            clear H
            have hcz11_0 : wr.cell? ⟨gb193, 0, none⟩ = some (.slice A0_0 l0_0.length c0_0) := (blk_cell BK193.out 0).trans rfl
            have hcz11_1 : wr.cell? ⟨gb193, 1, none⟩ = some (.int .i64 a0_1) := (blk_cell BK193.out 1).trans rfl
            have hcz11_2 : wr.cell? ⟨gb193, 2, none⟩ = some (.int .i64 a0_2) := (blk_cell BK193.out 2).trans rfl
            have hfz11_0 := blk_frozen BK193.out 0
            have hfz11_1 := blk_frozen BK193.out 1
            have hfz11_2 := blk_frozen BK193.out 2
            have p197 : 0 ≤ (x4_1 : Int) := of_decide_eq_true (by first | (with_reducible assumption) | assumption)
            have q197 : x4_1 < (l0_0.length : Int) := of_decide_eq_true (by first | (with_reducible assumption) | assumption)
            obtain ⟨ad197, e197, hx197_0⟩ := Kd.at_int HR0_0.out x4_1 p197 q197
            cases e197
            replace hx197_0 := (HB.out.cell (World.block_lt_of_cell? w _ hx197_0)).trans hx197_0
            replace p197 := eq_true p197
            replace q197 := eq_true q197
            go_wp2_with (first | ((with_reducible refine gate_callee (f := 26) rfl ?_); refine goesL_ (some 24) rfl rfl Try.func26 (by kernel_rfl) rfl #[.int .i64 (rd l0_0 x4_1)] rfl (by (try simp only [List.map_toArray, List.map_cons, List.map_nil]); first | done | rfl | (simp only [List.length_drop, List.length_take]; rfl)) ?_; (with_reducible refine (horologeref01_I.calls k1 (rd l0_0 x4_1) t198 _ A9.out).mono ?_); rintro e w12 ⟨rfl, hb⟩; refine ⟨_, rfl, ?_⟩; have n0_ := Aside0.mk (blk_below (g := gb193) (o := .cells #[.slice (some ad197) l0_0.length c0_0, .int .i64 a0_1, .int .i64 a0_2] 48 (0, 0)) (by (with_reducible repeat (first | refine blk_drewN ?_ _ | refine blk_drew ?_ | refine blk_alloc ?_ _)); exact BK193.out) hb); have n1_ := Aside0.mk (below_step (by repeat (first | (with_reducible first | exact HB.out | apply below_alloc | apply pw_below_drewN | apply below_drew1 | refine below_set ?_ GE193.out) | exact HB.out)) hb); clear BK193; clear HB; have BK193 := n0_; have HB := n1_; clear n0_ n1_; (try clear hb); (try clear hb2); (try clear hk); (try clear hi)))
            go_roundg k1
            case measure => have := HK1.out; omega
            case rel => exact ⟨(x3_1 ++ t198), (wrap64 (x4_1 + 1)), (by first | rfl | (simp; done) | (simp [*]; done)), (by first | rfl | (simp; done) | (simp [*]; done)), H', ⟨by have := HK1.out; omega⟩, ⟨by (with_reducible repeat (first | refine blk_drewN ?_ _ | refine blk_drew ?_ | refine blk_alloc ?_ _)); exact BK193.out⟩, ⟨by repeat (first | (with_reducible first | exact HB.out | apply below_alloc | apply pw_below_drewN | apply below_drew1 | refine below_set ?_ GE193.out) | exact HB.out)⟩⟩
          · rw [if_neg c10] at H
            exact absurd H (by simp)
        · rw [if_neg c8] at H
          exact absurd H (by simp)
      · rw [if_neg c7] at H
        have c7b0 : decide (x4_1 < (l0_0.length : Int)) = false := decide_eq_false c7
        clear c7
        replace H := Option.bind_eq_some_iff.mp H
        obtain ⟨t199, A130, H⟩ := H
        replace H : (if x3_1.size + t199.size ≤ 9223372036854775807 then ((horologeref01_I.f k1 a0_2).bind fun t200 => (if (x3_1 ++ t199).size + t200.size ≤ 9223372036854775807 then (some ((x3_1 ++ t199) ++ t200)) else (none))) else (none)) = some r := H
        have A13 := Aside0.mk A130
        clear A130
        by_cases c14 : x3_1.size + t199.size ≤ 9223372036854775807
        · rw [if_pos c14] at H
          have c14b0 := eq_true c14
          have c14b1 : decide (x3_1.size + t199.size ≤ 9223372036854775807) = true := decide_eq_true c14
          try have c14b2 : (9223372036854775807 < x3_1.size + t199.size) = False := eq_false (Nat.not_lt.2 c14)
          replace H := Option.bind_eq_some_iff.mp H
          obtain ⟨t200, A150, H⟩ := H
          replace H : (if (x3_1 ++ t199).size + t200.size ≤ 9223372036854775807 then (some ((x3_1 ++ t199) ++ t200)) else (none)) = some r := H
          have A15 := Aside0.mk A150
          clear A150
          by_cases c16 : (x3_1 ++ t199).size + t200.size ≤ 9223372036854775807
          · rw [if_pos c16] at H
            have c16b0 := eq_true c16
            have c16b1 : decide ((x3_1 ++ t199).size + t200.size ≤ 9223372036854775807) = true := decide_eq_true c16
            try have c16b2 : (9223372036854775807 < (x3_1 ++ t199).size + t200.size) = False := eq_false (Nat.not_lt.2 c16)
            have c16b3 : (9223372036854775807 < x3_1.size + t199.size + t200.size) = False := by rw [ByteArray.size_append] at c16; exact eq_false (by omega)
            obtain rfl := Option.some.inj H
            have hcz17_0 : wr.cell? ⟨gb193, 0, none⟩ = some (.slice A0_0 l0_0.length c0_0) := (blk_cell BK193.out 0).trans rfl
            have hcz17_1 : wr.cell? ⟨gb193, 1, none⟩ = some (.int .i64 a0_1) := (blk_cell BK193.out 1).trans rfl
            have hcz17_2 : wr.cell? ⟨gb193, 2, none⟩ = some (.int .i64 a0_2) := (blk_cell BK193.out 2).trans rfl
            have hfz17_0 := blk_frozen BK193.out 0
            have hfz17_1 := blk_frozen BK193.out 1
            have hfz17_2 := blk_frozen BK193.out 2
            try go_wp2
            have n0_ := Aside0.mk (blk_drew BK193.out)
            have n1_ := Aside0.mk (below_drew1 HB.out)
            clear BK193
            clear HB
            have BK193 := n0_
            have HB := n1_
            clear n0_ n1_
            refine start_ (n := 10) (S := fun w' => w'.cell? ⟨gb193, 0, none⟩ = some (.slice A0_0 l0_0.length c0_0) ∧ w'.cell? ⟨gb193, 1, none⟩ = some (.int .i64 a0_1) ∧ w'.cell? ⟨gb193, 2, none⟩ = some (.int .i64 a0_2)) (ds := []) #[false, false, false, false, false, false, false, false, false, false] (by kernel_rfl) rfl rfl ⟨(blk_cell BK193.out 0).trans rfl, (blk_cell BK193.out 1).trans rfl, (blk_cell BK193.out 2).trans rfl⟩ (fun hHeld => ?_); refine with_tabW horologeref20_State.tab6 horologeref20_State.bits6 (fun HT_ HW_ => ?_)
            generalize wr.drew = w18 at BK193 HB hHeld ⊢
            refine pure_ (i := 0) (N := some 26) (v := ?_) (a' := ?_) #[true, false, false, false, false, false, false, false, false, false] rfl rfl (any_of HT_.out (by kernel_rfl)) (fun _ _ _ h => h) (Or.inl ⟨by rfl, ?_⟩) ?_ ?_
            rotate_left
            · intro w'
              go_simp
              with_reducible rfl
            rotate_left
            · simp only [Act.put, List.setIfInBounds_toArray, List.set_cons_zero, List.set_cons_succ, i64_w, i32_w]
              rfl
            refine pure_ (i := 1) (N := some 27) (v := ?_) (a' := ?_) #[true, true, false, false, false, false, false, false, false, false] rfl rfl (any_of HT_.out (by kernel_rfl)) (fun _ _ _ h => h) (Or.inl ⟨by rfl, ?_⟩) ?_ ?_
            rotate_left
            · intro w'
              go_simp
              with_reducible rfl
            rotate_left
            · simp only [Act.put, List.setIfInBounds_toArray, List.set_cons_zero, List.set_cons_succ, i64_w, i32_w]
              rfl
            refine pure_ (i := 5) (N := some 31) (v := ?_) (a' := ?_) #[true, true, false, false, false, true, false, false, false, false] rfl rfl (any_of HT_.out (by kernel_rfl)) (fun _ _ _ h => h) (Or.inl ⟨by rfl, ?_⟩) ?_ ?_
            rotate_left
            · intro w'
              go_simp
              with_reducible rfl
            rotate_left
            · simp only [Act.put, List.setIfInBounds_toArray, List.set_cons_zero, List.set_cons_succ, i64_w, i32_w]
              rfl
            refine take_ (i := 2) (N := some 28) (v := ?_) (a' := ?_) #[true, true, true, false, false, true, false, false, false, false] rfl rfl (take_ofW HT_.out HW_.out (by kernel_rfl)) (fun _ _ _ h => h) (Or.inl ⟨by rfl, ?_⟩) hHeld ?_ ?_
            rotate_left
            · rintro w' ⟨s0, s1, s2⟩
              go_simp
              with_reducible rfl
            rotate_left
            · simp only [Act.put, List.setIfInBounds_toArray, List.set_cons_zero, List.set_cons_succ, i64_w, i32_w]
              rfl
            refine take_ (i := 6) (N := some 32) (v := ?_) (a' := ?_) #[true, true, true, false, false, true, true, false, false, false] rfl rfl (take_ofW HT_.out HW_.out (by kernel_rfl)) (fun _ _ _ h => h) (Or.inl ⟨by rfl, ?_⟩) hHeld ?_ ?_
            rotate_left
            · rintro w' ⟨s0, s1, s2⟩
              go_simp
              with_reducible rfl
            rotate_left
            · simp only [Act.put, List.setIfInBounds_toArray, List.set_cons_zero, List.set_cons_succ, i64_w, i32_w]
              rfl
            refine one_ (i := 3) (N := some 29) #[true, true, true, true, false, true, true, false, false, false] rfl rfl (one_of HT_.out (by kernel_rfl)) (by decide) (fun K hK => ?_)
            refine goes_ Try.func26 (by kernel_rfl) rfl #[.int .i64 a0_1] (by rfl) rfl rfl (by (try simp only [List.map_toArray, List.map_cons, List.map_nil]); first | done | rfl | (simp only [List.length_drop, List.length_take]; rfl)) ?_
            with_reducible refine (horologeref01_I.calls k1 a0_1 t199 _ A13.out).mono ?_
            rintro e w19 ⟨rfl, hb⟩
            refine ⟨_, rfl, ?_⟩
            have n0_ := Aside0.mk (blk_below (g := gb193) (o := .cells #[.slice A0_0 l0_0.length c0_0, .int .i64 a0_1, .int .i64 a0_2] 48 (0, 0)) (by (with_reducible repeat (first | refine blk_drewN ?_ _ | refine blk_drew ?_ | refine blk_alloc ?_ _)); exact BK193.out) hb)
            have n1_ := Aside0.mk (below_step (by repeat (first | (with_reducible first | exact HB.out | apply below_alloc | apply pw_below_drewN | apply below_drew1 | refine below_set ?_ GE193.out) | exact HB.out)) hb)
            clear BK193
            clear HB
            have BK193 := n0_
            have HB := n1_
            clear n0_ n1_
            (try clear hb)
            (try clear hb2)
            (try clear hk)
            (try clear hi)
            refine hK.out _ _ ⟨(blk_cell BK193.out 0).trans rfl, (blk_cell BK193.out 1).trans rfl, (blk_cell BK193.out 2).trans rfl⟩ (fun hHeld => ?_)
            clear hK K
            refine norm_ (a' := ?_) ?_ ?_
            rotate_left
            · show Act.put _ (some 29) _ = _
              simp only [Act.put, List.setIfInBounds_toArray, List.set_cons_zero, List.set_cons_succ, i64_w, i32_w]
              rfl
            refine pure_ (i := 4) (N := some 30) (v := ?_) (a' := ?_) #[true, true, true, true, true, true, true, false, false, false] rfl rfl (any_of HT_.out (by kernel_rfl)) (fun _ _ _ h => h) (Or.inl ⟨by rfl, ?_⟩) ?_ ?_
            rotate_left
            · intro w'
              go_simp
              with_reducible rfl
            rotate_left
            · simp only [Act.put, List.setIfInBounds_toArray, List.set_cons_zero, List.set_cons_succ, i64_w, i32_w]
              rfl
            refine one_ (i := 7) (N := some 33) #[true, true, true, true, true, true, true, true, false, false] rfl rfl (one_of HT_.out (by kernel_rfl)) (by decide) (fun K hK => ?_)
            refine goes_ Try.func26 (by kernel_rfl) rfl #[.int .i64 a0_2] (by rfl) rfl rfl (by (try simp only [List.map_toArray, List.map_cons, List.map_nil]); first | done | rfl | (simp only [List.length_drop, List.length_take]; rfl)) ?_
            with_reducible refine (horologeref01_I.calls k1 a0_2 t200 _ A15.out).mono ?_
            rintro e w20 ⟨rfl, hb⟩
            refine ⟨_, rfl, ?_⟩
            have n0_ := Aside0.mk (blk_below (g := gb193) (o := .cells #[.slice A0_0 l0_0.length c0_0, .int .i64 a0_1, .int .i64 a0_2] 48 (0, 0)) (by (with_reducible repeat (first | refine blk_drewN ?_ _ | refine blk_drew ?_ | refine blk_alloc ?_ _)); exact BK193.out) hb)
            have n1_ := Aside0.mk (below_step (by repeat (first | (with_reducible first | exact HB.out | apply below_alloc | apply pw_below_drewN | apply below_drew1 | refine below_set ?_ GE193.out) | exact HB.out)) hb)
            clear BK193
            clear HB
            have BK193 := n0_
            have HB := n1_
            clear n0_ n1_
            (try clear hb)
            (try clear hb2)
            (try clear hk)
            (try clear hi)
            refine hK.out _ _ ⟨(blk_cell BK193.out 0).trans rfl, (blk_cell BK193.out 1).trans rfl, (blk_cell BK193.out 2).trans rfl⟩ (fun hHeld => ?_)
            clear hK K
            refine norm_ (a' := ?_) ?_ ?_
            rotate_left
            · show Act.put _ (some 33) _ = _
              simp only [Act.put, List.setIfInBounds_toArray, List.set_cons_zero, List.set_cons_succ, i64_w, i32_w]
              rfl
            refine pure_ (i := 8) (N := some 34) (v := ?_) (a' := ?_) #[true, true, true, true, true, true, true, true, true, false] rfl rfl (any_of HT_.out (by kernel_rfl)) (fun _ _ _ h => h) (Or.inl ⟨by rfl, ?_⟩) ?_ ?_
            rotate_left
            · intro w'
              go_simp
              with_reducible rfl
            rotate_left
            · simp only [Act.put, List.setIfInBounds_toArray, List.set_cons_zero, List.set_cons_succ, i64_w, i32_w]
              rfl
            refine pure_ (i := 9) (N := some 2) (v := ?_) (a' := ?_) #[true, true, true, true, true, true, true, true, true, true] rfl rfl (any_of HT_.out (by kernel_rfl)) (fun _ _ _ h => h) (Or.inl ⟨by rfl, ?_⟩) ?_ ?_
            rotate_left
            · intro w'
              go_simp
              with_reducible rfl
            rotate_left
            · simp only [Act.put, List.setIfInBounds_toArray, List.set_cons_zero, List.set_cons_succ, i64_w, i32_w]
              rfl
            refine done_ (done_of HT_.out (by kernel_rfl)) ?_
            try go_wp2
            go_ret
            exact ⟨by first | rfl | (simp [errW_none, errW_some] <;> rfl) | (simp [*, errW_none, errW_some] <;> rfl), by repeat (first | (with_reducible first | exact HB.out | apply below_alloc | apply pw_below_drewN | apply below_drew1 | refine below_set ?_ GE193.out) | exact HB.out)⟩
          · rw [if_neg c16] at H
            exact absurd H (by simp)
        · rw [if_neg c14] at H
          exact absurd H (by simp)


end Go.Proofs.Ytlbjcdfognofgaa.StateW

namespace Go.Proofs.Ytlbjcdfognofgaa.RecP
open Go.RowKit Go.Proofs.YtlbjcdfognofgaaW.PrintWords Go.Proofs.YtlbjcdfognofgaaW.PrintLast Go.Proofs.YtlbjcdfognofgaaW.PrintMore Go.Proofs.Ytlbjcdfognofgaa.Be Go.Proofs.Ytlbjcdfognofgaa.Fl Go.Proofs.Ytlbjcdfognofgaa.StampA Go.Proofs.Ytlbjcdfognofgaa.StampB Go.Proofs.Ytlbjcdfognofgaa.StampC Go.Proofs.Ytlbjcdfognofgaa.StampD Go.Proofs.Ytlbjcdfognofgaa.StampK Go.Proofs.Ytlbjcdfognofgaa.SRec Go.Proofs.Ytlbjcdfognofgaa.StampQ Go.Proofs.Ytlbjcdfognofgaa.StampR Go.Proofs.Ytlbjcdfognofgaa.Wk Go.Proofs.Ytlbjcdfognofgaa.RecA Go.Proofs.Ytlbjcdfognofgaa.RecB Go.Proofs.Ytlbjcdfognofgaa.RecC Go.Proofs.Ytlbjcdfognofgaa.RecD Go.Proofs.Ytlbjcdfognofgaa.RecE Go.Proofs.Ytlbjcdfognofgaa.RecF Go.Proofs.Ytlbjcdfognofgaa.PRecStates Go.Proofs.Ytlbjcdfognofgaa.RecM Go.Proofs.Ytlbjcdfognofgaa.RecN Go.Proofs.Ytlbjcdfognofgaa.StateW
attribute [local go_sem ↓] Go.wp_at_zero Go.wp_at_succ
attribute [local go_sem] run_store_float
set_option linter.unusedVariables false

theorem tmR_ok {s : ByteArray} {a : Int} (b : Bool) (h : a + 8 ≤ s.size) : tmR s a b = (tmV (nm s a 8), a + 8, b) := by rw [tmR, if_neg (by omega)]
theorem byR_ok {s : ByteArray} {a : Int} (b : Bool) (h : a < s.size) : byR s a b = (bt s a, a + 1, b) := by rw [byR, if_neg (by omega)]
theorem inR_ok {s : ByteArray} {a : Int} (b : Bool) (h : a + 8 ≤ s.size) : inR s a b = (nm s a 8 - 9223372036854775808, a + 8, b) := by rw [inR, if_neg (by omega)]
theorem tmR_no {s : ByteArray} {a : Int} (b : Bool) (h : (s.size : Int) < a + 8) : tmR s a b = (0, a, true) := by rw [tmR, if_pos (by omega)]
theorem byR_no {s : ByteArray} {a : Int} (b : Bool) (h : (s.size : Int) ≤ a) : byR s a b = (0, a, true) := by rw [byR, if_pos h]
theorem inR_no {s : ByteArray} {a : Int} (b : Bool) (h : (s.size : Int) < a + 8) : inR s a b = (0, a, true) := by rw [inR, if_pos (by omega)]
theorem byR_true (s : ByteArray) (a : Int) : (byR s a true).2.2 = true := by unfold byR; split <;> rfl
theorem inR_true (s : ByteArray) (a : Int) : (inR s a true).2.2 = true := by unfold inR; split <;> rfl
theorem tmR_true (s : ByteArray) (a : Int) : (tmR s a true).2.2 = true := by unfold tmR; split <;> rfl
theorem byR_of {s : ByteArray} {a : Int} {b : Bool} (h : b = true) : (byR s a b).2.2 = true := by subst h; exact byR_true s a
theorem inR_of {s : ByteArray} {a : Int} {b : Bool} (h : b = true) : (inR s a b).2.2 = true := by subst h; exact inR_true s a
theorem tmR_of {s : ByteArray} {a : Int} {b : Bool} (h : b = true) : (tmR s a b).2.2 = true := by subst h; exact tmR_true s a


theorem enR_short {s : ByteArray} {a : Int} {b ok : Bool} (h : b = true) : enR s a b ok = 5 := if_pos h
theorem enR_long {s : ByteArray} {a : Int} {ok : Bool} (h : a < s.size) : enR s a false ok = 6 := by rw [enR, if_neg (by decide), if_pos h]
theorem enR_end {s : ByteArray} {a : Int} {ok : Bool} (h : (s.size : Int) ≤ a) : enR s a false ok = if ok = true then 0 else 6 := by rw [enR, if_neg (by decide), if_neg (by omega)]



theorem wds_ok {s : ByteArray} {a : Int} (b : Bool) : ∀ (k : Nat), a + 8 * (k : Int) ≤ s.size → wds s a b k = (nums8 s a k, a + 8 * (k : Int), b)
  | 0, _ => by rw [wds]; simp [nums8]
  | k + 1, h => by
    rw [wds_step (wds_ok b k (by omega)), inR_ok b (by omega), nums8_succ]
    refine Prod.ext rfl (Prod.ext ?_ rfl)
    show a + 8 * (k : Int) + 8 = a + 8 * ((k + 1 : Nat) : Int)
    omega
theorem wds_no {s : ByteArray} {a : Int} (b : Bool) : ∀ (k : Nat), a ≤ s.size → (s.size : Int) < a + 8 * (k : Int) → (wds s a b k).2.2 = true
  | 0, h0, h => by omega
  | k + 1, h0, h => by
    rw [wds]
    by_cases h1 : (s.size : Int) < a + 8 * (k : Int)
    · exact inR_of (wds_no b k h0 h1)
    · show (inR s (wds s a b k).2.1 (wds s a b k).2.2).2.2 = true
      rw [wds_ok b k (by omega), inR_no _ (by show (s.size : Int) < a + 8 * (k : Int) + 8; omega)]

/-- Whether a state may be. -/
def okS (n : Nat) (S D : Int) : Bool := decide (n ≤ 8) && (cntB S && cntB D)
/-- What a text is, read as a state. -/
def gst (s : ByteArray) : List Int × Int × Int × Int :=
  if (s.size : Int) = 0 then ([], 0, 0, 5) else if (s.size : Int) < 17 + 8 * bt s 0 then ([], 0, 0, 5) else if 17 + 8 * bt s 0 < (s.size : Int) then ([], 0, 0, 6)
  else if okS (bt s 0).toNat (nm s (1 + 8 * bt s 0) 8 - 9223372036854775808) (nm s (9 + 8 * bt s 0) 8 - 9223372036854775808) = true then (nums8 s 1 (bt s 0).toNat, nm s (1 + 8 * bt s 0) 8 - 9223372036854775808, nm s (9 + 8 * bt s 0) 8 - 9223372036854775808, 0) else ([], 0, 0, 6)

/-- The same, as the program goes about it. -/
def gstC (s : ByteArray) : List Int × Int × Int × Int :=
  let a := byR s 0 false
  let W := wds s a.2.1 a.2.2 a.1.toNat
  let S := inR s W.2.1 W.2.2
  let D := inR s S.2.1 S.2.2
  let E := enR s D.2.1 D.2.2 (okS a.1.toNat S.1 D.1)
  if E = 0 then (W.1, S.1, D.1, 0) else ([], 0, 0, E)

theorem gst_eq (s : ByteArray) : gstC s = gst s := by
  have hb := bt_range s 0
  unfold gstC gst
  simp only
  by_cases h0 : (s.size : Int) = 0
  · rw [if_pos h0, byR_no false (by omega)]
    simp only [Int.toNat_zero, wds]
    rw [enR_short (inR_of (inR_true _ _)), if_neg (by decide)]
  rw [if_neg h0, byR_ok false (by omega)]
  simp only
  have hn : ((bt s 0).toNat : Int) = bt s 0 := by omega
  by_cases h1 : (s.size : Int) < 17 + 8 * bt s 0
  · rw [if_pos h1]
    have hf : (inR s (inR s (wds s (0 + 1) false (bt s 0).toNat).2.1 (wds s (0 + 1) false (bt s 0).toNat).2.2).2.1 (inR s (wds s (0 + 1) false (bt s 0).toNat).2.1 (wds s (0 + 1) false (bt s 0).toNat).2.2).2.2).2.2 = true := by
      by_cases h2 : (s.size : Int) < 0 + 1 + 8 * ((bt s 0).toNat : Int)
      · exact inR_of (inR_of (wds_no false _ (by omega) h2))
      rw [wds_ok false _ (by omega)]
      dsimp only
      by_cases h3 : (s.size : Int) < 0 + 1 + 8 * ((bt s 0).toNat : Int) + 8
      · rw [inR_no false h3]; exact inR_true _ _
      rw [inR_ok false (by omega)]
      dsimp only
      rw [inR_no false (by omega)]
    rw [enR_short hf, if_neg (by decide)]
  rw [if_neg h1, wds_ok false _ (by omega)]
  dsimp only
  rw [inR_ok false (by omega)]
  dsimp only
  rw [inR_ok false (by omega)]
  dsimp only
  rw [hn, show (0 : Int) + 1 + 8 * bt s 0 = 1 + 8 * bt s 0 by omega, show 1 + 8 * bt s 0 + 8 = 9 + 8 * bt s 0 by omega, show 9 + 8 * bt s 0 + 8 = 17 + 8 * bt s 0 by omega, show (0 : Int) + 1 = 1 from rfl]
  by_cases h2 : 17 + 8 * bt s 0 < (s.size : Int)
  · rw [if_pos h2, enR_long h2, if_neg (by decide)]
  rw [if_neg h2, enR_end (by omega)]
  by_cases hr : okS (bt s 0).toNat (nm s (1 + 8 * bt s 0) 8 - 9223372036854775808) (nm s (9 + 8 * bt s 0) 8 - 9223372036854775808) = true
  · rw [if_pos hr, if_pos rfl, if_pos hr]
  · rw [if_neg hr, if_neg (by decide), if_neg hr]

theorem enR_bad (s : ByteArray) (a : Int) (b : Bool) : 1 ≤ enR s a b false := by
  unfold enR; repeat' split
  all_goals first | omega | contradiction
theorem enR_or (s : ByteArray) (a : Int) (b ok : Bool) : enR s a b ok = 0 ∨ 1 ≤ enR s a b ok := by
  unfold enR; repeat' split
  all_goals omega

theorem get43_calls (s : ByteArray) (hz : s.size ≤ 140737488351232) (w : World) : Calls Try.prog 43 #[.string s] w (GP w (gst s).1 (gst s).2.1 (gst s).2.2.1 (gst s).2.2.2) := by
  rw [← gst_eq]
  have hr := byR_range s 0 false
  have hi := byR_in (s := s) (a := 0) (b := false) (by omega)
  obtain ⟨n, hn⟩ : ∃ n : Nat, (byR s 0 false).1 = n := ⟨_, (Int.toNat_of_nonneg hr.1).symm⟩
  have hwi : ∀ k, 0 ≤ (wds s (byR s 0 false).2.1 (byR s 0 false).2.2 k).2.1 ∧ (wds s (byR s 0 false).2.1 (byR s 0 false).2.2 k).2.1 ≤ s.size := by
    intro k
    induction k with
    | zero => exact hi
    | succ k ih => rw [wds]; exact inR_in ih
  have hw := hwi n
  unfold gstC
  simp only [hn, Int.toNat_natCast]
  obtain ⟨W, hW⟩ : ∃ W, wds s (byR s 0 false).2.1 (byR s 0 false).2.2 n = W := ⟨_, rfl⟩
  rw [hW] at hw
  simp only [hW]
  have hs := inR_in (b := W.2.2) hw
  refine get43_walk s n (byR s 0 false).2.1 W.2.1 (inR s W.2.1 W.2.2).2.1 (inR s (inR s W.2.1 W.2.2).2.1 (inR s W.2.1 W.2.2).2.2).2.1 (inR s W.2.1 W.2.2).1 (inR s (inR s W.2.1 W.2.2).2.1 (inR s W.2.1 W.2.2).2.2).1
    (enR s (inR s (inR s W.2.1 W.2.2).2.1 (inR s W.2.1 W.2.2).2.2).2.1 (inR s (inR s W.2.1 W.2.2).2.1 (inR s W.2.1 W.2.2).2.2).2.2 (okS n (inR s W.2.1 W.2.2).1 (inR s (inR s W.2.1 W.2.2).2.1 (inR s W.2.1 W.2.2).2.2).1))
    (byR s 0 false).2.2 W.2.2 (inR s W.2.1 W.2.2).2.2 (inR s (inR s W.2.1 W.2.2).2.1 (inR s W.2.1 W.2.2).2.2).2.2 (okS n (inR s W.2.1 W.2.2).1 (inR s (inR s W.2.1 W.2.2).2.1 (inR s W.2.1 W.2.2).2.2).1) W.1 w hz (by omega) hi hW
    ⟨fun g w0 w hI hB => hn ▸ byte_calls g s 0 false w0 w hz (by omega) hI hB⟩ ⟨fun g w0 w hI hB => int_calls g s _ _ w0 w hz hw hI hB⟩ ⟨fun g w0 w hI hB => int_calls g s _ _ w0 w hz hs hI hB⟩ ⟨fun g w0 w hI hB => end_calls g s _ _ _ w0 w hI hB⟩ _ _ _ _ ?_
  generalize (inR s W.2.1 W.2.2).1 = S
  generalize (inR s (inR s W.2.1 W.2.2).2.1 (inR s W.2.1 W.2.2).2.2) = d
  clear hs hw hwi hi hr hW hn
  by_cases h8 : 8 < n
  · have ho : okS n S d.1 = false := by rw [okS, decide_eq_false (by omega)]; rfl
    rw [ho]
    have he := enR_bad s d.2.1 d.2.2
    rw [if_neg (by omega)]
    exact Or.inl ⟨h8, rfl, he, rfl, rfl, rfl, rfl⟩
  · by_cases hS : cntB S = true
    · have ho : okS n S d.1 = cntB d.1 := by rw [okS, decide_eq_true (by omega), hS]; rfl
      rw [ho]
      rcases enR_or s d.2.1 d.2.2 (cntB d.1) with he | he
      · rw [if_pos he]
        exact Or.inr (Or.inr (Or.inr ⟨by omega, hS, rfl, by omega, rfl, rfl, rfl, rfl⟩))
      · rw [if_neg (by omega)]
        exact Or.inr (Or.inr (Or.inl ⟨by omega, hS, rfl, he, rfl, rfl, rfl, rfl⟩))
    · have hS' : cntB S = false := by simpa using hS
      have ho : okS n S d.1 = false := by rw [okS, hS']; simp
      rw [ho]
      have he := enR_bad s d.2.1 d.2.2
      rw [if_neg (by omega)]
      exact Or.inr (Or.inl ⟨by omega, hS', rfl, he, rfl, rfl, rfl, rfl⟩)

/-! ### The reference -/
theorem refU_eq : ∀ (k : Nat) (n : Int) (l : List Int) (i : Int), PRecStates.horologeref01_U.l0 k n l i = PStampKeys.horologeref01_U.l0 k n l i
  | 0, _, _, _ => rfl
  | k + 1, n, l, i => by
    simp only [PRecStates.horologeref01_U.l0, PStampKeys.horologeref01_U.l0, refU_eq k]
theorem refI_is' (n : Int) (h : -9223372036854775808 ≤ n ∧ n < 9223372036854775808) (k : Nat) : PRecStates.horologeref01_I.f (k + 9) n = some (strOfNums (be8 (n + 9223372036854775808))) := by
  rw [← SRec.refI_is n h k, PRecStates.horologeref01_I.f, PStampKeys.horologeref01_I.f, PRecStates.horologeref01_U.f, PStampKeys.horologeref01_U.f, refU_eq]
theorem refRU_eq : ∀ (k : Nat) (s : ByteArray) (a n i : Int), PRecStates.horologeref01_ReadU.l0 k s a n i = PStampKeys.horologeref01_ReadU.l0 k s a n i
  | 0, _, _, _, _ => by rw [PRecStates.horologeref01_ReadU.l0, PStampKeys.horologeref01_ReadU.l0]
  | k + 1, s, a, n, i => by
    rw [PRecStates.horologeref01_ReadU.l0, PStampKeys.horologeref01_ReadU.l0, refRU_eq k]
theorem refRJ_eq (k : Nat) (s : ByteArray) (a : Int) (b : Bool) : PRecStates.horologeref01_ReadU.j0 k s a b = PStampKeys.horologeref01_ReadU.j0 k s a b := by
  cases k with
  | zero => rw [PRecStates.horologeref01_ReadU.j0, PStampKeys.horologeref01_ReadU.j0]
  | succ k => rw [PRecStates.horologeref01_ReadU.j0, PStampKeys.horologeref01_ReadU.j0, refRU_eq]
theorem refReadI_is' (s : ByteArray) (a : Int) (hs : s.size ≤ 140737488351232) (k : Nat) : PRecStates.horologeref01_ReadI.f (k + 10) s a = some (rdI s a) := by
  rw [← SRec.refReadI_is s a hs k, PRecStates.horologeref01_ReadI.f, PStampKeys.horologeref01_ReadI.f, PRecStates.horologeref01_ReadU.f, PStampKeys.horologeref01_ReadU.f, refRJ_eq, refRJ_eq]
theorem rdI_ok (s : ByteArray) (a : Int) (h0 : 0 ≤ a) (h : a + 8 ≤ s.size) : rdI s a = (nm s a 8 - 9223372036854775808, a + 8, 0) := by rw [rdI, if_neg (by omega), if_neg (by omega)]

theorem right_is (l : List Int) (S D : Int) : horologeref20_RightState.f l S D = some (okS l.length S D) := by
  unfold horologeref20_RightState.f okS cntB
  by_cases h0 : l.length ≤ 8
  · rw [if_pos (by omega), decide_eq_true h0]
    by_cases h1 : 0 ≤ S
    · rw [if_pos h1, decide_eq_true h1]
      by_cases h2 : S ≤ 1099511627776
      · rw [if_pos h2, decide_eq_true h2]
        by_cases h3 : 0 ≤ D
        · rw [if_pos h3, decide_eq_true h3]; simp
        · rw [if_neg h3, decide_eq_false h3]; simp
      · rw [if_neg h2, decide_eq_false h2]; simp
    · rw [if_neg h1, decide_eq_false h1]; simp
  · rw [if_neg (by omega), decide_eq_false h0]; simp

theorem refGet_l0 (s : ByteArray) (hs : s.size ≤ 140737488351232) (n : Nat) (hz : (s.size : Int) = 17 + 8 * (n : Int)) : ∀ (d i k : Nat), i + d = n → d + 10 < k →
    horologeref20_GetState.l0 k s n i (nums8 s 1 i) 0 0 = some (if okS n (nm s (1 + 8 * (n : Int)) 8 - 9223372036854775808) (nm s (9 + 8 * (n : Int)) 8 - 9223372036854775808) = true then (nums8 s 1 n, nm s (1 + 8 * (n : Int)) 8 - 9223372036854775808, nm s (9 + 8 * (n : Int)) 8 - 9223372036854775808, 0) else ([], 0, 0, 6))
  | 0, i, k, h, hk => by
    obtain ⟨k, rfl⟩ : ∃ m, k = (m + 10) + 1 := ⟨k - 11, by omega⟩
    obtain rfl : i = n := by omega
    rw [horologeref20_GetState.l0, if_neg (by omega), wrap64_in (8 * (i : Int)) (by omega) (by omega), wrap64_in (1 + 8 * (i : Int)) (by omega) (by omega), wrap64_in (9 + 8 * (i : Int)) (by omega) (by omega),
      refReadI_is' s _ hs k, refReadI_is' s _ hs k, rdI_ok s _ (by omega) (by omega), rdI_ok s _ (by omega) (by omega)]
    simp only [Option.bind_some]
    rw [right_is, nums8_length]
    simp only [Option.bind_some]
    split <;> rfl
  | d + 1, i, k, h, hk => by
    obtain ⟨k, rfl⟩ : ∃ m, k = (m + 10) + 1 := ⟨k - 11, by omega⟩
    rw [horologeref20_GetState.l0, if_pos (by omega), wrap64_in (8 * (i : Int)) (by omega) (by omega), wrap64_in (1 + 8 * (i : Int)) (by omega) (by omega), wrap64_in ((i : Int) + 1) (by omega) (by omega),
      refReadI_is' s _ hs k, rdI_ok s _ (by omega) (by omega)]
    simp only [Option.bind_some]
    rw [if_pos (by rw [nums8_length]; omega), ← nums8_succ]
    exact refGet_l0 s hs n hz d (i + 1) (k + 10) (by omega) (by omega)

theorem refGet_is (s : ByteArray) (hs : s.size ≤ 140737488351232) : horologeref20_GetState.f 300 s = some (gst s) := by
  have hb := bt_range s 0
  unfold horologeref20_GetState.f gst
  by_cases h0 : (s.size : Int) = 0
  · rw [if_pos h0, if_pos h0]
  rw [if_neg h0, if_neg h0, if_pos (by omega), wrap64_in (bt s 0) (by omega) (by omega), wrap64_in (8 * bt s 0) (by omega) (by omega), wrap64_in (17 + 8 * bt s 0) (by omega) (by omega)]
  unfold horologeref20_cut.f
  by_cases h1 : (s.size : Int) < 17 + 8 * bt s 0
  · rw [if_pos h1, if_pos h1]; rfl
  rw [if_neg h1, if_neg h1]
  by_cases h2 : (s.size : Int) > 17 + 8 * bt s 0
  · rw [if_pos h2, if_pos h2]; rfl
  rw [if_neg h2, if_neg (show ¬ (17 + 8 * bt s 0 < (s.size : Int)) from h2)]
  simp only [Option.bind_some, if_true]
  have hn : ((bt s 0).toNat : Int) = bt s 0 := by omega
  have h := refGet_l0 s hs (bt s 0).toNat (by omega) (bt s 0).toNat 0 300 (by omega) (by omega)
  rw [hn] at h
  rw [← h]
  rfl

theorem ints_l0 (x : List Int) (hx : x.length ≤ 140737488351232) : ∀ (d i k : Nat), i + d = x.length → d < k → horologeref01_Ints.l0 k x x i = some true
  | 0, i, k, h, hk => by
    obtain ⟨k, rfl⟩ : ∃ m, k = m + 1 := ⟨k - 1, by omega⟩
    rw [horologeref01_Ints.l0, if_neg (by omega)]
  | d + 1, i, k, h, hk => by
    obtain ⟨k, rfl⟩ : ∃ m, k = m + 1 := ⟨k - 1, by omega⟩
    rw [horologeref01_Ints.l0, if_pos (by omega), if_pos (by omega), if_pos (by omega), if_pos rfl, wrap64_in _ (by omega) (by omega)]
    exact ints_l0 x hx d (i + 1) k (by omega) (by omega)
theorem same_is (x : List Int) (S D : Int) (hx : x.length ≤ 140737488351232) : horologeref08_Same.f (x.length + 1) x S D x S D = some true := by
  rw [horologeref08_Same.f, horologeref01_Ints.f, if_pos rfl]
  have h := ints_l0 x hx x.length 0 (x.length + 1) (by omega) (by omega)
  rw [show ((0 : Nat) : Int) = 0 from rfl] at h
  rw [h]
  simp

/-- What a state is laid as. -/
def pst (x : List Int) (S D : Int) : ByteArray := strOfNums ([(x.length : Int)] ++ lay8 x) ++ strOfNums (be8 (S + 9223372036854775808)) ++ strOfNums (be8 (D + 9223372036854775808))

theorem cnt_in {S : Int} (h : cntB S = true) : -9223372036854775808 ≤ S ∧ S < 9223372036854775808 := by
  simp only [cntB, Bool.and_eq_true, decide_eq_true_eq] at h; omega

theorem refState_l0 (x : List Int) (S D : Int) (hl : x.length ≤ 8) (hx : ∀ n ∈ x, -9223372036854775808 ≤ n ∧ n < 9223372036854775808) (hS : -9223372036854775808 ≤ S ∧ S < 9223372036854775808) (hD : -9223372036854775808 ≤ D ∧ D < 9223372036854775808) :
    ∀ (d i k : Nat), i + d = x.length → d + 10 < k → horologeref20_State.l0 k (strOfNums ([(x.length : Int)] ++ lay8 (x.take i))) i x S D = some (pst x S D)
  | 0, i, k, h, hk => by
    obtain ⟨k, rfl⟩ : ∃ m, k = (m + 9) + 1 := ⟨k - 10, by omega⟩
    have z : (strOfNums ([(x.length : Int)] ++ lay8 x)).size ≤ 100 := by rw [size_strOfNums]; simp [lay8_length]; omega
    have z8 : ∀ n, (strOfNums (be8 n)).size = 8 := fun n => by rw [size_strOfNums, be8_length]
    rw [horologeref20_State.l0, if_neg (by omega), refI_is' S hS k, refI_is' D hD k, List.take_of_length_le (by omega)]
    simp only [Option.bind_some]
    rw [if_pos (by rw [z8]; omega), if_pos (by rw [ByteArray.size_append, z8, z8]; omega)]
    rfl
  | d + 1, i, k, h, hk => by
    obtain ⟨k, rfl⟩ : ∃ m, k = (m + 9) + 1 := ⟨k - 10, by omega⟩
    have hi : i < x.length := by omega
    have z : (strOfNums ([(x.length : Int)] ++ lay8 (x.take i))).size ≤ 100 := by rw [size_strOfNums]; simp [lay8_length]; omega
    have z8 : ∀ n, (strOfNums (be8 n)).size = 8 := fun n => by rw [size_strOfNums, be8_length]
    have hr : rd x i = x[i] := by rw [rd, Int.toNat_natCast, List.getD_eq_getElem?_getD, List.getElem?_eq_getElem hi]; rfl
    rw [horologeref20_State.l0, if_pos (by omega), if_pos (by omega), hr, refI_is' _ (hx _ (List.getElem_mem hi)) k]
    simp only [Option.bind_some]
    rw [if_pos (by rw [z8]; omega), wrap64_in ((i : Int) + 1) (by omega) (by omega), strOfNums_append, ← refState_l0 x S D hl hx hS hD d (i + 1) (k + 9) (by omega) (by omega),
      List.take_succ_eq_append_getElem hi, lay8_append, lay8_one, List.append_assoc]
    rfl

theorem refState_is (x : List Int) (S D : Int) (hl : x.length ≤ 8) (hx : ∀ n ∈ x, -9223372036854775808 ≤ n ∧ n < 9223372036854775808) (hS : -9223372036854775808 ≤ S ∧ S < 9223372036854775808) (hD : -9223372036854775808 ≤ D ∧ D < 9223372036854775808) :
    horologeref20_State.f 30 x S D = some (pst x S D) := by
  have h := refState_l0 x S D hl hx hS hD x.length 0 30 (by omega) (by omega)
  rw [horologeref20_State.f, ← h, show ((x.length : Int)) % 256 = x.length by omega]
  rfl

/-- What was laid is read as it was. -/
theorem gst_pst (x : List Int) (S D : Int) (h : okS x.length S D = true) (hx : ∀ n ∈ x, -9223372036854775808 ≤ n ∧ n < 9223372036854775808) : gst (pst x S D) = (x, S, D, 0) := by
  have h' := h
  simp only [okS, Bool.and_eq_true, decide_eq_true_eq] at h'
  obtain ⟨h8, hS, hD⟩ := h'
  have rS := cnt_in hS
  have rD := cnt_in hD
  have r1 : ∀ q ∈ ([(x.length : Int)] ++ lay8 x), 0 ≤ q ∧ q ≤ 255 := by
    intro q hq
    rcases List.mem_append.1 hq with h | h
    · simp only [List.mem_singleton] at h; omega
    · exact lay8_range _ q h
  have hb : bn (pst x S D) = [(x.length : Int)] ++ (lay8 x ++ (be8 (S + 9223372036854775808) ++ be8 (D + 9223372036854775808))) := by
    rw [pst, bn_append, bn_append, bn_strOfNums _ r1, bn_strOfNums _ (be8_range _), bn_strOfNums _ (be8_range _)]
    simp only [List.append_assoc]
  have z1 : (strOfNums ([(x.length : Int)] ++ lay8 x)).size = 1 + 8 * x.length := by rw [size_strOfNums, List.length_append, lay8_length]; rfl
  have z8 : ∀ n, (strOfNums (be8 n)).size = 8 := fun n => by rw [size_strOfNums, be8_length]
  have hz : (pst x S D).size = 17 + 8 * x.length := by rw [pst, ByteArray.size_append, ByteArray.size_append, z1, z8, z8]; omega
  have h0 : bt (pst x S D) 0 = x.length := by rw [bt_bn, hb]; rfl
  have e1 : nm (pst x S D) (1 + 8 * (x.length : Int)) 8 - 9223372036854775808 = S := by
    have q := rdI_back (strOfNums ([(x.length : Int)] ++ lay8 x)) (strOfNums (be8 (D + 9223372036854775808))) S rS
    rw [z1, show ((1 + 8 * x.length : Nat) : Int) = 1 + 8 * (x.length : Int) by omega, rdI_ok _ _ (by omega) (by show _ ≤ ((pst x S D).size : Int); omega)] at q
    exact congrArg (·.1) q
  have e2 : nm (pst x S D) (9 + 8 * (x.length : Int)) 8 - 9223372036854775808 = D := by
    have q := rdI_back (strOfNums ([(x.length : Int)] ++ lay8 x) ++ strOfNums (be8 (S + 9223372036854775808))) (⟨#[]⟩) D rD
    have e : strOfNums ([(x.length : Int)] ++ lay8 x) ++ strOfNums (be8 (S + 9223372036854775808)) ++ strOfNums (be8 (D + 9223372036854775808)) ++ (⟨#[]⟩ : ByteArray) = pst x S D := by
      apply ByteArray.ext; simp [pst, ByteArray.data_append]
    rw [e, ByteArray.size_append, z1, z8, show ((1 + 8 * x.length + 8 : Nat) : Int) = 9 + 8 * (x.length : Int) by omega, rdI_ok _ _ (by omega) (by omega)] at q
    exact congrArg (·.1) q
  have e3 : nums8 (pst x S D) 1 x.length = x := nums8_back (pst x S D) 1 x [(x.length : Int)] _ hb rfl hx
  unfold gst
  rw [h0, e1, e2, Int.toNat_natCast, if_neg (by omega), if_neg (by omega), if_neg (by omega), if_pos h, e3]

/-! ### As contracts -/
theorem put42_no (A : Option Addr) (n c : Nat) (S D : Int) (w : World) (h : okS n S D = false) :
    Calls Try.prog 42 #[.agg #[.slice A n c, .int .i64 S, .int .i64 D]] w fun e w' => e = .returned (.tuple #[.string ⟨#[]⟩, .int .i64 2]) ∧ Below w.heap.size w w' := by
  by_cases h8 : 8 < n
  · exact put42_big A n c S D w h8
  by_cases hS : cntB S = true
  · refine put42_d A n c S D w (by omega) hS ?_
    rw [okS, decide_eq_true (by omega), hS] at h
    simpa using h
  · exact put42_s A n c S D w (by omega) (by simpa using hS)

theorem put42_ok (A : Option Addr) (c : Nat) (x : List Int) (S D : Int) (w : World) (h : okS x.length S D = true) (hr : Kd.C (Kd.int .i64) w A x.length x) (hx : ∀ n ∈ x, -9223372036854775808 ≤ n ∧ n < 9223372036854775808) :
    Calls Try.prog 42 #[.agg #[.slice A x.length c, .int .i64 S, .int .i64 D]] w fun e w' => e = .returned (.tuple #[.string (pst x S D), .int .i64 0]) ∧ Below w.heap.size w w' := by
  simp only [okS, Bool.and_eq_true, decide_eq_true_eq] at h
  obtain ⟨h8, hS, hD⟩ := h
  by_cases h0 : x.length = 0
  · obtain rfl : x = [] := List.length_eq_zero_iff.1 h0
    exact put42_none A c S D w hS hD (cnt_in hS) (cnt_in hD)
  · obtain ⟨ad, rfl, _⟩ := Kd.at_int hr 0 (by omega) (by omega)
    have hc : ∀ k, k < x.length → w.cell? (ad.add k) = some (.int .i64 (x.getD k 0)) := by
      intro k hk
      obtain ⟨ad', e, h1⟩ := Kd.at_int hr (k : Int) (by omega) (by omega)
      injection e with e
      subst e
      simpa [rd] using h1
    obtain ⟨b, off, spot⟩ := ad
    have h0' := hc 0 (by omega)
    have hspot : spot = none := by simpa [Addr.add] using World.cell?_spot h0'
    subst hspot
    have hc' : ∀ k, k < x.length → w.cell? ⟨b, off + k, none⟩ = some (.int .i64 (x.getD k 0)) := fun k hk => by
      by_cases h0 : k = 0
      · subst h0; simpa [Addr.add] using hc 0 hk
      · simpa [Addr.add, h0] using hc k hk
    exact put42_some b off c x S D w (World.block_lt_of_cell? w _ (hc' 0 (by omega))) hc' hx h8 hS hD (cnt_in hS) (cnt_in hD)

theorem ref44_calls (s : ByteArray) (hz : s.size ≤ 140737488351232) (w : World) :
    Calls Try.prog 44 #[.string s] w fun e w' => ∃ v0_ : Value, e = .returned (.tuple #[.agg #[v0_, .int .i64 (gst s).2.1, .int .i64 (gst s).2.2.1], .int .i64 (gst s).2.2.2]) ∧ Kd.R (Kd.int .i64) 3 w' w.heap.size (fun _ => True) v0_ (gst s).1 ∧ Below w.heap.size w w' :=
  horologeref20_GetState.calls 300 s _ _ _ _ w (refGet_is s hz)
theorem ref45_calls (A B : Option Addr) (c d : Nat) (x : List Int) (S D : Int) (w : World) (hA : Kd.C (Kd.int .i64) w A x.length x) (hc : x.length ≤ c) (hB : Kd.C (Kd.int .i64) w B x.length x) (hd : x.length ≤ d) (hl : x.length ≤ 140737488351232) :
    Calls Try.prog 45 #[.agg #[.slice A x.length c, .int .i64 S, .int .i64 D], .agg #[.slice B x.length d, .int .i64 S, .int .i64 D]] w fun e w' => e = .returned (.bool true) ∧ Below w.heap.size w w' :=
  horologeref08_Same.calls (x.length + 1) A c x S D B d x S D true w hA hc hB hd (same_is x S D hl)
theorem ref46_calls (A : Option Addr) (c : Nat) (x : List Int) (S D : Int) (w : World) (hA : Kd.C (Kd.int .i64) w A x.length x) (hc : x.length ≤ c) :
    Calls Try.prog 46 #[.agg #[.slice A x.length c, .int .i64 S, .int .i64 D]] w fun e w' => e = .returned (.bool (okS x.length S D)) ∧ Below w.heap.size w w' :=
  horologeref20_RightState.calls A c x S D _ w hA hc (right_is x S D)
theorem ref47_calls (A : Option Addr) (c : Nat) (x : List Int) (S D : Int) (w : World) (h : okS x.length S D = true) (hA : Kd.C (Kd.int .i64) w A x.length x) (hc : x.length ≤ c) (hx : ∀ n ∈ x, -9223372036854775808 ≤ n ∧ n < 9223372036854775808) :
    Calls Try.prog 47 #[.agg #[.slice A x.length c, .int .i64 S, .int .i64 D]] w fun e w' => e = .returned (.string (pst x S D)) ∧ Below w.heap.size w w' := by
  simp only [okS, Bool.and_eq_true, decide_eq_true_eq] at h
  exact horologeref20_State.calls 30 A c x S D _ w hA hc (refState_is x S D h.1 hx (cnt_in h.2.1) (cnt_in h.2.2))

theorem gst_len (s : ByteArray) : (gst s).1.length ≤ 8 := by
  unfold gst
  repeat' split
  all_goals first | exact Nat.zero_le _ | skip
  rename_i h
  simp only [okS, Bool.and_eq_true, decide_eq_true_eq] at h
  rw [nums8_length]
  exact h.1

/-- What GetState gives, as a row that is read. -/
theorem get43_reads (s : ByteArray) (hz : s.size ≤ 140737488351232) (w : World) :
    Calls Try.prog 43 #[.string s] w fun e w' => ∃ (A : Option Addr) (c : Nat), e = .returned (.tuple #[.agg #[.slice A (gst s).1.length c, .int .i64 (gst s).2.1, .int .i64 (gst s).2.2.1], .int .i64 (gst s).2.2.2]) ∧ ((gst s).1.length ≤ c ∧ Kd.C (Kd.int .i64) w' A (gst s).1.length (gst s).1) ∧ Below w.heap.size w w' := by
  refine (get43_calls s hz w).mono ?_
  rintro e w' ⟨v, rfl, ho, hb⟩
  have hR : Kd.R (Kd.int .i64) 3 w' w.heap.size (fun _ => True) v (gst s).1 := Kd.R_of_own (by exact ho) (fun _ _ => trivial)
  obtain ⟨A, c, rfl, hc, hC⟩ := Kd.R_reads hR
  exact ⟨A, c, rfl, ⟨hc, hC⟩, hb⟩
theorem ref44_reads (s : ByteArray) (hz : s.size ≤ 140737488351232) (w : World) :
    Calls Try.prog 44 #[.string s] w fun e w' => ∃ (A : Option Addr) (c : Nat), e = .returned (.tuple #[.agg #[.slice A (gst s).1.length c, .int .i64 (gst s).2.1, .int .i64 (gst s).2.2.1], .int .i64 (gst s).2.2.2]) ∧ ((gst s).1.length ≤ c ∧ Kd.C (Kd.int .i64) w' A (gst s).1.length (gst s).1) ∧ Below w.heap.size w w' := by
  refine (ref44_calls s hz w).mono ?_
  rintro e w' ⟨v, rfl, hR, hb⟩
  obtain ⟨A, c, rfl, hc, hC⟩ := Kd.R_reads hR
  exact ⟨A, c, rfl, ⟨hc, hC⟩, hb⟩

end Go.Proofs.Ytlbjcdfognofgaa.RecP
