/- The walk of StampFirst: First tells the first of the least stamps. -/
import Derived.Test.YtlbjcdfognofgaaOrdersS
import Derived.Deep.DrawnRows
import Derived.Deep.RegionHeld3
namespace Go.Proofs.Ytlbjcdfognofgaa.FirstW
open Go.RowKit Go.Proofs.YtlbjcdfognofgaaW.PrintWords Go.Proofs.YtlbjcdfognofgaaW.PrintLast Go.Proofs.YtlbjcdfognofgaaW.PrintMore Go.Proofs.Ytlbjcdfognofgaa.Be Go.Proofs.Ytlbjcdfognofgaa.Fl Go.Proofs.Ytlbjcdfognofgaa.StampA Go.Proofs.Ytlbjcdfognofgaa.StampB Go.Proofs.Ytlbjcdfognofgaa.StampC Go.Proofs.Ytlbjcdfognofgaa.StampD Go.Proofs.Ytlbjcdfognofgaa.OrdersS
attribute [local go_sem ↓] Go.wp_at_zero Go.wp_at_succ

attribute [local go_sem] run_store_float

/-- Where the first of the least stands, among so many. -/
def frst (c : Nat → Nat → Int) : Nat → Int
  | 0 => -1
  | i + 1 => if frst c i < 0 then i else if c i (frst c i).toNat < 0 then i else frst c i

theorem frst_range (c : Nat → Nat → Int) : ∀ k, (k = 0 ∧ frst c k = -1) ∨ (0 < k ∧ 0 ≤ frst c k ∧ frst c k < k)
  | 0 => .inl ⟨rfl, rfl⟩
  | i + 1 => by
    rcases frst_range c i with ⟨h, e⟩ | ⟨h, e1, e2⟩
    · refine .inr ⟨by omega, ?_⟩
      rw [frst, e, if_pos (by decide)]
      omega
    · refine .inr ⟨by omega, ?_⟩
      rw [frst, if_neg (by omega)]
      split <;> omega

set_option maxRecDepth 100000 in
set_option maxHeartbeats 4000000 in
theorem first_calls (b off n cap : Nat) (T : Nat → Nat) (S N : Nat → Int) (w : World) (hb : b < w.heap.size) (hc : ∀ k, k < n → w.cell? ⟨b, off + k * 3, none⟩ = some (.float .f64 (T k)) ∧ w.cell? ⟨b, off + k * 3 + 1, none⟩ = some (.int .i64 (S k)) ∧ w.cell? ⟨b, off + k * 3 + 2, none⟩ = some (.int .i64 (N k))) (hn : n ≤ 60) :
    Calls Try.prog 66 #[.slice (some ⟨b, off, none⟩) n cap] w fun e w' => e = .returned (.int .i64 (frst (fun i j => cmpS (T i) (T j) (S i) (N i) (S j) (N j)) n)) ∧ Below w.heap.size w w' := by
  have hu2 := Try.underlying42
  have HC := Aside0.mk hc
  clear hc
  generalize hf : (fun i j => cmpS (T i) (T j) (S i) (N i) (S j) (N j)) = c
  have HB := Aside0.mk (Below.refl w.heap.size w)
  go_enter Try.func66, Try.ntmps66
  go_wp2_with fail
  go_loopw [3, 8] (fun o i wr => ∃ k : Nat, k ≤ n ∧ i = .int .i64 k ∧ o = .int .i64 (frst c k) ∧ Aside0 (Below w.heap.size w wr)) (fun _ i _ => n - (intOf i).toNat)
  case atStart => exact ⟨0, Nat.zero_le _, rfl, rfl, HB⟩
  case round =>
    clear HB
    obtain ⟨k, hk, rfl, rfl, HB⟩ := hrel
    have hsz := HB.out.size
    by_cases hlt : k < n
    · have hk0 := HC.out k hlt
      have c0 : wr.cell? ⟨b, off + k * 3, none⟩ = some (.float .f64 (T k)) := (HB.out.cell (by exact hb)).trans hk0.1
      have c1 : wr.cell? ⟨b, off + k * 3 + 1, none⟩ = some (.int .i64 (S k)) := (HB.out.cell (by exact hb)).trans hk0.2.1
      have c2 : wr.cell? ⟨b, off + k * 3 + 2, none⟩ = some (.int .i64 (N k)) := (HB.out.cell (by exact hb)).trans hk0.2.2
      have hfk : frst c (k + 1) = if frst c k < 0 then (k : Int) else if c k (frst c k).toNat < 0 then (k : Int) else frst c k := rfl
      clear hk0
      rcases frst_range c k with ⟨hk0, e⟩ | ⟨hk0, e1, e2⟩
      · rw [e, if_pos (by decide)] at hfk
        rw [e]
        clear e
        subst hk0
        simp only [Nat.zero_mul, Nat.add_zero] at c0 c1 c2
        generalize T 0 = tk at *
        generalize S 0 = sk at *
        generalize N 0 = nk at *
        go_wp2_with fail
        go_quiet (fail)
        go_wp2_with fail
        go_roundw
        case rel => exact ⟨1, by omega, by first | rfl | go_num, by rw [show frst c 1 = ((0 : Nat) : Int) from hfk], ⟨(by repeat (first | (with_reducible first | exact HB.out | apply below_alloc | apply pw_below_drewN | apply below_drew1) | exact HB.out))⟩⟩
        case measure => simp [intOf]; omega
      · obtain ⟨m, em⟩ := Int.eq_ofNat_of_zero_le e1
        rw [em] at e2 hfk ⊢
        rw [if_neg (by omega), show ((m : Int)).toNat = m from rfl] at hfk
        have hm : m < n := by omega
        have hm0 := HC.out m hm
        have d0 : wr.cell? ⟨b, off + m * 3, none⟩ = some (.float .f64 (T m)) := (HB.out.cell (by exact hb)).trans hm0.1
        have d1 : wr.cell? ⟨b, off + m * 3 + 1, none⟩ = some (.int .i64 (S m)) := (HB.out.cell (by exact hb)).trans hm0.2.1
        have d2 : wr.cell? ⟨b, off + m * 3 + 2, none⟩ = some (.int .i64 (N m)) := (HB.out.cell (by exact hb)).trans hm0.2.2
        have ec : c k m = cmpS (T k) (T m) (S k) (N k) (S m) (N m) := by rw [← hf]
        rw [ec] at hfk
        clear hm0 ec em e1
        have CC := Aside0.mk (fun w => compare39_calls (T k) (T m) (S k) (N k) (S m) (N m) w)
        generalize T k = tk at *
        generalize S k = sk at *
        generalize N k = nk at *
        generalize T m = tm at *
        generalize S m = sm at *
        generalize N m = nm at *
        generalize cmpS tk tm sk nk sm nm = z at *
        by_cases hz : z < 0
        all_goals
          go_wp2_with fail
          go_region_held3 (fun w' => w'.cell? ⟨wr.heap.size, 0, none⟩ = some (.float .f64 tk) ∧ w'.cell? ⟨wr.heap.size, 1, none⟩ = some (.int .i64 sk) ∧ w'.cell? ⟨wr.heap.size, 2, none⟩ = some (.int .i64 nk) ∧ w'.cell? ⟨b, off + m * 3, none⟩ = some (.float .f64 tm) ∧ w'.cell? ⟨b, off + m * 3 + 1, none⟩ = some (.int .i64 sm) ∧ w'.cell? ⟨b, off + m * 3 + 2, none⟩ = some (.int .i64 nm) ∧ wr.heap.size < w'.heap.size)
            (refine ⟨?_, ?_, ?_, ?_, ?_, ?_, ?_⟩ <;> first | assumption | (rw [hcC _ _ (by first | assumption | (simp; done) | (simp; omega) | omega)]; first | assumption | (go_simp; done) | (simp; done)) | (have hs := hbC.size; simp at hs ⊢; omega) | (go_keep; done) | (go_simp; done) | (simp; omega))
            (first | (go_at_call 39; (with_reducible refine (CC.out _).mono ?_); rintro e wC ⟨rfl, hbC⟩; have hcC := bcell hbC; have nb := Aside0.mk (below_step (by repeat (first | (with_reducible first | exact HB.out | apply below_alloc | apply pw_below_drewN | apply below_drew1) | exact HB.out)) hbC); clear HB; have HB := nb; clear nb))
          go_wp2_with fail
          go_roundw
          case rel => exact ⟨k + 1, by omega, by go_num, by rw [hfk]; first | rw [if_pos (by omega)] | rw [if_neg (by omega)], HB⟩
          case measure => simp [intOf]; omega
    · have e : k = n := by omega
      subst e
      go_wp2
      go_ret
      exact ⟨rfl, HB.out⟩


theorem frst_least (c : Nat → Nat → Int) (h0 : ∀ i, c i i = 0) (ht : ∀ i j, c j i = -c i j) (hr : ∀ i j k, c i j < 0 → c j k ≤ 0 → c i k < 0) : ∀ k, 0 < k → ∀ j, j < k → 0 ≤ c j (frst c k).toNat ∧ (c j (frst c k).toNat = 0 → (frst c k).toNat ≤ j)
  | 0, h => absurd h (Nat.lt_irrefl 0)
  | k + 1, _ => by
    intro j hj
    rcases frst_range c k with ⟨hk, e⟩ | ⟨hk, e1, e2⟩
    · rw [frst, e, if_pos (by decide), show ((k : Int)).toNat = k from rfl]
      have : j = k := by omega
      subst this
      have := h0 j
      omega
    · have IH := frst_least c h0 ht hr k hk
      rw [frst, if_neg (by omega)]
      by_cases hc : c k (frst c k).toNat < 0
      · rw [if_pos hc, show ((k : Int)).toNat = k from rfl]
        by_cases hjk : j = k
        · subst hjk; have := h0 j; omega
        · have h1 := (IH j (by omega)).1
          have h2 := ht j (frst c k).toNat
          have h3 := hr k (frst c k).toNat j hc (by omega)
          have h4 := ht k j
          omega
      · rw [if_neg hc]
        by_cases hjk : j = k
        · subst hjk; omega
        · exact IH j (by omega)

set_option maxRecDepth 100000 in
set_option maxHeartbeats 2000000 in
theorem first_none (A : Option Addr) (cap : Nat) (w : World) :
    Calls Try.prog 66 #[.slice A 0 cap] w fun e w' => e = .returned (.int .i64 (-1)) ∧ Below w.heap.size w w' := by
  have HB := Aside0.mk (Below.refl w.heap.size w)
  go_enter Try.func66, Try.ntmps66
  go_wp2_with fail
  go_loopw [3, 8] (fun o i wr => i = .int .i64 0 ∧ o = .int .i64 (-1) ∧ Aside0 (Below w.heap.size w wr)) (fun _ i _ => (intOf i).toNat)
  case atStart => exact ⟨rfl, rfl, HB⟩
  case round =>
    clear HB
    obtain ⟨rfl, rfl, HB⟩ := hrel
    go_wp2
    go_ret
    exact ⟨rfl, HB.out⟩

set_option maxRecDepth 100000 in
set_option maxHeartbeats 2000000 in
theorem law_none (A : Option Addr) (cap : Nat) (w : World) :
    Calls Try.prog 13 #[.slice A 0 cap] w fun e w' => e = .returned (.bool true) ∧ Below w.heap.size w w' := by
  have HB := Aside0.mk (Below.refl w.heap.size w)
  go_enter Try.func13, Try.ntmps13
  go_wp2_with (first | (go_at_call 66; (with_reducible refine (first_none _ _ _).mono ?_); rintro e w1 ⟨rfl, hb⟩; have nb := Aside0.mk (below_step (by repeat (first | (with_reducible first | exact HB.out | apply below_alloc | apply pw_below_drewN | apply below_drew1) | exact HB.out)) hb); clear HB hb; have HB := nb; clear nb) | (go_at_call 35; (with_reducible refine (awake_calls _).mono ?_); rintro e w1 ⟨rfl, hb⟩; have nb := Aside0.mk (below_step (by repeat (first | (with_reducible first | exact HB.out | apply below_alloc | apply pw_below_drewN | apply below_drew1) | exact HB.out)) hb); clear HB hb; have HB := nb; clear nb))
  go_ret
  exact ⟨rfl, HB.out⟩

set_option maxRecDepth 100000 in
set_option maxHeartbeats 4000000 in
theorem law_big (b off n cap m : Nat) (T : Nat → Nat) (S N : Nat → Int) (w : World) (hb : b < w.heap.size) (hc : ∀ k, k < 60 → w.cell? ⟨b, off + k * 3, none⟩ = some (.float .f64 (T k)) ∧ w.cell? ⟨b, off + k * 3 + 1, none⟩ = some (.int .i64 (S k)) ∧ w.cell? ⟨b, off + k * 3 + 2, none⟩ = some (.int .i64 (N k))) (hn : 60 < n) (hcap : n ≤ cap)
    (hm : m < 60) (CF : Aside0 (∀ w1, Below w.heap.size w w1 → Calls Try.prog 66 #[.slice (some ⟨b, off, none⟩) 60 cap] w1 fun e w' => e = .returned (.int .i64 m) ∧ Below w1.heap.size w1 w'))
    (hl : ∀ j, j < 60 → 0 ≤ cmpS (T j) (T m) (S j) (N j) (S m) (N m) ∧ (cmpS (T j) (T m) (S j) (N j) (S m) (N m) = 0 → m ≤ j)) :
    Calls Try.prog 13 #[.slice (some ⟨b, off, none⟩) n cap] w fun e w' => e = .returned (.bool true) ∧ Below w.heap.size w w' := by
  have hu2 := Try.underlying42
  have HC := Aside0.mk hc
  have HL := Aside0.mk hl
  clear hc hl
  have HB := Aside0.mk (Below.refl w.heap.size w)
  go_enter Try.func13, Try.ntmps13
  go_wp2_with (first | (go_at_call 66; (with_reducible refine (CF.out _ HB.out).mono ?_); rintro e w1 ⟨rfl, hb⟩; have nb := Aside0.mk (below_step (by repeat (first | (with_reducible first | exact HB.out | apply below_alloc | apply pw_below_drewN | apply below_drew1) | exact HB.out)) hb); clear HB hb; have HB := nb; clear nb) | (go_at_call 35; (with_reducible refine (awake_calls _).mono ?_); rintro e w1 ⟨rfl, hb⟩; have nb := Aside0.mk (below_step (by repeat (first | (with_reducible first | exact HB.out | apply below_alloc | apply pw_below_drewN | apply below_drew1) | exact HB.out)) hb); clear HB hb; have HB := nb; clear nb))
  go_loopw [4, 5] (fun i _ wr => ∃ j : Nat, j ≤ 60 ∧ i = .int .i64 j ∧ Aside0 (Below w.heap.size w wr)) (fun i _ _ => 60 - (intOf i).toNat)
  case atStart => exact ⟨0, Nat.zero_le _, rfl, HB⟩
  case round =>
    clear HB
    obtain ⟨j, hj, rfl, HB⟩ := hrel
    have hsz := HB.out.size
    by_cases hlt : j < 60
    · have hk0 := HC.out j hlt
      have c0 : wr.cell? ⟨b, off + j * 3, none⟩ = some (.float .f64 (T j)) := (HB.out.cell (by exact hb)).trans hk0.1
      have c1 : wr.cell? ⟨b, off + j * 3 + 1, none⟩ = some (.int .i64 (S j)) := (HB.out.cell (by exact hb)).trans hk0.2.1
      have c2 : wr.cell? ⟨b, off + j * 3 + 2, none⟩ = some (.int .i64 (N j)) := (HB.out.cell (by exact hb)).trans hk0.2.2
      have hm0 := HC.out m hm
      have d0 : wr.cell? ⟨b, off + m * 3, none⟩ = some (.float .f64 (T m)) := (HB.out.cell (by exact hb)).trans hm0.1
      have d1 : wr.cell? ⟨b, off + m * 3 + 1, none⟩ = some (.int .i64 (S m)) := (HB.out.cell (by exact hb)).trans hm0.2.1
      have d2 : wr.cell? ⟨b, off + m * 3 + 2, none⟩ = some (.int .i64 (N m)) := (HB.out.cell (by exact hb)).trans hm0.2.2
      have hz := HL.out j hlt
      clear hk0 hm0
      have CC := Aside0.mk (fun w => compare40_calls (T j) (T m) (S j) (N j) (S m) (N m) w)
      have hbr : b < wr.heap.size := by omega
      generalize cmpS (T j) (T m) (S j) (N j) (S m) (N m) = z at *
      generalize T j = tj at *
      generalize S j = sj at *
      generalize N j = nj at *
      generalize T m = tm at *
      generalize S m = sm at *
      generalize N m = nm at *
      obtain ⟨z0, z1⟩ := hz
      rcases Int.lt_or_eq_of_le z0 with zp | ze
      · clear z0 z1
        go_wp2_with fail
        go_region_held3 (fun w' => w'.cell? ⟨b, off + j * 3, none⟩ = some (.float .f64 tj) ∧ w'.cell? ⟨b, off + j * 3 + 1, none⟩ = some (.int .i64 sj) ∧ w'.cell? ⟨b, off + j * 3 + 2, none⟩ = some (.int .i64 nj) ∧ w'.cell? ⟨b, off + m * 3, none⟩ = some (.float .f64 tm) ∧ w'.cell? ⟨b, off + m * 3 + 1, none⟩ = some (.int .i64 sm) ∧ w'.cell? ⟨b, off + m * 3 + 2, none⟩ = some (.int .i64 nm) ∧ b < w'.heap.size)
          (refine ⟨?_, ?_, ?_, ?_, ?_, ?_, ?_⟩ <;> first | assumption | (rw [hcC _ _ (by first | assumption | (simp; done) | (simp; omega) | omega)]; first | assumption | (go_simp; done) | (simp; done)) | (have hs := hbC.size; simp at hs ⊢; omega) | (go_keep; done) | (go_simp; done) | (simp; omega))
          (first | (go_at_call 40; (with_reducible refine (CC.out _).mono ?_); rintro e wC ⟨rfl, hbC⟩; have hcC := bcell hbC; have nb := Aside0.mk (below_step (by repeat (first | (with_reducible first | exact HB.out | apply below_alloc | apply pw_below_drewN | apply below_drew1) | exact HB.out)) hbC); clear HB; have HB := nb; clear nb))
        go_wp2_with fail
        go_roundw
        case rel => exact ⟨j + 1, by omega, by go_num, HB⟩
        case measure => simp [intOf]; omega
      · have z2 : ¬ ((j : Int) < m) := by have := z1 ze.symm; omega
        have z3 : z ≤ 0 := by omega
        clear z1 ze
        go_wp2_with fail
        go_region_held3 (fun w' => w'.cell? ⟨b, off + j * 3, none⟩ = some (.float .f64 tj) ∧ w'.cell? ⟨b, off + j * 3 + 1, none⟩ = some (.int .i64 sj) ∧ w'.cell? ⟨b, off + j * 3 + 2, none⟩ = some (.int .i64 nj) ∧ w'.cell? ⟨b, off + m * 3, none⟩ = some (.float .f64 tm) ∧ w'.cell? ⟨b, off + m * 3 + 1, none⟩ = some (.int .i64 sm) ∧ w'.cell? ⟨b, off + m * 3 + 2, none⟩ = some (.int .i64 nm) ∧ b < w'.heap.size)
          (refine ⟨?_, ?_, ?_, ?_, ?_, ?_, ?_⟩ <;> first | assumption | (rw [hcC _ _ (by first | assumption | (simp; done) | (simp; omega) | omega)]; first | assumption | (go_simp; done) | (simp; done)) | (have hs := hbC.size; simp at hs ⊢; omega) | (go_keep; done) | (go_simp; done) | (simp; omega))
          (first | (go_at_call 40; (with_reducible refine (CC.out _).mono ?_); rintro e wC ⟨rfl, hbC⟩; have hcC := bcell hbC; have nb := Aside0.mk (below_step (by repeat (first | (with_reducible first | exact HB.out | apply below_alloc | apply pw_below_drewN | apply below_drew1) | exact HB.out)) hbC); clear HB; have HB := nb; clear nb))
        go_wp2_with fail
        go_roundw
        case rel => exact ⟨j + 1, by omega, by go_num, HB⟩
        case measure => simp [intOf]; omega
    · have e : j = 60 := by omega
      subst e
      go_wp2_with (go_at_call 35; (with_reducible refine (awake_calls _).mono ?_); rintro e w1 ⟨rfl, hb⟩; have nb := Aside0.mk (below_step (by repeat (first | (with_reducible first | exact HB.out | apply below_alloc | apply pw_below_drewN | apply below_drew1) | exact HB.out)) hb); clear HB hb; have HB := nb; clear nb)
      go_ret
      exact ⟨rfl, HB.out⟩

set_option maxRecDepth 100000 in
set_option maxHeartbeats 4000000 in
theorem law_small (b off n cap m : Nat) (T : Nat → Nat) (S N : Nat → Int) (w : World) (hb : b < w.heap.size) (hc : ∀ k, k < n → w.cell? ⟨b, off + k * 3, none⟩ = some (.float .f64 (T k)) ∧ w.cell? ⟨b, off + k * 3 + 1, none⟩ = some (.int .i64 (S k)) ∧ w.cell? ⟨b, off + k * 3 + 2, none⟩ = some (.int .i64 (N k))) (hn : n ≤ 60) (hp : 0 < n)
    (hm : m < n) (CF : Aside0 (∀ w1, Below w.heap.size w w1 → Calls Try.prog 66 #[.slice (some ⟨b, off, none⟩) n cap] w1 fun e w' => e = .returned (.int .i64 m) ∧ Below w1.heap.size w1 w'))
    (hl : ∀ j, j < n → 0 ≤ cmpS (T j) (T m) (S j) (N j) (S m) (N m) ∧ (cmpS (T j) (T m) (S j) (N j) (S m) (N m) = 0 → m ≤ j)) :
    Calls Try.prog 13 #[.slice (some ⟨b, off, none⟩) n cap] w fun e w' => e = .returned (.bool true) ∧ Below w.heap.size w w' := by
  have hu2 := Try.underlying42
  have HC := Aside0.mk hc
  have HL := Aside0.mk hl
  have hm2 : decide (n ≤ m) = false := decide_eq_false (by omega)
  have HM := Aside0.mk hm
  clear hc hl hm
  have HB := Aside0.mk (Below.refl w.heap.size w)
  go_enter Try.func13, Try.ntmps13
  go_wp2_with (first | (go_at_call 66; (with_reducible refine (CF.out _ HB.out).mono ?_); rintro e w1 ⟨rfl, hb⟩; have nb := Aside0.mk (below_step (by repeat (first | (with_reducible first | exact HB.out | apply below_alloc | apply pw_below_drewN | apply below_drew1) | exact HB.out)) hb); clear HB hb; have HB := nb; clear nb) | (go_at_call 35; (with_reducible refine (awake_calls _).mono ?_); rintro e w1 ⟨rfl, hb⟩; have nb := Aside0.mk (below_step (by repeat (first | (with_reducible first | exact HB.out | apply below_alloc | apply pw_below_drewN | apply below_drew1) | exact HB.out)) hb); clear HB hb; have HB := nb; clear nb))
  go_loopw [4, 5] (fun i _ wr => ∃ j : Nat, j ≤ n ∧ i = .int .i64 j ∧ Aside0 (Below w.heap.size w wr)) (fun i _ _ => n - (intOf i).toNat)
  case atStart => exact ⟨0, Nat.zero_le _, rfl, HB⟩
  case round =>
    clear HB
    obtain ⟨j, hj, rfl, HB⟩ := hrel
    have hsz := HB.out.size
    by_cases hlt : j < n
    · have hk0 := HC.out j hlt
      have c0 : wr.cell? ⟨b, off + j * 3, none⟩ = some (.float .f64 (T j)) := (HB.out.cell (by exact hb)).trans hk0.1
      have c1 : wr.cell? ⟨b, off + j * 3 + 1, none⟩ = some (.int .i64 (S j)) := (HB.out.cell (by exact hb)).trans hk0.2.1
      have c2 : wr.cell? ⟨b, off + j * 3 + 2, none⟩ = some (.int .i64 (N j)) := (HB.out.cell (by exact hb)).trans hk0.2.2
      have hm := HM.out
      have hm0 := HC.out m hm
      have d0 : wr.cell? ⟨b, off + m * 3, none⟩ = some (.float .f64 (T m)) := (HB.out.cell (by exact hb)).trans hm0.1
      have d1 : wr.cell? ⟨b, off + m * 3 + 1, none⟩ = some (.int .i64 (S m)) := (HB.out.cell (by exact hb)).trans hm0.2.1
      have d2 : wr.cell? ⟨b, off + m * 3 + 2, none⟩ = some (.int .i64 (N m)) := (HB.out.cell (by exact hb)).trans hm0.2.2
      have hz := HL.out j hlt
      clear hk0 hm0
      have CC := Aside0.mk (fun w => compare40_calls (T j) (T m) (S j) (N j) (S m) (N m) w)
      have hbr : b < wr.heap.size := by omega
      generalize cmpS (T j) (T m) (S j) (N j) (S m) (N m) = z at *
      generalize T j = tj at *
      generalize S j = sj at *
      generalize N j = nj at *
      generalize T m = tm at *
      generalize S m = sm at *
      generalize N m = nm at *
      obtain ⟨z0, z1⟩ := hz
      rcases Int.lt_or_eq_of_le z0 with zp | ze
      · clear z0 z1
        go_wp2_with fail
        go_region_held3 (fun w' => w'.cell? ⟨b, off + j * 3, none⟩ = some (.float .f64 tj) ∧ w'.cell? ⟨b, off + j * 3 + 1, none⟩ = some (.int .i64 sj) ∧ w'.cell? ⟨b, off + j * 3 + 2, none⟩ = some (.int .i64 nj) ∧ w'.cell? ⟨b, off + m * 3, none⟩ = some (.float .f64 tm) ∧ w'.cell? ⟨b, off + m * 3 + 1, none⟩ = some (.int .i64 sm) ∧ w'.cell? ⟨b, off + m * 3 + 2, none⟩ = some (.int .i64 nm) ∧ b < w'.heap.size)
          (refine ⟨?_, ?_, ?_, ?_, ?_, ?_, ?_⟩ <;> first | assumption | (rw [hcC _ _ (by first | assumption | (simp; done) | (simp; omega) | omega)]; first | assumption | (go_simp; done) | (simp; done)) | (have hs := hbC.size; simp at hs ⊢; omega) | (go_keep; done) | (go_simp; done) | (simp; omega))
          (first | (go_at_call 40; (with_reducible refine (CC.out _).mono ?_); rintro e wC ⟨rfl, hbC⟩; have hcC := bcell hbC; have nb := Aside0.mk (below_step (by repeat (first | (with_reducible first | exact HB.out | apply below_alloc | apply pw_below_drewN | apply below_drew1) | exact HB.out)) hbC); clear HB; have HB := nb; clear nb))
        go_wp2_with fail
        go_roundw
        case rel => exact ⟨j + 1, by omega, by go_num, HB⟩
        case measure => simp [intOf]; omega
      · have z2 : ¬ ((j : Int) < m) := by have := z1 ze.symm; omega
        have z3 : z ≤ 0 := by omega
        clear z1 ze
        go_wp2_with fail
        go_region_held3 (fun w' => w'.cell? ⟨b, off + j * 3, none⟩ = some (.float .f64 tj) ∧ w'.cell? ⟨b, off + j * 3 + 1, none⟩ = some (.int .i64 sj) ∧ w'.cell? ⟨b, off + j * 3 + 2, none⟩ = some (.int .i64 nj) ∧ w'.cell? ⟨b, off + m * 3, none⟩ = some (.float .f64 tm) ∧ w'.cell? ⟨b, off + m * 3 + 1, none⟩ = some (.int .i64 sm) ∧ w'.cell? ⟨b, off + m * 3 + 2, none⟩ = some (.int .i64 nm) ∧ b < w'.heap.size)
          (refine ⟨?_, ?_, ?_, ?_, ?_, ?_, ?_⟩ <;> first | assumption | (rw [hcC _ _ (by first | assumption | (simp; done) | (simp; omega) | omega)]; first | assumption | (go_simp; done) | (simp; done)) | (have hs := hbC.size; simp at hs ⊢; omega) | (go_keep; done) | (go_simp; done) | (simp; omega))
          (first | (go_at_call 40; (with_reducible refine (CC.out _).mono ?_); rintro e wC ⟨rfl, hbC⟩; have hcC := bcell hbC; have nb := Aside0.mk (below_step (by repeat (first | (with_reducible first | exact HB.out | apply below_alloc | apply pw_below_drewN | apply below_drew1) | exact HB.out)) hbC); clear HB; have HB := nb; clear nb))
        go_wp2_with fail
        go_roundw
        case rel => exact ⟨j + 1, by omega, by go_num, HB⟩
        case measure => simp [intOf]; omega
    · have e : j = n := by omega
      subst e
      go_wp2_with (go_at_call 35; (with_reducible refine (awake_calls _).mono ?_); rintro e w1 ⟨rfl, hb⟩; have nb := Aside0.mk (below_step (by repeat (first | (with_reducible first | exact HB.out | apply below_alloc | apply pw_below_drewN | apply below_drew1) | exact HB.out)) hb); clear HB hb; have HB := nb; clear nb)
      go_ret
      exact ⟨rfl, HB.out⟩

/-- A row of stamps. -/
def IsStamps (w : World) (A : Option Addr) (n cap : Nat) (z : (Nat → Nat) × (Nat → Int) × (Nat → Int)) : Prop :=
  (A = none ∧ n = 0 ∧ cap = 0) ∨ ∃ a, A = some a ∧ n ≤ cap ∧ ∀ i, i < n → w.cell? (a.add (i * 3)) = some (.float .f64 (z.1 i)) ∧ w.cell? (a.add (i * 3 + 1)) = some (.int .i64 (z.2.1 i)) ∧ w.cell? (a.add (i * 3 + 2)) = some (.int .i64 (z.2.2 i))

theorem law (A : Option Addr) (n cap : Nat) (z : (Nat → Nat) × (Nat → Int) × (Nat → Int)) {w : World} (hz : IsStamps w A n cap z) :
    Calls Try.prog 13 #[.slice A n cap] w fun e w' => e = .returned (.bool true) ∧ Below w.heap.size w w' := by
  rcases hz with ⟨_, rfl, _⟩ | ⟨ad, rfl, hcap, hc⟩
  · exact law_none A cap w
  by_cases hp : n = 0
  · subst hp; exact law_none _ cap w
  obtain ⟨T, S, N⟩ := z
  obtain ⟨b, off, spot⟩ := ad
  have h0 := (hc 0 (by omega)).1
  have hspot : spot = none := by simpa [Addr.add] using World.cell?_spot h0
  subst hspot
  have hc' : ∀ k, k < n → w.cell? ⟨b, off + k * 3, none⟩ = some (.float .f64 (T k)) ∧ w.cell? ⟨b, off + k * 3 + 1, none⟩ = some (.int .i64 (S k)) ∧ w.cell? ⟨b, off + k * 3 + 2, none⟩ = some (.int .i64 (N k)) := fun k hk => by
    have h := hc k hk
    refine ⟨?_, by simpa [Addr.add, Nat.add_assoc] using h.2.1, by simpa [Addr.add, Nat.add_assoc] using h.2.2⟩
    by_cases h0 : k = 0
    · subst h0; simpa [Addr.add] using h.1
    · have h3 : k * 3 ≠ 0 := by omega
      simpa [Addr.add, h0, h3] using h.1
  have hb : b < w.heap.size := World.block_lt_of_cell? w _ (hc' 0 (by omega)).1
  have key : ∀ j, 0 < j → j ≤ n → j ≤ 60 → ∃ m : Nat, m < j ∧ (∀ w1, Below w.heap.size w w1 → Calls Try.prog 66 #[.slice (some ⟨b, off, none⟩) j cap] w1 fun e w' => e = .returned (.int .i64 m) ∧ Below w1.heap.size w1 w') ∧
      ∀ i, i < j → 0 ≤ cmpS (T i) (T m) (S i) (N i) (S m) (N m) ∧ (cmpS (T i) (T m) (S i) (N i) (S m) (N m) = 0 → m ≤ i) := by
    intro j hj hjn hj6
    have hr := frst_range (fun i j => cmpS (T i) (T j) (S i) (N i) (S j) (N j)) j
    have hL := frst_least (fun i j => cmpS (T i) (T j) (S i) (N i) (S j) (N j)) (fun i => self0 _ _ _) (fun i k => turned _ _ _ _ _ _) (fun i k l h1 h2 => (through _ _ _ _ _ _ _ _ _).2.1 h1 h2) j hj
    have hF := fun (w1 : World) (h : Below w.heap.size w w1) => first_calls b off j cap T S N w1 (Nat.lt_of_lt_of_le hb h.size) (fun k hk => by
      have q := hc' k (by omega)
      exact ⟨(h.cell hb).trans q.1, (h.cell hb).trans q.2.1, (h.cell hb).trans q.2.2⟩) hj6
    generalize hg : frst (fun i j => cmpS (T i) (T j) (S i) (N i) (S j) (N j)) j = f at hr hL hF
    obtain ⟨m, rfl⟩ := Int.eq_ofNat_of_zero_le (show 0 ≤ f by omega)
    exact ⟨m, by omega, hF, hL⟩
  by_cases hn : 60 < n
  · obtain ⟨m, hm, hF, hL⟩ := key 60 (by omega) (by omega) (by omega)
    exact law_big b off n cap m T S N w hb (fun k hk => hc' k (by omega)) hn hcap hm ⟨hF⟩ hL
  · obtain ⟨m, hm, hF, hL⟩ := key n (by omega) (by omega) (by omega)
    exact law_small b off n cap m T S N w hb hc' (by omega) (by omega) hm ⟨hF⟩ hL

end Go.Proofs.Ytlbjcdfognofgaa.FirstW
