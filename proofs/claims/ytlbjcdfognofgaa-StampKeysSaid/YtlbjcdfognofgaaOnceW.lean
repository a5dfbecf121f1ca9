/- The walk of PackOnce: what is read is laid as the very bytes. -/
import Derived.Test.YtlbjcdfognofgaaSBack
import Derived.Test.YtlbjcdfognofgaaBk
import Derived.Deep.DrawnRows
namespace Go.Proofs.Ytlbjcdfognofgaa.OnceW
open Go.RowKit Go.Proofs.YtlbjcdfognofgaaW.PrintWords Go.Proofs.YtlbjcdfognofgaaW.PrintLast Go.Proofs.YtlbjcdfognofgaaW.PrintMore Go.Proofs.Ytlbjcdfognofgaa.Be Go.Proofs.Ytlbjcdfognofgaa.SBack
attribute [local go_sem ↓] Go.wp_at_zero Go.wp_at_succ
set_option linter.unusedVariables false

/-! ### Plain: what is read is laid as it was -/

theorem once8 (s : ByteArray) (a : Int) (h0 : 0 ≤ a) (h1 : a + 8 ≤ s.size) : strOfNums (be8 (nm s a 8)) = s.extract a.toNat (a + 8).toNat := by
  have h := nm_drop s a.toNat (by omega)
  rw [show ((a.toNat : Nat) : Int) = a by omega] at h
  rw [extract_bn, h, show (a + 8).toNat - a.toNat = 8 by omega]

theorem lt2_nm (s : ByteArray) (a : Int) (h0 : 0 ≤ a) (h1 : a + 2 ≤ s.size) : lt2 (nm s a 2) = ((bn s).drop a.toNat).take 2 := by
  have h := nm_val s a.toNat 2 (by omega)
  rw [show ((a.toNat : Nat) : Int) = a by omega] at h
  have hl : (((bn s).drop a.toNat).take 2).length = 2 := by rw [List.length_take, List.length_drop, bn_length]; omega
  match hq : ((bn s).drop a.toNat).take 2, hl with
  | [x, y], _ =>
    have hx : ∀ z ∈ [x, y], 0 ≤ z ∧ z ≤ 255 := fun z hz => bn_range s z (List.mem_of_mem_drop (List.mem_of_mem_take (by rw [hq]; exact hz)))
    have h1 := hx x (by simp)
    have h2 := hx y (by simp)
    rw [hq] at h
    rw [h]
    simp only [lt2, val, List.foldl, List.cons.injEq, and_true]
    omega

theorem drop_take {α : Type} (l : List α) (a m n : Nat) : (l.drop a).take (m + n) = (l.drop a).take m ++ (l.drop (a + m)).take n := by
  rw [List.take_add, List.drop_drop]

theorem onceText (s : ByteArray) (a : Int) (h0 : 0 ≤ a) (h1 : a + 2 + nm s a 2 ≤ s.size) (h2 : nm s a 2 ≤ 4096) :
    ltText (s.extract (a + 2).toNat (a + 2 + nm s a 2).toNat) = (s.extract a.toNat (a + 2 + nm s a 2).toNat, 0) := by
  have hn := nm2 s a
  have hz : (s.extract (a + 2).toNat (a + 2 + nm s a 2).toNat).size = (nm s a 2).toNat := by rw [size_extract' _ _ _ (by omega)]; omega
  rw [ltText, hz, if_neg (by omega), show (((nm s a 2).toNat : Nat) : Int) = nm s a 2 by omega, lt2_nm s a h0 (by omega), extract_bn, strOfNums_append, extract_bn]
  congr 2
  rw [show (a + 2 + nm s a 2).toNat - a.toNat = 2 + (nm s a 2).toNat by omega, drop_take, show (a + 2).toNat = a.toNat + 2 by omega, show (a + 2 + nm s a 2).toNat - (a.toNat + 2) = (nm s a 2).toNat by omega]

theorem lay8_nums8 (s : ByteArray) (a : Nat) : ∀ n : Nat, a + 8 * n ≤ s.size → lay8 (nums8 s a n) = ((bn s).drop a).take (8 * n)
  | 0, _ => by simp [nums8, lay8]
  | n + 1, h => by
    have e := nm_drop s (a + 8 * n) (by omega)
    rw [nums8_succ, lay8_append, lay8_one, lay8_nums8 s a n (by omega), show (8 * (n + 1)) = 8 * n + 8 by omega, drop_take, ← e]
    congr 2
    have q : ((a : Int) + 8 * (n : Int)) = ((a + 8 * n : Nat) : Int) := by omega
    rw [q]
    omega

theorem onceList (s : ByteArray) (a : Int) (h0 : 0 ≤ a) (h1 : a + 2 + 8 * nm s a 2 ≤ s.size) (h2 : nm s a 2 ≤ 512) :
    ltList (nums8 s (a + 2) (nm s a 2).toNat) = (s.extract a.toNat (a + 2 + 8 * nm s a 2).toNat, 0) := by
  have hn := nm2 s a
  have hl := lay8_nums8 s (a + 2).toNat (nm s a 2).toNat (by omega)
  rw [show (((a + 2).toNat : Nat) : Int) = a + 2 by omega] at hl
  rw [ltList, nums8_length, if_neg (by omega), show (((nm s a 2).toNat : Nat) : Int) = nm s a 2 by omega, lt2_nm s a h0 (by omega), hl, extract_bn]
  congr 2
  rw [show (a + 2 + 8 * nm s a 2).toNat - a.toNat = 2 + 8 * (nm s a 2).toNat by omega, drop_take, show (a + 2).toNat = a.toNat + 2 by omega]

theorem nums8_range (s : ByteArray) (a : Int) (n : Nat) : ∀ x ∈ nums8 s a n, -9223372036854775808 ≤ x ∧ x < 9223372036854775808 := by
  intro x hx
  simp only [nums8, List.mem_map] at hx
  obtain ⟨i, _, rfl⟩ := hx
  have := nm8 s (a + 8 * (i : Int))
  omega

/-! ### The walk, case by case -/

set_option maxRecDepth 100000 in
set_option maxHeartbeats 4000000 in
theorem w111 (s : ByteArray) (a : Int) (w : World) (h0 : 0 ≤ a) (h1 : a ≤ s.size) (hs : s.size ≤ 140737488351232)
    (n m : Int) (hu : a + 8 ≤ s.size)
    (RU : Aside0 (∀ w, Calls Try.prog 48 #[.string s, .int .i64 a] w fun e w' => e = .returned (.tuple #[.int .u64 n, .int .i64 (a + 8), .int .i64 0]) ∧ Below w.heap.size w w'))
    (RI : Aside0 (∀ w, Calls Try.prog 50 #[.string s, .int .i64 a] w fun e w' => e = .returned (.tuple #[.int .i64 m, .int .i64 (a + 8), .int .i64 0]) ∧ Below w.heap.size w w'))
    (CU : Aside0 (∀ w, Calls Try.prog 23 #[.int .u64 n] w fun e w' => e = .returned (.string (s.extract a.toNat (a + 8).toNat)) ∧ Below w.heap.size w w'))
    (CI : Aside0 (∀ w, Calls Try.prog 25 #[.int .i64 m] w fun e w' => e = .returned (.string (s.extract a.toNat (a + 8).toNat)) ∧ Below w.heap.size w w'))
    (t : ByteArray) (k : Int) (hk0 : 0 ≤ k) (hk : a + 2 + k ≤ s.size)
    (RT : Aside0 (∀ w, Calls Try.prog 52 #[.string s, .int .i64 a] w fun e w' => e = .returned (.tuple #[.string t, .int .i64 (a + 2 + k), .int .i64 0]) ∧ Below w.heap.size w w'))
    (CT : Aside0 (∀ w, Calls Try.prog 27 #[.string t] w fun e w' => e = .returned (.tuple #[.string (s.extract a.toNat (a + 2 + k).toNat), .int .i64 0]) ∧ Below w.heap.size w w'))
    (l : List Int) (j : Int) (hj0 : 0 ≤ j) (hj : a + 2 + 8 * j ≤ s.size)
    (RL : Aside0 (∀ w, Calls Try.prog 54 #[.string s, .int .i64 a] w fun e w' => ∃ v : Value, e = .returned (.tuple #[v, .int .i64 (a + 2 + 8 * j), .int .i64 0]) ∧ Kd.R (Kd.int .i64) 3 w' w.heap.size (fun _ => True) v l ∧ Below w.heap.size w w'))
    (CL : Aside0 (∀ A c w, Kd.C (Kd.int .i64) w A l.length l → l.length ≤ c → Calls Try.prog 29 #[.slice A l.length c] w fun e w' => e = .returned (.tuple #[.string (s.extract a.toNat (a + 2 + 8 * j).toNat), .int .i64 0]) ∧ Below w.heap.size w w')) :
    Calls Try.prog 15 #[.string s, .int .i64 a] w fun e w' => e = .returned (.bool true) ∧ Below w.heap.size w w' := by
  have HB := Aside0.mk (Below.refl w.heap.size w)
  clear hs
  have e1 := fun W : World => Go.run_slice_string (P := Try.prog) (w := W) 9 s .i64 .i64 a (a + 8) Try.underlying9 h0 (by omega) (by omega)
  have e2 := fun W : World => Go.run_slice_string (P := Try.prog) (w := W) 9 s .i64 .i64 a (a + 2 + k) Try.underlying9 h0 (by omega) (by omega)
  have e3 := fun W : World => Go.run_slice_string (P := Try.prog) (w := W) 9 s .i64 .i64 a (a + 2 + 8 * j) Try.underlying9 h0 (by omega) (by omega)
  go_enter Try.func15, Try.ntmps15
  go_wp2_with (go_at_call 48; (with_reducible refine (RU.out _).mono ?_); rintro e w1 ⟨rfl, hb⟩; have nb := Aside0.mk (below_step (by repeat (first | (with_reducible first | exact HB.out | apply below_alloc | apply pw_below_drewN | apply below_drew1) | exact HB.out)) hb); clear HB hb; have HB := nb; clear nb)
  go_region_held3 (fun _ => True) (trivial) (first | (go_at_call 23; (with_reducible refine (CU.out _).mono ?_); rintro e w1 ⟨rfl, hb⟩; have nb := Aside0.mk (below_step (by repeat (first | (with_reducible first | exact HB.out | apply below_alloc | apply pw_below_drewN | apply below_drew1) | exact HB.out)) hb); clear HB hb; have HB := nb; clear nb))
  go_wp2_with (go_at_call 50; (with_reducible refine (RI.out _).mono ?_); rintro e w1 ⟨rfl, hb⟩; have nb := Aside0.mk (below_step (by repeat (first | (with_reducible first | exact HB.out | apply below_alloc | apply pw_below_drewN | apply below_drew1) | exact HB.out)) hb); clear HB hb; have HB := nb; clear nb)
  go_region_held3 (fun _ => True) (trivial) (first | (go_at_call 25; (with_reducible refine (CI.out _).mono ?_); rintro e w1 ⟨rfl, hb⟩; have nb := Aside0.mk (below_step (by repeat (first | (with_reducible first | exact HB.out | apply below_alloc | apply pw_below_drewN | apply below_drew1) | exact HB.out)) hb); clear HB hb; have HB := nb; clear nb))
  go_wp2_with (first | (go_at_call 52; (with_reducible refine (RT.out _).mono ?_); rintro e w1 ⟨rfl, hb⟩; have nb := Aside0.mk (below_step (by repeat (first | (with_reducible first | exact HB.out | apply below_alloc | apply pw_below_drewN | apply below_drew1) | exact HB.out)) hb); clear HB hb; have HB := nb; clear nb) | (go_at_call 22; (with_reducible refine (awake_calls _).mono ?_); rintro e w1 ⟨rfl, hb⟩; have nb := Aside0.mk (below_step (by repeat (first | (with_reducible first | exact HB.out | apply below_alloc | apply pw_below_drewN | apply below_drew1) | exact HB.out)) hb); clear HB hb; have HB := nb; clear nb) | (go_at_call 27; (with_reducible refine (CT.out _).mono ?_); rintro e w1 ⟨rfl, hb⟩; have nb := Aside0.mk (below_step (by repeat (first | (with_reducible first | exact HB.out | apply below_alloc | apply pw_below_drewN | apply below_drew1) | exact HB.out)) hb); clear HB hb; have HB := nb; clear nb) | (go_at_call 54; (with_reducible refine (RL.out _).mono ?_); rintro e w1 ⟨v, rfl, hR, hb⟩; have nb := Aside0.mk (below_step (by repeat (first | (with_reducible first | exact HB.out | apply below_alloc | apply pw_below_drewN | apply below_drew1) | exact HB.out)) hb); clear HB; have HB := nb; clear nb; obtain ⟨B, d, rfl, hd, hq⟩ := Kd.R_reads hR; have HQ := Aside0.mk hq; clear hb hR hq) | (go_at_call 29; (with_reducible refine (CL.out B d _ HQ.out hd).mono ?_); rintro e w1 ⟨rfl, hb⟩; have nb := Aside0.mk (below_step (by repeat (first | (with_reducible first | exact HB.out | apply below_alloc | apply pw_below_drewN | apply below_drew1) | exact HB.out)) hb); clear HB hb; have HB := nb; clear nb))
  go_ret
  exact ⟨rfl, HB.out⟩

set_option maxRecDepth 100000 in
set_option maxHeartbeats 4000000 in
theorem w110 (s : ByteArray) (a : Int) (w : World) (h0 : 0 ≤ a) (h1 : a ≤ s.size) (hs : s.size ≤ 140737488351232)
    (n m : Int) (hu : a + 8 ≤ s.size)
    (RU : Aside0 (∀ w, Calls Try.prog 48 #[.string s, .int .i64 a] w fun e w' => e = .returned (.tuple #[.int .u64 n, .int .i64 (a + 8), .int .i64 0]) ∧ Below w.heap.size w w'))
    (RI : Aside0 (∀ w, Calls Try.prog 50 #[.string s, .int .i64 a] w fun e w' => e = .returned (.tuple #[.int .i64 m, .int .i64 (a + 8), .int .i64 0]) ∧ Below w.heap.size w w'))
    (CU : Aside0 (∀ w, Calls Try.prog 23 #[.int .u64 n] w fun e w' => e = .returned (.string (s.extract a.toNat (a + 8).toNat)) ∧ Below w.heap.size w w'))
    (CI : Aside0 (∀ w, Calls Try.prog 25 #[.int .i64 m] w fun e w' => e = .returned (.string (s.extract a.toNat (a + 8).toNat)) ∧ Below w.heap.size w w'))
    (t : ByteArray) (k : Int) (hk0 : 0 ≤ k) (hk : a + 2 + k ≤ s.size)
    (RT : Aside0 (∀ w, Calls Try.prog 52 #[.string s, .int .i64 a] w fun e w' => e = .returned (.tuple #[.string t, .int .i64 (a + 2 + k), .int .i64 0]) ∧ Below w.heap.size w w'))
    (CT : Aside0 (∀ w, Calls Try.prog 27 #[.string t] w fun e w' => e = .returned (.tuple #[.string (s.extract a.toNat (a + 2 + k).toNat), .int .i64 0]) ∧ Below w.heap.size w w'))
    (le : Int) (hle : 0 < le)
    (RL : Aside0 (∀ w, Calls Try.prog 54 #[.string s, .int .i64 a] w fun e w' => ∃ v : Value, e = .returned (.tuple #[v, .int .i64 0, .int .i64 le]) ∧ Kd.R (Kd.int .i64) 3 w' w.heap.size (fun _ => True) v [] ∧ Below w.heap.size w w')) :
    Calls Try.prog 15 #[.string s, .int .i64 a] w fun e w' => e = .returned (.bool true) ∧ Below w.heap.size w w' := by
  have HB := Aside0.mk (Below.refl w.heap.size w)
  clear hs
  have e1 := fun W : World => Go.run_slice_string (P := Try.prog) (w := W) 9 s .i64 .i64 a (a + 8) Try.underlying9 h0 (by omega) (by omega)
  have e2 := fun W : World => Go.run_slice_string (P := Try.prog) (w := W) 9 s .i64 .i64 a (a + 2 + k) Try.underlying9 h0 (by omega) (by omega)
  go_enter Try.func15, Try.ntmps15
  go_wp2_with (go_at_call 48; (with_reducible refine (RU.out _).mono ?_); rintro e w1 ⟨rfl, hb⟩; have nb := Aside0.mk (below_step (by repeat (first | (with_reducible first | exact HB.out | apply below_alloc | apply pw_below_drewN | apply below_drew1) | exact HB.out)) hb); clear HB hb; have HB := nb; clear nb)
  go_region_held3 (fun _ => True) (trivial) (first | (go_at_call 23; (with_reducible refine (CU.out _).mono ?_); rintro e w1 ⟨rfl, hb⟩; have nb := Aside0.mk (below_step (by repeat (first | (with_reducible first | exact HB.out | apply below_alloc | apply pw_below_drewN | apply below_drew1) | exact HB.out)) hb); clear HB hb; have HB := nb; clear nb))
  go_wp2_with (go_at_call 50; (with_reducible refine (RI.out _).mono ?_); rintro e w1 ⟨rfl, hb⟩; have nb := Aside0.mk (below_step (by repeat (first | (with_reducible first | exact HB.out | apply below_alloc | apply pw_below_drewN | apply below_drew1) | exact HB.out)) hb); clear HB hb; have HB := nb; clear nb)
  go_region_held3 (fun _ => True) (trivial) (first | (go_at_call 25; (with_reducible refine (CI.out _).mono ?_); rintro e w1 ⟨rfl, hb⟩; have nb := Aside0.mk (below_step (by repeat (first | (with_reducible first | exact HB.out | apply below_alloc | apply pw_below_drewN | apply below_drew1) | exact HB.out)) hb); clear HB hb; have HB := nb; clear nb))
  go_wp2_with (first | (go_at_call 52; (with_reducible refine (RT.out _).mono ?_); rintro e w1 ⟨rfl, hb⟩; have nb := Aside0.mk (below_step (by repeat (first | (with_reducible first | exact HB.out | apply below_alloc | apply pw_below_drewN | apply below_drew1) | exact HB.out)) hb); clear HB hb; have HB := nb; clear nb) | (go_at_call 22; (with_reducible refine (awake_calls _).mono ?_); rintro e w1 ⟨rfl, hb⟩; have nb := Aside0.mk (below_step (by repeat (first | (with_reducible first | exact HB.out | apply below_alloc | apply pw_below_drewN | apply below_drew1) | exact HB.out)) hb); clear HB hb; have HB := nb; clear nb) | (go_at_call 27; (with_reducible refine (CT.out _).mono ?_); rintro e w1 ⟨rfl, hb⟩; have nb := Aside0.mk (below_step (by repeat (first | (with_reducible first | exact HB.out | apply below_alloc | apply pw_below_drewN | apply below_drew1) | exact HB.out)) hb); clear HB hb; have HB := nb; clear nb) | (go_at_call 54; (with_reducible refine (RL.out _).mono ?_); rintro e w1 ⟨v, rfl, hR, hb⟩; have nb := Aside0.mk (below_step (by repeat (first | (with_reducible first | exact HB.out | apply below_alloc | apply pw_below_drewN | apply below_drew1) | exact HB.out)) hb); clear HB; have HB := nb; clear nb; obtain ⟨B, d, rfl, hd, hq⟩ := Kd.R_reads hR; have HQ := Aside0.mk hq; clear hb hR hq))
  go_ret
  exact ⟨rfl, HB.out⟩

set_option maxRecDepth 100000 in
set_option maxHeartbeats 4000000 in
theorem w101 (s : ByteArray) (a : Int) (w : World) (h0 : 0 ≤ a) (h1 : a ≤ s.size) (hs : s.size ≤ 140737488351232)
    (n m : Int) (hu : a + 8 ≤ s.size)
    (RU : Aside0 (∀ w, Calls Try.prog 48 #[.string s, .int .i64 a] w fun e w' => e = .returned (.tuple #[.int .u64 n, .int .i64 (a + 8), .int .i64 0]) ∧ Below w.heap.size w w'))
    (RI : Aside0 (∀ w, Calls Try.prog 50 #[.string s, .int .i64 a] w fun e w' => e = .returned (.tuple #[.int .i64 m, .int .i64 (a + 8), .int .i64 0]) ∧ Below w.heap.size w w'))
    (CU : Aside0 (∀ w, Calls Try.prog 23 #[.int .u64 n] w fun e w' => e = .returned (.string (s.extract a.toNat (a + 8).toNat)) ∧ Below w.heap.size w w'))
    (CI : Aside0 (∀ w, Calls Try.prog 25 #[.int .i64 m] w fun e w' => e = .returned (.string (s.extract a.toNat (a + 8).toNat)) ∧ Below w.heap.size w w'))
    (te : Int) (hte : 0 < te)
    (RT : Aside0 (∀ w, Calls Try.prog 52 #[.string s, .int .i64 a] w fun e w' => e = .returned (.tuple #[.string ⟨#[]⟩, .int .i64 0, .int .i64 te]) ∧ Below w.heap.size w w'))
    (l : List Int) (j : Int) (hj0 : 0 ≤ j) (hj : a + 2 + 8 * j ≤ s.size)
    (RL : Aside0 (∀ w, Calls Try.prog 54 #[.string s, .int .i64 a] w fun e w' => ∃ v : Value, e = .returned (.tuple #[v, .int .i64 (a + 2 + 8 * j), .int .i64 0]) ∧ Kd.R (Kd.int .i64) 3 w' w.heap.size (fun _ => True) v l ∧ Below w.heap.size w w'))
    (CL : Aside0 (∀ A c w, Kd.C (Kd.int .i64) w A l.length l → l.length ≤ c → Calls Try.prog 29 #[.slice A l.length c] w fun e w' => e = .returned (.tuple #[.string (s.extract a.toNat (a + 2 + 8 * j).toNat), .int .i64 0]) ∧ Below w.heap.size w w')) :
    Calls Try.prog 15 #[.string s, .int .i64 a] w fun e w' => e = .returned (.bool true) ∧ Below w.heap.size w w' := by
  have HB := Aside0.mk (Below.refl w.heap.size w)
  clear hs
  have e1 := fun W : World => Go.run_slice_string (P := Try.prog) (w := W) 9 s .i64 .i64 a (a + 8) Try.underlying9 h0 (by omega) (by omega)
  have e3 := fun W : World => Go.run_slice_string (P := Try.prog) (w := W) 9 s .i64 .i64 a (a + 2 + 8 * j) Try.underlying9 h0 (by omega) (by omega)
  go_enter Try.func15, Try.ntmps15
  go_wp2_with (go_at_call 48; (with_reducible refine (RU.out _).mono ?_); rintro e w1 ⟨rfl, hb⟩; have nb := Aside0.mk (below_step (by repeat (first | (with_reducible first | exact HB.out | apply below_alloc | apply pw_below_drewN | apply below_drew1) | exact HB.out)) hb); clear HB hb; have HB := nb; clear nb)
  go_region_held3 (fun _ => True) (trivial) (first | (go_at_call 23; (with_reducible refine (CU.out _).mono ?_); rintro e w1 ⟨rfl, hb⟩; have nb := Aside0.mk (below_step (by repeat (first | (with_reducible first | exact HB.out | apply below_alloc | apply pw_below_drewN | apply below_drew1) | exact HB.out)) hb); clear HB hb; have HB := nb; clear nb))
  go_wp2_with (go_at_call 50; (with_reducible refine (RI.out _).mono ?_); rintro e w1 ⟨rfl, hb⟩; have nb := Aside0.mk (below_step (by repeat (first | (with_reducible first | exact HB.out | apply below_alloc | apply pw_below_drewN | apply below_drew1) | exact HB.out)) hb); clear HB hb; have HB := nb; clear nb)
  go_region_held3 (fun _ => True) (trivial) (first | (go_at_call 25; (with_reducible refine (CI.out _).mono ?_); rintro e w1 ⟨rfl, hb⟩; have nb := Aside0.mk (below_step (by repeat (first | (with_reducible first | exact HB.out | apply below_alloc | apply pw_below_drewN | apply below_drew1) | exact HB.out)) hb); clear HB hb; have HB := nb; clear nb))
  go_wp2_with (first | (go_at_call 52; (with_reducible refine (RT.out _).mono ?_); rintro e w1 ⟨rfl, hb⟩; have nb := Aside0.mk (below_step (by repeat (first | (with_reducible first | exact HB.out | apply below_alloc | apply pw_below_drewN | apply below_drew1) | exact HB.out)) hb); clear HB hb; have HB := nb; clear nb) | (go_at_call 22; (with_reducible refine (awake_calls _).mono ?_); rintro e w1 ⟨rfl, hb⟩; have nb := Aside0.mk (below_step (by repeat (first | (with_reducible first | exact HB.out | apply below_alloc | apply pw_below_drewN | apply below_drew1) | exact HB.out)) hb); clear HB hb; have HB := nb; clear nb) | (go_at_call 54; (with_reducible refine (RL.out _).mono ?_); rintro e w1 ⟨v, rfl, hR, hb⟩; have nb := Aside0.mk (below_step (by repeat (first | (with_reducible first | exact HB.out | apply below_alloc | apply pw_below_drewN | apply below_drew1) | exact HB.out)) hb); clear HB; have HB := nb; clear nb; obtain ⟨B, d, rfl, hd, hq⟩ := Kd.R_reads hR; have HQ := Aside0.mk hq; clear hb hR hq) | (go_at_call 29; (with_reducible refine (CL.out B d _ HQ.out hd).mono ?_); rintro e w1 ⟨rfl, hb⟩; have nb := Aside0.mk (below_step (by repeat (first | (with_reducible first | exact HB.out | apply below_alloc | apply pw_below_drewN | apply below_drew1) | exact HB.out)) hb); clear HB hb; have HB := nb; clear nb))
  go_ret
  exact ⟨rfl, HB.out⟩

set_option maxRecDepth 100000 in
set_option maxHeartbeats 4000000 in
theorem w100 (s : ByteArray) (a : Int) (w : World) (h0 : 0 ≤ a) (h1 : a ≤ s.size) (hs : s.size ≤ 140737488351232)
    (n m : Int) (hu : a + 8 ≤ s.size)
    (RU : Aside0 (∀ w, Calls Try.prog 48 #[.string s, .int .i64 a] w fun e w' => e = .returned (.tuple #[.int .u64 n, .int .i64 (a + 8), .int .i64 0]) ∧ Below w.heap.size w w'))
    (RI : Aside0 (∀ w, Calls Try.prog 50 #[.string s, .int .i64 a] w fun e w' => e = .returned (.tuple #[.int .i64 m, .int .i64 (a + 8), .int .i64 0]) ∧ Below w.heap.size w w'))
    (CU : Aside0 (∀ w, Calls Try.prog 23 #[.int .u64 n] w fun e w' => e = .returned (.string (s.extract a.toNat (a + 8).toNat)) ∧ Below w.heap.size w w'))
    (CI : Aside0 (∀ w, Calls Try.prog 25 #[.int .i64 m] w fun e w' => e = .returned (.string (s.extract a.toNat (a + 8).toNat)) ∧ Below w.heap.size w w'))
    (te : Int) (hte : 0 < te)
    (RT : Aside0 (∀ w, Calls Try.prog 52 #[.string s, .int .i64 a] w fun e w' => e = .returned (.tuple #[.string ⟨#[]⟩, .int .i64 0, .int .i64 te]) ∧ Below w.heap.size w w'))
    (le : Int) (hle : 0 < le)
    (RL : Aside0 (∀ w, Calls Try.prog 54 #[.string s, .int .i64 a] w fun e w' => ∃ v : Value, e = .returned (.tuple #[v, .int .i64 0, .int .i64 le]) ∧ Kd.R (Kd.int .i64) 3 w' w.heap.size (fun _ => True) v [] ∧ Below w.heap.size w w')) :
    Calls Try.prog 15 #[.string s, .int .i64 a] w fun e w' => e = .returned (.bool true) ∧ Below w.heap.size w w' := by
  have HB := Aside0.mk (Below.refl w.heap.size w)
  clear hs
  have e1 := fun W : World => Go.run_slice_string (P := Try.prog) (w := W) 9 s .i64 .i64 a (a + 8) Try.underlying9 h0 (by omega) (by omega)
  go_enter Try.func15, Try.ntmps15
  go_wp2_with (go_at_call 48; (with_reducible refine (RU.out _).mono ?_); rintro e w1 ⟨rfl, hb⟩; have nb := Aside0.mk (below_step (by repeat (first | (with_reducible first | exact HB.out | apply below_alloc | apply pw_below_drewN | apply below_drew1) | exact HB.out)) hb); clear HB hb; have HB := nb; clear nb)
  go_region_held3 (fun _ => True) (trivial) (first | (go_at_call 23; (with_reducible refine (CU.out _).mono ?_); rintro e w1 ⟨rfl, hb⟩; have nb := Aside0.mk (below_step (by repeat (first | (with_reducible first | exact HB.out | apply below_alloc | apply pw_below_drewN | apply below_drew1) | exact HB.out)) hb); clear HB hb; have HB := nb; clear nb))
  go_wp2_with (go_at_call 50; (with_reducible refine (RI.out _).mono ?_); rintro e w1 ⟨rfl, hb⟩; have nb := Aside0.mk (below_step (by repeat (first | (with_reducible first | exact HB.out | apply below_alloc | apply pw_below_drewN | apply below_drew1) | exact HB.out)) hb); clear HB hb; have HB := nb; clear nb)
  go_region_held3 (fun _ => True) (trivial) (first | (go_at_call 25; (with_reducible refine (CI.out _).mono ?_); rintro e w1 ⟨rfl, hb⟩; have nb := Aside0.mk (below_step (by repeat (first | (with_reducible first | exact HB.out | apply below_alloc | apply pw_below_drewN | apply below_drew1) | exact HB.out)) hb); clear HB hb; have HB := nb; clear nb))
  go_wp2_with (first | (go_at_call 52; (with_reducible refine (RT.out _).mono ?_); rintro e w1 ⟨rfl, hb⟩; have nb := Aside0.mk (below_step (by repeat (first | (with_reducible first | exact HB.out | apply below_alloc | apply pw_below_drewN | apply below_drew1) | exact HB.out)) hb); clear HB hb; have HB := nb; clear nb) | (go_at_call 22; (with_reducible refine (awake_calls _).mono ?_); rintro e w1 ⟨rfl, hb⟩; have nb := Aside0.mk (below_step (by repeat (first | (with_reducible first | exact HB.out | apply below_alloc | apply pw_below_drewN | apply below_drew1) | exact HB.out)) hb); clear HB hb; have HB := nb; clear nb) | (go_at_call 54; (with_reducible refine (RL.out _).mono ?_); rintro e w1 ⟨v, rfl, hR, hb⟩; have nb := Aside0.mk (below_step (by repeat (first | (with_reducible first | exact HB.out | apply below_alloc | apply pw_below_drewN | apply below_drew1) | exact HB.out)) hb); clear HB; have HB := nb; clear nb; obtain ⟨B, d, rfl, hd, hq⟩ := Kd.R_reads hR; have HQ := Aside0.mk hq; clear hb hR hq))
  go_ret
  exact ⟨rfl, HB.out⟩

set_option maxRecDepth 100000 in
set_option maxHeartbeats 4000000 in
theorem w011 (s : ByteArray) (a : Int) (w : World) (h0 : 0 ≤ a) (h1 : a ≤ s.size) (hs : s.size ≤ 140737488351232)
    (RU : Aside0 (∀ w, Calls Try.prog 48 #[.string s, .int .i64 a] w fun e w' => e = .returned (.tuple #[.int .u64 0, .int .i64 0, .int .i64 5]) ∧ Below w.heap.size w w'))
    (RI : Aside0 (∀ w, Calls Try.prog 50 #[.string s, .int .i64 a] w fun e w' => e = .returned (.tuple #[.int .i64 0, .int .i64 0, .int .i64 5]) ∧ Below w.heap.size w w'))
    (t : ByteArray) (k : Int) (hk0 : 0 ≤ k) (hk : a + 2 + k ≤ s.size)
    (RT : Aside0 (∀ w, Calls Try.prog 52 #[.string s, .int .i64 a] w fun e w' => e = .returned (.tuple #[.string t, .int .i64 (a + 2 + k), .int .i64 0]) ∧ Below w.heap.size w w'))
    (CT : Aside0 (∀ w, Calls Try.prog 27 #[.string t] w fun e w' => e = .returned (.tuple #[.string (s.extract a.toNat (a + 2 + k).toNat), .int .i64 0]) ∧ Below w.heap.size w w'))
    (l : List Int) (j : Int) (hj0 : 0 ≤ j) (hj : a + 2 + 8 * j ≤ s.size)
    (RL : Aside0 (∀ w, Calls Try.prog 54 #[.string s, .int .i64 a] w fun e w' => ∃ v : Value, e = .returned (.tuple #[v, .int .i64 (a + 2 + 8 * j), .int .i64 0]) ∧ Kd.R (Kd.int .i64) 3 w' w.heap.size (fun _ => True) v l ∧ Below w.heap.size w w'))
    (CL : Aside0 (∀ A c w, Kd.C (Kd.int .i64) w A l.length l → l.length ≤ c → Calls Try.prog 29 #[.slice A l.length c] w fun e w' => e = .returned (.tuple #[.string (s.extract a.toNat (a + 2 + 8 * j).toNat), .int .i64 0]) ∧ Below w.heap.size w w')) :
    Calls Try.prog 15 #[.string s, .int .i64 a] w fun e w' => e = .returned (.bool true) ∧ Below w.heap.size w w' := by
  have HB := Aside0.mk (Below.refl w.heap.size w)
  clear hs
  have e2 := fun W : World => Go.run_slice_string (P := Try.prog) (w := W) 9 s .i64 .i64 a (a + 2 + k) Try.underlying9 h0 (by omega) (by omega)
  have e3 := fun W : World => Go.run_slice_string (P := Try.prog) (w := W) 9 s .i64 .i64 a (a + 2 + 8 * j) Try.underlying9 h0 (by omega) (by omega)
  go_enter Try.func15, Try.ntmps15
  go_wp2_with (go_at_call 48; (with_reducible refine (RU.out _).mono ?_); rintro e w1 ⟨rfl, hb⟩; have nb := Aside0.mk (below_step (by repeat (first | (with_reducible first | exact HB.out | apply below_alloc | apply pw_below_drewN | apply below_drew1) | exact HB.out)) hb); clear HB hb; have HB := nb; clear nb)
  go_quiet (fail)
  go_wp2_with (go_at_call 50; (with_reducible refine (RI.out _).mono ?_); rintro e w1 ⟨rfl, hb⟩; have nb := Aside0.mk (below_step (by repeat (first | (with_reducible first | exact HB.out | apply below_alloc | apply pw_below_drewN | apply below_drew1) | exact HB.out)) hb); clear HB hb; have HB := nb; clear nb)
  go_quiet (fail)
  go_wp2_with (first | (go_at_call 52; (with_reducible refine (RT.out _).mono ?_); rintro e w1 ⟨rfl, hb⟩; have nb := Aside0.mk (below_step (by repeat (first | (with_reducible first | exact HB.out | apply below_alloc | apply pw_below_drewN | apply below_drew1) | exact HB.out)) hb); clear HB hb; have HB := nb; clear nb) | (go_at_call 22; (with_reducible refine (awake_calls _).mono ?_); rintro e w1 ⟨rfl, hb⟩; have nb := Aside0.mk (below_step (by repeat (first | (with_reducible first | exact HB.out | apply below_alloc | apply pw_below_drewN | apply below_drew1) | exact HB.out)) hb); clear HB hb; have HB := nb; clear nb) | (go_at_call 27; (with_reducible refine (CT.out _).mono ?_); rintro e w1 ⟨rfl, hb⟩; have nb := Aside0.mk (below_step (by repeat (first | (with_reducible first | exact HB.out | apply below_alloc | apply pw_below_drewN | apply below_drew1) | exact HB.out)) hb); clear HB hb; have HB := nb; clear nb) | (go_at_call 54; (with_reducible refine (RL.out _).mono ?_); rintro e w1 ⟨v, rfl, hR, hb⟩; have nb := Aside0.mk (below_step (by repeat (first | (with_reducible first | exact HB.out | apply below_alloc | apply pw_below_drewN | apply below_drew1) | exact HB.out)) hb); clear HB; have HB := nb; clear nb; obtain ⟨B, d, rfl, hd, hq⟩ := Kd.R_reads hR; have HQ := Aside0.mk hq; clear hb hR hq) | (go_at_call 29; (with_reducible refine (CL.out B d _ HQ.out hd).mono ?_); rintro e w1 ⟨rfl, hb⟩; have nb := Aside0.mk (below_step (by repeat (first | (with_reducible first | exact HB.out | apply below_alloc | apply pw_below_drewN | apply below_drew1) | exact HB.out)) hb); clear HB hb; have HB := nb; clear nb))
  go_ret
  exact ⟨rfl, HB.out⟩

set_option maxRecDepth 100000 in
set_option maxHeartbeats 4000000 in
theorem w010 (s : ByteArray) (a : Int) (w : World) (h0 : 0 ≤ a) (h1 : a ≤ s.size) (hs : s.size ≤ 140737488351232)
    (RU : Aside0 (∀ w, Calls Try.prog 48 #[.string s, .int .i64 a] w fun e w' => e = .returned (.tuple #[.int .u64 0, .int .i64 0, .int .i64 5]) ∧ Below w.heap.size w w'))
    (RI : Aside0 (∀ w, Calls Try.prog 50 #[.string s, .int .i64 a] w fun e w' => e = .returned (.tuple #[.int .i64 0, .int .i64 0, .int .i64 5]) ∧ Below w.heap.size w w'))
    (t : ByteArray) (k : Int) (hk0 : 0 ≤ k) (hk : a + 2 + k ≤ s.size)
    (RT : Aside0 (∀ w, Calls Try.prog 52 #[.string s, .int .i64 a] w fun e w' => e = .returned (.tuple #[.string t, .int .i64 (a + 2 + k), .int .i64 0]) ∧ Below w.heap.size w w'))
    (CT : Aside0 (∀ w, Calls Try.prog 27 #[.string t] w fun e w' => e = .returned (.tuple #[.string (s.extract a.toNat (a + 2 + k).toNat), .int .i64 0]) ∧ Below w.heap.size w w'))
    (le : Int) (hle : 0 < le)
    (RL : Aside0 (∀ w, Calls Try.prog 54 #[.string s, .int .i64 a] w fun e w' => ∃ v : Value, e = .returned (.tuple #[v, .int .i64 0, .int .i64 le]) ∧ Kd.R (Kd.int .i64) 3 w' w.heap.size (fun _ => True) v [] ∧ Below w.heap.size w w')) :
    Calls Try.prog 15 #[.string s, .int .i64 a] w fun e w' => e = .returned (.bool true) ∧ Below w.heap.size w w' := by
  have HB := Aside0.mk (Below.refl w.heap.size w)
  clear hs
  have e2 := fun W : World => Go.run_slice_string (P := Try.prog) (w := W) 9 s .i64 .i64 a (a + 2 + k) Try.underlying9 h0 (by omega) (by omega)
  go_enter Try.func15, Try.ntmps15
  go_wp2_with (go_at_call 48; (with_reducible refine (RU.out _).mono ?_); rintro e w1 ⟨rfl, hb⟩; have nb := Aside0.mk (below_step (by repeat (first | (with_reducible first | exact HB.out | apply below_alloc | apply pw_below_drewN | apply below_drew1) | exact HB.out)) hb); clear HB hb; have HB := nb; clear nb)
  go_quiet (fail)
  go_wp2_with (go_at_call 50; (with_reducible refine (RI.out _).mono ?_); rintro e w1 ⟨rfl, hb⟩; have nb := Aside0.mk (below_step (by repeat (first | (with_reducible first | exact HB.out | apply below_alloc | apply pw_below_drewN | apply below_drew1) | exact HB.out)) hb); clear HB hb; have HB := nb; clear nb)
  go_quiet (fail)
  go_wp2_with (first | (go_at_call 52; (with_reducible refine (RT.out _).mono ?_); rintro e w1 ⟨rfl, hb⟩; have nb := Aside0.mk (below_step (by repeat (first | (with_reducible first | exact HB.out | apply below_alloc | apply pw_below_drewN | apply below_drew1) | exact HB.out)) hb); clear HB hb; have HB := nb; clear nb) | (go_at_call 22; (with_reducible refine (awake_calls _).mono ?_); rintro e w1 ⟨rfl, hb⟩; have nb := Aside0.mk (below_step (by repeat (first | (with_reducible first | exact HB.out | apply below_alloc | apply pw_below_drewN | apply below_drew1) | exact HB.out)) hb); clear HB hb; have HB := nb; clear nb) | (go_at_call 27; (with_reducible refine (CT.out _).mono ?_); rintro e w1 ⟨rfl, hb⟩; have nb := Aside0.mk (below_step (by repeat (first | (with_reducible first | exact HB.out | apply below_alloc | apply pw_below_drewN | apply below_drew1) | exact HB.out)) hb); clear HB hb; have HB := nb; clear nb) | (go_at_call 54; (with_reducible refine (RL.out _).mono ?_); rintro e w1 ⟨v, rfl, hR, hb⟩; have nb := Aside0.mk (below_step (by repeat (first | (with_reducible first | exact HB.out | apply below_alloc | apply pw_below_drewN | apply below_drew1) | exact HB.out)) hb); clear HB; have HB := nb; clear nb; obtain ⟨B, d, rfl, hd, hq⟩ := Kd.R_reads hR; have HQ := Aside0.mk hq; clear hb hR hq))
  go_ret
  exact ⟨rfl, HB.out⟩

set_option maxRecDepth 100000 in
set_option maxHeartbeats 4000000 in
theorem w001 (s : ByteArray) (a : Int) (w : World) (h0 : 0 ≤ a) (h1 : a ≤ s.size) (hs : s.size ≤ 140737488351232)
    (RU : Aside0 (∀ w, Calls Try.prog 48 #[.string s, .int .i64 a] w fun e w' => e = .returned (.tuple #[.int .u64 0, .int .i64 0, .int .i64 5]) ∧ Below w.heap.size w w'))
    (RI : Aside0 (∀ w, Calls Try.prog 50 #[.string s, .int .i64 a] w fun e w' => e = .returned (.tuple #[.int .i64 0, .int .i64 0, .int .i64 5]) ∧ Below w.heap.size w w'))
    (te : Int) (hte : 0 < te)
    (RT : Aside0 (∀ w, Calls Try.prog 52 #[.string s, .int .i64 a] w fun e w' => e = .returned (.tuple #[.string ⟨#[]⟩, .int .i64 0, .int .i64 te]) ∧ Below w.heap.size w w'))
    (l : List Int) (j : Int) (hj0 : 0 ≤ j) (hj : a + 2 + 8 * j ≤ s.size)
    (RL : Aside0 (∀ w, Calls Try.prog 54 #[.string s, .int .i64 a] w fun e w' => ∃ v : Value, e = .returned (.tuple #[v, .int .i64 (a + 2 + 8 * j), .int .i64 0]) ∧ Kd.R (Kd.int .i64) 3 w' w.heap.size (fun _ => True) v l ∧ Below w.heap.size w w'))
    (CL : Aside0 (∀ A c w, Kd.C (Kd.int .i64) w A l.length l → l.length ≤ c → Calls Try.prog 29 #[.slice A l.length c] w fun e w' => e = .returned (.tuple #[.string (s.extract a.toNat (a + 2 + 8 * j).toNat), .int .i64 0]) ∧ Below w.heap.size w w')) :
    Calls Try.prog 15 #[.string s, .int .i64 a] w fun e w' => e = .returned (.bool true) ∧ Below w.heap.size w w' := by
  have HB := Aside0.mk (Below.refl w.heap.size w)
  clear hs
  have e3 := fun W : World => Go.run_slice_string (P := Try.prog) (w := W) 9 s .i64 .i64 a (a + 2 + 8 * j) Try.underlying9 h0 (by omega) (by omega)
  go_enter Try.func15, Try.ntmps15
  go_wp2_with (go_at_call 48; (with_reducible refine (RU.out _).mono ?_); rintro e w1 ⟨rfl, hb⟩; have nb := Aside0.mk (below_step (by repeat (first | (with_reducible first | exact HB.out | apply below_alloc | apply pw_below_drewN | apply below_drew1) | exact HB.out)) hb); clear HB hb; have HB := nb; clear nb)
  go_quiet (fail)
  go_wp2_with (go_at_call 50; (with_reducible refine (RI.out _).mono ?_); rintro e w1 ⟨rfl, hb⟩; have nb := Aside0.mk (below_step (by repeat (first | (with_reducible first | exact HB.out | apply below_alloc | apply pw_below_drewN | apply below_drew1) | exact HB.out)) hb); clear HB hb; have HB := nb; clear nb)
  go_quiet (fail)
  go_wp2_with (first | (go_at_call 52; (with_reducible refine (RT.out _).mono ?_); rintro e w1 ⟨rfl, hb⟩; have nb := Aside0.mk (below_step (by repeat (first | (with_reducible first | exact HB.out | apply below_alloc | apply pw_below_drewN | apply below_drew1) | exact HB.out)) hb); clear HB hb; have HB := nb; clear nb) | (go_at_call 22; (with_reducible refine (awake_calls _).mono ?_); rintro e w1 ⟨rfl, hb⟩; have nb := Aside0.mk (below_step (by repeat (first | (with_reducible first | exact HB.out | apply below_alloc | apply pw_below_drewN | apply below_drew1) | exact HB.out)) hb); clear HB hb; have HB := nb; clear nb) | (go_at_call 54; (with_reducible refine (RL.out _).mono ?_); rintro e w1 ⟨v, rfl, hR, hb⟩; have nb := Aside0.mk (below_step (by repeat (first | (with_reducible first | exact HB.out | apply below_alloc | apply pw_below_drewN | apply below_drew1) | exact HB.out)) hb); clear HB; have HB := nb; clear nb; obtain ⟨B, d, rfl, hd, hq⟩ := Kd.R_reads hR; have HQ := Aside0.mk hq; clear hb hR hq) | (go_at_call 29; (with_reducible refine (CL.out B d _ HQ.out hd).mono ?_); rintro e w1 ⟨rfl, hb⟩; have nb := Aside0.mk (below_step (by repeat (first | (with_reducible first | exact HB.out | apply below_alloc | apply pw_below_drewN | apply below_drew1) | exact HB.out)) hb); clear HB hb; have HB := nb; clear nb))
  go_ret
  exact ⟨rfl, HB.out⟩

set_option maxRecDepth 100000 in
set_option maxHeartbeats 4000000 in
theorem w000 (s : ByteArray) (a : Int) (w : World) (h0 : 0 ≤ a) (h1 : a ≤ s.size) (hs : s.size ≤ 140737488351232)
    (RU : Aside0 (∀ w, Calls Try.prog 48 #[.string s, .int .i64 a] w fun e w' => e = .returned (.tuple #[.int .u64 0, .int .i64 0, .int .i64 5]) ∧ Below w.heap.size w w'))
    (RI : Aside0 (∀ w, Calls Try.prog 50 #[.string s, .int .i64 a] w fun e w' => e = .returned (.tuple #[.int .i64 0, .int .i64 0, .int .i64 5]) ∧ Below w.heap.size w w'))
    (te : Int) (hte : 0 < te)
    (RT : Aside0 (∀ w, Calls Try.prog 52 #[.string s, .int .i64 a] w fun e w' => e = .returned (.tuple #[.string ⟨#[]⟩, .int .i64 0, .int .i64 te]) ∧ Below w.heap.size w w'))
    (le : Int) (hle : 0 < le)
    (RL : Aside0 (∀ w, Calls Try.prog 54 #[.string s, .int .i64 a] w fun e w' => ∃ v : Value, e = .returned (.tuple #[v, .int .i64 0, .int .i64 le]) ∧ Kd.R (Kd.int .i64) 3 w' w.heap.size (fun _ => True) v [] ∧ Below w.heap.size w w')) :
    Calls Try.prog 15 #[.string s, .int .i64 a] w fun e w' => e = .returned (.bool true) ∧ Below w.heap.size w w' := by
  have HB := Aside0.mk (Below.refl w.heap.size w)
  clear hs
  go_enter Try.func15, Try.ntmps15
  go_wp2_with (go_at_call 48; (with_reducible refine (RU.out _).mono ?_); rintro e w1 ⟨rfl, hb⟩; have nb := Aside0.mk (below_step (by repeat (first | (with_reducible first | exact HB.out | apply below_alloc | apply pw_below_drewN | apply below_drew1) | exact HB.out)) hb); clear HB hb; have HB := nb; clear nb)
  go_quiet (fail)
  go_wp2_with (go_at_call 50; (with_reducible refine (RI.out _).mono ?_); rintro e w1 ⟨rfl, hb⟩; have nb := Aside0.mk (below_step (by repeat (first | (with_reducible first | exact HB.out | apply below_alloc | apply pw_below_drewN | apply below_drew1) | exact HB.out)) hb); clear HB hb; have HB := nb; clear nb)
  go_quiet (fail)
  go_wp2_with (first | (go_at_call 52; (with_reducible refine (RT.out _).mono ?_); rintro e w1 ⟨rfl, hb⟩; have nb := Aside0.mk (below_step (by repeat (first | (with_reducible first | exact HB.out | apply below_alloc | apply pw_below_drewN | apply below_drew1) | exact HB.out)) hb); clear HB hb; have HB := nb; clear nb) | (go_at_call 22; (with_reducible refine (awake_calls _).mono ?_); rintro e w1 ⟨rfl, hb⟩; have nb := Aside0.mk (below_step (by repeat (first | (with_reducible first | exact HB.out | apply below_alloc | apply pw_below_drewN | apply below_drew1) | exact HB.out)) hb); clear HB hb; have HB := nb; clear nb) | (go_at_call 54; (with_reducible refine (RL.out _).mono ?_); rintro e w1 ⟨v, rfl, hR, hb⟩; have nb := Aside0.mk (below_step (by repeat (first | (with_reducible first | exact HB.out | apply below_alloc | apply pw_below_drewN | apply below_drew1) | exact HB.out)) hb); clear HB; have HB := nb; clear nb; obtain ⟨B, d, rfl, hd, hq⟩ := Kd.R_reads hR; have HQ := Aside0.mk hq; clear hb hR hq))
  go_ret
  exact ⟨rfl, HB.out⟩

set_option maxRecDepth 100000 in
set_option maxHeartbeats 1000000 in
theorem low (s : ByteArray) (a : Int) (w : World) (h : a < 0) :
    Calls Try.prog 15 #[.string s, .int .i64 a] w fun e w' => e = .returned (.bool true) ∧ Below w.heap.size w w' := by
  have HB := Aside0.mk (Below.refl w.heap.size w)
  go_enter Try.func15, Try.ntmps15
  go_wp2_with (go_at_call 22; (with_reducible refine (awake_calls _).mono ?_); rintro e w1 ⟨rfl, hb⟩; have nb := Aside0.mk (below_step HB.out hb); clear HB hb; have HB := nb; clear nb)
  go_ret
  exact ⟨rfl, HB.out⟩

set_option maxRecDepth 100000 in
set_option maxHeartbeats 1000000 in
theorem high (s : ByteArray) (a : Int) (w : World) (h : (s.size : Int) < a) :
    Calls Try.prog 15 #[.string s, .int .i64 a] w fun e w' => e = .returned (.bool true) ∧ Below w.heap.size w w' := by
  have h0 : ¬ a < 0 := by omega
  have HB := Aside0.mk (Below.refl w.heap.size w)
  go_enter Try.func15, Try.ntmps15
  go_wp2_with (go_at_call 22; (with_reducible refine (awake_calls _).mono ?_); rintro e w1 ⟨rfl, hb⟩; have nb := Aside0.mk (below_step HB.out hb); clear HB hb; have HB := nb; clear nb)
  go_ret
  exact ⟨rfl, HB.out⟩

theorem law (s : ByteArray) (a : Int) {w : World} (hs : s.size ≤ 140737488351232) (_ : (Lit.int .i64 a).wf = true) :
    Calls Try.prog 15 #[.string s, .int .i64 a] w fun e w' => e = .returned (.bool true) ∧ Below w.heap.size w w' := by
  by_cases h0 : a < 0
  · exact low s a w h0
  by_cases h1 : (s.size : Int) < a
  · exact high s a w h1
  have hn2 := nm2 s a
  have hn8 := nm8 s a
  have RU0 := fun w => ReadU_calls s a hs w
  have RI0 := fun w => ReadI_calls s a hs w
  have RT0 := fun w => ReadText_calls s a hs w
  have RL0 := fun w => ReadList_calls s a hs w
  have hor : ¬ (a < 0 ∨ (s.size : Int) < a) := by omega
  simp only [rdU, if_neg hor] at RU0
  simp only [rdI, if_neg hor] at RI0
  simp only [rdText, if_neg hor] at RT0
  simp only [rdList, if_neg hor] at RL0
  -- the text: what is wrong with it, or that it is there
  have textErr : ∀ te : Int, 0 < te → (∀ w, Calls Try.prog 52 #[.string s, .int .i64 a] w fun e w' => e = .returned (.tuple #[.string ⟨#[]⟩, .int .i64 0, .int .i64 te]) ∧ Below w.heap.size w w') →
      ∃ te : Int, 0 < te ∧ Aside0 (∀ w, Calls Try.prog 52 #[.string s, .int .i64 a] w fun e w' => e = .returned (.tuple #[.string ⟨#[]⟩, .int .i64 0, .int .i64 te]) ∧ Below w.heap.size w w') := fun te h g => ⟨te, h, ⟨g⟩⟩
  have listErr : ∀ le : Int, 0 < le → (∀ w, Calls Try.prog 54 #[.string s, .int .i64 a] w fun e w' => ∃ v : Value, e = .returned (.tuple #[v, .int .i64 0, .int .i64 le]) ∧ Kd.R (Kd.int .i64) 3 w' w.heap.size (fun _ => True) v [] ∧ Below w.heap.size w w') →
      ∃ le : Int, 0 < le ∧ Aside0 (∀ w, Calls Try.prog 54 #[.string s, .int .i64 a] w fun e w' => ∃ v : Value, e = .returned (.tuple #[v, .int .i64 0, .int .i64 le]) ∧ Kd.R (Kd.int .i64) 3 w' w.heap.size (fun _ => True) v [] ∧ Below w.heap.size w w') := fun le h g => ⟨le, h, ⟨g⟩⟩
  have tx : (∃ te : Int, 0 < te ∧ Aside0 (∀ w, Calls Try.prog 52 #[.string s, .int .i64 a] w fun e w' => e = .returned (.tuple #[.string ⟨#[]⟩, .int .i64 0, .int .i64 te]) ∧ Below w.heap.size w w')) ∨
      (∃ (t : ByteArray) (k : Int), 0 ≤ k ∧ a + 2 + k ≤ s.size ∧ Aside0 (∀ w, Calls Try.prog 52 #[.string s, .int .i64 a] w fun e w' => e = .returned (.tuple #[.string t, .int .i64 (a + 2 + k), .int .i64 0]) ∧ Below w.heap.size w w') ∧
        Aside0 (∀ w, Calls Try.prog 27 #[.string t] w fun e w' => e = .returned (.tuple #[.string (s.extract a.toNat (a + 2 + k).toNat), .int .i64 0]) ∧ Below w.heap.size w w')) := by
    by_cases q1 : (s.size : Int) - a < 2
    · simp only [if_pos q1] at RT0
      exact .inl (textErr 5 (by omega) RT0)
    · simp only [if_neg q1] at RT0
      by_cases q2 : nm s a 2 > 4096
      · simp only [if_pos q2] at RT0
        exact .inl (textErr 4 (by omega) RT0)
      · simp only [if_neg q2] at RT0
        by_cases q3 : nm s a 2 > (s.size : Int) - a - 2
        · simp only [if_pos q3] at RT0
          exact .inl (textErr 5 (by omega) RT0)
        · simp only [if_neg q3] at RT0
          refine .inr ⟨_, nm s a 2, by omega, by omega, ⟨RT0⟩, ⟨fun w => ?_⟩⟩
          have h := Text_calls (s.extract (a + 2).toNat (a + 2 + nm s a 2).toNat) (by rw [size_extract' _ _ _ (by omega)]; omega) w
          rw [onceText s a (by omega) (by omega) (by omega)] at h
          exact h
  have lx : (∃ le : Int, 0 < le ∧ Aside0 (∀ w, Calls Try.prog 54 #[.string s, .int .i64 a] w fun e w' => ∃ v : Value, e = .returned (.tuple #[v, .int .i64 0, .int .i64 le]) ∧ Kd.R (Kd.int .i64) 3 w' w.heap.size (fun _ => True) v [] ∧ Below w.heap.size w w')) ∨
      (∃ (l : List Int) (j : Int), 0 ≤ j ∧ a + 2 + 8 * j ≤ s.size ∧ Aside0 (∀ w, Calls Try.prog 54 #[.string s, .int .i64 a] w fun e w' => ∃ v : Value, e = .returned (.tuple #[v, .int .i64 (a + 2 + 8 * j), .int .i64 0]) ∧ Kd.R (Kd.int .i64) 3 w' w.heap.size (fun _ => True) v l ∧ Below w.heap.size w w') ∧
        Aside0 (∀ A c w, Kd.C (Kd.int .i64) w A l.length l → l.length ≤ c → Calls Try.prog 29 #[.slice A l.length c] w fun e w' => e = .returned (.tuple #[.string (s.extract a.toNat (a + 2 + 8 * j).toNat), .int .i64 0]) ∧ Below w.heap.size w w')) := by
    by_cases q1 : (s.size : Int) - a < 2
    · simp only [if_pos q1] at RL0
      exact .inl (listErr 5 (by omega) RL0)
    · simp only [if_neg q1] at RL0
      by_cases q2 : nm s a 2 > 512
      · simp only [if_pos q2] at RL0
        exact .inl (listErr 4 (by omega) RL0)
      · simp only [if_neg q2] at RL0
        by_cases q3 : 8 * nm s a 2 > (s.size : Int) - a - 2
        · simp only [if_pos q3] at RL0
          exact .inl (listErr 5 (by omega) RL0)
        · simp only [if_neg q3] at RL0
          refine .inr ⟨_, nm s a 2, by omega, by omega, ⟨RL0⟩, ⟨fun A c w hA hc => ?_⟩⟩
          have h := List_calls A c _ w hA hc (nums8_range s (a + 2) (nm s a 2).toNat) (by rw [nums8_length]; omega)
          rw [onceList s a (by omega) (by omega) (by omega)] at h
          exact h
  clear RT0 RL0 textErr listErr
  by_cases hu : (s.size : Int) - a < 8
  · simp only [if_pos hu] at RU0 RI0
    rcases tx with ⟨te, hte, RT⟩ | ⟨t, k, hk0, hk, RT, CT⟩ <;> rcases lx with ⟨le, hle, RL⟩ | ⟨l, j, hj0, hj, RL, CL⟩
    · exact w000 s a w (by omega) (by omega) hs ⟨RU0⟩ ⟨RI0⟩ te hte RT le hle RL
    · exact w001 s a w (by omega) (by omega) hs ⟨RU0⟩ ⟨RI0⟩ te hte RT l j hj0 hj RL CL
    · exact w010 s a w (by omega) (by omega) hs ⟨RU0⟩ ⟨RI0⟩ t k hk0 hk RT CT le hle RL
    · exact w011 s a w (by omega) (by omega) hs ⟨RU0⟩ ⟨RI0⟩ t k hk0 hk RT CT l j hj0 hj RL CL
  · simp only [if_neg hu] at RU0 RI0
    have CU := Aside0.mk (fun w => (by
      have h := U_calls (nm s a 8) w
      rw [once8 s a (by omega) (by omega)] at h; exact h : Calls Try.prog 23 #[.int .u64 (nm s a 8)] w fun e w' => e = .returned (.string (s.extract a.toNat (a + 8).toNat)) ∧ Below w.heap.size w w'))
    have CI := Aside0.mk (fun w => (by
      have h := I_calls (nm s a 8 - 9223372036854775808) (by omega) w
      rw [Int.sub_add_cancel, once8 s a (by omega) (by omega)] at h; exact h : Calls Try.prog 25 #[.int .i64 (nm s a 8 - 9223372036854775808)] w fun e w' => e = .returned (.string (s.extract a.toNat (a + 8).toNat)) ∧ Below w.heap.size w w'))
    rcases tx with ⟨te, hte, RT⟩ | ⟨t, k, hk0, hk, RT, CT⟩ <;> rcases lx with ⟨le, hle, RL⟩ | ⟨l, j, hj0, hj, RL, CL⟩
    · exact w100 s a w (by omega) (by omega) hs _ _ (by omega) ⟨RU0⟩ ⟨RI0⟩ CU CI te hte RT le hle RL
    · exact w101 s a w (by omega) (by omega) hs _ _ (by omega) ⟨RU0⟩ ⟨RI0⟩ CU CI te hte RT l j hj0 hj RL CL
    · exact w110 s a w (by omega) (by omega) hs _ _ (by omega) ⟨RU0⟩ ⟨RI0⟩ CU CI t k hk0 hk RT CT le hle RL
    · exact w111 s a w (by omega) (by omega) hs _ _ (by omega) ⟨RU0⟩ ⟨RI0⟩ CU CI t k hk0 hk RT CT l j hj0 hj RL CL


end Go.Proofs.Ytlbjcdfognofgaa.OnceW
