/- What a text is, read as a stamp: Read and R02.Read come to the same; when stamps are the same. -/
import Derived.Test.YtlbjcdfognofgaaWk
import Derived.Test.YtlbjcdfognofgaaStampR
import Derived.Test.YtlbjcdfognofgaaBytesW
import Derived.Test.YtlbjcdfognofgaaBk
import Derived.Deep.DrawnRows
import Derived.Deep.RegionHeld3
namespace Go.Proofs.Ytlbjcdfognofgaa.StampQ
open Go.RowKit Go.Proofs.YtlbjcdfognofgaaW.PrintWords Go.Proofs.YtlbjcdfognofgaaW.PrintLast Go.Proofs.YtlbjcdfognofgaaW.PrintMore Go.Proofs.Ytlbjcdfognofgaa.Be Go.Proofs.Ytlbjcdfognofgaa.Fl Go.Proofs.Ytlbjcdfognofgaa.StampA Go.Proofs.Ytlbjcdfognofgaa.StampB Go.Proofs.Ytlbjcdfognofgaa.StampC Go.Proofs.Ytlbjcdfognofgaa.StampD Go.Proofs.Ytlbjcdfognofgaa.StampK Go.Proofs.Ytlbjcdfognofgaa.SRec Go.Proofs.Ytlbjcdfognofgaa.StampR Go.Proofs.Ytlbjcdfognofgaa.BytesW Go.Proofs.Ytlbjcdfognofgaa.Wk
attribute [local go_sem ↓] Go.wp_at_zero Go.wp_at_succ

attribute [local go_sem] run_store_float
set_option linter.unusedVariables false

/-- The word that so many bits of a key stand for. -/
def dk (u : Int) : Nat := if 9223372036854775808 ≤ u then (u - 9223372036854775808).toNat else (18446744073709551615 - u).toNat

/-- What stands at a place, read as a stamp. -/
def rdS (b : ByteArray) (a : Int) : (Nat × Int × Int) × Int × Int :=
  if a < 0 ∨ (b.size : Int) < a then ((0, 0, 0), 0, 3) else if (b.size : Int) - a < 24 then ((0, 0, 0), 0, 5) else
  if isNan (dk (nm b a 8)) ∨ dk (nm b a 8) = 9223372036854775808 then ((0, 0, 0), 0, 7) else
  ((dk (nm b a 8), nm b (a + 8) 8 - 9223372036854775808, nm b (a + 16) 8 - 9223372036854775808), a + 24, 0)

theorem dk_hi {u : Int} (h : 0 ≤ u ∧ u < 18446744073709551616) (hl : 9223372036854775808 ≤ u) : bits .andNot .u64 u 9223372036854775808 = (dk u : Int) ∧ IntKind.u64.wrap (u - 9223372036854775808) = (dk u : Int) := by
  have e : (dk u : Int) = u - 9223372036854775808 := by rw [dk, if_pos hl]; omega
  constructor
  · rw [e, u64_andNot u 9223372036854775808 h.1 h.2 (by omega) (by omega), show (18446744073709551615 - (9223372036854775808 : Int).toNat) = 2 ^ 63 - 1 from by decide, Nat.and_two_pow_sub_one_eq_mod]
    omega
  · rw [e, wrap_u64_in _ (by omega) (by omega)]

theorem dk_lo {u : Int} (h : 0 ≤ u ∧ u < 18446744073709551616) (hl : ¬ 9223372036854775808 ≤ u) : bits .xor .u64 IntKind.u64.max u = (dk u : Int) ∧ IntKind.u64.wrap (18446744073709551615 - u) = (dk u : Int) := by
  have e : (dk u : Int) = 18446744073709551615 - u := by rw [dk, if_neg hl]; omega
  constructor
  · obtain ⟨x, rfl⟩ := Int.eq_ofNat_of_zero_le h.1
    have e2 := bits_xor_u64_nat 18446744073709551615 x (by omega) (by omega)
    rw [e, show (IntKind.u64.max : Int) = ((18446744073709551615 : Nat) : Int) from by decide, e2]
    have hb : 18446744073709551615 ^^^ x = 18446744073709551615 - x := by
      have := BitVec.toNat_not (x := BitVec.ofNat 64 x)
      have h2 : (~~~ (BitVec.ofNat 64 x)) = BitVec.allOnes 64 ^^^ BitVec.ofNat 64 x := by rw [BitVec.not_def]
      rw [h2, BitVec.toNat_xor, BitVec.toNat_allOnes, BitVec.toNat_ofNat, Nat.mod_eq_of_lt (by omega)] at this
      exact this
    rw [hb]
    omega
  · rw [e, wrap_u64_in _ (by omega) (by omega)]

theorem dk_lt {u : Int} (h : 0 ≤ u ∧ u < 18446744073709551616) : dk u < 18446744073709551616 := by
  unfold dk; split <;> omega

/-- A word that is kept as it is has the very bits as its key. -/
theorem kb_dk {u : Int} (h : 0 ≤ u ∧ u < 18446744073709551616) (hn : ¬ isNan (dk u)) (hz : dk u ≠ 9223372036854775808) : norm (dk u) = dk u ∧ kb (norm (dk u)) = u := by
  have e : norm (dk u) = dk u := by
    rw [norm, if_neg hn]
    by_cases h0 : sval (dk u) = 0
    · rw [if_pos h0]
      have hl := dk_lt h
      have hs := sgn_low hl
      have hr : rung (dk u) = dk u % 9223372036854775808 := rfl
      unfold sval at h0
      split at h0 <;> omega
    · rw [if_neg h0]
  refine ⟨e, ?_⟩
  rw [e, kb]
  unfold dk
  by_cases hl : 9223372036854775808 ≤ u
  · rw [if_pos hl, if_neg (by omega)]; omega
  · rw [if_neg hl, if_pos (by omega)]; omega

theorem kb_zero {u : Int} (h : 0 ≤ u ∧ u < 18446744073709551616) (hz : dk u = 9223372036854775808) : kb (norm (dk u)) ≠ u ∧ ¬ isNan (dk u) := by
  have hn : ¬ isNan (dk u) := by rw [hz]; decide
  have e : norm (dk u) = 0 := by
    rw [norm, if_neg hn, if_pos (by rw [hz]; decide)]
  refine ⟨?_, hn⟩
  rw [e, kb, if_neg (by omega)]
  unfold dk at hz
  split at hz <;> omega

theorem three8 (b : ByteArray) (a : Int) (h0 : 0 ≤ a) (h1 : a + 24 ≤ b.size) :
    b.extract a.toNat (a + 24).toNat = strOfNums (be8 (nm b a 8)) ++ strOfNums (be8 (nm b (a + 8) 8)) ++ strOfNums (be8 (nm b (a + 16) 8)) := by
  obtain ⟨k, rfl⟩ := Int.eq_ofNat_of_zero_le h0
  have p1 := nm_drop b k (by omega)
  have p2 := nm_drop b (k + 8) (by omega)
  have p3 := nm_drop b (k + 16) (by omega)
  rw [strOfNums_append, strOfNums_append, extract_bn, show (k : Int) + 8 = ((k + 8 : Nat) : Int) by omega, show (k : Int) + 16 = ((k + 16 : Nat) : Int) by omega, p1, p2, p3]
  rw [show ((k : Int) + 24).toNat - (k : Int).toNat = 8 + (8 + 8) by omega, show (k : Int).toNat = k by omega, List.take_add, List.take_add, List.drop_drop, List.drop_drop, ← List.append_assoc]

theorem rdS_cases (b : ByteArray) (a : Int) : (1 ≤ (rdS b a).2.2 ∧ rdS b a = ((0, 0, 0), 0, (rdS b a).2.2)) ∨
    (0 ≤ a ∧ a + 24 ≤ b.size ∧ ¬ isNan (dk (nm b a 8)) ∧ dk (nm b a 8) ≠ 9223372036854775808 ∧ rdS b a = ((dk (nm b a 8), nm b (a + 8) 8 - 9223372036854775808, nm b (a + 16) 8 - 9223372036854775808), a + 24, 0)) := by
  unfold rdS
  split
  · exact .inl ⟨by decide, rfl⟩
  · split
    · exact .inl ⟨by decide, rfl⟩
    · split
      · exact .inl ⟨by decide, rfl⟩
      · rename_i h1 h2 h3
        exact .inr ⟨by omega, by omega, fun h => h3 (.inl h), fun h => h3 (.inr h), rfl⟩

/-- What is read has the very key. -/
theorem key_read (b : ByteArray) (a : Int) (h0 : 0 ≤ a) (h1 : a + 24 ≤ b.size) (hn : ¬ isNan (dk (nm b a 8))) (hz : dk (nm b a 8) ≠ 9223372036854775808) :
    keyS (dk (nm b a 8)) (nm b (a + 8) 8 - 9223372036854775808) (nm b (a + 16) 8 - 9223372036854775808) = (b.extract a.toNat (a + 24).toNat, 0) := by
  rw [keyS, if_neg hn, (kb_dk (nm8 b a) hn hz).2, Int.sub_add_cancel, Int.sub_add_cancel, three8 b a h0 h1]

theorem key_not (b : ByteArray) (a : Int) (h0 : 0 ≤ a) (h1 : a + 24 ≤ b.size) (hz : dk (nm b a 8) = 9223372036854775808) :
    (keyS (dk (nm b a 8)) (nm b (a + 8) 8 - 9223372036854775808) (nm b (a + 16) 8 - 9223372036854775808)).2 = 0 ∧
    ((keyS (dk (nm b a 8)) (nm b (a + 8) 8 - 9223372036854775808) (nm b (a + 16) 8 - 9223372036854775808)).1.toList == (b.extract a.toNat (a + 24).toNat).toList) = false := by
  have hk := kb_zero (nm8 b a) hz
  rw [keyS, if_neg hk.2]
  refine ⟨rfl, ?_⟩
  rw [Int.sub_add_cancel, Int.sub_add_cancel, three8 b a h0 h1, key_bytes, key_bytes, beq_strOfNums _ _ (key_range _ _ _) (key_range _ _ _),
    key_beq _ _ _ _ _ _ (kb_range (norm_lt (dk_lt (nm8 b a)))) (nm8 _ _) (nm8 _ _) (nm8 _ _) (nm8 _ _) (nm8 _ _)]
  exact decide_eq_false fun h => hk.1 h.1


theorem rd69_calls (b : ByteArray) (a : Int) (hs : b.size ≤ 140737488351232) (w : World) :
    Calls Try.prog 69 #[.string b, .int .i64 a] w fun r w' => r = .returned (.tuple #[.agg #[.float .f64 (rdS b a).1.1, .int .i64 (rdS b a).1.2.1, .int .i64 (rdS b a).1.2.2], .int .i64 (rdS b a).2.1, .int .i64 (rdS b a).2.2]) ∧ Below w.heap.size w w' := by
  by_cases hb : a < 0 ∨ (b.size : Int) < a
  · have eU : rdU b a = (0, 0, 3) := by rw [rdU, if_pos hb]
    rw [show rdS b a = ((0, 0, 0), 0, 3) by rw [rdS, if_pos hb]]
    exact read69_1 b a 0 0 3 0 0 0 0 0 0 w (by decide) ⟨fun w => by have h := ReadU_calls b a hs w; rw [eU] at h; exact h⟩
  by_cases h24 : (b.size : Int) - a < 24
  · rw [show rdS b a = ((0, 0, 0), 0, 5) by rw [rdS, if_neg hb, if_pos h24]]
    by_cases h8 : (b.size : Int) - a < 8
    · have eU : rdU b a = (0, 0, 5) := by rw [rdU, if_neg hb, if_pos h8]
      exact read69_1 b a 0 0 5 0 0 0 0 0 0 w (by decide) ⟨fun w => by have h := ReadU_calls b a hs w; rw [eU] at h; exact h⟩
    have eU : rdU b a = (nm b a 8, a + 8, 0) := by rw [rdU, if_neg hb, if_neg h8]
    by_cases h16 : (b.size : Int) - a < 16
    · have eI : rdI b (a + 8) = (0, 0, 5) := by rw [rdI, if_neg (by omega), if_pos (by omega)]
      exact read69_2 b a (nm b a 8) (a + 8) 0 0 0 5 0 0 0 w ⟨Int.le_refl 0, Int.le_refl 0⟩ (by decide) ⟨fun w => by have h := ReadU_calls b a hs w; rw [eU] at h; exact h⟩ ⟨fun w => by have h := ReadI_calls b (a + 8) hs w; rw [eI] at h; exact h⟩
    · have eI : rdI b (a + 8) = (nm b (a + 8) 8 - 9223372036854775808, a + 16, 0) := by rw [rdI, if_neg (by omega), if_neg (by omega), show a + 8 + 8 = a + 16 by omega]
      have eN : rdI b (a + 16) = (0, 0, 5) := by rw [rdI, if_neg (by omega), if_pos (by omega)]
      exact read69_3 b a (nm b a 8) (a + 8) 0 (nm b (a + 8) 8 - 9223372036854775808) (a + 16) 0 0 0 5 w ⟨Int.le_refl 0, Int.le_refl 0⟩ ⟨Int.le_refl 0, Int.le_refl 0⟩ (by decide) ⟨fun w => by have h := ReadU_calls b a hs w; rw [eU] at h; exact h⟩ ⟨fun w => by have h := ReadI_calls b (a + 8) hs w; rw [eI] at h; exact h⟩ ⟨fun w => by have h := ReadI_calls b (a + 16) hs w; rw [eN] at h; exact h⟩
  have eU : rdU b a = (nm b a 8, a + 8, 0) := by rw [rdU, if_neg hb, if_neg (by omega)]
  have eI : rdI b (a + 8) = (nm b (a + 8) 8 - 9223372036854775808, a + 16, 0) := by rw [rdI, if_neg (by omega), if_neg (by omega), show a + 8 + 8 = a + 16 by omega]
  have eN : rdI b (a + 16) = (nm b (a + 16) 8 - 9223372036854775808, a + 24, 0) := by rw [rdI, if_neg (by omega), if_neg (by omega), show a + 16 + 8 = a + 24 by omega]
  have hu := nm8 b a
  have hv := nm8 b (a + 8)
  have hw := nm8 b (a + 16)
  have hlt := dk_lt hu
  by_cases hl : (9223372036854775808 : Int) ≤ nm b a 8
  · have hx := (dk_hi hu hl).1
    by_cases hn : isNan (dk (nm b a 8))
    · rw [show rdS b a = ((0, 0, 0), 0, 7) by rw [rdS, if_neg hb, if_neg h24, if_pos (.inl hn)]]
      exact read69_hnan b a (nm b a 8) (a + 8) 0 (nm b (a + 8) 8 - 9223372036854775808) (a + 16) 0 (nm b (a + 16) 8 - 9223372036854775808) (a + 24) 0 w ⟨Int.le_refl 0, Int.le_refl 0⟩ ⟨Int.le_refl 0, Int.le_refl 0⟩ ⟨Int.le_refl 0, Int.le_refl 0⟩ (decide_eq_true hl) ⟨fun w => by have h := ReadU_calls b a hs w; rw [eU] at h; exact h⟩ ⟨fun w => by have h := ReadI_calls b (a + 8) hs w; rw [eI] at h; exact h⟩ ⟨fun w => by have h := ReadI_calls b (a + 16) hs w; rw [eN] at h; exact h⟩ (by rw [hx]; exact decide_eq_true hn)
    by_cases hz : dk (nm b a 8) = 9223372036854775808
    · rw [show rdS b a = ((0, 0, 0), 0, 7) by rw [rdS, if_neg hb, if_neg h24, if_pos (.inr hz)]]
      exact read69_hzero b a (nm b a 8) (a + 8) 0 (nm b (a + 8) 8 - 9223372036854775808) (a + 16) 0 (nm b (a + 16) 8 - 9223372036854775808) (a + 24) 0 w ⟨Int.le_refl 0, Int.le_refl 0⟩ ⟨Int.le_refl 0, Int.le_refl 0⟩ ⟨Int.le_refl 0, Int.le_refl 0⟩ (decide_eq_true hl) ⟨fun w => by have h := ReadU_calls b a hs w; rw [eU] at h; exact h⟩ ⟨fun w => by have h := ReadI_calls b (a + 8) hs w; rw [eI] at h; exact h⟩ ⟨fun w => by have h := ReadI_calls b (a + 16) hs w; rw [eN] at h; exact h⟩ (by rw [hx]; exact decide_eq_false hn) (by rw [hx, hz]; rfl)
    · rw [show rdS b a = ((dk (nm b a 8), nm b (a + 8) 8 - 9223372036854775808, nm b (a + 16) 8 - 9223372036854775808), a + 24, 0) by rw [rdS, if_neg hb, if_neg h24, if_neg (fun h => h.elim hn hz)]]
      have g := read69_hok b a (nm b a 8) (a + 8) 0 (nm b (a + 8) 8 - 9223372036854775808) (a + 16) 0 (nm b (a + 16) 8 - 9223372036854775808) (a + 24) 0 w ⟨Int.le_refl 0, Int.le_refl 0⟩ ⟨Int.le_refl 0, Int.le_refl 0⟩ ⟨Int.le_refl 0, Int.le_refl 0⟩ (decide_eq_true hl) ⟨fun w => by have h := ReadU_calls b a hs w; rw [eU] at h; exact h⟩ ⟨fun w => by have h := ReadI_calls b (a + 8) hs w; rw [eI] at h; exact h⟩ ⟨fun w => by have h := ReadI_calls b (a + 16) hs w; rw [eN] at h; exact h⟩ (by rw [hx]; exact decide_eq_false hn) (by rw [hx]; exact beq_false_of_ne (by omega))
      rw [hx] at g
      exact g
  · have hx := (dk_lo hu hl).1
    by_cases hn : isNan (dk (nm b a 8))
    · rw [show rdS b a = ((0, 0, 0), 0, 7) by rw [rdS, if_neg hb, if_neg h24, if_pos (.inl hn)]]
      exact read69_lnan b a (nm b a 8) (a + 8) 0 (nm b (a + 8) 8 - 9223372036854775808) (a + 16) 0 (nm b (a + 16) 8 - 9223372036854775808) (a + 24) 0 w ⟨Int.le_refl 0, Int.le_refl 0⟩ ⟨Int.le_refl 0, Int.le_refl 0⟩ ⟨Int.le_refl 0, Int.le_refl 0⟩ (decide_eq_false hl) ⟨fun w => by have h := ReadU_calls b a hs w; rw [eU] at h; exact h⟩ ⟨fun w => by have h := ReadI_calls b (a + 8) hs w; rw [eI] at h; exact h⟩ ⟨fun w => by have h := ReadI_calls b (a + 16) hs w; rw [eN] at h; exact h⟩ (by rw [hx]; exact decide_eq_true hn)
    by_cases hz : dk (nm b a 8) = 9223372036854775808
    · rw [show rdS b a = ((0, 0, 0), 0, 7) by rw [rdS, if_neg hb, if_neg h24, if_pos (.inr hz)]]
      exact read69_lzero b a (nm b a 8) (a + 8) 0 (nm b (a + 8) 8 - 9223372036854775808) (a + 16) 0 (nm b (a + 16) 8 - 9223372036854775808) (a + 24) 0 w ⟨Int.le_refl 0, Int.le_refl 0⟩ ⟨Int.le_refl 0, Int.le_refl 0⟩ ⟨Int.le_refl 0, Int.le_refl 0⟩ (decide_eq_false hl) ⟨fun w => by have h := ReadU_calls b a hs w; rw [eU] at h; exact h⟩ ⟨fun w => by have h := ReadI_calls b (a + 8) hs w; rw [eI] at h; exact h⟩ ⟨fun w => by have h := ReadI_calls b (a + 16) hs w; rw [eN] at h; exact h⟩ (by rw [hx]; exact decide_eq_false hn) (by rw [hx, hz]; rfl)
    · rw [show rdS b a = ((dk (nm b a 8), nm b (a + 8) 8 - 9223372036854775808, nm b (a + 16) 8 - 9223372036854775808), a + 24, 0) by rw [rdS, if_neg hb, if_neg h24, if_neg (fun h => h.elim hn hz)]]
      have g := read69_lok b a (nm b a 8) (a + 8) 0 (nm b (a + 8) 8 - 9223372036854775808) (a + 16) 0 (nm b (a + 16) 8 - 9223372036854775808) (a + 24) 0 w ⟨Int.le_refl 0, Int.le_refl 0⟩ ⟨Int.le_refl 0, Int.le_refl 0⟩ ⟨Int.le_refl 0, Int.le_refl 0⟩ (decide_eq_false hl) ⟨fun w => by have h := ReadU_calls b a hs w; rw [eU] at h; exact h⟩ ⟨fun w => by have h := ReadI_calls b (a + 8) hs w; rw [eI] at h; exact h⟩ ⟨fun w => by have h := ReadI_calls b (a + 16) hs w; rw [eN] at h; exact h⟩ (by rw [hx]; exact decide_eq_false hn) (by rw [hx]; exact beq_false_of_ne (by omega))
      rw [hx] at g
      exact g


theorem rd70_calls (b : ByteArray) (a : Int) (hs : b.size ≤ 140737488351232) (w : World) :
    Calls Try.prog 70 #[.string b, .int .i64 a] w fun r w' => r = .returned (.tuple #[.agg #[.float .f64 (rdS b a).1.1, .int .i64 (rdS b a).1.2.1, .int .i64 (rdS b a).1.2.2], .int .i64 (rdS b a).2.1, .int .i64 (rdS b a).2.2]) ∧ Below w.heap.size w w' := by
  by_cases hb : a < 0 ∨ (b.size : Int) < a
  · have eU : rdU b a = (0, 0, 3) := by rw [rdU, if_pos hb]
    rw [show rdS b a = ((0, 0, 0), 0, 3) by rw [rdS, if_pos hb]]
    exact read70_1 b ⟨#[]⟩ a 0 0 3 0 0 0 0 0 0 0 w (by decide) ⟨fun w => by have h := refReadU_calls b a hs w; rw [eU] at h; exact h⟩
  by_cases h24 : (b.size : Int) - a < 24
  · rw [show rdS b a = ((0, 0, 0), 0, 5) by rw [rdS, if_neg hb, if_pos h24]]
    by_cases h8 : (b.size : Int) - a < 8
    · have eU : rdU b a = (0, 0, 5) := by rw [rdU, if_neg hb, if_pos h8]
      exact read70_1 b ⟨#[]⟩ a 0 0 5 0 0 0 0 0 0 0 w (by decide) ⟨fun w => by have h := refReadU_calls b a hs w; rw [eU] at h; exact h⟩
    have eU : rdU b a = (nm b a 8, a + 8, 0) := by rw [rdU, if_neg hb, if_neg h8]
    by_cases h16 : (b.size : Int) - a < 16
    · have eI : rdI b (a + 8) = (0, 0, 5) := by rw [rdI, if_neg (by omega), if_pos (by omega)]
      exact read70_2 b ⟨#[]⟩ a (nm b a 8) (a + 8) 0 0 0 5 0 0 0 0 w ⟨Int.le_refl 0, Int.le_refl 0⟩ (by decide) ⟨fun w => by have h := refReadU_calls b a hs w; rw [eU] at h; exact h⟩ ⟨fun w => by have h := refReadI_calls b (a + 8) hs w; rw [eI] at h; exact h⟩
    · have eI : rdI b (a + 8) = (nm b (a + 8) 8 - 9223372036854775808, a + 16, 0) := by rw [rdI, if_neg (by omega), if_neg (by omega), show a + 8 + 8 = a + 16 by omega]
      have eN : rdI b (a + 16) = (0, 0, 5) := by rw [rdI, if_neg (by omega), if_pos (by omega)]
      exact read70_3 b ⟨#[]⟩ a (nm b a 8) (a + 8) 0 (nm b (a + 8) 8 - 9223372036854775808) (a + 16) 0 0 0 5 0 w ⟨Int.le_refl 0, Int.le_refl 0⟩ ⟨Int.le_refl 0, Int.le_refl 0⟩ (by decide) ⟨fun w => by have h := refReadU_calls b a hs w; rw [eU] at h; exact h⟩ ⟨fun w => by have h := refReadI_calls b (a + 8) hs w; rw [eI] at h; exact h⟩ ⟨fun w => by have h := refReadI_calls b (a + 16) hs w; rw [eN] at h; exact h⟩
  have eU : rdU b a = (nm b a 8, a + 8, 0) := by rw [rdU, if_neg hb, if_neg (by omega)]
  have eI : rdI b (a + 8) = (nm b (a + 8) 8 - 9223372036854775808, a + 16, 0) := by rw [rdI, if_neg (by omega), if_neg (by omega), show a + 8 + 8 = a + 16 by omega]
  have eN : rdI b (a + 16) = (nm b (a + 16) 8 - 9223372036854775808, a + 24, 0) := by rw [rdI, if_neg (by omega), if_neg (by omega), show a + 16 + 8 = a + 24 by omega]
  have hu := nm8 b a
  have hv := nm8 b (a + 8)
  have hw := nm8 b (a + 16)
  have hlt := dk_lt hu
  by_cases hl : (9223372036854775808 : Int) ≤ nm b a 8
  · have hx := (dk_hi hu hl).2
    have g := fun w => key68_calls (dk (nm b a 8)) (nm b (a + 8) 8 - 9223372036854775808) (nm b (a + 16) 8 - 9223372036854775808) hlt (by omega) (by omega) w
    by_cases hn : isNan (dk (nm b a 8))
    · rw [show rdS b a = ((0, 0, 0), 0, 7) by rw [rdS, if_neg hb, if_neg h24, if_pos (.inl hn)]]
      exact read70_hnan b (keyS (dk (nm b a 8)) (nm b (a + 8) 8 - 9223372036854775808) (nm b (a + 16) 8 - 9223372036854775808)).1 a (nm b a 8) (a + 8) 0 (nm b (a + 8) 8 - 9223372036854775808) (a + 16) 0 (nm b (a + 16) 8 - 9223372036854775808) (a + 24) 0 (keyS (dk (nm b a 8)) (nm b (a + 8) 8 - 9223372036854775808) (nm b (a + 16) 8 - 9223372036854775808)).2 w ⟨Int.le_refl 0, Int.le_refl 0⟩ ⟨Int.le_refl 0, Int.le_refl 0⟩ ⟨Int.le_refl 0, Int.le_refl 0⟩ (decide_eq_true hl) ⟨fun w => by have h := refReadU_calls b a hs w; rw [eU] at h; exact h⟩ ⟨fun w => by have h := refReadI_calls b (a + 8) hs w; rw [eI] at h; exact h⟩ ⟨fun w => by have h := refReadI_calls b (a + 16) hs w; rw [eN] at h; exact h⟩ ⟨fun w => by rw [hx]; exact g w⟩ (by rw [keyS, if_pos hn]; decide)
    by_cases hz : dk (nm b a 8) = 9223372036854775808
    · rw [show rdS b a = ((0, 0, 0), 0, 7) by rw [rdS, if_neg hb, if_neg h24, if_pos (.inr hz)]]
      have k := key_not b a (by omega) (by omega) hz
      exact read70_hne b (keyS (dk (nm b a 8)) (nm b (a + 8) 8 - 9223372036854775808) (nm b (a + 16) 8 - 9223372036854775808)).1 a (nm b a 8) (a + 8) 0 (nm b (a + 8) 8 - 9223372036854775808) (a + 16) 0 (nm b (a + 16) 8 - 9223372036854775808) (a + 24) 0 (keyS (dk (nm b a 8)) (nm b (a + 8) 8 - 9223372036854775808) (nm b (a + 16) 8 - 9223372036854775808)).2 w ⟨Int.le_refl 0, Int.le_refl 0⟩ ⟨Int.le_refl 0, Int.le_refl 0⟩ ⟨Int.le_refl 0, Int.le_refl 0⟩ (decide_eq_true hl) ⟨fun w => by have h := refReadU_calls b a hs w; rw [eU] at h; exact h⟩ ⟨fun w => by have h := refReadI_calls b (a + 8) hs w; rw [eI] at h; exact h⟩ ⟨fun w => by have h := refReadI_calls b (a + 16) hs w; rw [eN] at h; exact h⟩ ⟨fun w => by rw [hx]; exact g w⟩ (by rw [k.1]; exact ⟨Int.le_refl 0, Int.le_refl 0⟩) (by omega) (by omega) (by omega) k.2
    · rw [show rdS b a = ((dk (nm b a 8), nm b (a + 8) 8 - 9223372036854775808, nm b (a + 16) 8 - 9223372036854775808), a + 24, 0) by rw [rdS, if_neg hb, if_neg h24, if_neg (fun h => h.elim hn hz)]]
      have k := key_read b a (by omega) (by omega) hn hz
      rw [k] at g
      have g2 := read70_hok b ⟨#[]⟩ a (nm b a 8) (a + 8) 0 (nm b (a + 8) 8 - 9223372036854775808) (a + 16) 0 (nm b (a + 16) 8 - 9223372036854775808) (a + 24) 0 0 w ⟨Int.le_refl 0, Int.le_refl 0⟩ ⟨Int.le_refl 0, Int.le_refl 0⟩ ⟨Int.le_refl 0, Int.le_refl 0⟩ (decide_eq_true hl) ⟨fun w => by have h := refReadU_calls b a hs w; rw [eU] at h; exact h⟩ ⟨fun w => by have h := refReadI_calls b (a + 8) hs w; rw [eI] at h; exact h⟩ ⟨fun w => by have h := refReadI_calls b (a + 16) hs w; rw [eN] at h; exact h⟩ ⟨fun w => by rw [hx]; exact g w⟩ ⟨Int.le_refl 0, Int.le_refl 0⟩ (by omega) (by omega) (by omega)
      rw [hx] at g2
      exact g2
  · have hx := (dk_lo hu hl).2
    have g := fun w => key68_calls (dk (nm b a 8)) (nm b (a + 8) 8 - 9223372036854775808) (nm b (a + 16) 8 - 9223372036854775808) hlt (by omega) (by omega) w
    by_cases hn : isNan (dk (nm b a 8))
    · rw [show rdS b a = ((0, 0, 0), 0, 7) by rw [rdS, if_neg hb, if_neg h24, if_pos (.inl hn)]]
      exact read70_lnan b (keyS (dk (nm b a 8)) (nm b (a + 8) 8 - 9223372036854775808) (nm b (a + 16) 8 - 9223372036854775808)).1 a (nm b a 8) (a + 8) 0 (nm b (a + 8) 8 - 9223372036854775808) (a + 16) 0 (nm b (a + 16) 8 - 9223372036854775808) (a + 24) 0 (keyS (dk (nm b a 8)) (nm b (a + 8) 8 - 9223372036854775808) (nm b (a + 16) 8 - 9223372036854775808)).2 w ⟨Int.le_refl 0, Int.le_refl 0⟩ ⟨Int.le_refl 0, Int.le_refl 0⟩ ⟨Int.le_refl 0, Int.le_refl 0⟩ (decide_eq_false hl) ⟨fun w => by have h := refReadU_calls b a hs w; rw [eU] at h; exact h⟩ ⟨fun w => by have h := refReadI_calls b (a + 8) hs w; rw [eI] at h; exact h⟩ ⟨fun w => by have h := refReadI_calls b (a + 16) hs w; rw [eN] at h; exact h⟩ ⟨fun w => by rw [hx]; exact g w⟩ (by rw [keyS, if_pos hn]; decide)
    by_cases hz : dk (nm b a 8) = 9223372036854775808
    · rw [show rdS b a = ((0, 0, 0), 0, 7) by rw [rdS, if_neg hb, if_neg h24, if_pos (.inr hz)]]
      have k := key_not b a (by omega) (by omega) hz
      exact read70_lne b (keyS (dk (nm b a 8)) (nm b (a + 8) 8 - 9223372036854775808) (nm b (a + 16) 8 - 9223372036854775808)).1 a (nm b a 8) (a + 8) 0 (nm b (a + 8) 8 - 9223372036854775808) (a + 16) 0 (nm b (a + 16) 8 - 9223372036854775808) (a + 24) 0 (keyS (dk (nm b a 8)) (nm b (a + 8) 8 - 9223372036854775808) (nm b (a + 16) 8 - 9223372036854775808)).2 w ⟨Int.le_refl 0, Int.le_refl 0⟩ ⟨Int.le_refl 0, Int.le_refl 0⟩ ⟨Int.le_refl 0, Int.le_refl 0⟩ (decide_eq_false hl) ⟨fun w => by have h := refReadU_calls b a hs w; rw [eU] at h; exact h⟩ ⟨fun w => by have h := refReadI_calls b (a + 8) hs w; rw [eI] at h; exact h⟩ ⟨fun w => by have h := refReadI_calls b (a + 16) hs w; rw [eN] at h; exact h⟩ ⟨fun w => by rw [hx]; exact g w⟩ (by rw [k.1]; exact ⟨Int.le_refl 0, Int.le_refl 0⟩) (by omega) (by omega) (by omega) k.2
    · rw [show rdS b a = ((dk (nm b a 8), nm b (a + 8) 8 - 9223372036854775808, nm b (a + 16) 8 - 9223372036854775808), a + 24, 0) by rw [rdS, if_neg hb, if_neg h24, if_neg (fun h => h.elim hn hz)]]
      have k := key_read b a (by omega) (by omega) hn hz
      rw [k] at g
      have g2 := read70_lok b ⟨#[]⟩ a (nm b a 8) (a + 8) 0 (nm b (a + 8) 8 - 9223372036854775808) (a + 16) 0 (nm b (a + 16) 8 - 9223372036854775808) (a + 24) 0 0 w ⟨Int.le_refl 0, Int.le_refl 0⟩ ⟨Int.le_refl 0, Int.le_refl 0⟩ ⟨Int.le_refl 0, Int.le_refl 0⟩ (decide_eq_false hl) ⟨fun w => by have h := refReadU_calls b a hs w; rw [eU] at h; exact h⟩ ⟨fun w => by have h := refReadI_calls b (a + 8) hs w; rw [eI] at h; exact h⟩ ⟨fun w => by have h := refReadI_calls b (a + 16) hs w; rw [eN] at h; exact h⟩ ⟨fun w => by rw [hx]; exact g w⟩ ⟨Int.le_refl 0, Int.le_refl 0⟩ (by omega) (by omega) (by omega)
      rw [hx] at g2
      exact g2


set_option maxRecDepth 100000 in
set_option maxHeartbeats 2000000 in
theorem same71_calls (t : Nat) (s n : Int) (w : World) :
    Calls Try.prog 71 #[.agg #[.float .f64 t, .int .i64 s, .int .i64 n], .agg #[.float .f64 t, .int .i64 s, .int .i64 n]] w fun e w' => e = .returned (.bool true) ∧ Below w.heap.size w w' := by
  have hu2 := Try.underlying42
  have hr := run87 t
  have HB := Aside0.mk (Below.refl w.heap.size w)
  go_enter Try.func71, Try.ntmps71
  go_wp2_with fail
  go_quiet (fail)
  go_wp2_with fail
  go_ret
  exact ⟨rfl, bel⟩

end Go.Proofs.Ytlbjcdfognofgaa.StampQ
