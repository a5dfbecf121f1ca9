/- What the functions of the package pack and of its reference come to, as contracts in plain words (over the print of StampKeys' callees). -/
import Derived.Test.YtlbjcdfognofgaaPStampKeysx1
import Derived.Test.YtlbjcdfognofgaaPStampKeysx2
import Derived.Test.YtlbjcdfognofgaaRd
namespace Go.Proofs.Ytlbjcdfognofgaa.SRec
open Go.RowKit Go.Proofs.Ytlbjcdfognofgaa.PStampKeys Go.Proofs.YtlbjcdfognofgaaW.PrintWords Go.Proofs.YtlbjcdfognofgaaW.PrintLast Go.Proofs.YtlbjcdfognofgaaW.PrintMore Go.Proofs.Ytlbjcdfognofgaa.Be

theorem put8 (n : Int) (k : Nat) : pack_put_uint64.f (k + 9) [] n 8 = some (be8 n) := by
  simp [pack_put_uint64.f, pack_put_uint64.l0, wrap64, shr, be8, IntKind.bits]

theorem put8_on (l : List Int) (hl : l.length < 100000) (n : Int) (k : Nat) : pack_put_uint64.f (k + 9) l n 8 = some (l ++ be8 n) := by
  have h : ∀ j : Nat, j ≤ 8 → l.length + j < 140737488355328 := by intro j hj; omega
  have h1 := h 1 (by decide)
  have h2 := h 2 (by decide)
  have h3 := h 3 (by decide)
  have h4 := h 4 (by decide)
  have h5 := h 5 (by decide)
  have h6 := h 6 (by decide)
  have h7 := h 7 (by decide)
  have h0 : l.length < 140737488355328 := by omega
  simp [pack_put_uint64.f, pack_put_uint64.l0, wrap64, shr, be8, IntKind.bits, h0, h1, h2, h3, h4, h5, h6, h7]

theorem U_is (n : Int) (k : Nat) : pack_U.f (k + 9) n = some (strOfNums (be8 n)) := by
  rw [pack_U.f, put8]; rfl

theorem I_is (n : Int) (h : -9223372036854775808 ≤ n ∧ n < 9223372036854775808) (k : Nat) : pack_I.f (k + 9) n = some (strOfNums (be8 (n + 9223372036854775808))) := by
  rw [pack_I.f, put8, half_wrap n h]; rfl

theorem left_is (s : ByteArray) (a n : Int) (hs : s.size ≤ 140737488351232) (k : Nat) :
    pack_left.f (k + 2) s a n = some (if a < 0 ∨ (s.size : Int) < a then 3 else if n > (s.size : Int) - a then 5 else 0) := by
  rw [pack_left.f]
  by_cases h0 : a < 0
  · rw [if_pos h0, if_pos (Or.inl h0), pack_left.j0, if_pos rfl]
  · rw [if_neg h0, pack_left.j0]
    by_cases h1 : (s.size : Int) < a
    · rw [if_pos (Or.inr h1), if_pos (by simpa using h1)]
    · rw [if_neg (show ¬ (a < 0 ∨ (s.size : Int) < a) by omega), if_neg (by simpa using h1), wrap64_in _ (by omega) (by omega)]
      split <;> rfl

theorem get64_l0 (s : ByteArray) (hs : s.size ≤ 8) : ∀ (d : Nat) (i k : Nat), i + d = s.size → d < k →
    pack_get_uint64.l0 k s (nm s 0 i) s.size i = some (nm s 0 s.size)
  | 0, i, k, h, hk => by
    obtain ⟨k, rfl⟩ : ∃ m, k = m + 1 := ⟨k - 1, by omega⟩
    rw [pack_get_uint64.l0, if_neg (by omega), show i = s.size by omega]
  | d + 1, i, k, h, hk => by
    obtain ⟨k, rfl⟩ : ∃ m, k = m + 1 := ⟨k - 1, by omega⟩
    have hr := nm_range s 0 i
    have hp := pow7 i (by omega)
    rw [pack_get_uint64.l0, if_pos (by omega), if_pos (by omega), if_pos (by omega), or_byte _ _ (by omega) (by omega) (bt_range _ _),
      wrap64_in _ (by omega) (by omega), ← get64_l0 s hs d (i + 1) k (by omega) (by omega)]
    simp only [nm, Int.zero_add]
    rfl

theorem get64_is (s : ByteArray) (hs : s.size ≤ 8) (k : Nat) : pack_get_uint64.f (k + 9) s = some (nm s 0 s.size) := by
  rw [pack_get_uint64.f]
  exact get64_l0 s hs s.size 0 (k + 9) (by omega) (by omega)

theorem get64_at (s : ByteArray) (a : Int) (h0 : 0 ≤ a) (h1 : a + 8 ≤ s.size) (k : Nat) : pack_get_uint64.f (k + 9) (s.extract a.toNat (a + 8).toNat) = some (nm s a 8) := by
  have hz : (s.extract a.toNat (a + 8).toNat).size = 8 := by rw [size_extract' _ _ _ (by omega)]; omega
  rw [get64_is _ (by omega), hz, nm_extract _ _ _ (by omega) 8 (by omega), show ((a.toNat : Nat) : Int) = a by omega]

theorem ReadU_is (s : ByteArray) (a : Int) (hs : s.size ≤ 140737488351232) (k : Nat) : pack_ReadU.f (k + 9) s a = some (rdU s a) := by
  rw [pack_ReadU.f, left_is s a 8 hs (k + 7)]
  simp only [Option.bind_some, rdU]
  by_cases h0 : a < 0 ∨ (s.size : Int) < a
  · simp only [if_pos h0]; rfl
  · simp only [if_neg h0]
    by_cases h1 : (s.size : Int) - a < 8
    · simp only [if_pos h1]; rfl
    · simp only [if_neg h1, if_true]
      rw [wrap64_in (a + 8) (by omega) (by omega), if_pos (by omega), if_pos (by omega), if_pos (by omega), get64_at s a (by omega) (by omega) k]
      rfl

theorem ReadI_is (s : ByteArray) (a : Int) (hs : s.size ≤ 140737488351232) (k : Nat) : pack_ReadI.f (k + 9) s a = some (rdI s a) := by
  rw [pack_ReadI.f, ReadU_is s a hs k]
  simp only [Option.bind_some, rdI, rdU]
  by_cases h0 : a < 0 ∨ (s.size : Int) < a
  · simp only [if_pos h0]; rfl
  · simp only [if_neg h0]
    by_cases h1 : (s.size : Int) - a < 8
    · simp only [if_pos h1]; rfl
    · simp only [if_neg h1, if_true, half_back _ (nm8 s a)]

theorem refU_is (n : Int) (h0 : 0 ≤ n) (h1 : n < 18446744073709551616) (k : Nat) : horologeref01_U.f (k + 9) n = some (strOfNums (be8 n)) := by
  have hw : ∀ x : Int, 0 ≤ x → x < 18446744073709551616 → IntKind.u64.wrap (Int.tdiv x 256) = x / 256 := by
    intro x a b
    rw [Int.tdiv_eq_ediv_of_nonneg a, wrap_u64_in _ (by omega) (by omega)]
  have hm : ∀ x : Int, 0 ≤ x → Int.tmod x 256 % 256 = x % 256 := by
    intro x a
    rw [Int.tmod_eq_emod_of_nonneg a]; omega
  have step : ∀ (j : Nat) (x : Int) (l : List Int) (i : Int), 0 ≤ x → x < 18446744073709551616 → 0 ≤ i → i < 8 → l.length < 100 →
      horologeref01_U.l0 (j + 1) x l i = horologeref01_U.l0 j (x / 256) (x % 256 :: l) (i + 1) := by
    intro j x l i a b c d e
    rw [horologeref01_U.l0, if_pos d, hw x a b, hm x a]
    simp only [Option.bind_some, List.length_cons, List.length_nil, List.cons_append, List.nil_append]
    rw [if_pos (by omega), show wrap64 (i + 1) = i + 1 by unfold wrap64; omega]
  rw [horologeref01_U.f, be8_bek]
  rw [step _ _ _ _ (by omega) (by omega) (by omega) (by omega) (by simp), step _ _ _ _ (by omega) (by omega) (by omega) (by omega) (by simp),
    step _ _ _ _ (by omega) (by omega) (by omega) (by omega) (by simp), step _ _ _ _ (by omega) (by omega) (by omega) (by omega) (by simp),
    step _ _ _ _ (by omega) (by omega) (by omega) (by omega) (by simp), step _ _ _ _ (by omega) (by omega) (by omega) (by omega) (by simp),
    step _ _ _ _ (by omega) (by omega) (by omega) (by omega) (by simp), step _ _ _ _ (by omega) (by omega) (by omega) (by omega) (by simp)]
  rw [horologeref01_U.l0, if_neg (by omega)]
  simp only [bek, List.nil_append, List.cons_append]

theorem refI_is (n : Int) (h : -9223372036854775808 ≤ n ∧ n < 9223372036854775808) (k : Nat) : horologeref01_I.f (k + 9) n = some (strOfNums (be8 (n + 9223372036854775808))) := by
  rw [horologeref01_I.f, half_wrap n h, refU_is _ (by omega) (by omega)]; rfl

theorem refU_l0 (s : ByteArray) (a : Int) (h0 : 0 ≤ a) (h1 : a + 8 ≤ s.size) (hs : s.size ≤ 140737488351232) : ∀ (d : Nat) (i k : Nat), i + d = 8 → d < k →
    horologeref01_ReadU.l0 k s a (nm s a i) i = some (nm s a 8, a + 8, 0)
  | 0, i, k, h, hk => by
    obtain ⟨k, rfl⟩ : ∃ m, k = m + 1 := ⟨k - 1, by omega⟩
    rw [horologeref01_ReadU.l0, if_neg (by omega), show i = 8 by omega, wrap64_in _ (by omega) (by omega)]
  | d + 1, i, k, h, hk => by
    obtain ⟨k, rfl⟩ : ∃ m, k = m + 1 := ⟨k - 1, by omega⟩
    have hr := nm_range s a i
    have hb := bt_range s (a + i)
    have hp := pow7 i (by omega)
    rw [horologeref01_ReadU.l0, if_pos (by omega), wrap64_in (a + i) (by omega) (by omega), if_pos (by omega), if_pos (by omega),
      wrap_u64_in (nm s a i * 256) (by omega) (by omega), wrap_u64_in (bt s (a + i)) (by omega) (by omega), wrap_u64_in _ (by omega) (by omega),
      wrap64_in _ (by omega) (by omega), ← refU_l0 s a h0 h1 hs d (i + 1) k (by omega) (by omega)]
    simp only [nm]
    rfl

theorem refReadU_is (s : ByteArray) (a : Int) (hs : s.size ≤ 140737488351232) (k : Nat) : horologeref01_ReadU.f (k + 10) s a = some (rdU s a) := by
  rw [horologeref01_ReadU.f, rdU]
  by_cases h0 : a < 0
  · rw [if_pos h0, horologeref01_ReadU.j0, if_pos rfl, if_pos (Or.inl h0)]
  · rw [if_neg h0, horologeref01_ReadU.j0]
    by_cases h1 : (s.size : Int) < a
    · rw [if_pos (by simpa using h1), if_pos (Or.inr h1)]
    · rw [if_neg (by simpa using h1), if_neg (show ¬ (a < 0 ∨ (s.size : Int) < a) by omega), wrap64_in _ (by omega) (by omega)]
      split
      · rfl
      · exact refU_l0 s a (by omega) (by omega) hs 8 0 (k + 9) (by omega) (by omega)

theorem refReadI_is (s : ByteArray) (a : Int) (hs : s.size ≤ 140737488351232) (k : Nat) : horologeref01_ReadI.f (k + 10) s a = some (rdI s a) := by
  rw [horologeref01_ReadI.f, refReadU_is s a hs k]
  simp only [Option.bind_some, rdI, rdU]
  by_cases h0 : a < 0 ∨ (s.size : Int) < a
  · simp only [if_pos h0]; rfl
  · simp only [if_neg h0]
    by_cases h1 : (s.size : Int) - a < 8
    · simp only [if_pos h1]; rfl
    · simp only [if_neg h1, if_true, half_back' _ (nm8 s a)]

theorem U_calls (n : Int) (w : World) : Calls Try.prog 23 #[.int .u64 n] w fun e w' => e = .returned (.string (strOfNums (be8 n))) ∧ Below w.heap.size w w' :=
  pack_U.calls 9 n _ w (U_is n 0)

theorem I_calls (n : Int) (h : -9223372036854775808 ≤ n ∧ n < 9223372036854775808) (w : World) :
    Calls Try.prog 25 #[.int .i64 n] w fun e w' => e = .returned (.string (strOfNums (be8 (n + 9223372036854775808)))) ∧ Below w.heap.size w w' :=
  pack_I.calls 9 n _ w (I_is n h 0)

theorem refU_calls (n : Int) (h : 0 ≤ n ∧ n < 18446744073709551616) (w : World) : Calls Try.prog 24 #[.int .u64 n] w fun e w' => e = .returned (.string (strOfNums (be8 n))) ∧ Below w.heap.size w w' :=
  horologeref01_U.calls 9 n _ w (refU_is n h.1 h.2 0)

theorem refI_calls (n : Int) (h : -9223372036854775808 ≤ n ∧ n < 9223372036854775808) (w : World) :
    Calls Try.prog 26 #[.int .i64 n] w fun e w' => e = .returned (.string (strOfNums (be8 (n + 9223372036854775808)))) ∧ Below w.heap.size w w' :=
  horologeref01_I.calls 9 n _ w (refI_is n h 0)

theorem ReadU_calls (s : ByteArray) (a : Int) (hs : s.size ≤ 140737488351232) (w : World) :
    Calls Try.prog 48 #[.string s, .int .i64 a] w fun e w' => e = .returned (.tuple #[.int .u64 (rdU s a).1, .int .i64 (rdU s a).2.1, .int .i64 (rdU s a).2.2]) ∧ Below w.heap.size w w' :=
  (pack_ReadU.calls 9 s a _ _ _ w (ReadU_is s a hs 0)).mono fun _ _ h => ⟨h.1, h.2.below⟩

theorem ReadI_calls (s : ByteArray) (a : Int) (hs : s.size ≤ 140737488351232) (w : World) :
    Calls Try.prog 50 #[.string s, .int .i64 a] w fun e w' => e = .returned (.tuple #[.int .i64 (rdI s a).1, .int .i64 (rdI s a).2.1, .int .i64 (rdI s a).2.2]) ∧ Below w.heap.size w w' :=
  (pack_ReadI.calls 9 s a _ _ _ w (ReadI_is s a hs 0)).mono fun _ _ h => ⟨h.1, h.2.below⟩

theorem refReadU_calls (s : ByteArray) (a : Int) (hs : s.size ≤ 140737488351232) (w : World) :
    Calls Try.prog 49 #[.string s, .int .i64 a] w fun e w' => e = .returned (.tuple #[.int .u64 (rdU s a).1, .int .i64 (rdU s a).2.1, .int .i64 (rdU s a).2.2]) ∧ Below w.heap.size w w' :=
  (horologeref01_ReadU.calls 10 s a _ _ _ w (refReadU_is s a hs 0)).mono fun _ _ h => ⟨h.1, h.2.below⟩

theorem refReadI_calls (s : ByteArray) (a : Int) (hs : s.size ≤ 140737488351232) (w : World) :
    Calls Try.prog 51 #[.string s, .int .i64 a] w fun e w' => e = .returned (.tuple #[.int .i64 (rdI s a).1, .int .i64 (rdI s a).2.1, .int .i64 (rdI s a).2.2]) ∧ Below w.heap.size w w' :=
  (horologeref01_ReadI.calls 10 s a _ _ _ w (refReadI_is s a hs 0)).mono fun _ _ h => ⟨h.1, h.2.below⟩

end Go.Proofs.Ytlbjcdfognofgaa.SRec
