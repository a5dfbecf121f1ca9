/- PackReads, the pure half: at every place of every string of bytes the package pack reads the number, the text and the list that the reference reads, with the same place behind it and the same fault; no condition but that the string takes at most 2^47 - 4096 bytes. -/
import Derived.Test.YtlbjcdfognofgaaPPackReadsx4
import Derived.Test.YtlbjcdfognofgaaRd
namespace Go.Proofs.Ytlbjcdfognofgaa.Pure
open Go.RowKit Go.Proofs.Ytlbjcdfognofgaa.PPackReads Go.Proofs.YtlbjcdfognofgaaW.PrintWords Go.Proofs.YtlbjcdfognofgaaW.PrintLast Go.Proofs.YtlbjcdfognofgaaW.PrintMore Go.Proofs.Ytlbjcdfognofgaa.Be

namespace PackReadsN
theorem left_is (s : ByteArray) (a n : Int) (hs : s.size ≤ 140737488351232) (k : Nat) :
    pack_left.f (k + 2) s a n = some (if a < 0 ∨ (s.size : Int) < a then 3 else if n > (s.size : Int) - a then 5 else 0) := by
  rw [pack_left.f]
  by_cases h0 : a < 0
  · rw [if_pos h0, if_pos (Or.inl h0), pack_left.j0, if_pos rfl]
  · rw [if_neg h0, pack_left.j0]
    by_cases h1 : (s.size : Int) < a
    · rw [if_pos (Or.inr h1), if_pos (by simpa using h1)]
    · rw [if_neg (show ¬ (a < 0 ∨ (s.size : Int) < a) by omega), if_neg (by simpa using h1), wrap64_in _ (by omega) (by omega)]
      split <;> rfl

theorem get64_l0 (s : ByteArray) (hs : s.size ≤ 8) : ∀ (d : Nat) (i k : Nat), i + d = s.size → d < k →
    pack_get_uint64.l0 k s (nm s 0 i) s.size i = some (nm s 0 s.size)
  | 0, i, k, h, hk => by
    obtain ⟨k, rfl⟩ : ∃ m, k = m + 1 := ⟨k - 1, by omega⟩
    rw [pack_get_uint64.l0, if_neg (by omega), show i = s.size by omega]
  | d + 1, i, k, h, hk => by
    obtain ⟨k, rfl⟩ : ∃ m, k = m + 1 := ⟨k - 1, by omega⟩
    have hr := nm_range s 0 i
    have hp := pow7 i (by omega)
    rw [pack_get_uint64.l0, if_pos (by omega), if_pos (by omega), if_pos (by omega), or_byte _ _ (by omega) (by omega) (bt_range _ _),
      wrap64_in _ (by omega) (by omega), ← get64_l0 s hs d (i + 1) k (by omega) (by omega)]
    simp only [nm, Int.zero_add]
    rfl

theorem get64_is (s : ByteArray) (hs : s.size ≤ 8) (k : Nat) : pack_get_uint64.f (k + 9) s = some (nm s 0 s.size) := by
  rw [pack_get_uint64.f]
  exact get64_l0 s hs s.size 0 (k + 9) (by omega) (by omega)

theorem get64_at (s : ByteArray) (a : Int) (h0 : 0 ≤ a) (h1 : a + 8 ≤ s.size) (k : Nat) : pack_get_uint64.f (k + 9) (s.extract a.toNat (a + 8).toNat) = some (nm s a 8) := by
  have hz : (s.extract a.toNat (a + 8).toNat).size = 8 := by rw [size_extract' _ _ _ (by omega)]; omega
  rw [get64_is _ (by omega), hz, nm_extract _ _ _ (by omega) 8 (by omega), show ((a.toNat : Nat) : Int) = a by omega]

theorem ReadU_is (s : ByteArray) (a : Int) (hs : s.size ≤ 140737488351232) (k : Nat) : pack_ReadU.f (k + 9) s a = some (rdU s a) := by
  rw [pack_ReadU.f, left_is s a 8 hs (k + 7)]
  simp only [Option.bind_some, rdU]
  by_cases h0 : a < 0 ∨ (s.size : Int) < a
  · simp only [if_pos h0]; rfl
  · simp only [if_neg h0]
    by_cases h1 : (s.size : Int) - a < 8
    · simp only [if_pos h1]; rfl
    · simp only [if_neg h1, if_true]
      rw [wrap64_in (a + 8) (by omega) (by omega), if_pos (by omega), if_pos (by omega), if_pos (by omega), get64_at s a (by omega) (by omega) k]
      rfl

theorem ReadI_is (s : ByteArray) (a : Int) (hs : s.size ≤ 140737488351232) (k : Nat) : pack_ReadI.f (k + 9) s a = some (rdI s a) := by
  rw [pack_ReadI.f, ReadU_is s a hs k]
  simp only [Option.bind_some, rdI, rdU]
  by_cases h0 : a < 0 ∨ (s.size : Int) < a
  · simp only [if_pos h0]; rfl
  · simp only [if_neg h0]
    by_cases h1 : (s.size : Int) - a < 8
    · simp only [if_pos h1]; rfl
    · simp only [if_neg h1, if_true, half_back _ (nm8 s a)]

theorem refU_l0 (s : ByteArray) (a : Int) (h0 : 0 ≤ a) (h1 : a + 8 ≤ s.size) (hs : s.size ≤ 140737488351232) : ∀ (d : Nat) (i k : Nat), i + d = 8 → d < k →
    horologeref01_ReadU.l0 k s a (nm s a i) i = some (nm s a 8, a + 8, 0)
  | 0, i, k, h, hk => by
    obtain ⟨k, rfl⟩ : ∃ m, k = m + 1 := ⟨k - 1, by omega⟩
    rw [horologeref01_ReadU.l0, if_neg (by omega), show i = 8 by omega, wrap64_in _ (by omega) (by omega)]
  | d + 1, i, k, h, hk => by
    obtain ⟨k, rfl⟩ : ∃ m, k = m + 1 := ⟨k - 1, by omega⟩
    have hr := nm_range s a i
    have hb := bt_range s (a + i)
    have hp := pow7 i (by omega)
    rw [horologeref01_ReadU.l0, if_pos (by omega), wrap64_in (a + i) (by omega) (by omega), if_pos (by omega), if_pos (by omega),
      wrap_u64_in (nm s a i * 256) (by omega) (by omega), wrap_u64_in (bt s (a + i)) (by omega) (by omega), wrap_u64_in _ (by omega) (by omega),
      wrap64_in _ (by omega) (by omega), ← refU_l0 s a h0 h1 hs d (i + 1) k (by omega) (by omega)]
    simp only [nm]
    rfl

theorem refReadU_is (s : ByteArray) (a : Int) (hs : s.size ≤ 140737488351232) (k : Nat) : horologeref01_ReadU.f (k + 10) s a = some (rdU s a) := by
  rw [horologeref01_ReadU.f, rdU]
  by_cases h0 : a < 0
  · rw [if_pos h0, horologeref01_ReadU.j0, if_pos rfl, if_pos (Or.inl h0)]
  · rw [if_neg h0, horologeref01_ReadU.j0]
    by_cases h1 : (s.size : Int) < a
    · rw [if_pos (by simpa using h1), if_pos (Or.inr h1)]
    · rw [if_neg (by simpa using h1), if_neg (show ¬ (a < 0 ∨ (s.size : Int) < a) by omega), wrap64_in _ (by omega) (by omega)]
      split
      · rfl
      · exact refU_l0 s a (by omega) (by omega) hs 8 0 (k + 9) (by omega) (by omega)

theorem refReadI_is (s : ByteArray) (a : Int) (hs : s.size ≤ 140737488351232) (k : Nat) : horologeref01_ReadI.f (k + 10) s a = some (rdI s a) := by
  rw [horologeref01_ReadI.f, refReadU_is s a hs k]
  simp only [Option.bind_some, rdI, rdU]
  by_cases h0 : a < 0 ∨ (s.size : Int) < a
  · simp only [if_pos h0]; rfl
  · simp only [if_neg h0]
    by_cases h1 : (s.size : Int) - a < 8
    · simp only [if_pos h1]; rfl
    · simp only [if_neg h1, if_true, half_back' _ (nm8 s a)]

theorem getInt_at (s : ByteArray) (a : Int) (h0 : 0 ≤ a) (h1 : a + 2 ≤ s.size) (k : Nat) : pack_get_int.f (k + 9) (s.extract a.toNat (a + 2).toNat) = some (nm s a 2) := by
  have hz : (s.extract a.toNat (a + 2).toNat).size = 2 := by rw [size_extract' _ _ _ (by omega)]; omega
  have e0 : bt (s.extract a.toNat (a + 2).toNat) 0 = bt s (a + (0 : Nat)) := by rw [bt_extract _ _ _ _ (by omega) (by omega) (by omega)]; congr 1; omega
  have e1 : bt (s.extract a.toNat (a + 2).toNat) 1 = bt s (a + (1 : Nat)) := by rw [bt_extract _ _ _ _ (by omega) (by omega) (by omega)]; congr 1; omega
  have b0 := bt_range s (a + (0 : Nat))
  have b1 := bt_range s (a + (1 : Nat))
  rw [pack_get_int.f, hz]
  rw [pack_get_int.l0, if_pos (by decide), if_pos (by decide), if_pos (by omega), e0, or_byte _ _ (by omega) (by omega) b0, show wrap64 (0 + 1) = 1 from by unfold wrap64; omega]
  rw [pack_get_int.l0, if_pos (by decide), if_pos (by decide), if_pos (by omega), e1, or_byte _ _ (by omega) (by omega) b1, show wrap64 (1 + 1) = 2 from by unfold wrap64; omega]
  rw [pack_get_int.l0, if_neg (by decide), wrap64_in _ (by omega) (by omega)]
  simp only [nm]

theorem count_is (s : ByteArray) (a most : Int) (hs : s.size ≤ 140737488351232) (k : Nat) : pack_count.f (k + 9) s a most = some (cnt s a most) := by
  rw [pack_count.f, left_is s a 2 hs (k + 7)]
  simp only [Option.bind_some, cnt]
  by_cases h0 : a < 0 ∨ (s.size : Int) < a
  · simp only [if_pos h0]; rfl
  · simp only [if_neg h0]
    by_cases h1 : (s.size : Int) - a < 2
    · simp only [if_pos h1]; rfl
    · simp only [if_neg h1, if_true]
      rw [wrap64_in (a + 2) (by omega) (by omega), if_pos (by omega), if_pos (by omega), if_pos (by omega), getInt_at s a (by omega) (by omega) k]
      simp only [Option.bind_some]
      split <;> rfl

theorem ReadText_is (s : ByteArray) (a : Int) (hs : s.size ≤ 140737488351232) (k : Nat) : pack_ReadText.f (k + 9) s a = some (rdText s a) := by
  have hn := nm2 s a
  rw [pack_ReadText.f, count_is s a 4096 hs k]
  simp only [Option.bind_some, cnt, rdText]
  by_cases h0 : a < 0 ∨ (s.size : Int) < a
  · simp only [if_pos h0]; rfl
  · simp only [if_neg h0]
    by_cases h1 : (s.size : Int) - a < 2
    · simp only [if_pos h1]; rfl
    · simp only [if_neg h1]
      by_cases h2 : nm s a 2 > 4096
      · simp only [if_pos h2]; rfl
      · simp only [if_neg h2, if_true]
        rw [left_is s (a + 2) _ hs (k + 7)]
        rw [if_neg (by omega)]
        by_cases h3 : nm s a 2 > (s.size : Int) - a - 2
        · rw [if_pos (by omega), if_pos h3]; rfl
        · rw [if_neg (by omega), if_neg h3]
          simp only [Option.bind_some, if_true]
          rw [wrap64_in (a + 2 + nm s a 2) (by omega) (by omega), if_pos (by omega), if_pos (by omega), if_pos (by omega)]

theorem readList_l0 (s : ByteArray) (c a : Int) (n : Nat) (hs : s.size ≤ 140737488351232) (h0 : 0 ≤ a) (h1 : a + 8 * n ≤ s.size) (hn : n ≤ 512) (hc : c = n) : ∀ (d i k : Nat), i + d = n → d < k →
    pack_ReadList.l0 (k + 9) s c a (nums8 s a i) n i = some (nums8 s a n, a + 8 * n, 0)
  | 0, i, k, h, hk => by
    obtain ⟨k, rfl⟩ : ∃ m, k = m + 1 := ⟨k - 1, by omega⟩
    rw [show k + 1 + 9 = (k + 9) + 1 by omega, pack_ReadList.l0, if_neg (by omega), show i = n by omega, hc, wrap64_in (8 * n) (by omega) (by omega), wrap64_in _ (by omega) (by omega)]
  | d + 1, i, k, h, hk => by
    obtain ⟨k, rfl⟩ : ∃ m, k = m + 1 := ⟨k - 1, by omega⟩
    rw [show k + 1 + 9 = (k + 9) + 1 by omega, pack_ReadList.l0, if_pos (by omega), wrap64_in (8 * i) (by omega) (by omega), wrap64_in (a + 8 * i) (by omega) (by omega),
      wrap64_in (a + 8 * i + 8) (by omega) (by omega), if_pos (by omega), if_pos (by omega), if_pos (by omega), get64_at s _ (by omega) (by omega) k]
    simp only [Option.bind_some]
    rw [if_pos (by rw [nums8_length]; omega), half_back _ (nm8 s _), wrap64_in (i + 1) (by omega) (by omega), ← readList_l0 s c a n hs h0 h1 hn hc d (i + 1) k (by omega) (by omega), nums8_succ]
    rfl

theorem ReadList_is (s : ByteArray) (a : Int) (hs : s.size ≤ 140737488351232) (k : Nat) : pack_ReadList.f (k + 600) s a = some (rdList s a) := by
  have hn := nm2 s a
  rw [pack_ReadList.f, count_is s a 512 hs (k + 591)]
  simp only [Option.bind_some, cnt, rdList]
  by_cases h0 : a < 0 ∨ (s.size : Int) < a
  · simp only [if_pos h0]; rfl
  · simp only [if_neg h0]
    by_cases h1 : (s.size : Int) - a < 2
    · simp only [if_pos h1]; rfl
    · simp only [if_neg h1]
      by_cases h2 : nm s a 2 > 512
      · simp only [if_pos h2]; rfl
      · simp only [if_neg h2, if_true]
        rw [wrap64_in (8 * nm s a 2) (by omega) (by omega), left_is s (a + 2) _ hs (k + 598)]
        rw [if_neg (by omega)]
        by_cases h3 : 8 * nm s a 2 > (s.size : Int) - a - 2
        · rw [if_pos (by omega), if_pos h3]; rfl
        · rw [if_neg (by omega), if_neg h3]
          simp only [Option.bind_some]
          rw [pack_ReadList.j0, if_pos rfl]
          have e := readList_l0 s (nm s a 2) (a + 2) (nm s a 2).toNat hs (by omega) (by omega) (by omega) (by omega) (nm s a 2).toNat 0 (k + 590) (by omega) (by omega)
          rw [show (((nm s a 2).toNat : Nat) : Int) = nm s a 2 by omega] at e
          exact e

theorem ints_l0 (x : List Int) (hx : x.length ≤ 140737488351232) : ∀ (d i k : Nat), i + d = x.length → d < k → horologeref01_Ints.l0 k x x i = some true
  | 0, i, k, h, hk => by
    obtain ⟨k, rfl⟩ : ∃ m, k = m + 1 := ⟨k - 1, by omega⟩
    rw [horologeref01_Ints.l0, if_neg (by omega)]
  | d + 1, i, k, h, hk => by
    obtain ⟨k, rfl⟩ : ∃ m, k = m + 1 := ⟨k - 1, by omega⟩
    rw [horologeref01_Ints.l0, if_pos (by omega), if_pos (by omega), if_pos (by omega), if_pos rfl, wrap64_in _ (by omega) (by omega)]
    exact ints_l0 x hx d (i + 1) k (by omega) (by omega)

theorem ints_same (x : List Int) (hx : x.length ≤ 140737488351232) (k : Nat) (hk : x.length < k) : horologeref01_Ints.f k x x = some true := by
  rw [horologeref01_Ints.f, if_pos rfl]
  exact ints_l0 x hx x.length 0 k (by omega) hk

theorem refReadText_is (s : ByteArray) (a : Int) (hs : s.size ≤ 140737488351232) (k : Nat) : horologeref01_ReadText.f (k + 1) s a = some (rdText s a) := by
  rw [horologeref01_ReadText.f, rdText]
  by_cases h0 : a < 0
  · rw [if_pos h0, horologeref01_ReadText.j0, if_pos rfl, if_pos (Or.inl h0)]
  · rw [if_neg h0, horologeref01_ReadText.j0]
    by_cases h1 : (s.size : Int) < a
    · rw [if_pos (by simpa using h1), if_pos (Or.inr h1)]
    · rw [if_neg (by simpa using h1), if_neg (show ¬ (a < 0 ∨ (s.size : Int) < a) by omega), wrap64_in _ (by omega) (by omega)]
      by_cases h2 : (s.size : Int) - a < 2
      · rw [if_pos h2, if_pos h2]
      · have b0 := bt_range s a
        have b1 := bt_range s (a + 1)
        have e : nm s a 2 = bt s a * 256 + bt s (a + 1) := by simp [nm]
        rw [if_neg h2, if_neg h2, if_pos (by omega), if_pos (by omega), wrap64_in (a + 1) (by omega) (by omega), if_pos (by omega), if_pos (by omega),
          wrap64_in (bt s a) (by omega) (by omega), wrap64_in (bt s (a + 1)) (by omega) (by omega), wrap64_in (bt s a * 256) (by omega) (by omega), wrap64_in (bt s a * 256 + bt s (a + 1)) (by omega) (by omega), ← e]
        split
        · rfl
        · rw [wrap64_in _ (by omega) (by omega)]
          split
          · rfl
          · rw [wrap64_in (a + 2) (by omega) (by omega), if_pos (by omega), wrap64_in (a + 2 + nm s a 2) (by omega) (by omega), if_pos (by omega), if_pos (by omega)]

theorem refList_l0 (s : ByteArray) (a : Int) (n : Nat) (hs : s.size ≤ 140737488351232) (h0 : 0 ≤ a) (h1 : a + 2 + 8 * n ≤ s.size) (hn : n ≤ 512) : ∀ (d i k : Nat), i + d = n → d < k →
    horologeref01_ReadList.l0 (k + 10) s a n (nums8 s (a + 2) i) i = some (nums8 s (a + 2) n, a + 2 + 8 * n, 0)
  | 0, i, k, h, hk => by
    obtain ⟨k, rfl⟩ : ∃ m, k = m + 1 := ⟨k - 1, by omega⟩
    rw [show k + 1 + 10 = (k + 10) + 1 by omega, horologeref01_ReadList.l0, if_neg (by omega), show i = n by omega, wrap64_in (8 * n) (by omega) (by omega), wrap64_in (a + 2) (by omega) (by omega), wrap64_in _ (by omega) (by omega)]
  | d + 1, i, k, h, hk => by
    obtain ⟨k, rfl⟩ : ∃ m, k = m + 1 := ⟨k - 1, by omega⟩
    rw [show k + 1 + 10 = (k + 10) + 1 by omega, horologeref01_ReadList.l0, if_pos (by omega), wrap64_in (8 * i) (by omega) (by omega), wrap64_in (a + 2) (by omega) (by omega),
      wrap64_in (a + 2 + 8 * i) (by omega) (by omega), refReadI_is s _ hs k]
    have e : rdI s (a + 2 + 8 * i) = (nm s (a + 2 + 8 * i) 8 - 9223372036854775808, a + 2 + 8 * i + 8, 0) := by rw [rdI, if_neg (by omega), if_neg (by omega)]
    rw [e]
    simp only [Option.bind_some]
    rw [if_pos (by rw [nums8_length]; omega), wrap64_in (i + 1) (by omega) (by omega), ← refList_l0 s a n hs h0 h1 hn d (i + 1) k (by omega) (by omega), nums8_succ]
    rfl

theorem refReadList_is (s : ByteArray) (a : Int) (hs : s.size ≤ 140737488351232) (k : Nat) : horologeref01_ReadList.f (k + 600) s a = some (rdList s a) := by
  rw [horologeref01_ReadList.f, rdList]
  by_cases h0 : a < 0
  · rw [if_pos h0, horologeref01_ReadList.j0, if_pos rfl, if_pos (Or.inl h0)]
  · rw [if_neg h0, horologeref01_ReadList.j0]
    by_cases h1 : (s.size : Int) < a
    · rw [if_pos (by simpa using h1), if_pos (Or.inr h1)]
    · rw [if_neg (by simpa using h1), if_neg (show ¬ (a < 0 ∨ (s.size : Int) < a) by omega), wrap64_in _ (by omega) (by omega)]
      by_cases h2 : (s.size : Int) - a < 2
      · rw [if_pos h2, if_pos h2]
      · have b0 := bt_range s a
        have b1 := bt_range s (a + 1)
        have e : nm s a 2 = bt s a * 256 + bt s (a + 1) := by simp [nm]
        rw [if_neg h2, if_neg h2, if_pos (by omega), if_pos (by omega), wrap64_in (a + 1) (by omega) (by omega), if_pos (by omega), if_pos (by omega),
          wrap64_in (bt s a) (by omega) (by omega), wrap64_in (bt s (a + 1)) (by omega) (by omega), wrap64_in (bt s a * 256) (by omega) (by omega), wrap64_in (bt s a * 256 + bt s (a + 1)) (by omega) (by omega), ← e]
        split
        · rfl
        · rw [wrap64_in (8 * nm s a 2) (by omega) (by omega), wrap64_in ((s.size : Int) - a - 2) (by omega) (by omega)]
          split
          · rfl
          · have f := refList_l0 s a (nm s a 2).toNat hs (by omega) (by omega) (by omega) (nm s a 2).toNat 0 (k + 589) (by omega) (by omega)
            rw [show (((nm s a 2).toNat : Nat) : Int) = nm s a 2 by omega] at f
            exact f

theorem awakes : horologelaw01_awake.f 700 = some true := at_rounds (g := horologelaw01_awake.f) horologelaw01_awake.mono (show 20 ≤ 700 by decide) (by decide +kernel)
end PackReadsN
open PackReadsN

theorem PackReads : horologelaw01_PackReads.Pure := by
  intro s a hs ha
  refine ⟨700, ?_⟩
  have hl : (rdList s a).1.length ≤ 512 := by
    have hn := nm2 s a
    unfold rdList
    split
    · simp
    · split
      · simp
      · split
        · simp
        · split
          · simp
          · simp only [nums8_length]; omega
  rw [horologelaw01_PackReads.f, ReadU_is s a hs 691, refReadU_is s a hs 690]
  simp only [Option.bind_some, if_true]
  rw [awakes]
  simp only [Option.bind_some]
  rw [horologelaw01_PackReads.j0, if_neg (by decide), ReadI_is s a hs 690, refReadI_is s a hs 689]
  simp only [Option.bind_some, if_true, bne_self_eq_false]
  rw [horologelaw01_PackReads.j1, if_neg (by decide), ReadText_is s a hs 689, refReadText_is s a hs 697]
  simp only [Option.bind_some, if_true, bne_self_eq_false]
  rw [horologelaw01_PackReads.j2, if_neg (by decide), ReadList_is s a hs 97, refReadList_is s a hs 97]
  simp only [Option.bind_some]
  rw [ints_same _ (by omega) 697 (by omega)]
  simp

end Go.Proofs.Ytlbjcdfognofgaa.Pure
