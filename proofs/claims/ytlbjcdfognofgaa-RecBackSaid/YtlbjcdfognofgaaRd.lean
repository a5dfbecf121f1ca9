/- Plain lemmas, no program in sight: what bytes at a place are as a number, a text, a list. -/
import Derived.Test.YtlbjcdfognofgaaBe
namespace Go.Proofs.Ytlbjcdfognofgaa.Be
open Go.RowKit Go.Proofs.YtlbjcdfognofgaaW.PrintWords Go.Proofs.YtlbjcdfognofgaaW.PrintLast Go.Proofs.YtlbjcdfognofgaaW.PrintMore

/-- The number of k bytes from a place on. -/
def nm (s : ByteArray) (a : Int) : Nat → Int
  | 0 => 0
  | k + 1 => nm s a k * 256 + bt s (a + k)

theorem nm_range (s : ByteArray) (a : Int) : ∀ k, 0 ≤ nm s a k ∧ nm s a k < 256 ^ k
  | 0 => by simp [nm]
  | k + 1 => by
    have h := nm_range s a k
    have b := bt_range s (a + k)
    rw [Int.pow_succ]
    simp only [nm]
    omega

theorem nm8 (s : ByteArray) (a : Int) : 0 ≤ nm s a 8 ∧ nm s a 8 < 18446744073709551616 := by
  have h := nm_range s a 8
  simp only [Int.reducePow] at h
  exact h

theorem nm2 (s : ByteArray) (a : Int) : 0 ≤ nm s a 2 ∧ nm s a 2 < 65536 := by
  have h := nm_range s a 2
  simp only [Int.reducePow] at h
  exact h

theorem bt_extract (s : ByteArray) (a b : Nat) (i : Int) (h0 : 0 ≤ i) (h1 : a + i < b) (_h2 : b ≤ s.size) : bt (s.extract a b) i = bt s (a + i) := by
  rw [extract_bn, bt_strOfNums, bt_bn]
  · rw [List.getD_eq_getElem?_getD, List.getD_eq_getElem?_getD, List.getElem?_take, if_pos (by omega), List.getElem?_drop]
    congr 2
    omega
  · intro x hx
    exact bn_range s x (List.mem_of_mem_drop (List.mem_of_mem_take hx))

theorem nm_extract (s : ByteArray) (a b : Nat) (h2 : b ≤ s.size) : ∀ (k : Nat), a + k ≤ b → nm (s.extract a b) 0 k = nm s a k
  | 0, _ => rfl
  | k + 1, h => by
    simp only [nm]
    rw [nm_extract s a b h2 k (by omega), bt_extract s a b _ (by omega) (by omega) h2]
    simp

theorem size_extract' (s : ByteArray) (a b : Nat) (h : b ≤ s.size) : (s.extract a b).size = b - a := by
  rw [ByteArray.size_extract]; omega

/-- The bytes that a number was read from. -/
theorem nm_drop (s : ByteArray) (a : Nat) (h : a + 8 ≤ s.size) : be8 (nm s a 8) = ((bn s).drop a).take 8 := by
  have hl : ((bn s).drop a).length = s.size - a := by rw [List.length_drop, bn_length]
  have e : ∀ i : Nat, i < 8 → (((bn s).drop a).take 8)[i]? = some (bt s (a + i)) := by
    intro i hi
    rw [bt_bn, List.getElem?_take, if_pos hi, List.getElem?_drop, show ((a : Int) + i).toNat = a + i by omega, List.getD_eq_getElem?_getD,
      List.getElem?_eq_getElem (by rw [bn_length]; omega)]
    rfl
  have hr : ∀ i : Nat, 0 ≤ bt s (a + i) ∧ bt s (a + i) ≤ 255 := fun i => bt_range s _
  have e2 : ((bn s).drop a).take 8 = [bt s (a + (0 : Nat)), bt s (a + (1 : Nat)), bt s (a + (2 : Nat)), bt s (a + (3 : Nat)), bt s (a + (4 : Nat)), bt s (a + (5 : Nat)), bt s (a + (6 : Nat)), bt s (a + (7 : Nat))] := by
    apply List.ext_getElem?
    intro i
    by_cases hi : i < 8
    · rw [e i hi]
      match i, hi with
      | 0, _ => rfl
      | 1, _ => rfl
      | 2, _ => rfl
      | 3, _ => rfl
      | 4, _ => rfl
      | 5, _ => rfl
      | 6, _ => rfl
      | 7, _ => rfl
    · rw [List.getElem?_eq_none (by rw [List.length_take]; omega), List.getElem?_eq_none (by simp; omega)]
  rw [e2, ← be8_val8 _ _ _ _ _ _ _ _ (hr 0) (hr 1) (hr 2) (hr 3) (hr 4) (hr 5) (hr 6) (hr 7)]
  simp only [val, List.foldl, nm, Int.zero_mul, Int.zero_add]

/-- A number at a place of bytes: it, the place behind it, what is wrong. -/
def rdU (s : ByteArray) (a : Int) : Int × Int × Int :=
  if a < 0 ∨ (s.size : Int) < a then (0, 0, 3) else if (s.size : Int) - a < 8 then (0, 0, 5) else (nm s a 8, a + 8, 0)

def rdI (s : ByteArray) (a : Int) : Int × Int × Int :=
  if a < 0 ∨ (s.size : Int) < a then (0, 0, 3) else if (s.size : Int) - a < 8 then (0, 0, 5) else (nm s a 8 - 9223372036854775808, a + 8, 0)

/-- How many there are: at most so many. -/
def cnt (s : ByteArray) (a most : Int) : Int × Int × Int :=
  if a < 0 ∨ (s.size : Int) < a then (0, 0, 3) else if (s.size : Int) - a < 2 then (0, 0, 5) else if nm s a 2 > most then (0, 0, 4) else (nm s a 2, a + 2, 0)

def rdText (s : ByteArray) (a : Int) : ByteArray × Int × Int :=
  if a < 0 ∨ (s.size : Int) < a then (⟨#[]⟩, 0, 3) else if (s.size : Int) - a < 2 then (⟨#[]⟩, 0, 5) else if nm s a 2 > 4096 then (⟨#[]⟩, 0, 4)
  else if nm s a 2 > (s.size : Int) - a - 2 then (⟨#[]⟩, 0, 5) else (s.extract (a + 2).toNat (a + 2 + nm s a 2).toNat, a + 2 + nm s a 2, 0)

/-- The numbers from a place on. -/
def nums8 (s : ByteArray) (a : Int) (n : Nat) : List Int := (List.range n).map fun i : Nat => nm s (a + 8 * (i : Int)) 8 - 9223372036854775808

theorem nums8_length (s : ByteArray) (a : Int) (n : Nat) : (nums8 s a n).length = n := by simp [nums8]

theorem nums8_succ (s : ByteArray) (a : Int) (n : Nat) : nums8 s a (n + 1) = nums8 s a n ++ [nm s (a + 8 * n) 8 - 9223372036854775808] := by
  simp [nums8, List.range_succ]

def rdList (s : ByteArray) (a : Int) : List Int × Int × Int :=
  if a < 0 ∨ (s.size : Int) < a then ([], 0, 3) else if (s.size : Int) - a < 2 then ([], 0, 5) else if nm s a 2 > 512 then ([], 0, 4)
  else if 8 * nm s a 2 > (s.size : Int) - a - 2 then ([], 0, 5) else (nums8 s (a + 2) (nm s a 2).toNat, a + 2 + 8 * nm s a 2, 0)

theorem pow7 (i : Nat) (h : i ≤ 7) : (256 : Int) ^ i ≤ 72057594037927936 := by
  have h1 : 256 ^ i ≤ 256 ^ 7 := Nat.pow_le_pow_right (by decide) h
  have h2 : (256 : Nat) ^ 7 = 72057594037927936 := by decide
  rw [h2] at h1
  have h3 : ((256 ^ i : Nat) : Int) = (256 : Int) ^ i := by rw [Int.natCast_pow]; rfl
  omega

theorem wrap64_in (n : Int) (h0 : -9223372036854775808 ≤ n) (h1 : n < 9223372036854775808) : wrap64 n = n := by
  unfold wrap64; omega

end Go.Proofs.Ytlbjcdfognofgaa.Be
