/- Plain lemmas on bytes and numbers, with no program in sight: the eight bytes of a number, what eight bytes are as a number, how byte strings compare. -/
import Derived.Test.YtlbjcdfognofgaaWMore
import Derived.Lib.Strings
import Derived.Laws.BitsAllLaws
namespace Go.Proofs.Ytlbjcdfognofgaa.Be
open Go.RowKit Go.Proofs.YtlbjcdfognofgaaW.PrintWords Go.Proofs.YtlbjcdfognofgaaW.PrintLast Go.Proofs.YtlbjcdfognofgaaW.PrintMore

/-- The eight bytes of a number, the highest first. -/
def be8 (n : Int) : List Int :=
  [n / 72057594037927936 % 256, n / 281474976710656 % 256, n / 1099511627776 % 256, n / 4294967296 % 256,
   n / 16777216 % 256, n / 65536 % 256, n / 256 % 256, n % 256]

/-- The number of bytes, the highest first. -/
def val (l : List Int) : Int := l.foldl (fun a b => a * 256 + b) 0

theorem be8_length (n : Int) : (be8 n).length = 8 := rfl

theorem be8_range (n : Int) : ∀ x ∈ be8 n, 0 ≤ x ∧ x ≤ 255 := by
  intro x hx
  simp only [be8, List.mem_cons, List.not_mem_nil, or_false] at hx
  omega

theorem wrap_u64_in (n : Int) (h0 : 0 ≤ n) (h1 : n < 18446744073709551616) : IntKind.u64.wrap n = n := by
  rw [IntKind.wrap_u64]; omega

theorem val_be8 (n : Int) (h0 : 0 ≤ n) (h1 : n < 18446744073709551616) : val (be8 n) = n := by
  simp only [val, be8, List.foldl]; omega

theorem be8_val8 (a b c d e f g h : Int) (ha : 0 ≤ a ∧ a ≤ 255) (hb : 0 ≤ b ∧ b ≤ 255) (hc : 0 ≤ c ∧ c ≤ 255) (hd : 0 ≤ d ∧ d ≤ 255) (he : 0 ≤ e ∧ e ≤ 255) (hf : 0 ≤ f ∧ f ≤ 255) (hg : 0 ≤ g ∧ g ≤ 255) (hh : 0 ≤ h ∧ h ≤ 255) :
    be8 (val [a, b, c, d, e, f, g, h]) = [a, b, c, d, e, f, g, h] := by
  simp only [val, be8, List.foldl, List.cons.injEq, and_true]
  refine ⟨?_, ?_, ?_, ?_, ?_, ?_, ?_, ?_⟩ <;> omega

theorem be8_inj {a b : Int} (ha : 0 ≤ a ∧ a < 18446744073709551616) (hb : 0 ≤ b ∧ b < 18446744073709551616) (h : be8 a = be8 b) : a = b := by
  rw [← val_be8 a ha.1 ha.2, ← val_be8 b hb.1 hb.2, h]

/-! ### Strings as lists of numbers -/

theorem toList_strOfNums (xs : List Int) : (strOfNums xs).toList = xs.map fun n => UInt8.ofNat n.toNat := by
  rw [ByteArray.toList_eq]; rfl

theorem size_strOfNums (xs : List Int) : (strOfNums xs).size = xs.length := by
  simp [strOfNums, ByteArray.size]

theorem ofNat_inj {x y : Int} (hx : 0 ≤ x ∧ x ≤ 255) (hy : 0 ≤ y ∧ y ≤ 255) (h : UInt8.ofNat x.toNat = UInt8.ofNat y.toNat) : x = y := by
  have := congrArg UInt8.toNat h
  simp only [UInt8.toNat_ofNat'] at this
  omega

theorem map_ofNat_inj : ∀ {xs ys : List Int}, (∀ x ∈ xs, 0 ≤ x ∧ x ≤ 255) → (∀ x ∈ ys, 0 ≤ x ∧ x ≤ 255) →
    (xs.map fun n => UInt8.ofNat n.toNat) = (ys.map fun n => UInt8.ofNat n.toNat) → xs = ys
  | [], [], _, _, _ => rfl
  | [], _ :: _, _, _, h => by simp at h
  | _ :: _, [], _, _, h => by simp at h
  | x :: xs, y :: ys, hx, hy, h => by
    simp only [List.map_cons, List.cons.injEq] at h
    rw [ofNat_inj (hx x (by simp)) (hy y (by simp)) h.1, map_ofNat_inj (fun z hz => hx z (by simp [hz])) (fun z hz => hy z (by simp [hz])) h.2]

theorem strOfNums_inj {xs ys : List Int} (hx : ∀ x ∈ xs, 0 ≤ x ∧ x ≤ 255) (hy : ∀ x ∈ ys, 0 ≤ x ∧ x ≤ 255) (h : (strOfNums xs).toList = (strOfNums ys).toList) : xs = ys := by
  rw [toList_strOfNums, toList_strOfNums] at h
  exact map_ofNat_inj hx hy h

theorem strOfNums_append (xs ys : List Int) : strOfNums xs ++ strOfNums ys = strOfNums (xs ++ ys) := by
  apply ByteArray.ext
  rw [ByteArray.data_append]
  simp [strOfNums]

theorem bt_strOfNums (xs : List Int) (hx : ∀ x ∈ xs, 0 ≤ x ∧ x ≤ 255) (i : Int) : bt (strOfNums xs) i = xs.getD i.toNat 0 := by
  unfold bt
  split
  · rename_i h
    rw [size_strOfNums] at h
    have hm := hx xs[i.toNat] (List.getElem_mem h)
    have e : (strOfNums xs)[i.toNat]'(by rw [size_strOfNums]; exact h) = UInt8.ofNat (xs[i.toNat]).toNat := by
      rw [ByteArray.getElem_eq_getElem_data]
      unfold strOfNums
      rw [List.getElem_toArray, List.getElem_map]
    rw [e, UInt8.toNat_ofNat', List.getD_eq_getElem?_getD, List.getElem?_eq_getElem h]
    simp only [Option.getD_some]
    omega
  · rename_i h
    rw [size_strOfNums] at h
    rw [List.getD_eq_getElem?_getD, List.getElem?_eq_none (by omega)]
    rfl

/-- A string's bytes as numbers. -/
def bn (s : ByteArray) : List Int := s.data.toList.map fun c => (c.toNat : Int)

theorem bn_length (s : ByteArray) : (bn s).length = s.size := by
  rw [bn, List.length_map]; rfl

theorem bn_range (s : ByteArray) : ∀ x ∈ bn s, 0 ≤ x ∧ x ≤ 255 := by
  intro x hx
  simp only [bn, List.mem_map] at hx
  obtain ⟨c, _, rfl⟩ := hx
  have := c.toNat_lt
  omega

theorem strOfNums_bn (s : ByteArray) : strOfNums (bn s) = s := by
  apply ByteArray.ext
  simp only [strOfNums, bn, List.map_map]
  have : ((fun n : Int => UInt8.ofNat n.toNat) ∘ fun c : UInt8 => (c.toNat : Int)) = id := by
    funext c; simp
  rw [this]; simp

theorem bn_strOfNums (xs : List Int) (hx : ∀ x ∈ xs, 0 ≤ x ∧ x ≤ 255) : bn (strOfNums xs) = xs := by
  have h := congrArg ByteArray.toList (strOfNums_bn (strOfNums xs))
  exact strOfNums_inj (bn_range _) hx h

theorem bt_bn (s : ByteArray) (i : Int) : bt s i = (bn s).getD i.toNat 0 := by
  conv => lhs; rw [← strOfNums_bn s]
  exact bt_strOfNums _ (bn_range s) i

theorem extract_bn (s : ByteArray) (a b : Nat) : s.extract a b = strOfNums (((bn s).drop a).take (b - a)) := by
  apply ByteArray.ext
  rw [Lib.extract_eq]
  simp only [strOfNums, bn, ← List.map_drop, ← List.map_take, List.map_map]
  have : ((fun n : Int => UInt8.ofNat n.toNat) ∘ fun c : UInt8 => (c.toNat : Int)) = id := by
    funext c; simp
  rw [this]; simp

theorem toList_bn (s t : ByteArray) : s.toList = t.toList ↔ bn s = bn t := by
  constructor
  · intro h
    simp only [bn]
    rw [← ByteArray.toList_eq, ← ByteArray.toList_eq, h]
  · intro h
    rw [← strOfNums_bn s, ← strOfNums_bn t, h]

/-! ### How strings compare -/

/-- Byte by byte, of numbers. -/
def less : List Int → List Int → Bool
  | _, [] => false
  | [], _ :: _ => true
  | a :: x, b :: y => a < b || (a == b && less x y)

theorem bytesLess_map : ∀ (xs ys : List Int), (∀ x ∈ xs, 0 ≤ x ∧ x ≤ 255) → (∀ x ∈ ys, 0 ≤ x ∧ x ≤ 255) →
    Op.bytesLess (xs.map fun n => UInt8.ofNat n.toNat) (ys.map fun n => UInt8.ofNat n.toNat) = less xs ys
  | [], [], _, _ => rfl
  | _ :: _, [], _, _ => rfl
  | [], _ :: _, _, _ => rfl
  | a :: x, b :: y, hx, hy => by
    have ha := hx a (by simp)
    have hb := hy b (by simp)
    have ih := bytesLess_map x y (fun z hz => hx z (by simp [hz])) (fun z hz => hy z (by simp [hz]))
    simp only [List.map_cons, Op.bytesLess, less, ih]
    have e1 : (UInt8.ofNat a.toNat < UInt8.ofNat b.toNat) ↔ a < b := by
      rw [UInt8.lt_iff_toNat_lt, UInt8.toNat_ofNat', UInt8.toNat_ofNat']; omega
    have e2 : (UInt8.ofNat a.toNat == UInt8.ofNat b.toNat) = (a == b) := by
      by_cases h : a = b
      · subst h; simp
      · rw [beq_eq_false_iff_ne.2 h, beq_eq_false_iff_ne.2 (fun e => h (ofNat_inj ha hb e))]
    rw [e2]
    simp only [e1]

theorem less_strOfNums (xs ys : List Int) (hx : ∀ x ∈ xs, 0 ≤ x ∧ x ≤ 255) (hy : ∀ x ∈ ys, 0 ≤ x ∧ x ≤ 255) :
    Op.bytesLess (strOfNums xs).toList (strOfNums ys).toList = less xs ys := by
  rw [toList_strOfNums, toList_strOfNums]; exact bytesLess_map xs ys hx hy

theorem less_append : ∀ (a b c d : List Int), a.length = b.length → less (a ++ c) (b ++ d) = (less a b || (a == b && less c d))
  | [], [], c, d, _ => by simp [less]
  | [], _ :: _, _, _, h => by simp at h
  | _ :: _, [], _, _, h => by simp at h
  | x :: a, y :: b, c, d, h => by
    have ih := less_append a b c d (by simpa using h)
    simp only [List.cons_append, less, ih]
    by_cases e : x = y
    · subst e
      by_cases e2 : a = b
      · subst e2; simp
      · have : (x :: a == x :: b) = false := beq_eq_false_iff_ne.2 (by simpa using e2)
        rw [this, beq_eq_false_iff_ne.2 e2]; simp
    · have : (x :: a == y :: b) = false := beq_eq_false_iff_ne.2 (by simp [e])
      rw [this, beq_eq_false_iff_ne.2 e]; simp

/-- The k lowest bytes, the highest first. -/
def bek : Nat → Int → List Int
  | 0, _ => []
  | k + 1, n => bek k (n / 256) ++ [n % 256]

theorem bek_length : ∀ (k : Nat) (n : Int), (bek k n).length = k
  | 0, _ => rfl
  | k + 1, n => by simp [bek, bek_length k]

theorem be8_bek (n : Int) : be8 n = bek 8 n := by
  simp only [be8, bek, List.nil_append, List.cons_append]
  rw [show n / 72057594037927936 % 256 = n / 256 / 256 / 256 / 256 / 256 / 256 / 256 % 256 by omega, show n / 281474976710656 % 256 = n / 256 / 256 / 256 / 256 / 256 / 256 % 256 by omega,
    show n / 1099511627776 % 256 = n / 256 / 256 / 256 / 256 / 256 % 256 by omega, show n / 4294967296 % 256 = n / 256 / 256 / 256 / 256 % 256 by omega,
    show n / 16777216 % 256 = n / 256 / 256 / 256 % 256 by omega, show n / 65536 % 256 = n / 256 / 256 % 256 by omega]

theorem less_bek : ∀ (k : Nat) (a b : Int), 0 ≤ a → a < 256 ^ k → 0 ≤ b → b < 256 ^ k →
    less (bek k a) (bek k b) = decide (a < b) ∧ (bek k a == bek k b) = (a == b)
  | 0, a, b, h0, h1, h2, h3 => by
    simp only [Int.pow_zero] at h1 h3
    obtain rfl : a = 0 := by omega
    obtain rfl : b = 0 := by omega
    simp [bek, less]
  | k + 1, a, b, h0, h1, h2, h3 => by
    rw [Int.pow_succ] at h1 h3
    obtain ⟨i1, i2⟩ := less_bek k (a / 256) (b / 256) (by omega) (by omega) (by omega) (by omega)
    simp only [bek]
    constructor
    · rw [less_append _ _ _ _ (by simp [bek_length]), i1, i2, Bool.eq_iff_iff]
      simp only [less, Bool.and_false, Bool.or_false, Bool.or_eq_true, Bool.and_eq_true, decide_eq_true_eq, beq_iff_eq]
      omega
    · have e : (bek k (a / 256) ++ [a % 256] == bek k (b / 256) ++ [b % 256]) = ((bek k (a / 256) == bek k (b / 256)) && (a % 256 == b % 256)) := by
        rw [Bool.eq_iff_iff]
        simp only [beq_iff_eq, Bool.and_eq_true]
        constructor
        · intro h
          have := List.append_inj h (by simp [bek_length])
          exact ⟨this.1, by simpa using this.2⟩
        · rintro ⟨x, y⟩
          rw [x, y]
      rw [e, i2, Bool.eq_iff_iff]
      simp only [Bool.and_eq_true, beq_iff_eq]
      omega

theorem less_be8 (a b : Int) (ha : 0 ≤ a ∧ a < 18446744073709551616) (hb : 0 ≤ b ∧ b < 18446744073709551616) : less (be8 a) (be8 b) = decide (a < b) := by
  rw [be8_bek, be8_bek]
  exact (less_bek 8 a b ha.1 (by have := ha.2; simp only [Int.reducePow]; omega) hb.1 (by have := hb.2; simp only [Int.reducePow]; omega)).1

theorem beq_be8 (a b : Int) (ha : 0 ≤ a ∧ a < 18446744073709551616) (hb : 0 ≤ b ∧ b < 18446744073709551616) : (be8 a == be8 b) = (a == b) := by
  by_cases h : a = b
  · subst h; simp
  · rw [beq_eq_false_iff_ne.2 h, beq_eq_false_iff_ne.2 (fun e => h (be8_inj ha hb e))]

theorem beq_strOfNums (xs ys : List Int) (hx : ∀ x ∈ xs, 0 ≤ x ∧ x ≤ 255) (hy : ∀ x ∈ ys, 0 ≤ x ∧ x ≤ 255) :
    ((strOfNums xs).toList == (strOfNums ys).toList) = (xs == ys) := by
  by_cases h : xs = ys
  · subst h; simp
  · rw [beq_eq_false_iff_ne.2 h, beq_eq_false_iff_ne.2 (fun e => h (strOfNums_inj hx hy e))]

/-! ### Words -/

theorem wf_u64 {n : Int} (h : (Lit.int .u64 n).wf = true) : 0 ≤ n ∧ n < 18446744073709551616 := by
  simp [Lit.wf, IntKind.min, IntKind.max, IntKind.signed, IntKind.bits] at h; omega

theorem wf_i64 {n : Int} (h : (Lit.int .i64 n).wf = true) : -9223372036854775808 ≤ n ∧ n < 9223372036854775808 := by
  simp [Lit.wf, IntKind.min, IntKind.max, IntKind.signed, IntKind.bits] at h; omega

theorem half_wrap (n : Int) (h : -9223372036854775808 ≤ n ∧ n < 9223372036854775808) :
    IntKind.u64.wrap (IntKind.u64.wrap n + 9223372036854775808) = n + 9223372036854775808 := by
  simp only [IntKind.wrap_u64]; omega

theorem half_back (n : Int) (h : 0 ≤ n ∧ n < 18446744073709551616) : wrap64 (IntKind.u64.wrap (n + 9223372036854775808)) = n - 9223372036854775808 := by
  simp only [IntKind.wrap_u64, wrap64]; omega

theorem half_back' (n : Int) (h : 0 ≤ n ∧ n < 18446744073709551616) : wrap64 (IntKind.u64.wrap (n - 9223372036854775808)) = n - 9223372036854775808 := by
  simp only [IntKind.wrap_u64, wrap64]; omega

/-- A byte behind a number that is a multiple of 256. -/
theorem or_byte (x b : Int) (h0 : 0 ≤ x) (h1 : x < 72057594037927936) (hb : 0 ≤ b ∧ b ≤ 255) :
    Go.bits .or .u64 (IntKind.u64.wrap (x * 256)) (IntKind.u64.wrap b) = x * 256 + b := by
  rw [wrap_u64_in _ (by omega) (by omega), wrap_u64_in _ (by omega) (by omega), Go.u64_or _ _ (by omega) (by omega) (by omega) (by omega), Go.nat_join 8 _ _ (by omega) (by omega)]
  omega

end Go.Proofs.Ytlbjcdfognofgaa.Be
