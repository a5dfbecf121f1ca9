/- Plain lemmas, no program in sight: what was laid, with bytes ahead of it and behind, is read as it was. -/
import Derived.Test.YtlbjcdfognofgaaLt
namespace Go.Proofs.Ytlbjcdfognofgaa.Be
open Go.RowKit Go.Proofs.YtlbjcdfognofgaaW.PrintWords Go.Proofs.YtlbjcdfognofgaaW.PrintLast Go.Proofs.YtlbjcdfognofgaaW.PrintMore

/-- A slice of ints that came in: nil, or a row of cells. -/
def IsRow (k : IntKind) (w : World) (a : Option Addr) (len cap : Nat) (zs : List Int) : Prop :=
  (a = none ∧ len = 0 ∧ cap = 0 ∧ zs = []) ∨
  ∃ x, a = some x ∧ len ≤ cap ∧ cap ≤ maxLen ∧ zs.length = cap ∧ (∀ i, i < zs.length → w.cell? (x.add i) = some (.int k (zs.getD i 0))) ∧ ∀ n ∈ zs, (Lit.int k n).wf = true

/-- What was there is there behind a call. -/
theorem bcell {W w1 : World} (hb : Below W.heap.size W w1) : ∀ b o, b < W.heap.size → w1.cell? ⟨b, o, none⟩ = W.cell? ⟨b, o, none⟩ :=
  fun _ o h => hb.cell (p := ⟨_, o, none⟩) h

theorem val_snoc (l : List Int) (b : Int) : val (l ++ [b]) = val l * 256 + b := by
  simp [val, List.foldl_append]

theorem bn_append (x y : ByteArray) : bn (x ++ y) = bn x ++ bn y := by
  simp [bn, ByteArray.data_append]

theorem nm_val (s : ByteArray) (a : Nat) : ∀ k : Nat, a + k ≤ s.size → nm s a k = val (((bn s).drop a).take k)
  | 0, _ => by simp [nm, val]
  | k + 1, h => by
    have hl : k < ((bn s).drop a).length := by rw [List.length_drop, bn_length]; omega
    rw [List.take_succ_eq_append_getElem hl, val_snoc, ← nm_val s a k (by omega)]
    simp only [nm]
    congr 1
    rw [bt_bn, List.getElem_drop, List.getD_eq_getElem?_getD, show ((a : Int) + k).toNat = a + k by omega, List.getElem?_eq_getElem (by rw [bn_length]; omega)]
    rfl

theorem nm_mid (A B C : ByteArray) (k : Nat) (hk : B.size = k) : nm (A ++ B ++ C) A.size k = val (bn B) := by
  have h1 : (A ++ B ++ C).size = A.size + B.size + C.size := by rw [ByteArray.size_append, ByteArray.size_append]
  rw [nm_val _ _ _ (by omega), bn_append, bn_append, List.append_assoc, List.drop_left' (bn_length A), List.take_left' (by rw [bn_length]; exact hk)]

theorem size3 (A B C : ByteArray) : (A ++ B ++ C).size = A.size + B.size + C.size := by rw [ByteArray.size_append, ByteArray.size_append]

theorem rdU_back (A C : ByteArray) (n : Int) (h : 0 ≤ n ∧ n < 18446744073709551616) : rdU (A ++ strOfNums (be8 n) ++ C) A.size = (n, (A.size : Int) + 8, 0) := by
  have hz : (strOfNums (be8 n)).size = 8 := by rw [size_strOfNums]; rfl
  have h1 := size3 A (strOfNums (be8 n)) C
  rw [rdU, if_neg (by omega), if_neg (by omega), nm_mid _ _ _ 8 hz, bn_strOfNums _ (be8_range n), val_be8 n h.1 h.2]

theorem rdI_back (A C : ByteArray) (n : Int) (h : -9223372036854775808 ≤ n ∧ n < 9223372036854775808) : rdI (A ++ strOfNums (be8 (n + 9223372036854775808)) ++ C) A.size = (n, (A.size : Int) + 8, 0) := by
  have hz : (strOfNums (be8 (n + 9223372036854775808))).size = 8 := by rw [size_strOfNums]; rfl
  have h1 := size3 A (strOfNums (be8 (n + 9223372036854775808))) C
  rw [rdI, if_neg (by omega), if_neg (by omega), nm_mid _ _ _ 8 hz, bn_strOfNums _ (be8_range _), val_be8 _ (by omega) (by omega), Int.add_sub_cancel]

theorem val_lt2 (n : Int) (h : 0 ≤ n ∧ n < 65536) : val (lt2 n) = n := by
  simp only [val, lt2, List.foldl]; omega

theorem nm_two (A B C : ByteArray) (n : Int) (h : 0 ≤ n ∧ n < 65536) : nm (A ++ (strOfNums (lt2 n) ++ B) ++ C) A.size 2 = n := by
  have e : A ++ (strOfNums (lt2 n) ++ B) ++ C = A ++ strOfNums (lt2 n) ++ (B ++ C) := by
    apply ByteArray.ext; simp [ByteArray.data_append, Array.append_assoc]
  rw [e, nm_mid _ _ _ 2 (by rw [size_strOfNums]; rfl), bn_strOfNums _ (lt2_range n), val_lt2 n h]

theorem rdText_back (A C t : ByteArray) (h : t.size ≤ 4096) : rdText (A ++ (strOfNums (lt2 t.size) ++ t) ++ C) A.size = (t, (A.size : Int) + (2 + (t.size : Int)), 0) := by
  have h2 := nm_two A t C t.size (by omega)
  have hz : (strOfNums (lt2 (t.size : Int)) ++ t).size = 2 + t.size := by rw [ByteArray.size_append, size_strOfNums]; rfl
  have h1 := size3 A (strOfNums (lt2 t.size) ++ t) C
  rw [rdText, if_neg (by omega), if_neg (by omega), h2, if_neg (by omega), if_neg (by omega)]
  refine Prod.ext ?_ (Prod.ext ?_ rfl)
  · show ByteArray.extract _ _ _ = t
    rw [extract_bn, bn_append, bn_append, bn_append, bn_strOfNums _ (lt2_range _)]
    have e : (bn A ++ (lt2 ↑t.size ++ bn t) ++ bn C) = (bn A ++ lt2 ↑t.size) ++ (bn t ++ bn C) := by simp
    have hl : (bn A ++ lt2 (t.size : Int)).length = A.size + 2 := by rw [List.length_append, bn_length]; rfl
    rw [e, List.drop_left' (by rw [hl]; omega), List.take_left' (by rw [bn_length]; omega), strOfNums_bn]
  · show (A.size : Int) + 2 + t.size = A.size + (2 + t.size)
    omega

theorem lay8_at : ∀ (x : List Int) (i : Nat) (h : i < x.length), ((lay8 x).drop (8 * i)).take 8 = be8 (x[i] + 9223372036854775808)
  | [], i, h => by simp at h
  | n :: x, 0, _ => by simp only [lay8, Nat.mul_zero, List.drop_zero, List.getElem_cons_zero]; rw [List.take_left' (be8_length _)]
  | n :: x, i + 1, h => by
    have ih := lay8_at x i (by simpa using h)
    simp only [lay8, List.getElem_cons_succ]
    rw [show 8 * (i + 1) = 8 + 8 * i by omega, ← List.drop_drop, List.drop_left' (be8_length _)]
    exact ih

theorem nums8_back (s : ByteArray) (a : Nat) (x P Q : List Int) (hs : bn s = P ++ (lay8 x ++ Q)) (hp : P.length = a) (hx : ∀ n ∈ x, -9223372036854775808 ≤ n ∧ n < 9223372036854775808) : nums8 s a x.length = x := by
  have hz : s.size = a + (8 * x.length + Q.length) := by rw [← bn_length, hs]; simp only [List.length_append, lay8_length, hp]
  apply List.ext_getElem
  · rw [nums8_length]
  · intro i h1 h2
    have hm := hx x[i] (List.getElem_mem h2)
    simp only [nums8, List.getElem_map, List.getElem_range]
    rw [show ((a : Int) + 8 * i) = ((a + 8 * i : Nat) : Int) by omega, nm_val _ _ _ (by omega), hs, ← List.drop_drop, List.drop_left' hp, List.drop_append_of_le_length (by rw [lay8_length]; omega),
      List.take_append_of_le_length (by rw [List.length_drop, lay8_length]; omega), lay8_at x i h2, val_be8 _ (by omega) (by omega)]
    omega

theorem rdList_back (A C : ByteArray) (x : List Int) (h : x.length ≤ 512) (hx : ∀ n ∈ x, -9223372036854775808 ≤ n ∧ n < 9223372036854775808) :
    rdList (A ++ strOfNums (lt2 x.length ++ lay8 x) ++ C) A.size = (x, (A.size : Int) + (2 + 8 * (x.length : Int)), 0) := by
  have h2 := nm_two A (strOfNums (lay8 x)) C x.length (by omega)
  rw [strOfNums_append] at h2
  have hz : (strOfNums (lt2 (x.length : Int) ++ lay8 x)).size = 2 + 8 * x.length := by rw [size_strOfNums, List.length_append, lay8_length]; rfl
  have h1 := size3 A (strOfNums (lt2 x.length ++ lay8 x)) C
  rw [rdList, if_neg (by omega), if_neg (by omega), h2, if_neg (by omega), if_neg (by omega)]
  have hr : ∀ y ∈ lt2 (x.length : Int) ++ lay8 x, 0 ≤ y ∧ y ≤ 255 := by
    intro y hy
    rcases List.mem_append.1 hy with q | q
    · exact lt2_range _ y q
    · exact lay8_range _ y q
  have hb := nums8_back (A ++ strOfNums (lt2 x.length ++ lay8 x) ++ C) (A.size + 2) x (bn A ++ lt2 x.length) (bn C)
    (by rw [bn_append, bn_append, bn_strOfNums _ hr]; simp) (by rw [List.length_append, bn_length]; rfl) hx
  rw [show (((A.size + 2 : Nat) : Int)) = (A.size : Int) + 2 by omega] at hb
  refine Prod.ext ?_ (Prod.ext ?_ rfl)
  · show nums8 _ _ _ = x
    rw [Int.toNat_natCast]; exact hb
  · show (A.size : Int) + 2 + 8 * x.length = A.size + (2 + 8 * x.length)
    omega

end Go.Proofs.Ytlbjcdfognofgaa.Be
