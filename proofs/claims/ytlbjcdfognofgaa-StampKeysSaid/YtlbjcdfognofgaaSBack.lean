/- What the functions of the package pack come to, as contracts in plain words (over the print of PackBack's callees). -/
import Derived.Test.YtlbjcdfognofgaaPPackBackx1
import Derived.Test.YtlbjcdfognofgaaPPackBackx2
import Derived.Test.YtlbjcdfognofgaaLt
namespace Go.Proofs.Ytlbjcdfognofgaa.SBack
open Go.RowKit Go.Proofs.Ytlbjcdfognofgaa.PPackBack Go.Proofs.YtlbjcdfognofgaaW.PrintWords Go.Proofs.YtlbjcdfognofgaaW.PrintLast Go.Proofs.YtlbjcdfognofgaaW.PrintMore Go.Proofs.Ytlbjcdfognofgaa.Be

theorem put8 (n : Int) (k : Nat) : pack_put_uint64.f (k + 9) [] n 8 = some (be8 n) := by
  simp [pack_put_uint64.f, pack_put_uint64.l0, wrap64, shr, be8, IntKind.bits]

theorem put8_on (l : List Int) (hl : l.length < 100000) (n : Int) (k : Nat) : pack_put_uint64.f (k + 9) l n 8 = some (l ++ be8 n) := by
  have h : ∀ j : Nat, j ≤ 8 → l.length + j < 140737488355328 := by intro j hj; omega
  have h1 := h 1 (by decide)
  have h2 := h 2 (by decide)
  have h3 := h 3 (by decide)
  have h4 := h 4 (by decide)
  have h5 := h 5 (by decide)
  have h6 := h 6 (by decide)
  have h7 := h 7 (by decide)
  have h0 : l.length < 140737488355328 := by omega
  simp [pack_put_uint64.f, pack_put_uint64.l0, wrap64, shr, be8, IntKind.bits, h0, h1, h2, h3, h4, h5, h6, h7]

theorem U_is (n : Int) (k : Nat) : pack_U.f (k + 9) n = some (strOfNums (be8 n)) := by
  rw [pack_U.f, put8]; rfl

theorem I_is (n : Int) (h : -9223372036854775808 ≤ n ∧ n < 9223372036854775808) (k : Nat) : pack_I.f (k + 9) n = some (strOfNums (be8 (n + 9223372036854775808))) := by
  rw [pack_I.f, put8, half_wrap n h]; rfl

theorem left_is (s : ByteArray) (a n : Int) (hs : s.size ≤ 140737488351232) (k : Nat) :
    pack_left.f (k + 2) s a n = some (if a < 0 ∨ (s.size : Int) < a then 3 else if n > (s.size : Int) - a then 5 else 0) := by
  rw [pack_left.f]
  by_cases h0 : a < 0
  · rw [if_pos h0, if_pos (Or.inl h0), pack_left.j0, if_pos rfl]
  · rw [if_neg h0, pack_left.j0]
    by_cases h1 : (s.size : Int) < a
    · rw [if_pos (Or.inr h1), if_pos (by simpa using h1)]
    · rw [if_neg (show ¬ (a < 0 ∨ (s.size : Int) < a) by omega), if_neg (by simpa using h1), wrap64_in _ (by omega) (by omega)]
      split <;> rfl

theorem get64_l0 (s : ByteArray) (hs : s.size ≤ 8) : ∀ (d : Nat) (i k : Nat), i + d = s.size → d < k →
    pack_get_uint64.l0 k s (nm s 0 i) s.size i = some (nm s 0 s.size)
  | 0, i, k, h, hk => by
    obtain ⟨k, rfl⟩ : ∃ m, k = m + 1 := ⟨k - 1, by omega⟩
    rw [pack_get_uint64.l0, if_neg (by omega), show i = s.size by omega]
  | d + 1, i, k, h, hk => by
    obtain ⟨k, rfl⟩ : ∃ m, k = m + 1 := ⟨k - 1, by omega⟩
    have hr := nm_range s 0 i
    have hp := pow7 i (by omega)
    rw [pack_get_uint64.l0, if_pos (by omega), if_pos (by omega), if_pos (by omega), or_byte _ _ (by omega) (by omega) (bt_range _ _),
      wrap64_in _ (by omega) (by omega), ← get64_l0 s hs d (i + 1) k (by omega) (by omega)]
    simp only [nm, Int.zero_add]
    rfl

theorem get64_is (s : ByteArray) (hs : s.size ≤ 8) (k : Nat) : pack_get_uint64.f (k + 9) s = some (nm s 0 s.size) := by
  rw [pack_get_uint64.f]
  exact get64_l0 s hs s.size 0 (k + 9) (by omega) (by omega)

theorem get64_at (s : ByteArray) (a : Int) (h0 : 0 ≤ a) (h1 : a + 8 ≤ s.size) (k : Nat) : pack_get_uint64.f (k + 9) (s.extract a.toNat (a + 8).toNat) = some (nm s a 8) := by
  have hz : (s.extract a.toNat (a + 8).toNat).size = 8 := by rw [size_extract' _ _ _ (by omega)]; omega
  rw [get64_is _ (by omega), hz, nm_extract _ _ _ (by omega) 8 (by omega), show ((a.toNat : Nat) : Int) = a by omega]

theorem ReadU_is (s : ByteArray) (a : Int) (hs : s.size ≤ 140737488351232) (k : Nat) : pack_ReadU.f (k + 9) s a = some (rdU s a) := by
  rw [pack_ReadU.f, left_is s a 8 hs (k + 7)]
  simp only [Option.bind_some, rdU]
  by_cases h0 : a < 0 ∨ (s.size : Int) < a
  · simp only [if_pos h0]; rfl
  · simp only [if_neg h0]
    by_cases h1 : (s.size : Int) - a < 8
    · simp only [if_pos h1]; rfl
    · simp only [if_neg h1, if_true]
      rw [wrap64_in (a + 8) (by omega) (by omega), if_pos (by omega), if_pos (by omega), if_pos (by omega), get64_at s a (by omega) (by omega) k]
      rfl

theorem ReadI_is (s : ByteArray) (a : Int) (hs : s.size ≤ 140737488351232) (k : Nat) : pack_ReadI.f (k + 9) s a = some (rdI s a) := by
  rw [pack_ReadI.f, ReadU_is s a hs k]
  simp only [Option.bind_some, rdI, rdU]
  by_cases h0 : a < 0 ∨ (s.size : Int) < a
  · simp only [if_pos h0]; rfl
  · simp only [if_neg h0]
    by_cases h1 : (s.size : Int) - a < 8
    · simp only [if_pos h1]; rfl
    · simp only [if_neg h1, if_true, half_back _ (nm8 s a)]

theorem put2 (n : Int) (h : 0 ≤ n ∧ n < 18446744073709551616) (k : Nat) : pack_put_int.f (k + 3) [] n 2 = some [n / 256 % 256, n % 256] := by
  simp [pack_put_int.f, pack_put_int.l0, wrap64, shr, IntKind.bits, wrap_u64_in n h.1 h.2]

theorem Text_is (s : ByteArray) (hs : s.size ≤ 9223372036854775807) (k : Nat) : pack_Text.f (k + 3) s = some (ltText s) := by
  rw [pack_Text.f, ltText]
  by_cases h : (s.size : Int) > 4096
  · rw [if_pos h, if_pos h]
  · rw [if_neg h, if_neg h, put2 _ (by omega) k]
    simp only [Option.bind_some]
    rw [if_pos (by rw [size_strOfNums]; simp only [List.length_cons, List.length_nil]; omega)]
    rfl

theorem getInt_at (s : ByteArray) (a : Int) (h0 : 0 ≤ a) (h1 : a + 2 ≤ s.size) (k : Nat) : pack_get_int.f (k + 9) (s.extract a.toNat (a + 2).toNat) = some (nm s a 2) := by
  have hz : (s.extract a.toNat (a + 2).toNat).size = 2 := by rw [size_extract' _ _ _ (by omega)]; omega
  have e0 : bt (s.extract a.toNat (a + 2).toNat) 0 = bt s (a + (0 : Nat)) := by rw [bt_extract _ _ _ _ (by omega) (by omega) (by omega)]; congr 1; omega
  have e1 : bt (s.extract a.toNat (a + 2).toNat) 1 = bt s (a + (1 : Nat)) := by rw [bt_extract _ _ _ _ (by omega) (by omega) (by omega)]; congr 1; omega
  have b0 := bt_range s (a + (0 : Nat))
  have b1 := bt_range s (a + (1 : Nat))
  rw [pack_get_int.f, hz]
  rw [pack_get_int.l0, if_pos (by decide), if_pos (by decide), if_pos (by omega), e0, or_byte _ _ (by omega) (by omega) b0, show wrap64 (0 + 1) = 1 from by unfold wrap64; omega]
  rw [pack_get_int.l0, if_pos (by decide), if_pos (by decide), if_pos (by omega), e1, or_byte _ _ (by omega) (by omega) b1, show wrap64 (1 + 1) = 2 from by unfold wrap64; omega]
  rw [pack_get_int.l0, if_neg (by decide), wrap64_in _ (by omega) (by omega)]
  simp only [nm]

theorem count_is (s : ByteArray) (a most : Int) (hs : s.size ≤ 140737488351232) (k : Nat) : pack_count.f (k + 9) s a most = some (cnt s a most) := by
  rw [pack_count.f, left_is s a 2 hs (k + 7)]
  simp only [Option.bind_some, cnt]
  by_cases h0 : a < 0 ∨ (s.size : Int) < a
  · simp only [if_pos h0]; rfl
  · simp only [if_neg h0]
    by_cases h1 : (s.size : Int) - a < 2
    · simp only [if_pos h1]; rfl
    · simp only [if_neg h1, if_true]
      rw [wrap64_in (a + 2) (by omega) (by omega), if_pos (by omega), if_pos (by omega), if_pos (by omega), getInt_at s a (by omega) (by omega) k]
      simp only [Option.bind_some]
      split <;> rfl

theorem ReadText_is (s : ByteArray) (a : Int) (hs : s.size ≤ 140737488351232) (k : Nat) : pack_ReadText.f (k + 9) s a = some (rdText s a) := by
  have hn := nm2 s a
  rw [pack_ReadText.f, count_is s a 4096 hs k]
  simp only [Option.bind_some, cnt, rdText]
  by_cases h0 : a < 0 ∨ (s.size : Int) < a
  · simp only [if_pos h0]; rfl
  · simp only [if_neg h0]
    by_cases h1 : (s.size : Int) - a < 2
    · simp only [if_pos h1]; rfl
    · simp only [if_neg h1]
      by_cases h2 : nm s a 2 > 4096
      · simp only [if_pos h2]; rfl
      · simp only [if_neg h2, if_true]
        rw [left_is s (a + 2) _ hs (k + 7)]
        rw [if_neg (by omega)]
        by_cases h3 : nm s a 2 > (s.size : Int) - a - 2
        · rw [if_pos (by omega), if_pos h3]; rfl
        · rw [if_neg (by omega), if_neg h3]
          simp only [Option.bind_some, if_true]
          rw [wrap64_in (a + 2 + nm s a 2) (by omega) (by omega), if_pos (by omega), if_pos (by omega), if_pos (by omega)]

theorem readList_l0 (s : ByteArray) (c a : Int) (n : Nat) (hs : s.size ≤ 140737488351232) (h0 : 0 ≤ a) (h1 : a + 8 * n ≤ s.size) (hn : n ≤ 512) (hc : c = n) : ∀ (d i k : Nat), i + d = n → d < k →
    pack_ReadList.l0 (k + 9) s c a (nums8 s a i) n i = some (nums8 s a n, a + 8 * n, 0)
  | 0, i, k, h, hk => by
    obtain ⟨k, rfl⟩ : ∃ m, k = m + 1 := ⟨k - 1, by omega⟩
    rw [show k + 1 + 9 = (k + 9) + 1 by omega, pack_ReadList.l0, if_neg (by omega), show i = n by omega, hc, wrap64_in (8 * n) (by omega) (by omega), wrap64_in _ (by omega) (by omega)]
  | d + 1, i, k, h, hk => by
    obtain ⟨k, rfl⟩ : ∃ m, k = m + 1 := ⟨k - 1, by omega⟩
    rw [show k + 1 + 9 = (k + 9) + 1 by omega, pack_ReadList.l0, if_pos (by omega), wrap64_in (8 * i) (by omega) (by omega), wrap64_in (a + 8 * i) (by omega) (by omega),
      wrap64_in (a + 8 * i + 8) (by omega) (by omega), if_pos (by omega), if_pos (by omega), if_pos (by omega), get64_at s _ (by omega) (by omega) k]
    simp only [Option.bind_some]
    rw [if_pos (by rw [nums8_length]; omega), half_back _ (nm8 s _), wrap64_in (i + 1) (by omega) (by omega), ← readList_l0 s c a n hs h0 h1 hn hc d (i + 1) k (by omega) (by omega), nums8_succ]
    rfl

theorem ReadList_is (s : ByteArray) (a : Int) (hs : s.size ≤ 140737488351232) (k : Nat) : pack_ReadList.f (k + 600) s a = some (rdList s a) := by
  have hn := nm2 s a
  rw [pack_ReadList.f, count_is s a 512 hs (k + 591)]
  simp only [Option.bind_some, cnt, rdList]
  by_cases h0 : a < 0 ∨ (s.size : Int) < a
  · simp only [if_pos h0]; rfl
  · simp only [if_neg h0]
    by_cases h1 : (s.size : Int) - a < 2
    · simp only [if_pos h1]; rfl
    · simp only [if_neg h1]
      by_cases h2 : nm s a 2 > 512
      · simp only [if_pos h2]; rfl
      · simp only [if_neg h2, if_true]
        rw [wrap64_in (8 * nm s a 2) (by omega) (by omega), left_is s (a + 2) _ hs (k + 598)]
        rw [if_neg (by omega)]
        by_cases h3 : 8 * nm s a 2 > (s.size : Int) - a - 2
        · rw [if_pos (by omega), if_pos h3]; rfl
        · rw [if_neg (by omega), if_neg h3]
          simp only [Option.bind_some]
          rw [pack_ReadList.j0, if_pos rfl]
          have e := readList_l0 s (nm s a 2) (a + 2) (nm s a 2).toNat hs (by omega) (by omega) (by omega) (by omega) (nm s a 2).toNat 0 (k + 590) (by omega) (by omega)
          rw [show (((nm s a 2).toNat : Nat) : Int) = nm s a 2 by omega] at e
          exact e

theorem ints_l0 (x : List Int) (hx : x.length ≤ 140737488351232) : ∀ (d i k : Nat), i + d = x.length → d < k → horologeref01_Ints.l0 k x x i = some true
  | 0, i, k, h, hk => by
    obtain ⟨k, rfl⟩ : ∃ m, k = m + 1 := ⟨k - 1, by omega⟩
    rw [horologeref01_Ints.l0, if_neg (by omega)]
  | d + 1, i, k, h, hk => by
    obtain ⟨k, rfl⟩ : ∃ m, k = m + 1 := ⟨k - 1, by omega⟩
    rw [horologeref01_Ints.l0, if_pos (by omega), if_pos (by omega), if_pos (by omega), if_pos rfl, wrap64_in _ (by omega) (by omega)]
    exact ints_l0 x hx d (i + 1) k (by omega) (by omega)

theorem ints_same (x : List Int) (hx : x.length ≤ 140737488351232) (k : Nat) (hk : x.length < k) : horologeref01_Ints.f k x x = some true := by
  rw [horologeref01_Ints.f, if_pos rfl]
  exact ints_l0 x hx x.length 0 k (by omega) hk

theorem list_step (x q : List Int) (k : Nat) (i : Int) : pack_List.l0 (k + 1) q x x.length i = if i < (x.length : Int) then (if 0 ≤ i then (if i < (x.length : Int) then ((pack_put_uint64.f k q (IntKind.u64.wrap ((IntKind.u64.wrap (rd x i)) + 9223372036854775808)) 8).bind fun t132 => (pack_List.l0 k t132 x x.length (wrap64 (i + 1)))) else (none)) else (none)) else (some (strOfNums q, 0)) := by
  rw [pack_List.l0]

theorem list_put (q : List Int) (hq : q.length < 100000) (k : Nat) (a : Int) (G : List Int → Option (ByteArray × Int)) (r : Option (ByteArray × Int)) (e : G (q ++ be8 (a + 9223372036854775808)) = r) (hi : -9223372036854775808 ≤ a ∧ a < 9223372036854775808) :
    ((pack_put_uint64.f (k + 9) q (IntKind.u64.wrap ((IntKind.u64.wrap a) + 9223372036854775808)) 8).bind fun t132 => G t132) = r := by
  rw [half_wrap _ hi, put8_on q hq _ k]
  simp only [Option.bind_some]
  exact e

theorem list_one (x : List Int) (hx : x.length ≤ 512) (i k : Nat) (q : List Int) (hq : q.length < 100000) (h : i < x.length) (hr : ∀ n ∈ x, -9223372036854775808 ≤ n ∧ n < 9223372036854775808) (r : Option (ByteArray × Int))
    (e : pack_List.l0 (k + 9) (q ++ be8 (x[i] + 9223372036854775808)) x x.length (i + 1 : Nat) = r) : pack_List.l0 (k + 9 + 1) q x x.length i = r := by
  have hm : rd x i = x[i] := by unfold rd; rw [List.getD_eq_getElem?_getD, Int.toNat_natCast, List.getElem?_eq_getElem (by omega)]; rfl
  have hi := hr x[i] (List.getElem_mem (by omega))
  have hw : wrap64 ((i : Int) + 1) = ((i + 1 : Nat) : Int) := by unfold wrap64; omega
  rw [list_step, if_pos (by omega), if_pos (by omega), if_pos (by omega), hm, hw]
  exact list_put q hq k x[i] (fun t => pack_List.l0 (k + 9) t x x.length (i + 1 : Nat)) _ e hi

theorem list_l0 (x : List Int) (hx : x.length ≤ 512) (hr : ∀ n ∈ x, -9223372036854775808 ≤ n ∧ n < 9223372036854775808) (d : Nat) : ∀ (i k : Nat), i + d = x.length → d < k →
    pack_List.l0 (k + 9) (lt2 x.length ++ lay8 (x.take i)) x x.length i = some (strOfNums (lt2 x.length ++ lay8 x), 0) := by
  induction d with
  | zero =>
    intro i k h hk
    obtain ⟨k, rfl⟩ : ∃ m, k = m + 1 := ⟨k - 1, by omega⟩
    obtain rfl : i = x.length := by omega
    rw [show k + 1 + 9 = (k + 9) + 1 by omega, list_step, if_neg (by omega), List.take_length]
  | succ d ih =>
    intro i k h hk
    obtain ⟨k, rfl⟩ : ∃ m, k = m + 1 := ⟨k - 1, by omega⟩
    have e := ih (i + 1) k (by omega) (by omega)
    rw [List.take_succ_eq_append_getElem (show i < x.length by omega), lay8_append, lay8_one, ← List.append_assoc] at e
    have hq : (lt2 x.length ++ lay8 (x.take i)).length < 100000 := by
      rw [List.length_append, lay8_length, List.length_take]; simp only [lt2, List.length_cons, List.length_nil]; omega
    rw [show k + 1 + 9 = (k + 9) + 1 by omega]
    exact list_one x hx i k _ hq (by omega) hr _ e

theorem List_is (x : List Int) (hl : x.length ≤ 140737488351232) (hr : ∀ n ∈ x, -9223372036854775808 ≤ n ∧ n < 9223372036854775808) (k : Nat) : pack_List.f (k + 600) x = some (ltList x) := by
  rw [pack_List.f, ltList]
  by_cases h : (x.length : Int) > 512
  · rw [if_pos h, if_pos h]
  · rw [if_neg h, if_neg h, put2 _ (by omega) (k + 597)]
    simp only [Option.bind_some]
    have e := list_l0 x (by omega) hr x.length 0 (k + 591) (by omega) (by omega)
    rw [List.take_zero] at e
    exact e

theorem U_calls (n : Int) (w : World) : Calls Try.prog 23 #[.int .u64 n] w fun e w' => e = .returned (.string (strOfNums (be8 n))) ∧ Below w.heap.size w w' :=
  pack_U.calls 9 n _ w (U_is n 0)

theorem I_calls (n : Int) (h : -9223372036854775808 ≤ n ∧ n < 9223372036854775808) (w : World) :
    Calls Try.prog 25 #[.int .i64 n] w fun e w' => e = .returned (.string (strOfNums (be8 (n + 9223372036854775808)))) ∧ Below w.heap.size w w' :=
  pack_I.calls 9 n _ w (I_is n h 0)

theorem Text_calls (s : ByteArray) (hs : s.size ≤ 9223372036854775807) (w : World) :
    Calls Try.prog 27 #[.string s] w fun e w' => e = .returned (.tuple #[.string (ltText s).1, .int .i64 (ltText s).2]) ∧ Below w.heap.size w w' :=
  pack_Text.calls 3 s _ _ w (Text_is s hs 0)

theorem List_calls (A : Option Addr) (c : Nat) (x : List Int) (w : World) (hr : Kd.C (Kd.int .i64) w A x.length x) (hc : x.length ≤ c) (hx : ∀ n ∈ x, -9223372036854775808 ≤ n ∧ n < 9223372036854775808) (hl : x.length ≤ 140737488351232) :
    Calls Try.prog 29 #[.slice A x.length c] w fun e w' => e = .returned (.tuple #[.string (ltList x).1, .int .i64 (ltList x).2]) ∧ Below w.heap.size w w' :=
  pack_List.calls 600 A c x _ _ w hr hc (List_is x hl hx 0)

theorem ReadU_calls (s : ByteArray) (a : Int) (hs : s.size ≤ 140737488351232) (w : World) :
    Calls Try.prog 48 #[.string s, .int .i64 a] w fun e w' => e = .returned (.tuple #[.int .u64 (rdU s a).1, .int .i64 (rdU s a).2.1, .int .i64 (rdU s a).2.2]) ∧ Below w.heap.size w w' :=
  (pack_ReadU.calls 9 s a _ _ _ w (ReadU_is s a hs 0)).mono fun _ _ h => ⟨h.1, h.2.below⟩

theorem ReadI_calls (s : ByteArray) (a : Int) (hs : s.size ≤ 140737488351232) (w : World) :
    Calls Try.prog 50 #[.string s, .int .i64 a] w fun e w' => e = .returned (.tuple #[.int .i64 (rdI s a).1, .int .i64 (rdI s a).2.1, .int .i64 (rdI s a).2.2]) ∧ Below w.heap.size w w' :=
  (pack_ReadI.calls 9 s a _ _ _ w (ReadI_is s a hs 0)).mono fun _ _ h => ⟨h.1, h.2.below⟩

theorem ReadText_calls (s : ByteArray) (a : Int) (hs : s.size ≤ 140737488351232) (w : World) :
    Calls Try.prog 52 #[.string s, .int .i64 a] w fun e w' => e = .returned (.tuple #[.string (rdText s a).1, .int .i64 (rdText s a).2.1, .int .i64 (rdText s a).2.2]) ∧ Below w.heap.size w w' :=
  (pack_ReadText.calls 9 s a _ _ _ w (ReadText_is s a hs 0)).mono fun _ _ h => ⟨h.1, h.2.below⟩

theorem ReadList_calls (s : ByteArray) (a : Int) (hs : s.size ≤ 140737488351232) (w : World) :
    Calls Try.prog 54 #[.string s, .int .i64 a] w fun e w' => ∃ v : Value, e = .returned (.tuple #[v, .int .i64 (rdList s a).2.1, .int .i64 (rdList s a).2.2]) ∧ Kd.R (Kd.int .i64) 3 w' w.heap.size (fun _ => True) v (rdList s a).1 ∧ Below w.heap.size w w' :=
  pack_ReadList.calls 600 s a _ _ _ w (ReadList_is s a hs 0)

theorem awake_calls (w : World) : Calls Try.prog 22 #[] w fun e w' => e = .returned (.bool true) ∧ Below w.heap.size w w' :=
  horologelaw01_awake.calls 20 true w (by decide +kernel)

theorem Ints_calls (A B : Option Addr) (c d : Nat) (x : List Int) (w : World) (hr : Kd.C (Kd.int .i64) w A x.length x) (hc : x.length ≤ c) (hq : Kd.C (Kd.int .i64) w B x.length x) (hd : x.length ≤ d) (hl : x.length ≤ 140737488351232) :
    Calls Try.prog 56 #[.slice A x.length c, .slice B x.length d] w fun e w' => e = .returned (.bool true) ∧ Below w.heap.size w w' :=
  (horologeref01_Ints.calls (x.length + 1) A c x B d x true w hr hc hq hd (ints_same x hl _ (by omega))).mono fun _ _ h => ⟨h.1, h.2.below⟩

end Go.Proofs.Ytlbjcdfognofgaa.SBack
