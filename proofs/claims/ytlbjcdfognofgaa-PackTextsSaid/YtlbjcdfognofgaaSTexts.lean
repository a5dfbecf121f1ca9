/- What the functions come to that PackTexts reaches, as contracts in plain words (over the print of PackTexts' callees); and the reference's List, walked by hand. -/
import Derived.Test.YtlbjcdfognofgaaPPackTextsx1
import Derived.Test.YtlbjcdfognofgaaPPackTextsx2
import Derived.Test.YtlbjcdfognofgaaLt
import Derived.Test.YtlbjcdfognofgaaBrow
namespace Go.Proofs.Ytlbjcdfognofgaa.STexts
open Go.RowKit Go.Proofs.Ytlbjcdfognofgaa.PPackTexts Go.Proofs.YtlbjcdfognofgaaW.PrintWords Go.Proofs.YtlbjcdfognofgaaW.PrintLast Go.Proofs.YtlbjcdfognofgaaW.PrintMore Go.Proofs.Ytlbjcdfognofgaa.Be Go.Proofs.Ytlbjcdfognofgaa.Brow

theorem put8 (n : Int) (k : Nat) : pack_put_uint64.f (k + 9) [] n 8 = some (be8 n) := by
  simp [pack_put_uint64.f, pack_put_uint64.l0, wrap64, shr, be8, IntKind.bits]

theorem put8_on (l : List Int) (hl : l.length < 100000) (n : Int) (k : Nat) : pack_put_uint64.f (k + 9) l n 8 = some (l ++ be8 n) := by
  have h : ∀ j : Nat, j ≤ 8 → l.length + j < 140737488355328 := by intro j hj; omega
  have h1 := h 1 (by decide)
  have h2 := h 2 (by decide)
  have h3 := h 3 (by decide)
  have h4 := h 4 (by decide)
  have h5 := h 5 (by decide)
  have h6 := h 6 (by decide)
  have h7 := h 7 (by decide)
  have h0 : l.length < 140737488355328 := by omega
  simp [pack_put_uint64.f, pack_put_uint64.l0, wrap64, shr, be8, IntKind.bits, h0, h1, h2, h3, h4, h5, h6, h7]

theorem U_is (n : Int) (k : Nat) : pack_U.f (k + 9) n = some (strOfNums (be8 n)) := by
  rw [pack_U.f, put8]; rfl

theorem I_is (n : Int) (h : -9223372036854775808 ≤ n ∧ n < 9223372036854775808) (k : Nat) : pack_I.f (k + 9) n = some (strOfNums (be8 (n + 9223372036854775808))) := by
  rw [pack_I.f, put8, half_wrap n h]; rfl

theorem refU_is (n : Int) (h0 : 0 ≤ n) (h1 : n < 18446744073709551616) (k : Nat) : horologeref01_U.f (k + 9) n = some (strOfNums (be8 n)) := by
  have hw : ∀ x : Int, 0 ≤ x → x < 18446744073709551616 → IntKind.u64.wrap (Int.tdiv x 256) = x / 256 := by
    intro x a b
    rw [Int.tdiv_eq_ediv_of_nonneg a, wrap_u64_in _ (by omega) (by omega)]
  have hm : ∀ x : Int, 0 ≤ x → Int.tmod x 256 % 256 = x % 256 := by
    intro x a
    rw [Int.tmod_eq_emod_of_nonneg a]; omega
  have step : ∀ (j : Nat) (x : Int) (l : List Int) (i : Int), 0 ≤ x → x < 18446744073709551616 → 0 ≤ i → i < 8 → l.length < 100 →
      horologeref01_U.l0 (j + 1) x l i = horologeref01_U.l0 j (x / 256) (x % 256 :: l) (i + 1) := by
    intro j x l i a b c d e
    rw [horologeref01_U.l0, if_pos d, hw x a b, hm x a]
    simp only [Option.bind_some, List.length_cons, List.length_nil, List.cons_append, List.nil_append]
    rw [if_pos (by omega), show wrap64 (i + 1) = i + 1 by unfold wrap64; omega]
  rw [horologeref01_U.f, be8_bek]
  rw [step _ _ _ _ (by omega) (by omega) (by omega) (by omega) (by simp), step _ _ _ _ (by omega) (by omega) (by omega) (by omega) (by simp),
    step _ _ _ _ (by omega) (by omega) (by omega) (by omega) (by simp), step _ _ _ _ (by omega) (by omega) (by omega) (by omega) (by simp),
    step _ _ _ _ (by omega) (by omega) (by omega) (by omega) (by simp), step _ _ _ _ (by omega) (by omega) (by omega) (by omega) (by simp),
    step _ _ _ _ (by omega) (by omega) (by omega) (by omega) (by simp), step _ _ _ _ (by omega) (by omega) (by omega) (by omega) (by simp)]
  rw [horologeref01_U.l0, if_neg (by omega)]
  simp only [bek, List.nil_append, List.cons_append]

theorem refI_is (n : Int) (h : -9223372036854775808 ≤ n ∧ n < 9223372036854775808) (k : Nat) : horologeref01_I.f (k + 9) n = some (strOfNums (be8 (n + 9223372036854775808))) := by
  rw [horologeref01_I.f, half_wrap n h, refU_is _ (by omega) (by omega)]; rfl

theorem put2 (n : Int) (h : 0 ≤ n ∧ n < 18446744073709551616) (k : Nat) : pack_put_int.f (k + 3) [] n 2 = some [n / 256 % 256, n % 256] := by
  simp [pack_put_int.f, pack_put_int.l0, wrap64, shr, IntKind.bits, wrap_u64_in n h.1 h.2]

theorem Text_is (s : ByteArray) (hs : s.size ≤ 9223372036854775807) (k : Nat) : pack_Text.f (k + 3) s = some (ltText s) := by
  rw [pack_Text.f, ltText]
  by_cases h : (s.size : Int) > 4096
  · rw [if_pos h, if_pos h]
  · rw [if_neg h, if_neg h, put2 _ (by omega) k]
    simp only [Option.bind_some]
    rw [if_pos (by rw [size_strOfNums]; simp only [List.length_cons, List.length_nil]; omega)]
    rfl

theorem list_step (x q : List Int) (k : Nat) (i : Int) : pack_List.l0 (k + 1) q x x.length i = if i < (x.length : Int) then (if 0 ≤ i then (if i < (x.length : Int) then ((pack_put_uint64.f k q (IntKind.u64.wrap ((IntKind.u64.wrap (rd x i)) + 9223372036854775808)) 8).bind fun t132 => (pack_List.l0 k t132 x x.length (wrap64 (i + 1)))) else (none)) else (none)) else (some (strOfNums q, 0)) := by
  rw [pack_List.l0]

theorem list_put (q : List Int) (hq : q.length < 100000) (k : Nat) (a : Int) (G : List Int → Option (ByteArray × Int)) (r : Option (ByteArray × Int)) (e : G (q ++ be8 (a + 9223372036854775808)) = r) (hi : -9223372036854775808 ≤ a ∧ a < 9223372036854775808) :
    ((pack_put_uint64.f (k + 9) q (IntKind.u64.wrap ((IntKind.u64.wrap a) + 9223372036854775808)) 8).bind fun t132 => G t132) = r := by
  rw [half_wrap _ hi, put8_on q hq _ k]
  simp only [Option.bind_some]
  exact e

theorem list_one (x : List Int) (hx : x.length ≤ 512) (i k : Nat) (q : List Int) (hq : q.length < 100000) (h : i < x.length) (hr : ∀ n ∈ x, -9223372036854775808 ≤ n ∧ n < 9223372036854775808) (r : Option (ByteArray × Int))
    (e : pack_List.l0 (k + 9) (q ++ be8 (x[i] + 9223372036854775808)) x x.length (i + 1 : Nat) = r) : pack_List.l0 (k + 9 + 1) q x x.length i = r := by
  have hm : rd x i = x[i] := by unfold rd; rw [List.getD_eq_getElem?_getD, Int.toNat_natCast, List.getElem?_eq_getElem (by omega)]; rfl
  have hi := hr x[i] (List.getElem_mem (by omega))
  have hw : wrap64 ((i : Int) + 1) = ((i + 1 : Nat) : Int) := by unfold wrap64; omega
  rw [list_step, if_pos (by omega), if_pos (by omega), if_pos (by omega), hm, hw]
  exact list_put q hq k x[i] (fun t => pack_List.l0 (k + 9) t x x.length (i + 1 : Nat)) _ e hi

theorem list_l0 (x : List Int) (hx : x.length ≤ 512) (hr : ∀ n ∈ x, -9223372036854775808 ≤ n ∧ n < 9223372036854775808) (d : Nat) : ∀ (i k : Nat), i + d = x.length → d < k →
    pack_List.l0 (k + 9) (lt2 x.length ++ lay8 (x.take i)) x x.length i = some (strOfNums (lt2 x.length ++ lay8 x), 0) := by
  induction d with
  | zero =>
    intro i k h hk
    obtain ⟨k, rfl⟩ : ∃ m, k = m + 1 := ⟨k - 1, by omega⟩
    obtain rfl : i = x.length := by omega
    rw [show k + 1 + 9 = (k + 9) + 1 by omega, list_step, if_neg (by omega), List.take_length]
  | succ d ih =>
    intro i k h hk
    obtain ⟨k, rfl⟩ : ∃ m, k = m + 1 := ⟨k - 1, by omega⟩
    have e := ih (i + 1) k (by omega) (by omega)
    rw [List.take_succ_eq_append_getElem (show i < x.length by omega), lay8_append, lay8_one, ← List.append_assoc] at e
    have hq : (lt2 x.length ++ lay8 (x.take i)).length < 100000 := by
      rw [List.length_append, lay8_length, List.length_take]; simp only [lt2, List.length_cons, List.length_nil]; omega
    rw [show k + 1 + 9 = (k + 9) + 1 by omega]
    exact list_one x hx i k _ hq (by omega) hr _ e

theorem List_is (x : List Int) (hl : x.length ≤ 140737488351232) (hr : ∀ n ∈ x, -9223372036854775808 ≤ n ∧ n < 9223372036854775808) (k : Nat) : pack_List.f (k + 600) x = some (ltList x) := by
  rw [pack_List.f, ltList]
  by_cases h : (x.length : Int) > 512
  · rw [if_pos h, if_pos h]
  · rw [if_neg h, if_neg h, put2 _ (by omega) (k + 597)]
    simp only [Option.bind_some]
    have e := list_l0 x (by omega) hr x.length 0 (k + 591) (by omega) (by omega)
    rw [List.take_zero] at e
    exact e

theorem Two_is (n : Int) (h : 0 ≤ n ∧ n < 65536) : horologeref01_Two.f n = some (strOfNums (lt2 n)) := by
  rw [horologeref01_Two.f, Int.tdiv_eq_ediv_of_nonneg h.1, Int.tmod_eq_emod_of_nonneg h.1, wrap64_in _ (by omega) (by omega)]
  simp [lt2]

theorem refText_is (s : ByteArray) (hs : s.size ≤ 9223372036854775807) : horologeref01_Text.f s = some (ltText s) := by
  rw [horologeref01_Text.f, ltText]
  by_cases h : (s.size : Int) > 4096
  · rw [if_pos h, if_pos h]
  · rw [if_neg h, if_neg h, Two_is _ (by omega)]
    simp only [Option.bind_some]
    rw [if_pos (by rw [size_strOfNums]; simp only [lt2, List.length_cons, List.length_nil]; omega)]

theorem awake_calls (w : World) : Calls Try.prog 22 #[] w fun e w' => e = .returned (.bool true) ∧ Below w.heap.size w w' :=
  horologelaw01_awake.calls 20 true w (by decide +kernel)

theorem Text_calls (s : ByteArray) (hs : s.size ≤ 9223372036854775807) (w : World) :
    Calls Try.prog 27 #[.string s] w fun e w' => e = .returned (.tuple #[.string (ltText s).1, .int .i64 (ltText s).2]) ∧ Below w.heap.size w w' :=
  pack_Text.calls 3 s _ _ w (Text_is s hs 0)

theorem refText_calls (s : ByteArray) (hs : s.size ≤ 9223372036854775807) (w : World) :
    Calls Try.prog 28 #[.string s] w fun e w' => e = .returned (.tuple #[.string (ltText s).1, .int .i64 (ltText s).2]) ∧ Below w.heap.size w w' :=
  horologeref01_Text.calls s _ _ w (refText_is s hs)

theorem Two_calls (n : Int) (h : 0 ≤ n ∧ n < 65536) (w : World) :
    Calls Try.prog 82 #[.int .i64 n] w fun e w' => e = .returned (.string (strOfNums (lt2 n))) ∧ Below w.heap.size w w' :=
  horologeref01_Two.calls n _ w (Two_is n h)

theorem refI_calls (n : Int) (h : -9223372036854775808 ≤ n ∧ n < 9223372036854775808) (w : World) :
    Calls Try.prog 26 #[.int .i64 n] w fun e w' => e = .returned (.string (strOfNums (be8 (n + 9223372036854775808)))) ∧ Below w.heap.size w w' :=
  horologeref01_I.calls 9 n _ w (refI_is n h 0)

theorem List_calls (A : Option Addr) (c : Nat) (x : List Int) (w : World) (hr : Kd.C (Kd.int .i64) w A x.length x) (hc : x.length ≤ c) (hx : ∀ n ∈ x, -9223372036854775808 ≤ n ∧ n < 9223372036854775808) (hl : x.length ≤ 140737488351232) :
    Calls Try.prog 29 #[.slice A x.length c] w fun e w' => e = .returned (.tuple #[.string (ltList x).1, .int .i64 (ltList x).2]) ∧ Below w.heap.size w w' :=
  pack_List.calls 600 A c x _ _ w hr hc (List_is x hl hx 0)

end Go.Proofs.Ytlbjcdfognofgaa.STexts
