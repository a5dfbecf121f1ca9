/- PackLays, the pure half: for every unsigned number and every signed one the eight bytes that the package pack lays are the reference's; no condition but that the numbers fit their kinds. -/
import Derived.Test.YtlbjcdfognofgaaPPackLaysx2
import Derived.Test.YtlbjcdfognofgaaBe
namespace Go.Proofs.Ytlbjcdfognofgaa.Pure
open Go.RowKit Go.Proofs.Ytlbjcdfognofgaa.PPackLays Go.Proofs.YtlbjcdfognofgaaW.PrintWords Go.Proofs.YtlbjcdfognofgaaW.PrintLast Go.Proofs.YtlbjcdfognofgaaW.PrintMore Go.Proofs.Ytlbjcdfognofgaa.Be

namespace PackLaysN
theorem put8 (n : Int) (k : Nat) : pack_put_uint64.f (k + 9) [] n 8 = some (be8 n) := by
  simp [pack_put_uint64.f, pack_put_uint64.l0, wrap64, shr, be8, IntKind.bits]

theorem put8_on (l : List Int) (hl : l.length < 100000) (n : Int) (k : Nat) : pack_put_uint64.f (k + 9) l n 8 = some (l ++ be8 n) := by
  have h : ∀ j : Nat, j ≤ 8 → l.length + j < 140737488355328 := by intro j hj; omega
  have h1 := h 1 (by decide)
  have h2 := h 2 (by decide)
  have h3 := h 3 (by decide)
  have h4 := h 4 (by decide)
  have h5 := h 5 (by decide)
  have h6 := h 6 (by decide)
  have h7 := h 7 (by decide)
  have h0 : l.length < 140737488355328 := by omega
  simp [pack_put_uint64.f, pack_put_uint64.l0, wrap64, shr, be8, IntKind.bits, h0, h1, h2, h3, h4, h5, h6, h7]

theorem U_is (n : Int) (k : Nat) : pack_U.f (k + 9) n = some (strOfNums (be8 n)) := by
  rw [pack_U.f, put8]; rfl

theorem I_is (n : Int) (h : -9223372036854775808 ≤ n ∧ n < 9223372036854775808) (k : Nat) : pack_I.f (k + 9) n = some (strOfNums (be8 (n + 9223372036854775808))) := by
  rw [pack_I.f, put8, half_wrap n h]; rfl

theorem refU_is (n : Int) (h0 : 0 ≤ n) (h1 : n < 18446744073709551616) (k : Nat) : horologeref01_U.f (k + 9) n = some (strOfNums (be8 n)) := by
  have hw : ∀ x : Int, 0 ≤ x → x < 18446744073709551616 → IntKind.u64.wrap (Int.tdiv x 256) = x / 256 := by
    intro x a b
    rw [Int.tdiv_eq_ediv_of_nonneg a, wrap_u64_in _ (by omega) (by omega)]
  have hm : ∀ x : Int, 0 ≤ x → Int.tmod x 256 % 256 = x % 256 := by
    intro x a
    rw [Int.tmod_eq_emod_of_nonneg a]; omega
  have step : ∀ (j : Nat) (x : Int) (l : List Int) (i : Int), 0 ≤ x → x < 18446744073709551616 → 0 ≤ i → i < 8 → l.length < 100 →
      horologeref01_U.l0 (j + 1) x l i = horologeref01_U.l0 j (x / 256) (x % 256 :: l) (i + 1) := by
    intro j x l i a b c d e
    rw [horologeref01_U.l0, if_pos d, hw x a b, hm x a]
    simp only [Option.bind_some, List.length_cons, List.length_nil, List.cons_append, List.nil_append]
    rw [if_pos (by omega), show wrap64 (i + 1) = i + 1 by unfold wrap64; omega]
  rw [horologeref01_U.f, be8_bek]
  rw [step _ _ _ _ (by omega) (by omega) (by omega) (by omega) (by simp), step _ _ _ _ (by omega) (by omega) (by omega) (by omega) (by simp),
    step _ _ _ _ (by omega) (by omega) (by omega) (by omega) (by simp), step _ _ _ _ (by omega) (by omega) (by omega) (by omega) (by simp),
    step _ _ _ _ (by omega) (by omega) (by omega) (by omega) (by simp), step _ _ _ _ (by omega) (by omega) (by omega) (by omega) (by simp),
    step _ _ _ _ (by omega) (by omega) (by omega) (by omega) (by simp), step _ _ _ _ (by omega) (by omega) (by omega) (by omega) (by simp)]
  rw [horologeref01_U.l0, if_neg (by omega)]
  simp only [bek, List.nil_append, List.cons_append]

theorem refI_is (n : Int) (h : -9223372036854775808 ≤ n ∧ n < 9223372036854775808) (k : Nat) : horologeref01_I.f (k + 9) n = some (strOfNums (be8 (n + 9223372036854775808))) := by
  rw [horologeref01_I.f, half_wrap n h, refU_is _ (by omega) (by omega)]; rfl

theorem awakes : horologelaw01_awake.f 20 = some true := by decide +kernel
end PackLaysN
open PackLaysN

theorem PackLays : horologelaw01_PackLays.Pure := by
  intro n m hn hm
  have hn := wf_u64 hn
  have hm := wf_i64 hm
  refine ⟨20, ?_⟩
  rw [horologelaw01_PackLays.f, awakes]
  simp only [Option.bind_some, if_true]
  rw [U_is n 11, refU_is n hn.1 hn.2 11, I_is m hm 11, refI_is m hm 11]
  simp

end Go.Proofs.Ytlbjcdfognofgaa.Pure
