/- What the reader reads. -/
import Derived.Test.YtlbjcdfognofgaaRecB
import Derived.Deep.DrawnRows
import Derived.Deep.RegionHeld3
namespace Go.Proofs.Ytlbjcdfognofgaa.RecC
open Go.RowKit Go.Proofs.YtlbjcdfognofgaaW.PrintWords Go.Proofs.YtlbjcdfognofgaaW.PrintLast Go.Proofs.YtlbjcdfognofgaaW.PrintMore Go.Proofs.Ytlbjcdfognofgaa.Be Go.Proofs.Ytlbjcdfognofgaa.Fl Go.Proofs.Ytlbjcdfognofgaa.StampA Go.Proofs.Ytlbjcdfognofgaa.StampB Go.Proofs.Ytlbjcdfognofgaa.StampC Go.Proofs.Ytlbjcdfognofgaa.StampD Go.Proofs.Ytlbjcdfognofgaa.StampK Go.Proofs.Ytlbjcdfognofgaa.SRec Go.Proofs.Ytlbjcdfognofgaa.StampQ Go.Proofs.Ytlbjcdfognofgaa.StampR Go.Proofs.Ytlbjcdfognofgaa.RecA Go.Proofs.Ytlbjcdfognofgaa.RecB Go.Proofs.Ytlbjcdfognofgaa.PRecStates
attribute [local go_sem ↓] Go.wp_at_zero Go.wp_at_succ

attribute [local go_sem] run_store_float
set_option linter.unusedVariables false

theorem iss {w0 W : World} {g : Nat} {s : ByteArray} {a : Int} {b : Bool} (h : IsS115 w0 W g s a b := by repeat (first | (with_reducible exact Aside0.out (by assumption)) | (with_reducible first | apply IsS115.alloc | apply IsS115.drewN | apply IsS115.drew) | refine IsS115.far ?_ (by first | assumption | (simp; done) | (simp; omega) | omega) _)) : IsS115 w0 W g s a b := h

/-- A time that is read: no number, if there is none. -/
def tmV (u : Int) : Nat := if isNan (dk u) ∨ dk u = 9223372036854775808 then 9221120237041090561 else dk u
/-- What the reader's words come to: the value, the place behind it, whether the bytes ended. -/
def tmR (s : ByteArray) (a : Int) (b : Bool) : Nat × Int × Bool := if (s.size : Int) - a < 8 then (0, a, true) else (tmV (nm s a 8), a + 8, b)
def byR (s : ByteArray) (a : Int) (b : Bool) : Int × Int × Bool := if (s.size : Int) ≤ a then (0, a, true) else (bt s a, a + 1, b)
def inR (s : ByteArray) (a : Int) (b : Bool) : Int × Int × Bool := if (s.size : Int) - a < 8 then (0, a, true) else (nm s a 8 - 9223372036854775808, a + 8, b)
def enR (s : ByteArray) (a : Int) (b ok : Bool) : Int := if b = true then 5 else if a < s.size then 6 else if ok = true then 0 else 6

theorem tmR_in {s : ByteArray} {a : Int} {b : Bool} (h : 0 ≤ a ∧ a ≤ s.size) : 0 ≤ (tmR s a b).2.1 ∧ (tmR s a b).2.1 ≤ s.size := by
  unfold tmR; split <;> exact ⟨by first | exact h.1 | (show 0 ≤ a + 8; omega), by first | exact h.2 | (show a + 8 ≤ (s.size : Int); omega)⟩
theorem byR_in {s : ByteArray} {a : Int} {b : Bool} (h : 0 ≤ a ∧ a ≤ s.size) : 0 ≤ (byR s a b).2.1 ∧ (byR s a b).2.1 ≤ s.size := by
  unfold byR; split <;> exact ⟨by first | exact h.1 | (show 0 ≤ a + 1; omega), by first | exact h.2 | (show a + 1 ≤ (s.size : Int); omega)⟩
theorem inR_in {s : ByteArray} {a : Int} {b : Bool} (h : 0 ≤ a ∧ a ≤ s.size) : 0 ≤ (inR s a b).2.1 ∧ (inR s a b).2.1 ≤ s.size := by
  unfold inR; split <;> exact ⟨by first | exact h.1 | (show 0 ≤ a + 8; omega), by first | exact h.2 | (show a + 8 ≤ (s.size : Int); omega)⟩

theorem bt_in (s : ByteArray) (i : Int) : 0 ≤ bt s i ∧ bt s i ≤ 255 := bt_range s i
theorem byR_range (s : ByteArray) (a : Int) (b : Bool) : 0 ≤ (byR s a b).1 ∧ (byR s a b).1 ≤ 255 := by
  unfold byR; split
  · exact ⟨Int.le_refl 0, (by decide : (0 : Int) ≤ 255)⟩
  · exact bt_range s a
theorem inR_range (s : ByteArray) (a : Int) (b : Bool) : -9223372036854775808 ≤ (inR s a b).1 ∧ (inR s a b).1 < 9223372036854775808 := by
  unfold inR; split
  · exact ⟨by show (_ : Int) ≤ (0 : Int); decide, by show (0 : Int) < _; decide⟩
  · have := nm8 s a
    exact ⟨by show _ ≤ nm s a 8 - _; omega, by show nm s a 8 - _ < _; omega⟩

theorem get_eq : ∀ (k : Nat) (s : ByteArray) (n m i : Int), PRecStates.pack_get_uint64.l0 k s n m i = PStampKeys.pack_get_uint64.l0 k s n m i
  | 0, _, _, _, _ => rfl
  | k + 1, s, n, m, i => by
    rw [PRecStates.pack_get_uint64.l0, PStampKeys.pack_get_uint64.l0, get_eq k]

theorem left_eq (k : Nat) (s : ByteArray) (n m : Int) : PRecStates.pack_left.f k s n m = PStampKeys.pack_left.f k s n m := by
  cases k <;> rfl

theorem ReadI_is' (s : ByteArray) (a : Int) (hz : s.size ≤ 140737488351232) : PRecStates.pack_ReadI.f 20 s a = some (rdI s a) := by
  have h : PRecStates.pack_ReadI.f 20 s a = PStampKeys.pack_ReadI.f 20 s a := by
    simp only [PRecStates.pack_ReadI.f, PStampKeys.pack_ReadI.f, PRecStates.pack_ReadU.f, PStampKeys.pack_ReadU.f, PRecStates.pack_get_uint64.f, PStampKeys.pack_get_uint64.f, get_eq, left_eq]
  rw [h]
  exact SRec.ReadI_is s a hz 11

theorem byte_calls (g : Nat) (s : ByteArray) (a : Int) (b : Bool) (w0 w : World) (hz : s.size ≤ 140737488351232) (ha : 0 ≤ a ∧ a ≤ s.size) (hI : IsS115 w0 w g s a b) (hB : Below w0.heap.size w0 w) :
    Calls Try.prog 94 #[.pointer (some ⟨g, 0, none⟩)] w fun e w' => e = .returned (.int .i64 (byR s a b).1) ∧ IsS115 w0 w' g s (byR s a b).2.1 (byR s a b).2.2 ∧ Below w0.heap.size w0 w' ∧ KeepBut w w' g none := by
  refine rec_reader_byte.calls g s a b _ s _ _ w0 w hI hB ?_
  have hb := bt_range s a
  rw [rec_reader_byte.f, byR]
  by_cases h : (s.size : Int) ≤ a
  · rw [if_pos h, if_pos h]
  · rw [if_neg (by omega), if_neg h, wrap64_in (a + 1) (by omega) (by omega), show a + 1 - 1 = a by omega, wrap64_in a (by omega) (by omega), if_pos (by omega), if_pos (by omega), wrap64_in _ (by omega) (by omega)]

theorem int_calls (g : Nat) (s : ByteArray) (a : Int) (b : Bool) (w0 w : World) (hz : s.size ≤ 140737488351232) (ha : 0 ≤ a ∧ a ≤ s.size) (hI : IsS115 w0 w g s a b) (hB : Below w0.heap.size w0 w) :
    Calls Try.prog 95 #[.pointer (some ⟨g, 0, none⟩)] w fun e w' => e = .returned (.int .i64 (inR s a b).1) ∧ IsS115 w0 w' g s (inR s a b).2.1 (inR s a b).2.2 ∧ Below w0.heap.size w0 w' ∧ KeepBut w w' g none := by
  refine rec_reader_int.calls 20 g s a b _ s _ _ w0 w hI hB ?_
  have hr : PRecStates.pack_ReadI.f 20 s a = some (rdI s a) := ReadI_is' s a hz
  rw [rec_reader_int.f, hr, inR, rdI, if_neg (by omega)]
  by_cases h : (s.size : Int) - a < 8
  · rw [if_pos h, if_pos h]; rfl
  · rw [if_neg h, if_neg h]; rfl

theorem end_calls (g : Nat) (s : ByteArray) (a : Int) (b ok : Bool) (w0 w : World) (hI : IsS115 w0 w g s a b) (hB : Below w0.heap.size w0 w) :
    Calls Try.prog 96 #[.pointer (some ⟨g, 0, none⟩), .bool ok] w fun e w' => e = .returned (.int .i64 (enR s a b ok)) ∧ IsS115 w0 w' g s a b ∧ Below w0.heap.size w0 w' ∧ KeepBut w w' g none := by
  refine rec_reader_end.calls g s a b ok _ s _ _ w0 w hI hB ?_
  rw [rec_reader_end.f, enR]
  split
  · rfl
  · split
    · rfl
    · split <;> rfl

theorem nm_first (Y Z : ByteArray) (hY : Y.size = 8) : nm (Y ++ Z) 0 8 = nm Y 0 8 := by
  have h1 : nm (Y ++ Z) 0 8 = _ := nm_val (Y ++ Z) 0 8 (by rw [ByteArray.size_append]; omega)
  have h2 : nm Y 0 8 = _ := nm_val Y 0 8 (by omega)
  rw [h1, h2, bn_append, List.drop_zero, List.drop_zero, List.take_append_of_le_length (by rw [bn_length, hY]; exact Nat.le_refl 8)]

theorem bn_zero8 : strOfNums (be8 ((0 : Int) + 9223372036854775808)) = strOfNums (be8 9223372036854775808) := rfl

theorem time_all (g : Nat) (s : ByteArray) (a : Int) (b : Bool) (w0 w : World) (hz : s.size ≤ 140737488351232) (ha : 0 ≤ a ∧ a ≤ s.size) (hI : IsS115 w0 w g s a b) (hB : Below w0.heap.size w0 w) :
    Calls Try.prog 109 #[.pointer (some ⟨g, 0, none⟩)] w fun e w' => e = .returned (.float .f64 (tmR s a b).1) ∧ IsS115 w0 w' g s (tmR s a b).2.1 (tmR s a b).2.2 ∧ Below w0.heap.size w0 w' ∧ KeepBut w w' g none := by
  by_cases h : (s.size : Int) - a < 8
  · rw [tmR, if_pos h]
    exact time_short g s a b w0 w hI hB ha hz h
  rw [tmR, if_neg h]
  have hx : (s.extract a.toNat (a + 8).toNat).size = 8 := by rw [size_extract' _ _ _ (by omega)]; omega
  have hZ : (strOfNums (be8 ((0 : Int) + 9223372036854775808))).size = 8 := by rw [size_strOfNums]; rfl
  have hY : (s.extract a.toNat (a + 8).toNat ++ strOfNums (be8 ((0 : Int) + 9223372036854775808)) ++ strOfNums (be8 ((0 : Int) + 9223372036854775808))).size = 24 := by rw [ByteArray.size_append, ByteArray.size_append, hx, hZ]
  have hn : nm (s.extract a.toNat (a + 8).toNat ++ strOfNums (be8 ((0 : Int) + 9223372036854775808)) ++ strOfNums (be8 ((0 : Int) + 9223372036854775808))) 0 8 = nm s a 8 := by
    have h3 := nm_extract s a.toNat (a + 8).toNat (by omega) 8 (by omega)
    rw [show ((a.toNat : Nat) : Int) = a by omega] at h3
    rw [← h3, ByteArray.append_assoc]
    exact nm_first _ _ hx
  have CI : Aside0 (∀ w, Calls Try.prog 25 #[.int .i64 0] w fun e w' => e = .returned (.string (strOfNums (be8 ((0 : Int) + 9223372036854775808)))) ∧ Below w.heap.size w w') := ⟨fun w => I_calls 0 (by decide) w⟩
  have CR := fun w => rd69_calls (s.extract a.toNat (a + 8).toNat ++ strOfNums (be8 ((0 : Int) + 9223372036854775808)) ++ strOfNums (be8 ((0 : Int) + 9223372036854775808))) 0 (by omega) w
  unfold rdS at CR
  rw [hY, hn, if_neg (by omega), if_neg (by omega)] at CR
  by_cases hb : isNan (dk (nm s a 8)) ∨ dk (nm s a 8) = 9223372036854775808
  · rw [if_pos hb] at CR
    rw [tmV, if_pos hb]
    exact time_bad g s a b 0 0 0 0 7 _ w0 w hI hB ⟨ha.1, by omega⟩ hz (by decide) (by omega) CI ⟨CR⟩
  · rw [if_neg hb] at CR
    rw [tmV, if_neg hb]
    exact time_good g s a b _ _ _ _ 0 _ w0 w hI hB ⟨ha.1, by omega⟩ hz ⟨Int.le_refl 0, Int.le_refl 0⟩ (by omega) CI ⟨CR⟩

end Go.Proofs.Ytlbjcdfognofgaa.RecC
