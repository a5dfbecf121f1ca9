/- What any bytes are, read as events: the reference and the program come to the same. -/
import Derived.Test.YtlbjcdfognofgaaRecK
import Derived.Deep.DrawnRows
import Derived.Deep.RegionHeld3
namespace Go.Proofs.Ytlbjcdfognofgaa.RecL
open Go.RowKit Go.Proofs.YtlbjcdfognofgaaW.PrintWords Go.Proofs.YtlbjcdfognofgaaW.PrintLast Go.Proofs.YtlbjcdfognofgaaW.PrintMore Go.Proofs.Ytlbjcdfognofgaa.Be Go.Proofs.Ytlbjcdfognofgaa.Fl Go.Proofs.Ytlbjcdfognofgaa.StampA Go.Proofs.Ytlbjcdfognofgaa.StampB Go.Proofs.Ytlbjcdfognofgaa.StampC Go.Proofs.Ytlbjcdfognofgaa.StampD Go.Proofs.Ytlbjcdfognofgaa.StampK Go.Proofs.Ytlbjcdfognofgaa.SRec Go.Proofs.Ytlbjcdfognofgaa.StampQ Go.Proofs.Ytlbjcdfognofgaa.StampR Go.Proofs.Ytlbjcdfognofgaa.Wk Go.Proofs.Ytlbjcdfognofgaa.RecA Go.Proofs.Ytlbjcdfognofgaa.RecB Go.Proofs.Ytlbjcdfognofgaa.RecC Go.Proofs.Ytlbjcdfognofgaa.RecD Go.Proofs.Ytlbjcdfognofgaa.RecE Go.Proofs.Ytlbjcdfognofgaa.RecF Go.Proofs.Ytlbjcdfognofgaa.RecI Go.Proofs.Ytlbjcdfognofgaa.PRecStates Go.Proofs.Ytlbjcdfognofgaa.RecK
attribute [local go_sem ↓] Go.wp_at_zero Go.wp_at_succ
attribute [local go_sem] run_store_float
set_option linter.unusedVariables false


theorem tmR_ok {s : ByteArray} {a : Int} (b : Bool) (h : a + 8 ≤ s.size) : tmR s a b = (tmV (nm s a 8), a + 8, b) := by rw [tmR, if_neg (by omega)]
theorem byR_ok {s : ByteArray} {a : Int} (b : Bool) (h : a < s.size) : byR s a b = (bt s a, a + 1, b) := by rw [byR, if_neg (by omega)]
theorem inR_ok {s : ByteArray} {a : Int} (b : Bool) (h : a + 8 ≤ s.size) : inR s a b = (nm s a 8 - 9223372036854775808, a + 8, b) := by rw [inR, if_neg (by omega)]
theorem tmR_no {s : ByteArray} {a : Int} (b : Bool) (h : (s.size : Int) < a + 8) : tmR s a b = (0, a, true) := by rw [tmR, if_pos (by omega)]
theorem byR_no {s : ByteArray} {a : Int} (b : Bool) (h : (s.size : Int) ≤ a) : byR s a b = (0, a, true) := by rw [byR, if_pos h]
theorem inR_no {s : ByteArray} {a : Int} (b : Bool) (h : (s.size : Int) < a + 8) : inR s a b = (0, a, true) := by rw [inR, if_pos (by omega)]
theorem byR_true (s : ByteArray) (a : Int) : (byR s a true).2.2 = true := by unfold byR; split <;> rfl
theorem inR_true (s : ByteArray) (a : Int) : (inR s a true).2.2 = true := by unfold inR; split <;> rfl
theorem tmR_true (s : ByteArray) (a : Int) : (tmR s a true).2.2 = true := by unfold tmR; split <;> rfl
theorem byR_of {s : ByteArray} {a : Int} {b : Bool} (h : b = true) : (byR s a b).2.2 = true := by subst h; exact byR_true s a
theorem inR_of {s : ByteArray} {a : Int} {b : Bool} (h : b = true) : (inR s a b).2.2 = true := by subst h; exact inR_true s a
theorem tmR_of {s : ByteArray} {a : Int} {b : Bool} (h : b = true) : (tmR s a b).2.2 = true := by subst h; exact tmR_true s a

/-- The event that stands at a place; of a key. -/
def evAt (s : ByteArray) (a : Int) : Ev := (tmV (nm s a 8), bt s (a + 8) - 1, nm s (a + 9) 8 - 9223372036854775808, bt s (a + 17), nm s (a + 18) 8 - 9223372036854775808)
def kvAt (s : ByteArray) (a d : Int) : Ev := (tmV (nm s a 8), bt s (a + 8) - 1, nm s (a + 9) 8 - 9223372036854775808, d, nm s (a + 17) 8 - 9223372036854775808)

theorem evA_ok {s : ByteArray} {a : Int} (b : Bool) (h : a + 26 ≤ s.size) : evA s a b = (evAt s a, a + 26, b) := by
  unfold evA
  simp only [tmR_ok b (show a + 8 ≤ s.size by omega), byR_ok b (show a + 8 < s.size by omega), inR_ok b (show a + 8 + 1 + 8 ≤ s.size by omega), byR_ok b (show a + 8 + 1 + 8 < s.size by omega), inR_ok b (show a + 8 + 1 + 8 + 1 + 8 ≤ s.size by omega)]
  rw [evAt, show a + 8 + 1 = a + 9 by omega, show a + 9 + 8 = a + 17 by omega, show a + 17 + 1 = a + 18 by omega, show a + 18 + 8 = a + 26 by omega]

theorem evB_ok {s : ByteArray} {a : Int} (b : Bool) (d : Int) (h : a + 25 ≤ s.size) : evB s a b d = (kvAt s a d, a + 25, b) := by
  unfold evB
  simp only [tmR_ok b (show a + 8 ≤ s.size by omega), byR_ok b (show a + 8 < s.size by omega), inR_ok b (show a + 8 + 1 + 8 ≤ s.size by omega), inR_ok b (show a + 8 + 1 + 8 + 8 ≤ s.size by omega)]
  rw [kvAt, show a + 8 + 1 = a + 9 by omega, show a + 9 + 8 = a + 17 by omega, show a + 17 + 8 = a + 25 by omega]

theorem evA_no {s : ByteArray} {a : Int} (b : Bool) (h : (s.size : Int) < a + 26) : (evA s a b).2.2 = true := by
  unfold evA
  simp only
  by_cases h1 : (s.size : Int) < a + 8
  · rw [tmR_no b h1]; exact inR_of (byR_of (inR_of (byR_true _ _)))
  rw [tmR_ok b (by omega)]
  dsimp only
  by_cases h2 : (s.size : Int) ≤ a + 8
  · rw [byR_no b h2]; exact inR_of (byR_of (inR_true _ _))
  rw [byR_ok b (by omega)]
  dsimp only
  by_cases h3 : (s.size : Int) < a + 8 + 1 + 8
  · rw [inR_no b h3]; exact inR_of (byR_true _ _)
  rw [inR_ok b (by omega)]
  dsimp only
  by_cases h4 : (s.size : Int) ≤ a + 8 + 1 + 8
  · rw [byR_no b h4]; exact inR_true _ _
  rw [byR_ok b (by omega)]
  dsimp only
  rw [inR_no b (by omega)]

theorem evB_no {s : ByteArray} {a : Int} (b : Bool) (d : Int) (h : (s.size : Int) < a + 25) : (evB s a b d).2.2 = true := by
  unfold evB
  simp only
  by_cases h1 : (s.size : Int) < a + 8
  · rw [tmR_no b h1]; exact inR_of (inR_of (byR_true _ _))
  rw [tmR_ok b (by omega)]
  dsimp only
  by_cases h2 : (s.size : Int) ≤ a + 8
  · rw [byR_no b h2]; exact inR_of (inR_true _ _)
  rw [byR_ok b (by omega)]
  dsimp only
  by_cases h3 : (s.size : Int) < a + 8 + 1 + 8
  · rw [inR_no b h3]; exact inR_true _ _
  rw [inR_ok b (by omega)]
  dsimp only
  rw [inR_no b (by omega)]

theorem evA_of {s : ByteArray} {a : Int} {b : Bool} (h : b = true) : (evA s a b).2.2 = true := by
  unfold evA; simp only
  exact inR_of (byR_of (inR_of (byR_of (tmR_of h))))

theorem enR_short {s : ByteArray} {a : Int} {b ok : Bool} (h : b = true) : enR s a b ok = 5 := if_pos h
theorem enR_long {s : ByteArray} {a : Int} {ok : Bool} (h : a < s.size) : enR s a false ok = 6 := by rw [enR, if_neg (by decide), if_pos h]
theorem enR_end {s : ByteArray} {a : Int} {ok : Bool} (h : (s.size : Int) ≤ a) : enR s a false ok = if ok = true then 0 else 6 := by rw [enR, if_neg (by decide), if_neg (by omega)]

theorem gev_short {s : ByteArray} (h : (s.size : Int) < 26) : gev s = (ev0, 5) := by
  unfold gev; simp only
  rw [enR_short (evA_no false (by omega)), if_neg (by decide)]
theorem gev_long {s : ByteArray} (h : (26 : Int) < s.size) : gev s = (ev0, 6) := by
  unfold gev; simp only
  rw [evA_ok false (by omega)]
  dsimp only
  rw [enR_long (by omega), if_neg (by decide)]
theorem gev_is {s : ByteArray} (h : (s.size : Int) = 26) : gev s = if rgt (evAt s 0) = true then (evAt s 0, 0) else (ev0, 6) := by
  unfold gev; simp only
  rw [evA_ok false (by omega)]
  dsimp only
  rw [enR_end (by omega)]
  by_cases hr : rgt (evAt s 0) = true
  · rw [if_pos hr, if_pos rfl, if_pos hr]
  · rw [if_neg hr, if_neg (by decide), if_neg hr]
theorem gof_short {s : ByteArray} (d : Int) (h : (s.size : Int) < 25) : gof s d = (ev0, 5) := by
  unfold gof; simp only
  rw [enR_short (evB_no false d (by omega)), if_neg (by decide)]
theorem gof_long {s : ByteArray} (d : Int) (h : (25 : Int) < s.size) : gof s d = (ev0, 6) := by
  unfold gof; simp only
  rw [evB_ok false d (by omega)]
  dsimp only
  rw [enR_long (by omega), if_neg (by decide)]
theorem gof_is {s : ByteArray} (d : Int) (h : (s.size : Int) = 25) : gof s d = if rgt (kvAt s 0 d) = true then (kvAt s 0 d, 0) else (ev0, 6) := by
  unfold gof; simp only
  rw [evB_ok false d (by omega)]
  dsimp only
  rw [enR_end (by omega)]
  by_cases hr : rgt (kvAt s 0 d) = true
  · rw [if_pos hr, if_pos rfl, if_pos hr]
  · rw [if_neg hr, if_neg (by decide), if_neg hr]
theorem gmsg_short {s : ByteArray} (h : (s.size : Int) < 27) : gmsg s = (ev0, false, 5) := by
  unfold gmsg; simp only
  have hb : (evA s (byR s 0 false).2.1 (byR s 0 false).2.2).2.2 = true := by
    by_cases h0 : (s.size : Int) ≤ 0
    · exact evA_of (by rw [byR_no false h0])
    · rw [byR_ok false (by omega)]; exact evA_no false (by show (s.size : Int) < 0 + 1 + 26; omega)
  rw [enR_short hb, if_neg (by decide)]
theorem gmsg_long {s : ByteArray} (h : (27 : Int) < s.size) : gmsg s = (ev0, false, 6) := by
  unfold gmsg; simp only
  rw [byR_ok false (by omega)]
  simp only
  rw [evA_ok false (by omega)]
  dsimp only
  rw [enR_long (by omega), if_neg (by decide)]
theorem gmsg_is {s : ByteArray} (h : (s.size : Int) = 27) : gmsg s = if rgt (evAt s 1) = true ∧ bt s 0 ≤ 1 then (evAt s 1, bt s 0 == 1, 0) else (ev0, false, 6) := by
  unfold gmsg; simp only
  rw [byR_ok false (by omega)]
  simp only
  rw [evA_ok false (by omega)]
  dsimp only
  rw [enR_end (by omega), show (0 : Int) + 1 = 1 from rfl]
  by_cases hr : rgt (evAt s 1) = true ∧ bt s 0 ≤ 1
  · have hb : (rgt (evAt s 1) && decide (bt s 0 ≤ 1)) = true := by simp [hr]
    rw [hb, if_pos rfl, if_pos rfl, if_pos hr]
  · have hb : (rgt (evAt s 1) && decide (bt s 0 ≤ 1)) = false := by rw [Bool.eq_false_iff]; simpa using hr
    rw [hb, if_neg (by decide), if_neg (by decide), if_neg hr]
theorem gdone_short {s : ByteArray} (h : (s.size : Int) < 27) : gdone s = (ev0, 0, 5) := by
  unfold gdone; simp only
  have hb : (byR s (evA s 0 false).2.1 (evA s 0 false).2.2).2.2 = true := by
    by_cases h0 : (s.size : Int) < 26
    · exact byR_of (evA_no false (by omega))
    · rw [evA_ok false (by omega)]; rw [byR_no false (by show (s.size : Int) ≤ 0 + 26; omega)]
  rw [enR_short hb, if_neg (by decide)]
theorem gdone_long {s : ByteArray} (h : (27 : Int) < s.size) : gdone s = (ev0, 0, 6) := by
  unfold gdone; simp only
  rw [evA_ok false (by omega)]
  simp only
  rw [byR_ok false (by omega)]
  dsimp only
  rw [enR_long (by omega), if_neg (by decide)]
theorem gdone_is {s : ByteArray} (h : (s.size : Int) = 27) : gdone s = if rgt (evAt s 0) = true ∧ bt s 26 ≤ 7 then (evAt s 0, bt s 26, 0) else (ev0, 0, 6) := by
  unfold gdone; simp only
  rw [evA_ok false (by omega)]
  simp only
  rw [byR_ok false (by omega)]
  dsimp only
  rw [enR_end (by omega), show (0 : Int) + 26 = 26 from rfl]
  by_cases hr : rgt (evAt s 0) = true ∧ bt s 26 ≤ 7
  · have hb : (rgt (evAt s 0) && decide (bt s 26 ≤ 7)) = true := by simp [hr]
    rw [hb, if_pos rfl, if_pos rfl, if_pos hr]
  · have hb : (rgt (evAt s 0) && decide (bt s 26 ≤ 7)) = false := by rw [Bool.eq_false_iff]; simpa using hr
    rw [hb, if_neg (by decide), if_neg (by decide), if_neg hr]

/-! ### Parts of a text -/
theorem nm_part (s t : ByteArray) (i j k : Nat) (hi : i + k ≤ s.size) (hj : j + k ≤ t.size) (h : ((bn s).drop i).take k = ((bn t).drop j).take k) : nm s i k = nm t j k := by
  rw [nm_val s i k hi, nm_val t j k hj, h]
theorem bn_ext (s : ByteArray) (a b : Nat) (h : b ≤ s.size) : bn (s.extract a b) = ((bn s).drop a).take (b - a) := by
  rw [extract_bn, bn_strOfNums]
  intro x hx
  exact bn_range s x (List.mem_of_mem_drop (List.mem_of_mem_take hx))
theorem nm_ext (s : ByteArray) (a b i k : Nat) (h : b ≤ s.size) (hk : a + i + k ≤ b) : nm (s.extract a b) i k = nm s ((a + i : Nat) : Int) k := by
  refine nm_part _ _ _ _ _ (by rw [size_extract' _ _ _ h]; omega) (by omega) ?_
  rw [bn_ext s a b h, List.drop_take, List.take_take, List.drop_drop, Nat.min_eq_left (by omega)]
theorem bt_part (s t : ByteArray) (i j : Nat) (h : (bn s)[i]? = (bn t)[j]?) : bt s i = bt t j := by
  rw [bt_bn, bt_bn, Int.toNat_natCast, Int.toNat_natCast, List.getD_eq_getElem?_getD, List.getD_eq_getElem?_getD, h]
theorem bt_ext (s : ByteArray) (a b i : Nat) (h : b ≤ s.size) (hk : a + i < b) : bt (s.extract a b) i = bt s ((a + i : Nat) : Int) := by
  refine bt_part _ _ _ _ ?_
  rw [bn_ext s a b h, List.getElem?_take_of_lt (by omega), List.getElem?_drop]

theorem evAt_ext (s : ByteArray) (a : Nat) (h : a + 26 ≤ s.size) : evAt (s.extract a (a + 26)) 0 = evAt s a := by
  unfold evAt
  have e1 : nm (s.extract a (a + 26)) 0 8 = nm s a 8 := nm_ext s a (a + 26) 0 8 h (by omega)
  have e2 : bt (s.extract a (a + 26)) (0 + 8) = bt s (a + 8) := bt_ext s a (a + 26) 8 h (by omega)
  have e3 : nm (s.extract a (a + 26)) (0 + 9) 8 = nm s (a + 9) 8 := nm_ext s a (a + 26) 9 8 h (by omega)
  have e4 : bt (s.extract a (a + 26)) (0 + 17) = bt s (a + 17) := bt_ext s a (a + 26) 17 h (by omega)
  have e5 : nm (s.extract a (a + 26)) (0 + 18) 8 = nm s (a + 18) 8 := nm_ext s a (a + 26) 18 8 h (by omega)
  rw [e1, e2, e3, e4, e5]

/-- A key is the event's bytes without the Dst. -/
theorem kvAt_cut (s : ByteArray) (h : s.size = 26) : kvAt (s.extract 0 17 ++ s.extract 18 s.size) 0 (bt s 17) = evAt s 0 := by
  have hb : bn (s.extract 0 17 ++ s.extract 18 s.size) = (bn s).take 17 ++ (bn s).drop 18 := by
    rw [bn_append, bn_ext s 0 17 (by omega), bn_ext s 18 s.size (by omega), List.drop_zero, List.take_of_length_le (l := (bn s).drop 18) (by rw [List.length_drop, bn_length]; omega)]
  have hl := bn_length s
  have hz : (s.extract 0 17 ++ s.extract 18 s.size).size = 25 := by
    rw [← bn_length, hb, List.length_append, List.length_take, List.length_drop]; omega
  have e1 : nm (s.extract 0 17 ++ s.extract 18 s.size) 0 8 = nm s 0 8 := nm_part _ _ 0 0 8 (by omega) (by omega) (by rw [hb, List.drop_zero, List.drop_zero, List.take_append_of_le_length (by rw [List.length_take]; omega), List.take_take]; rfl)
  have e2 : bt (s.extract 0 17 ++ s.extract 18 s.size) (0 + 8) = bt s (0 + 8) := bt_part _ _ 8 8 (by rw [hb, List.getElem?_append_left (by rw [List.length_take]; omega), List.getElem?_take_of_lt (by omega)])
  have e3 : nm (s.extract 0 17 ++ s.extract 18 s.size) (0 + 9) 8 = nm s (0 + 9) 8 := nm_part _ _ 9 9 8 (by omega) (by omega) (by
    rw [hb, List.drop_append_of_le_length (by rw [List.length_take]; omega), List.take_append_of_le_length (by rw [List.length_drop, List.length_take]; omega), List.drop_take, List.take_take]; rfl)
  have e5 : nm (s.extract 0 17 ++ s.extract 18 s.size) (0 + 17) 8 = nm s (0 + 18) 8 := nm_part _ _ 17 18 8 (by omega) (by omega) (by
    rw [hb, List.drop_left' (by rw [List.length_take]; omega)])
  unfold kvAt evAt
  rw [e1, e2, e3, e5]
  rfl


theorem rdI_ok (s : ByteArray) (a : Int) (h0 : 0 ≤ a) (h : a + 8 ≤ s.size) : rdI s a = (nm s a 8 - 9223372036854775808, a + 8, 0) := by rw [rdI, if_neg (by omega), if_neg (by omega)]

theorem rgt_nan (a b c d : Int) : rgt (9221120237041090561, a, b, c, d) = false := by
  have h : nanb 9221120237041090561 = true := by decide
  simp only [rgt, rightB, h, Bool.not_true, Bool.false_and]

theorem of79_calls (s : ByteArray) (d : Int) (hz : s.size ≤ 140737488351232) (w : World) :
    Calls Try.prog 79 #[.string s, .int .i64 d] w fun e w' => e = .returned (.tuple #[.agg #[.float .f64 (gof s d).1.1, .int .i64 (gof s d).1.2.1, .int .i64 (gof s d).1.2.2.1, .int .i64 (gof s d).1.2.2.2.1, .int .i64 (gof s d).1.2.2.2.2], .int .i64 (gof s d).2]) ∧ Below w.heap.size w w' := by
  have CC := fun w => cut_calls s 25 w
  unfold cutE at CC
  by_cases h1 : (s.size : Int) < 25
  · rw [gof_short d h1]
    rw [if_pos h1] at CC
    exact of79_cut s d 5 w (by decide) ⟨CC⟩
  rw [if_neg h1] at CC
  by_cases h2 : (25 : Int) < s.size
  · rw [gof_long d h2]
    rw [if_pos h2] at CC
    exact of79_cut s d 6 w (by decide) ⟨CC⟩
  rw [if_neg h2] at CC
  have h25 : (s.size : Int) = 25 := by omega
  have hx : (s.extract 0 8).size = 8 := by rw [size_extract' _ _ _ (by omega)]
  have hZ : (strOfNums (be8 ((0 : Int) + 9223372036854775808))).size = 8 := by rw [size_strOfNums]; rfl
  have hY : (s.extract 0 8 ++ strOfNums (be8 ((0 : Int) + 9223372036854775808)) ++ strOfNums (be8 ((0 : Int) + 9223372036854775808))).size = 24 := by rw [ByteArray.size_append, ByteArray.size_append, hx, hZ]
  have hn : nm (s.extract 0 8 ++ strOfNums (be8 ((0 : Int) + 9223372036854775808)) ++ strOfNums (be8 ((0 : Int) + 9223372036854775808))) 0 8 = nm s 0 8 := by
    rw [ByteArray.append_assoc, nm_first _ _ hx]
    exact nm_ext s 0 8 0 8 (by omega) (by omega)
  have CI : Aside0 (Gives 26 #[.int .i64 0] (.string (strOfNums (be8 ((0 : Int) + 9223372036854775808))))) := ⟨fun w => (PStampKeys.horologeref01_I.calls 9 0 _ w (refI_is 0 (by decide) 0))⟩
  have CN : Aside0 (Gives 51 #[.string s, .int .i64 9] (.tuple #[.int .i64 (nm s 9 8 - 9223372036854775808), .int .i64 17, .int .i64 0])) := ⟨fun w => by
    have h := refReadI_calls s 9 hz w
    rw [rdI_ok s 9 (by decide) (by omega)] at h
    exact h⟩
  have CP : Aside0 (Gives 51 #[.string s, .int .i64 17] (.tuple #[.int .i64 (nm s 17 8 - 9223372036854775808), .int .i64 25, .int .i64 0])) := ⟨fun w => by
    have h := refReadI_calls s 17 hz w
    rw [rdI_ok s 17 (by decide) (by omega)] at h
    exact h⟩
  have CR := fun w => rd70_calls (s.extract 0 8 ++ strOfNums (be8 ((0 : Int) + 9223372036854775808)) ++ strOfNums (be8 ((0 : Int) + 9223372036854775808))) 0 (by omega) w
  unfold rdS at CR
  rw [hY, hn, if_neg (by omega), if_neg (by omega)] at CR
  rw [gof_is d h25]
  by_cases hb : isNan (dk (nm s 0 8)) ∨ dk (nm s 0 8) = 9223372036854775808
  · rw [if_pos hb] at CR
    have hr : rgt (kvAt s 0 d) = false := by rw [kvAt, tmV, if_pos hb]; exact rgt_nan _ _ _ _
    rw [if_neg (by rw [hr]; decide)]
    exact of79_bad s _ d 0 _ _ _ 7 _ _ _ _ _ _ _ w (by omega) (by omega) ⟨CC⟩ CI ⟨CR⟩ CN CP (by decide)
  · rw [if_neg hb] at CR
    have ht : tmV (nm s 0 8) = dk (nm s 0 8) := by rw [tmV, if_neg hb]
    have CG := fun w => right57_calls (dk (nm s 0 8)) (bt s 8 - 1) (nm s 9 8 - 9223372036854775808) d (nm s 17 8 - 9223372036854775808) w
    have hk : kvAt s 0 d = (dk (nm s 0 8), bt s 8 - 1, nm s 9 8 - 9223372036854775808, d, nm s 17 8 - 9223372036854775808) := by rw [kvAt, ht]; rfl
    rw [hk]
    by_cases hr : rgt (dk (nm s 0 8), bt s 8 - 1, nm s 9 8 - 9223372036854775808, d, nm s 17 8 - 9223372036854775808) = true
    · rw [if_pos hr]
      have hr' : rightB (dk (nm s 0 8)) (bt s 8 - 1) (nm s 9 8 - 9223372036854775808) d = true := hr
      rw [hr'] at CG
      exact of79_ok s _ d 0 _ _ _ 0 _ _ _ _ _ _ _ w (by omega) (by omega) ⟨CC⟩ CI ⟨CR⟩ CN CP ⟨Int.le_refl 0, Int.le_refl 0⟩ ⟨CG⟩
    · rw [if_neg hr]
      have hr' : rightB (dk (nm s 0 8)) (bt s 8 - 1) (nm s 9 8 - 9223372036854775808) d = false := Bool.eq_false_iff.2 hr
      rw [hr'] at CG
      exact of79_no s _ d 0 _ _ _ 0 _ _ _ _ _ _ _ w (by omega) (by omega) ⟨CC⟩ CI ⟨CR⟩ CN CP ⟨Int.le_refl 0, Int.le_refl 0⟩ ⟨CG⟩

theorem get77_calls (s : ByteArray) (hz : s.size ≤ 140737488351232) (w : World) :
    Calls Try.prog 77 #[.string s] w fun e w' => e = .returned (.tuple #[.agg #[.float .f64 (gev s).1.1, .int .i64 (gev s).1.2.1, .int .i64 (gev s).1.2.2.1, .int .i64 (gev s).1.2.2.2.1, .int .i64 (gev s).1.2.2.2.2], .int .i64 (gev s).2]) ∧ Below w.heap.size w w' := by
  have CC := fun w => cut_calls s 26 w
  unfold cutE at CC
  by_cases h1 : (s.size : Int) < 26
  · rw [gev_short h1]
    rw [if_pos h1] at CC
    exact get77_cut s 0 5 w (by decide) ⟨CC⟩
  rw [if_neg h1] at CC
  by_cases h2 : (26 : Int) < s.size
  · rw [gev_long h2]
    rw [if_pos h2] at CC
    exact get77_cut s 0 6 w (by decide) ⟨CC⟩
  rw [if_neg h2] at CC
  have h26 : s.size = 26 := by omega
  have hz' : (s.extract 0 17 ++ s.extract 18 s.size).size = 25 := by rw [ByteArray.size_append, size_extract' _ _ _ (by omega), size_extract' _ _ _ (by omega)]; omega
  have he : gof (s.extract 0 17 ++ s.extract 18 s.size) (bt s 17) = gev s := by
    rw [gof_is _ (by omega), gev_is (by omega), kvAt_cut s h26]
  have CO := fun w => of79_calls (s.extract 0 17 ++ s.extract 18 s.size) (bt s 17) (by omega) w
  rw [he] at CO
  exact get77_walk s _ _ _ _ _ _ w h26 ⟨CC⟩ ⟨CO⟩

end Go.Proofs.Ytlbjcdfognofgaa.RecL
