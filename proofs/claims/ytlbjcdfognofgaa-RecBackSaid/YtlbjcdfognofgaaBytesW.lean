/- The walk of StampBytes: the keys of lesser stamps are less, byte by byte. -/
import Derived.Test.YtlbjcdfognofgaaWk
import Derived.Test.YtlbjcdfognofgaaOrdersS
import Derived.Test.YtlbjcdfognofgaaStampK
import Derived.Deep.DrawnRows
import Derived.Deep.RegionHeld3
namespace Go.Proofs.Ytlbjcdfognofgaa.BytesW
open Go.RowKit Go.Proofs.YtlbjcdfognofgaaW.PrintWords Go.Proofs.YtlbjcdfognofgaaW.PrintLast Go.Proofs.YtlbjcdfognofgaaW.PrintMore Go.Proofs.Ytlbjcdfognofgaa.Be Go.Proofs.Ytlbjcdfognofgaa.Fl Go.Proofs.Ytlbjcdfognofgaa.StampA Go.Proofs.Ytlbjcdfognofgaa.StampB Go.Proofs.Ytlbjcdfognofgaa.StampC Go.Proofs.Ytlbjcdfognofgaa.StampD Go.Proofs.Ytlbjcdfognofgaa.StampK Go.Proofs.Ytlbjcdfognofgaa.OrdersS Go.Proofs.Ytlbjcdfognofgaa.Wk
attribute [local go_sem ↓] Go.wp_at_zero Go.wp_at_succ


theorem kb_val {t : Nat} (h : t < 18446744073709551616) (hn : ¬ isNan t) : kb (norm t) = if sval t < 0 then sval t + 9223372036854775807 else sval t + 9223372036854775808 := by
  have hv := (norm_val hn).1
  have hl := norm_lt h
  rw [← hv]
  unfold kb
  by_cases h9 : 9223372036854775808 ≤ norm t
  · have hneg := low_neg h hn h9
    rw [if_pos h9, if_pos hneg]
    unfold sval
    rw [sgn_low hl, decide_eq_true h9]
    simp only [if_true]
    have : rung (norm t) = norm t - 9223372036854775808 := by unfold rung; omega
    omega
  · have hneg := high_pos (x := norm t) (by omega)
    rw [if_neg h9, if_neg hneg]
    unfold sval
    rw [sgn_low hl, decide_eq_false h9]
    simp only [Bool.false_eq_true, if_false]
    have : rung (norm t) = norm t := by unfold rung; omega
    omega

theorem key_bytes (a b c : Int) : strOfNums (be8 a) ++ strOfNums (be8 b) ++ strOfNums (be8 c) = strOfNums (be8 a ++ be8 b ++ be8 c) := by
  rw [strOfNums_append, strOfNums_append]

theorem key_range (a b c : Int) : ∀ x ∈ be8 a ++ be8 b ++ be8 c, 0 ≤ x ∧ x ≤ 255 := by
  intro x hx
  simp only [List.mem_append] at hx
  rcases hx with (h | h) | h <;> exact be8_range _ x h

theorem key_beq (a b c d e f : Int) (ha : 0 ≤ a ∧ a < 18446744073709551616) (hb : 0 ≤ b ∧ b < 18446744073709551616) (hc : 0 ≤ c ∧ c < 18446744073709551616) (hd : 0 ≤ d ∧ d < 18446744073709551616) (he : 0 ≤ e ∧ e < 18446744073709551616) (hf : 0 ≤ f ∧ f < 18446744073709551616) :
    (be8 a ++ be8 b ++ be8 c == be8 d ++ be8 e ++ be8 f) = decide (a = d ∧ b = e ∧ c = f) := by
  rw [Bool.eq_iff_iff, beq_iff_eq, decide_eq_true_iff]
  constructor
  · intro h
    obtain ⟨h1, h2⟩ := List.append_inj h (by simp [be8_length])
    obtain ⟨h3, h4⟩ := List.append_inj h1 (by simp [be8_length])
    exact ⟨be8_inj ha hd h3, be8_inj hb he h4, be8_inj hc hf h2⟩
  · rintro ⟨rfl, rfl, rfl⟩; rfl

theorem key_less (a b c d e f : Int) (ha : 0 ≤ a ∧ a < 18446744073709551616) (hb : 0 ≤ b ∧ b < 18446744073709551616) (hc : 0 ≤ c ∧ c < 18446744073709551616) (hd : 0 ≤ d ∧ d < 18446744073709551616) (he : 0 ≤ e ∧ e < 18446744073709551616) (hf : 0 ≤ f ∧ f < 18446744073709551616) :
    less (be8 a ++ be8 b ++ be8 c) (be8 d ++ be8 e ++ be8 f) = decide (a < d ∨ a = d ∧ (b < e ∨ b = e ∧ c < f)) := by
  rw [List.append_assoc, List.append_assoc, less_append _ _ _ _ (by simp [be8_length]), less_append _ _ _ _ (by simp [be8_length]), less_be8 a d ha hd, less_be8 b e hb he, less_be8 c f hc hf, beq_be8 a d ha hd, beq_be8 b e hb he]
  rw [Bool.eq_iff_iff]
  simp

set_option maxRecDepth 100000 in
set_option maxHeartbeats 4000000 in
theorem walk (t : Nat) (s n : Int) (t2 : Nat) (s2 n2 : Int) (k l : ByteArray) (e f c : Int) (w : World)
    (CX : Aside0 (Gives 67 #[.agg #[.float .f64 t, .int .i64 s, .int .i64 n]] (.tuple #[.string k, .int .i64 e])))
    (CY : Aside0 (Gives 67 #[.agg #[.float .f64 t2, .int .i64 s2, .int .i64 n2]] (.tuple #[.string l, .int .i64 f])))
    (CZ : Aside0 (Gives 39 #[.agg #[.float .f64 t, .int .i64 s, .int .i64 n], .agg #[.float .f64 t2, .int .i64 s2, .int .i64 n2]] (.int .i64 c)))
    (hc : (1 ≤ e ∧ (FloatKind.f64.format.order t t != some .eq) = true) ∨ ((e ≤ 0 ∧ 0 ≤ e) ∧ ((1 ≤ f ∧ (FloatKind.f64.format.order t t != some .eq) = false ∧ (FloatKind.f64.format.order t2 t2 != some .eq) = true) ∨
      ((f ≤ 0 ∧ 0 ≤ f) ∧ ((c ≤ -1 ∧ Op.bytesLess k.toList l.toList = true ∧ (k.toList == l.toList) = false) ∨ ((c ≤ 0 ∧ 0 ≤ c) ∧ Op.bytesLess k.toList l.toList = false ∧ (k.toList == l.toList) = true) ∨ (1 ≤ c ∧ Op.bytesLess k.toList l.toList = false ∧ (k.toList == l.toList) = false)))))) :
    Calls Try.prog 16 #[.agg #[.float .f64 t, .int .i64 s, .int .i64 n], .agg #[.float .f64 t2, .int .i64 s2, .int .i64 n2]] w fun e w' => e = .returned (.bool true) ∧ Below w.heap.size w w' := by
  have hu2 := Try.underlying42
  have HB := Aside0.mk (Below.refl w.heap.size w)
  rcases hc with ⟨k1, k2⟩ | ⟨⟨k1, k2⟩, ⟨k3, k4, k5⟩ | ⟨⟨k3, k4⟩, ⟨k5, k6, k7⟩ | ⟨⟨k5, k8⟩, k6, k7⟩ | ⟨k5, k6, k7⟩⟩⟩
  all_goals
    go_enter Try.func16, Try.ntmps16
    go_wp2_with (first | (go_at_call 67; (with_reducible refine (CX.out _).mono ?_); rintro e w1 ⟨rfl, hb⟩; have nb := Aside0.mk (below_step bel hb); clear HB; have HB := nb; clear nb; have hc := bcell hb; have p0 : w1.cell? ⟨w.heap.size, 0, none⟩ = some (.float .f64 t) := (crr hc); have p1 : w1.cell? ⟨w.heap.size, 1, none⟩ = some (.int .i64 s) := (crr hc); have p2 : w1.cell? ⟨w.heap.size, 2, none⟩ = some (.int .i64 n) := (crr hc); have p3 : w1.cell? ⟨w.heap.size + 1, 0, none⟩ = some (.float .f64 t2) := (crr hc); have p4 : w1.cell? ⟨w.heap.size + 1, 1, none⟩ = some (.int .i64 s2) := (crr hc); have p5 : w1.cell? ⟨w.heap.size + 1, 2, none⟩ = some (.int .i64 n2) := (crr hc); have hg1 : w.heap.size + 1 < w1.heap.size := (by have hs := hb.size; simp at hs ⊢; omega); clear hc hb; (try clear hg); have hg := hg1; clear hg1; (try clear c0); have c0 := p0; clear p0; (try clear c1); have c1 := p1; clear p1; (try clear c2); have c2 := p2; clear p2; (try clear c3); have c3 := p3; clear p3; (try clear c4); have c4 := p4; clear p4; (try clear c5); have c5 := p5; clear p5) | (go_at_call 67; (with_reducible refine (CY.out _).mono ?_); rintro e w1 ⟨rfl, hb⟩; have nb := Aside0.mk (below_step bel hb); clear HB; have HB := nb; clear nb; have hc := bcell hb; have p0 : w1.cell? ⟨w.heap.size, 0, none⟩ = some (.float .f64 t) := (crr hc); have p1 : w1.cell? ⟨w.heap.size, 1, none⟩ = some (.int .i64 s) := (crr hc); have p2 : w1.cell? ⟨w.heap.size, 2, none⟩ = some (.int .i64 n) := (crr hc); have p3 : w1.cell? ⟨w.heap.size + 1, 0, none⟩ = some (.float .f64 t2) := (crr hc); have p4 : w1.cell? ⟨w.heap.size + 1, 1, none⟩ = some (.int .i64 s2) := (crr hc); have p5 : w1.cell? ⟨w.heap.size + 1, 2, none⟩ = some (.int .i64 n2) := (crr hc); have hg1 : w.heap.size + 1 < w1.heap.size := (by have hs := hb.size; simp at hs ⊢; omega); clear hc hb; (try clear hg); have hg := hg1; clear hg1; (try clear c0); have c0 := p0; clear p0; (try clear c1); have c1 := p1; clear p1; (try clear c2); have c2 := p2; clear p2; (try clear c3); have c3 := p3; clear p3; (try clear c4); have c4 := p4; clear p4; (try clear c5); have c5 := p5; clear p5) | (go_at_call 39; (with_reducible refine (CZ.out _).mono ?_); rintro e w1 ⟨rfl, hb⟩; have nb := Aside0.mk (below_step bel hb); clear HB; have HB := nb; clear nb; have hc := bcell hb; have p0 : w1.cell? ⟨w.heap.size, 0, none⟩ = some (.float .f64 t) := (crr hc); have p1 : w1.cell? ⟨w.heap.size, 1, none⟩ = some (.int .i64 s) := (crr hc); have p2 : w1.cell? ⟨w.heap.size, 2, none⟩ = some (.int .i64 n) := (crr hc); have p3 : w1.cell? ⟨w.heap.size + 1, 0, none⟩ = some (.float .f64 t2) := (crr hc); have p4 : w1.cell? ⟨w.heap.size + 1, 1, none⟩ = some (.int .i64 s2) := (crr hc); have p5 : w1.cell? ⟨w.heap.size + 1, 2, none⟩ = some (.int .i64 n2) := (crr hc); have hg1 : w.heap.size + 1 < w1.heap.size := (by have hs := hb.size; simp at hs ⊢; omega); clear hc hb; (try clear hg); have hg := hg1; clear hg1; (try clear c0); have c0 := p0; clear p0; (try clear c1); have c1 := p1; clear p1; (try clear c2); have c2 := p2; clear p2; (try clear c3); have c3 := p3; clear p3; (try clear c4); have c4 := p4; clear p4; (try clear c5); have c5 := p5; clear p5) | (go_at_call 35; (with_reducible refine (awake_calls _).mono ?_); rintro e w1 ⟨rfl, hb⟩; have nb := Aside0.mk (below_step bel hb); clear HB; have HB := nb; clear nb; have hc := bcell hb; have p0 : w1.cell? ⟨w.heap.size, 0, none⟩ = some (.float .f64 t) := (crr hc); have p1 : w1.cell? ⟨w.heap.size, 1, none⟩ = some (.int .i64 s) := (crr hc); have p2 : w1.cell? ⟨w.heap.size, 2, none⟩ = some (.int .i64 n) := (crr hc); have p3 : w1.cell? ⟨w.heap.size + 1, 0, none⟩ = some (.float .f64 t2) := (crr hc); have p4 : w1.cell? ⟨w.heap.size + 1, 1, none⟩ = some (.int .i64 s2) := (crr hc); have p5 : w1.cell? ⟨w.heap.size + 1, 2, none⟩ = some (.int .i64 n2) := (crr hc); have hg1 : w.heap.size + 1 < w1.heap.size := (by have hs := hb.size; simp at hs ⊢; omega); clear hc hb; (try clear hg); have hg := hg1; clear hg1; (try clear c0); have c0 := p0; clear p0; (try clear c1); have c1 := p1; clear p1; (try clear c2); have c2 := p2; clear p2; (try clear c3); have c3 := p3; clear p3; (try clear c4); have c4 := p4; clear p4; (try clear c5); have c5 := p5; clear p5))
    go_ret
    exact ⟨by first | rfl | (simp [*]; done) | (simp; omega), HB.out⟩

theorem law (t : Nat) (s n : Int) (t2 : Nat) (s2 n2 : Int) {w : World} (h1 : (Lit.float .f64 t).wf = true) (h2 : (Lit.int .i64 s).wf = true) (h3 : (Lit.int .i64 n).wf = true) (h4 : (Lit.float .f64 t2).wf = true) (h5 : (Lit.int .i64 s2).wf = true) (h6 : (Lit.int .i64 n2).wf = true) :
    Calls Try.prog 16 #[.agg #[.float .f64 t, .int .i64 s, .int .i64 n], .agg #[.float .f64 t2, .int .i64 s2, .int .i64 n2]] w fun e w' => e = .returned (.bool true) ∧ Below w.heap.size w w' := by
  have ht : t < 18446744073709551616 := of_decide_eq_true h1
  have ht2 : t2 < 18446744073709551616 := of_decide_eq_true h4
  have hs := wf_i64 h2
  have hn := wf_i64 h3
  have hs2 := wf_i64 h5
  have hn2 := wf_i64 h6
  refine walk t s n t2 s2 n2 (keyS t s n).1 (keyS t2 s2 n2).1 (keyS t s n).2 (keyS t2 s2 n2).2 (cmpS t t2 s n s2 n2) w ⟨fun w => key67_calls _ _ _ ht hs hn w⟩ ⟨fun w => key67_calls _ _ _ ht2 hs2 hn2 w⟩ ⟨fun w => compare39_calls _ _ _ _ _ _ w⟩ ?_
  by_cases h : isNan t
  · exact .inl ⟨by rw [keyS, if_pos h]; decide, by rw [self_neq]; exact decide_eq_true h⟩
  have e1 : keyS t s n = (strOfNums (be8 (kb (norm t))) ++ strOfNums (be8 (s + 9223372036854775808)) ++ strOfNums (be8 (n + 9223372036854775808)), 0) := if_neg h
  by_cases g : isNan t2
  · exact .inr ⟨by rw [e1]; exact ⟨Int.le_refl 0, Int.le_refl 0⟩, .inl ⟨by rw [keyS, if_pos g]; decide, by rw [self_neq]; exact decide_eq_false h, by rw [self_neq]; exact decide_eq_true g⟩⟩
  have e2 : keyS t2 s2 n2 = (strOfNums (be8 (kb (norm t2))) ++ strOfNums (be8 (s2 + 9223372036854775808)) ++ strOfNums (be8 (n2 + 9223372036854775808)), 0) := if_neg g
  refine .inr ⟨by rw [e1]; exact ⟨Int.le_refl 0, Int.le_refl 0⟩, .inr ⟨by rw [e2]; exact ⟨Int.le_refl 0, Int.le_refl 0⟩, ?_⟩⟩
  have ra := kb_range (norm_lt ht)
  have rb := kb_range (norm_lt ht2)
  have va := kb_val ht h
  have vb := kb_val ht2 g
  have ta := tkey_num h
  have tb := tkey_num g
  rw [e1, e2]
  simp only [key_bytes]
  rw [less_strOfNums _ _ (key_range _ _ _) (key_range _ _ _), beq_strOfNums _ _ (key_range _ _ _) (key_range _ _ _), key_less _ _ _ _ _ _ ra (by omega) (by omega) rb (by omega) (by omega), key_beq _ _ _ _ _ _ ra (by omega) (by omega) rb (by omega) (by omega)]
  have hk : (kb (norm t) < kb (norm t2) ↔ tkey t < tkey t2) ∧ (kb (norm t) = kb (norm t2) ↔ tkey t = tkey t2) := by
    rw [va, vb, ta, tb]
    split <;> split <;> omega
  obtain ⟨q1, q2⟩ := hk
  simp only [decide_eq_true_eq, decide_eq_false_iff_not]
  rcases cmpS_cases t t2 s n s2 n2 with k | k | k <;> omega

end Go.Proofs.Ytlbjcdfognofgaa.BytesW
