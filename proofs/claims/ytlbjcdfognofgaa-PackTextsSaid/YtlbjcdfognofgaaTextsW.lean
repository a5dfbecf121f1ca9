/- The reference's List, walked; and the walk of PackTexts: every text and every list is laid as the reference lays it. -/
import Derived.Test.YtlbjcdfognofgaaSTexts
import Derived.Test.YtlbjcdfognofgaaBk
namespace Go.Proofs.Ytlbjcdfognofgaa.TextsW
open Go.RowKit Go.Proofs.YtlbjcdfognofgaaW.PrintWords Go.Proofs.YtlbjcdfognofgaaW.PrintLast Go.Proofs.YtlbjcdfognofgaaW.PrintMore Go.Proofs.Ytlbjcdfognofgaa.Be Go.Proofs.Ytlbjcdfognofgaa.Brow Go.Proofs.Ytlbjcdfognofgaa.STexts

theorem info5 : (Try.prog.info? 5).map (fun i => (i.zero, i.size, i.bytes)) = some (some (.int .u8 0), 1, 1) := by kernel_rfl

set_option maxRecDepth 100000 in
set_option maxHeartbeats 2000000 in
theorem refList_some (b off c : Nat) (x : List Int) (w : World) (hb : b < w.heap.size) (hcell : ∀ k, k < x.length → w.cell? ⟨b, off + k, none⟩ = some (.int .i64 (x.getD k 0))) (hx : ∀ n ∈ x, -9223372036854775808 ≤ n ∧ n < 9223372036854775808) (hl : x.length ≤ 512) :
    Calls Try.prog 30 #[.slice (some ⟨b, off, none⟩) x.length c] w fun e w' => e = .returned (.tuple #[.string (strOfNums (lt2 x.length ++ lay8 x)), .int .i64 0]) ∧ Below w.heap.size w w' := by
  have HC := Aside0.mk hcell
  have HX := Aside0.mk hx
  clear hcell hx
  have HB := Aside0.mk (Below.refl w.heap.size w)
  go_enter Try.func30, Try.ntmps30
  have z0 : (strOfNums (lt2 (x.length : Int))).size ≤ maxLen := by rw [size_strOfNums]; unfold maxLen; simp [lt2]
  have Z0 := Aside0.mk z0
  clear z0
  go_wp2_with (go_at_call 82; (with_reducible refine (Two_calls _ (by omega) _).mono ?_); rintro e w1 ⟨rfl, hb⟩; have nb := Aside0.mk (below_step HB.out hb); clear HB hb; have HB := nb; clear nb; obtain ⟨v, w2, hconv, hR, hb2⟩ := made (P := Try.prog) 9 101 5 Try.underlying9 Try.underlying101 Try.underlying5 (strOfNums (lt2 (x.length : Int))) w1 Z0.out; have HR := Aside0.mk (Row.lower hR HB.out.size); have nb := Aside0.mk (below_step HB.out hb2); clear HB hR hb2; have HB := nb; clear nb)
  have HR1 := Aside0.mk (show Row w2 w.heap.size 5 v (lt2 x.length ++ lay8 (x.take 0)) from by have h := HR.out; rw [bn_strOfNums _ (lt2_range _)] at h; simpa [lay8] using h)
  clear HR hconv
  go_loopw [4, 5] (fun v4 i wr => ∃ k : Nat, k ≤ x.length ∧ i = .int .i64 k ∧ Aside0 (Row wr w.heap.size 5 v4 (lt2 x.length ++ lay8 (x.take k))) ∧ Aside0 (Below w.heap.size w wr)) (fun _ i _ => x.length - (intOf i).toNat)
  case atStart => exact ⟨0, Nat.zero_le _, rfl, HR1, HB⟩
  case round =>
    clear HR1 HB
    obtain ⟨k, hk, rfl, HR, HB⟩ := hrel
    by_cases hlt : k < x.length
    · have hc0 : wr.cell? ⟨b, off + k, none⟩ = some (.int .i64 (x.getD k 0)) := (HB.out.cell (by exact hb)).trans (HC.out k hlt)
      have hm : x.getD k 0 ∈ x := by rw [List.getD_eq_getElem?_getD, List.getElem?_eq_getElem hlt]; exact List.getElem_mem hlt
      have hi := Aside0.mk (HX.out _ hm)
      have hs : Aside0 (lay8 (x.take (k + 1)) = lay8 (x.take k) ++ be8 (x.getD k 0 + 9223372036854775808)) := ⟨by
        rw [List.take_succ_eq_append_getElem hlt, lay8_append, lay8_one, List.getD_eq_getElem?_getD, List.getElem?_eq_getElem hlt]; rfl⟩
      have hq : Aside0 ((lt2 x.length ++ lay8 (x.take k)).length + (strOfNums (be8 (x.getD k 0 + 9223372036854775808))).size ≤ 140737488355328) := ⟨by
        rw [List.length_append, lay8_length, List.length_take, size_strOfNums]; simp only [lt2, List.length_cons, List.length_nil, be8_length]; omega⟩
      have hy : Aside0 (bn (strOfNums (be8 (x.getD k 0 + 9223372036854775808))) = be8 (x.getD k 0 + 9223372036854775808)) := ⟨bn_strOfNums _ (be8_range _)⟩
      clear hm
      generalize hg : x.getD k 0 = y at *
      clear hg
      go_wp2_with (first | (go_at_call 26; (with_reducible refine (refI_calls y hi.out _).mono ?_); rintro e w1 ⟨rfl, hb1⟩; have n1 := Aside0.mk (HR.out.below hb1); have nb := Aside0.mk (below_step HB.out hb1); clear HB HR hb1 hc0; have HB := nb; have HR := n1; clear nb n1) | (at_builtin; refine Brow.wpList_append (w0 := w) w.heap.size rfl (.tmp 19) (.tmp 24) 101 9 5 rfl Try.underlying101 Try.underlying9 info5 _ _ _ rfl rfl HR.out HB.out hq.out HB.out.size ?_; intro v' w1 n1 nb; rw [hy.out] at n1; have HR1 := Aside0.mk n1; have HB1 := Aside0.mk nb; clear HB HR n1 nb; have HB := HB1; have HR := HR1; clear HB1 HR1))
      go_roundw
      case rel => exact ⟨k + 1, by omega, by go_num, ⟨by rw [hs.out, ← List.append_assoc]; exact HR.out⟩, HB⟩
      case measure => simp [intOf]; omega
    · have e : k = x.length := by omega
      subst e
      have hconv := told (P := Try.prog) (src := 101) (e := 5) (dst := 9) Try.underlying101 Try.underlying5 Try.underlying9 HR.out
      rw [List.take_length] at hconv
      go_wp2
      go_ret2
      exact ⟨rfl, HB.out⟩

set_option maxRecDepth 100000 in
set_option maxHeartbeats 2000000 in
theorem refList_none (A : Option Addr) (c : Nat) (w : World) :
    Calls Try.prog 30 #[.slice A 0 c] w fun e w' => e = .returned (.tuple #[.string (strOfNums (lt2 0)), .int .i64 0]) ∧ Below w.heap.size w w' := by
  have HB := Aside0.mk (Below.refl w.heap.size w)
  have Z0 := Aside0.mk (show (strOfNums (lt2 0)).size ≤ maxLen by rw [size_strOfNums]; unfold maxLen; simp [lt2])
  go_enter Try.func30, Try.ntmps30
  go_wp2_with (go_at_call 82; (with_reducible refine (Two_calls 0 (by omega) _).mono ?_); rintro e w1 ⟨rfl, hb⟩; have nb := Aside0.mk (below_step HB.out hb); clear HB hb; have HB := nb; clear nb; obtain ⟨v, w2, hconv, hR, hb2⟩ := made (P := Try.prog) 9 101 5 Try.underlying9 Try.underlying101 Try.underlying5 (strOfNums (lt2 0)) w1 Z0.out; have HR := Aside0.mk (Row.lower hR HB.out.size); have nb := Aside0.mk (below_step HB.out hb2); clear HB hR hb2; have HB := nb; clear nb)
  have HR1 := Aside0.mk (show Row w2 w.heap.size 5 v (lt2 0) from by have h := HR.out; rwa [bn_strOfNums _ (lt2_range _)] at h)
  clear HR hconv
  go_loopw [4, 5] (fun v4 i wr => i = .int .i64 0 ∧ Aside0 (Row wr w.heap.size 5 v4 (lt2 0)) ∧ Aside0 (Below w.heap.size w wr)) (fun _ i _ => (intOf i).toNat)
  case atStart => exact ⟨rfl, HR1, HB⟩
  case round =>
    clear HR1 HB
    obtain ⟨rfl, HR, HB⟩ := hrel
    have hconv := told (P := Try.prog) (src := 101) (e := 5) (dst := 9) Try.underlying101 Try.underlying5 Try.underlying9 HR.out
    go_wp2
    go_ret2
    exact ⟨rfl, HB.out⟩

set_option maxRecDepth 100000 in
set_option maxHeartbeats 2000000 in
theorem refList_big (A : Option Addr) (n c : Nat) (w : World) (h : 512 < n) :
    Calls Try.prog 30 #[.slice A n c] w fun e w' => e = .returned (.tuple #[.string ⟨#[]⟩, .int .i64 4]) ∧ Below w.heap.size w w' := by
  have HB := Aside0.mk (Below.refl w.heap.size w)
  go_enter Try.func30, Try.ntmps30
  go_wp2_with fail
  go_ret2
  exact ⟨rfl, HB.out⟩

theorem refList_calls (A : Option Addr) (c : Nat) (x : List Int) (w : World) (hr : Kd.C (Kd.int .i64) w A x.length x) (hx : ∀ n ∈ x, -9223372036854775808 ≤ n ∧ n < 9223372036854775808) :
    Calls Try.prog 30 #[.slice A x.length c] w fun e w' => e = .returned (.tuple #[.string (ltList x).1, .int .i64 (ltList x).2]) ∧ Below w.heap.size w w' := by
  by_cases h : 512 < x.length
  · rw [ltList, if_pos (by omega)]
    exact refList_big A x.length c w h
  · rw [ltList, if_neg (by omega)]
    match x with
    | [] => exact refList_none A c w
    | y :: l =>
      obtain ⟨ad, rfl, _⟩ := Kd.at_int hr 0 (by decide) (by simp)
      have hc : ∀ k, k < (y :: l).length → w.cell? (ad.add k) = some (.int .i64 ((y :: l).getD k 0)) := by
        intro k hk
        obtain ⟨ad', e, h1⟩ := Kd.at_int hr (k : Int) (by omega) (by omega)
        injection e with e
        subst e
        simpa [rd] using h1
      obtain ⟨b, off, spot⟩ := ad
      have h0 := hc 0 (by simp)
      have hspot : spot = none := by simpa [Addr.add] using World.cell?_spot h0
      subst hspot
      have hc' : ∀ k, k < (y :: l).length → w.cell? ⟨b, off + k, none⟩ = some (.int .i64 ((y :: l).getD k 0)) := fun k hk => by
        by_cases h0 : k = 0
        · subst h0; simpa [Addr.add] using hc 0 hk
        · simpa [Addr.add, h0] using hc k hk
      exact refList_some b off c (y :: l) w (World.block_lt_of_cell? w _ (hc' 0 (by simp))) hc' hx (by omega)

set_option maxRecDepth 100000 in
set_option maxHeartbeats 2000000 in
theorem walk_small (s : ByteArray) (A : Option Addr) (c : Nat) (x : List Int) (w : World) (hs : s.size ≤ 140737488351232) (hr : Kd.C (Kd.int .i64) w A x.length x) (hc : x.length ≤ c) (hx : ∀ n ∈ x, -9223372036854775808 ≤ n ∧ n < 9223372036854775808) (hl : x.length ≤ 600) :
    Calls Try.prog 5 #[.string s, .slice A x.length c] w fun e w' => e = .returned (.bool true) ∧ Below w.heap.size w w' := by
  have T1 := Aside0.mk (fun w => Text_calls s (by omega) w)
  have T2 := Aside0.mk (fun w => refText_calls s (by omega) w)
  have HK := Aside0.mk (show ∀ w1, Below w.heap.size w w1 → Kd.C (Kd.int .i64) w1 A x.length x from fun w1 h => Kd.C_below hr h)
  have L1 := Aside0.mk (fun (w1 : World) (h : Below w.heap.size w w1) => List_calls A c x w1 (HK.out w1 h) hc hx (by omega))
  have L2 := Aside0.mk (fun (w1 : World) (h : Below w.heap.size w w1) => refList_calls A c x w1 (HK.out w1 h) hx)
  clear HK hr hc hx
  have HB := Aside0.mk (Below.refl w.heap.size w)
  go_enter Try.func5, Try.ntmps5
  go_wp2_with (first | (go_at_call 27; (with_reducible refine (T1.out _).mono ?_); rintro e w1 ⟨rfl, hb⟩; have nb := Aside0.mk (below_step (by repeat (first | (with_reducible first | exact HB.out | apply below_alloc | apply pw_below_drewN | apply below_drew1) | exact HB.out)) hb); clear HB hb; have HB := nb; clear nb) | (go_at_call 28; (with_reducible refine (T2.out _).mono ?_); rintro e w1 ⟨rfl, hb⟩; have nb := Aside0.mk (below_step (by repeat (first | (with_reducible first | exact HB.out | apply below_alloc | apply pw_below_drewN | apply below_drew1) | exact HB.out)) hb); clear HB hb; have HB := nb; clear nb) | (go_at_call 22; (with_reducible refine (awake_calls _).mono ?_); rintro e w1 ⟨rfl, hb⟩; have nb := Aside0.mk (below_step (by repeat (first | (with_reducible first | exact HB.out | apply below_alloc | apply pw_below_drewN | apply below_drew1) | exact HB.out)) hb); clear HB hb; have HB := nb; clear nb) | (go_at_call 29; (with_reducible refine (L1.out _ (by repeat (first | (with_reducible first | exact HB.out | apply below_alloc | apply pw_below_drewN | apply below_drew1) | exact HB.out))).mono ?_); rintro e w1 ⟨rfl, hb⟩; have nb := Aside0.mk (below_step (by repeat (first | (with_reducible first | exact HB.out | apply below_alloc | apply pw_below_drewN | apply below_drew1) | exact HB.out)) hb); clear HB hb; have HB := nb; clear nb) | (go_at_call 30; (with_reducible refine (L2.out _ (by repeat (first | (with_reducible first | exact HB.out | apply below_alloc | apply pw_below_drewN | apply below_drew1) | exact HB.out))).mono ?_); rintro e w1 ⟨rfl, hb⟩; have nb := Aside0.mk (below_step (by repeat (first | (with_reducible first | exact HB.out | apply below_alloc | apply pw_below_drewN | apply below_drew1) | exact HB.out)) hb); clear HB hb; have HB := nb; clear nb))
  go_ret
  exact ⟨rfl, HB.out⟩

set_option maxRecDepth 100000 in
set_option maxHeartbeats 2000000 in
theorem walk_big (s : ByteArray) (A : Option Addr) (n c : Nat) (w : World) (hs : s.size ≤ 140737488351232) (hl : 600 < n) :
    Calls Try.prog 5 #[.string s, .slice A n c] w fun e w' => e = .returned (.bool true) ∧ Below w.heap.size w w' := by
  have T1 := Aside0.mk (fun w => Text_calls s (by omega) w)
  have T2 := Aside0.mk (fun w => refText_calls s (by omega) w)
  have HB := Aside0.mk (Below.refl w.heap.size w)
  go_enter Try.func5, Try.ntmps5
  go_wp2_with (first | (go_at_call 27; (with_reducible refine (T1.out _).mono ?_); rintro e w1 ⟨rfl, hb⟩; have nb := Aside0.mk (below_step (by repeat (first | (with_reducible first | exact HB.out | apply below_alloc | apply pw_below_drewN | apply below_drew1) | exact HB.out)) hb); clear HB hb; have HB := nb; clear nb) | (go_at_call 28; (with_reducible refine (T2.out _).mono ?_); rintro e w1 ⟨rfl, hb⟩; have nb := Aside0.mk (below_step (by repeat (first | (with_reducible first | exact HB.out | apply below_alloc | apply pw_below_drewN | apply below_drew1) | exact HB.out)) hb); clear HB hb; have HB := nb; clear nb) | (go_at_call 22; (with_reducible refine (awake_calls _).mono ?_); rintro e w1 ⟨rfl, hb⟩; have nb := Aside0.mk (below_step (by repeat (first | (with_reducible first | exact HB.out | apply below_alloc | apply pw_below_drewN | apply below_drew1) | exact HB.out)) hb); clear HB hb; have HB := nb; clear nb))
  go_ret
  exact ⟨rfl, HB.out⟩

theorem law (s : ByteArray) (A : Option Addr) (l c : Nat) (z : List Int) {w : World} (hs : s.size ≤ 140737488351232) (hz : IsRow .i64 w A l c z) :
    Calls Try.prog 5 #[.string s, .slice A l c] w fun e w' => e = .returned (.bool true) ∧ Below w.heap.size w w' := by
  by_cases hl : 600 < l
  · exact walk_big s A l c w hs hl
  · obtain ⟨x, rfl, hK, _, hw, hc⟩ := ReadsInt.ofRowC hz
    exact walk_small s A c x w hs (Kd.C_of_reads (d := (0 : Int)) (h1 := fun _ => rfl) hK) hc (fun n h => wf_i64 (hw n h)) (by omega)

end Go.Proofs.Ytlbjcdfognofgaa.TextsW
