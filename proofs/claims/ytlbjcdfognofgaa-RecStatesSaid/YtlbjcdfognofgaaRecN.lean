/- A state that is laid. -/
import Derived.Test.YtlbjcdfognofgaaRecM
import Derived.Test.YtlbjcdfognofgaaBrow
import Derived.Test.YtlbjcdfognofgaaLt
import Derived.Deep.DrawnRows
import Derived.Deep.RegionHeld3
namespace Go.Proofs.Ytlbjcdfognofgaa.RecN
open Go.RowKit Go.Proofs.YtlbjcdfognofgaaW.PrintWords Go.Proofs.YtlbjcdfognofgaaW.PrintLast Go.Proofs.YtlbjcdfognofgaaW.PrintMore Go.Proofs.Ytlbjcdfognofgaa.Be Go.Proofs.Ytlbjcdfognofgaa.Fl Go.Proofs.Ytlbjcdfognofgaa.StampA Go.Proofs.Ytlbjcdfognofgaa.StampB Go.Proofs.Ytlbjcdfognofgaa.StampC Go.Proofs.Ytlbjcdfognofgaa.StampD Go.Proofs.Ytlbjcdfognofgaa.StampK Go.Proofs.Ytlbjcdfognofgaa.SRec Go.Proofs.Ytlbjcdfognofgaa.StampQ Go.Proofs.Ytlbjcdfognofgaa.StampR Go.Proofs.Ytlbjcdfognofgaa.Wk Go.Proofs.Ytlbjcdfognofgaa.RecA Go.Proofs.Ytlbjcdfognofgaa.RecB Go.Proofs.Ytlbjcdfognofgaa.RecC Go.Proofs.Ytlbjcdfognofgaa.RecD Go.Proofs.Ytlbjcdfognofgaa.RecE Go.Proofs.Ytlbjcdfognofgaa.RecF Go.Proofs.Ytlbjcdfognofgaa.PRecStates Go.Proofs.Ytlbjcdfognofgaa.RecM Go.Proofs.Ytlbjcdfognofgaa.Brow
attribute [local go_sem ↓] Go.wp_at_zero Go.wp_at_succ
attribute [local go_sem] run_store_float
set_option linter.unusedVariables false


theorem info5 : (Try.prog.info? 5).map (fun i => (i.zero, i.size, i.bytes)) = some (some (.int .u8 0), 1, 1) := by kernel_rfl
theorem uty101 : Try.prog.underlying 101 = some (.slice 5) := Try.underlying101


set_option maxRecDepth 100000 in
set_option maxHeartbeats 1000000 in
theorem put42_big (A : Option Addr) (n c : Nat) (S D : Int) (w : World) (h : 8 < n) :
    Calls Try.prog 42 #[.agg #[.slice A n c, .int .i64 S, .int .i64 D]] w fun e w' => e = .returned (.tuple #[.string ⟨#[]⟩, .int .i64 2]) ∧ Below w.heap.size w w' := by
  have hu2 := Try.underlying48
  have HB := Aside0.mk (below_alloc (Below.refl w.heap.size w) (.cells #[.slice A n c, .int .i64 S, .int .i64 D] 48))
  have HX := Aside0.mk (Blk.new w 48 #[.slice A n c, .int .i64 S, .int .i64 D])
  go_enter Try.func42, Try.ntmps42
  go_wp2_with fail
  go_ret2
  exact ⟨rfl, bel⟩


set_option maxRecDepth 100000 in
set_option maxHeartbeats 1000000 in
theorem put42_s (A : Option Addr) (n c : Nat) (S D : Int) (w : World) (h : n ≤ 8) (hS : cntB S = false) :
    Calls Try.prog 42 #[.agg #[.slice A n c, .int .i64 S, .int .i64 D]] w fun e w' => e = .returned (.tuple #[.string ⟨#[]⟩, .int .i64 2]) ∧ Below w.heap.size w w' := by
  have hu2 := Try.underlying48
  have CS := Aside0.mk (fun w => count_calls S w)
  rw [hS] at CS
  clear hS
  have HB := Aside0.mk (below_alloc (Below.refl w.heap.size w) (.cells #[.slice A n c, .int .i64 S, .int .i64 D] 48))
  have HX := Aside0.mk (Blk.new w 48 #[.slice A n c, .int .i64 S, .int .i64 D])
  go_enter Try.func42, Try.ntmps42
  go_wp2_with fail
  refine (CS.out _).mono ?_
  rintro e w1 ⟨rfl, hk⟩
  replace HX : Aside0 (Blk w1 (w.heap.size) 48 #[.slice A n c, .int .i64 S, .int .i64 D]) := ⟨Blk.step blk hk⟩
  replace HB := Aside0.mk (below_step bel hk)
  have hsw1 := hk.size
  try simp at hsw1
  clear hk
  obtain ⟨cX0, cX1, cX2, fX⟩ := HX.out.c3
  go_wp2_with fail
  go_ret2
  exact ⟨rfl, bel⟩


set_option maxRecDepth 100000 in
set_option maxHeartbeats 1000000 in
theorem put42_d (A : Option Addr) (n c : Nat) (S D : Int) (w : World) (h : n ≤ 8) (hS : cntB S = true) (hD : cntB D = false) :
    Calls Try.prog 42 #[.agg #[.slice A n c, .int .i64 S, .int .i64 D]] w fun e w' => e = .returned (.tuple #[.string ⟨#[]⟩, .int .i64 2]) ∧ Below w.heap.size w w' := by
  have hu2 := Try.underlying48
  have CS := Aside0.mk (fun w => count_calls S w)
  rw [hS] at CS
  clear hS
  have CD := Aside0.mk (fun w => count_calls D w)
  rw [hD] at CD
  clear hD
  have HB := Aside0.mk (below_alloc (Below.refl w.heap.size w) (.cells #[.slice A n c, .int .i64 S, .int .i64 D] 48))
  have HX := Aside0.mk (Blk.new w 48 #[.slice A n c, .int .i64 S, .int .i64 D])
  go_enter Try.func42, Try.ntmps42
  go_wp2_with fail
  refine (CS.out _).mono ?_
  rintro e w1 ⟨rfl, hk⟩
  replace HX : Aside0 (Blk w1 (w.heap.size) 48 #[.slice A n c, .int .i64 S, .int .i64 D]) := ⟨Blk.step blk hk⟩
  replace HB := Aside0.mk (below_step bel hk)
  have hsw1 := hk.size
  try simp at hsw1
  clear hk
  obtain ⟨cX0, cX1, cX2, fX⟩ := HX.out.c3
  go_wp2_with fail
  clear cX0 cX1 cX2 fX
  refine (CD.out _).mono ?_
  rintro e w2 ⟨rfl, hk⟩
  replace HX : Aside0 (Blk w2 (w.heap.size) 48 #[.slice A n c, .int .i64 S, .int .i64 D]) := ⟨Blk.step blk hk⟩
  replace HB := Aside0.mk (below_step bel hk)
  have hsw2 := hk.size
  try simp at hsw2
  clear hk
  obtain ⟨cX0, cX1, cX2, fX⟩ := HX.out.c3
  go_wp2_with fail
  go_ret2
  exact ⟨rfl, bel⟩


set_option maxRecDepth 100000 in
set_option maxHeartbeats 4000000 in
theorem put42_some (b off c : Nat) (x : List Int) (S D : Int) (w : World) (hb : b < w.heap.size) (hcell : ∀ k, k < x.length → w.cell? ⟨b, off + k, none⟩ = some (.int .i64 (x.getD k 0))) (hx : ∀ n ∈ x, -9223372036854775808 ≤ n ∧ n < 9223372036854775808) (hl : x.length ≤ 8) (hS : cntB S = true) (hD : cntB D = true) (rS : -9223372036854775808 ≤ S ∧ S < 9223372036854775808) (rD : -9223372036854775808 ≤ D ∧ D < 9223372036854775808) :
    Calls Try.prog 42 #[.agg #[.slice (some ⟨b, off, none⟩) x.length c, .int .i64 S, .int .i64 D]] w fun e w' => e = .returned (.tuple #[.string (strOfNums ([(x.length : Int)] ++ lay8 x) ++ strOfNums (be8 (S + 9223372036854775808)) ++ strOfNums (be8 (D + 9223372036854775808))), .int .i64 0]) ∧ Below w.heap.size w w' := by
  have hu2 := Try.underlying48
  have CS := Aside0.mk (fun w => count_calls S w)
  rw [hS] at CS
  clear hS
  have CD := Aside0.mk (fun w => count_calls D w)
  rw [hD] at CD
  clear hD
  have I1 := Aside0.mk (fun w => I_calls S rS w)
  have I2 := Aside0.mk (fun w => I_calls D rD w)
  clear rS rD
  have C1 := Aside0.mk (fun w => one_calls (x.length : Int) (by omega) w)
  have Z0 := Aside0.mk (show (strOfNums [(x.length : Int)]).size ≤ maxLen by rw [size_strOfNums]; unfold maxLen; simp)
  have hr1 : ∀ q ∈ [(x.length : Int)], 0 ≤ q ∧ q ≤ 255 := by intro q hq; simp only [List.mem_singleton] at hq; omega
  have HR1' := Aside0.mk (bn_strOfNums [(x.length : Int)] hr1)
  clear hr1
  have HC := Aside0.mk hcell
  have HXX := Aside0.mk hx
  clear hcell hx
  have HB := Aside0.mk (below_alloc (Below.refl w.heap.size w) (.cells #[.slice (some ⟨b, off, none⟩) x.length c, .int .i64 S, .int .i64 D] 48))
  have HX := Aside0.mk (Blk.new w 48 #[.slice (some ⟨b, off, none⟩) x.length c, .int .i64 S, .int .i64 D])
  go_enter Try.func42, Try.ntmps42
  go_wp2_with fail
  have HBV := Aside0.mk (Below.refl (w.heap.size + 1) (w.alloc (.cells #[.slice (some ⟨b, off, none⟩) x.length c, .int .i64 S, .int .i64 D] 48)))
  refine (CS.out _).mono ?_
  rintro e w1 ⟨rfl, hk⟩
  replace HX : Aside0 (Blk w1 (w.heap.size) 48 #[.slice (some ⟨b, off, none⟩) x.length c, .int .i64 S, .int .i64 D]) := ⟨Blk.step blk hk⟩
  replace HBV : Aside0 (Below (w.heap.size + 1) (w.alloc (.cells #[.slice (some ⟨b, off, none⟩) x.length c, .int .i64 S, .int .i64 D] 48)) w1) := ⟨HBV.out.trans (hk.mono (by first | omega | (simp; done) | (simp; omega)))⟩
  replace HB := Aside0.mk (below_step bel hk)
  have hsw1 := hk.size
  try simp at hsw1
  clear hk
  obtain ⟨cX0, cX1, cX2, fX⟩ := HX.out.c3
  go_wp2_with fail
  clear cX0 cX1 cX2 fX
  refine (CD.out _).mono ?_
  rintro e w2 ⟨rfl, hk⟩
  replace HX : Aside0 (Blk w2 (w.heap.size) 48 #[.slice (some ⟨b, off, none⟩) x.length c, .int .i64 S, .int .i64 D]) := ⟨Blk.step blk hk⟩
  replace HBV : Aside0 (Below (w.heap.size + 1) (w.alloc (.cells #[.slice (some ⟨b, off, none⟩) x.length c, .int .i64 S, .int .i64 D] 48)) w2) := ⟨HBV.out.trans (hk.mono (by first | omega | (simp; done) | (simp; omega)))⟩
  replace HB := Aside0.mk (below_step bel hk)
  have hsw2 := hk.size
  try simp at hsw2
  clear hk
  obtain ⟨cX0, cX1, cX2, fX⟩ := HX.out.c3
  go_wp2_with fail
  clear cX0 cX1 cX2 fX
  refine (C1.out _).mono ?_
  rintro e w3 ⟨rfl, hk⟩
  replace HX : Aside0 (Blk w3 (w.heap.size) 48 #[.slice (some ⟨b, off, none⟩) x.length c, .int .i64 S, .int .i64 D]) := ⟨Blk.step blk hk⟩
  replace HBV : Aside0 (Below (w.heap.size + 1) (w.alloc (.cells #[.slice (some ⟨b, off, none⟩) x.length c, .int .i64 S, .int .i64 D] 48)) w3) := ⟨HBV.out.trans (hk.mono (by first | omega | (simp; done) | (simp; omega)))⟩
  replace HB := Aside0.mk (below_step bel hk)
  have hsw3 := hk.size
  try simp at hsw3
  clear hk
  obtain ⟨cX0, cX1, cX2, fX⟩ := HX.out.c3
  clear cX0 cX1 cX2 fX
  obtain ⟨v, w4, hconv, hR, hb2⟩ := made (P := Try.prog) 9 101 5 Try.underlying9 Try.underlying101 Try.underlying5 (strOfNums [(x.length : Int)]) w3 Z0.out
  have HR := Aside0.mk (Row.lower hR (show w.heap.size + 1 ≤ w3.heap.size by omega))
  have HBW : Aside0 (Below (w.heap.size + 1) (w.alloc (.cells #[.slice (some ⟨b, off, none⟩) x.length c, .int .i64 S, .int .i64 D] 48)) w4) := ⟨HBV.out.trans (hb2.mono (by omega))⟩
  replace HX : Aside0 (Blk w4 (w.heap.size) 48 #[.slice (some ⟨b, off, none⟩) x.length c, .int .i64 S, .int .i64 D]) := ⟨Blk.step HX.out hb2⟩
  clear hR hb2
  obtain ⟨cX0, cX1, cX2, fX⟩ := HX.out.c3
  rw [HR1'.out] at HR
  go_wp2_with fail
  clear cX0 cX1 cX2 fX hconv
  have hW0 : Below (w.heap.size + 1) (w.alloc (.cells #[.slice (some ⟨b, off, none⟩) x.length c, .int .i64 S, .int .i64 D] 48)) w4 := HBW.out
  replace HR := Aside0.mk (show Row w4 (w.heap.size + 1) 5 v ([(x.length : Int)] ++ lay8 (x.take 0)) from by have h := HR.out; simpa [lay8] using h)
  clear HB HX
  have HB := Aside0.mk hW0
  clear hW0 HBW
  go_loopw [4, 31] (fun v4 i wr => ∃ k : Nat, k ≤ x.length ∧ i = .int .i64 k ∧ Aside0 (Row wr (w.heap.size + 1) 5 v4 ([(x.length : Int)] ++ lay8 (x.take k))) ∧ Aside0 (Below (w.heap.size + 1) (w.alloc (.cells #[.slice (some ⟨b, off, none⟩) x.length c, .int .i64 S, .int .i64 D] 48)) wr)) (fun _ i _ => x.length - (intOf i).toNat)
  case atStart => exact ⟨0, Nat.zero_le _, rfl, HR, HB⟩
  case round =>
    clear HR HB
    (try clear hsw1 hsw2 hsw3)
    obtain ⟨k, hk, rfl, HR, HB⟩ := hrel
    by_cases hlt : k < x.length
    · have hc0 : wr.cell? ⟨b, off + k, none⟩ = some (.int .i64 (x.getD k 0)) := (World.cell?_of_block (HB.out.block b (by omega))).trans ((World.cell?_alloc_lt w _ ⟨b, off + k, none⟩ hb).trans (HC.out k hlt))
      have hm : x.getD k 0 ∈ x := by rw [List.getD_eq_getElem?_getD, List.getElem?_eq_getElem hlt]; exact List.getElem_mem hlt
      have hi := Aside0.mk (HXX.out _ hm)
      have hs : Aside0 (lay8 (x.take (k + 1)) = lay8 (x.take k) ++ be8 (x.getD k 0 + 9223372036854775808)) := ⟨by
        rw [List.take_succ_eq_append_getElem hlt, lay8_append, lay8_one, List.getD_eq_getElem?_getD, List.getElem?_eq_getElem hlt]; rfl⟩
      have hq : Aside0 (([(x.length : Int)] ++ lay8 (x.take k)).length + (strOfNums (be8 (x.getD k 0 + 9223372036854775808))).size ≤ 140737488355328) := ⟨by
        rw [List.length_append, lay8_length, List.length_take, size_strOfNums]; simp only [List.length_cons, List.length_nil, be8_length]; omega⟩
      have hy : Aside0 (bn (strOfNums (be8 (x.getD k 0 + 9223372036854775808))) = be8 (x.getD k 0 + 9223372036854775808)) := ⟨bn_strOfNums _ (be8_range _)⟩
      clear hm
      generalize hg : x.getD k 0 = y at *
      clear hg
      go_wp2_with fail
      refine (I_calls y hi.out _).mono ?_
      rintro e w5 ⟨rfl, hk'⟩
      replace HR := Aside0.mk (HR.out.below hk')
      replace HB : Aside0 (Below (w.heap.size + 1) (w.alloc (.cells #[.slice (some ⟨b, off, none⟩) x.length c, .int .i64 S, .int .i64 D] 48)) w5) := ⟨HB.out.trans (hk'.mono (by have h := HB.out.size; simp at h; omega))⟩
      clear hk' hc0
      have HZ := Aside0.mk (show w.heap.size + 1 ≤ w5.heap.size by have h := HB.out.size; simpa using h)
      go_wp2_with (at_builtin; refine Brow.wpList_append (w0 := (w.alloc (.cells #[.slice (some ⟨b, off, none⟩) x.length c, .int .i64 S, .int .i64 D] 48))) (w.heap.size + 1) rfl (.tmp 35) (.tmp 37) 101 9 5 rfl Try.underlying101 Try.underlying9 info5 _ _ _ rfl rfl HR.out HB.out hq.out HZ.out ?_; intro v' w6 n1 nb; rw [hy.out] at n1; have HR1 := Aside0.mk n1; have HB1 := Aside0.mk nb; clear HB HR n1 nb HZ; have HB := HB1; have HR := HR1; clear HB1 HR1)
      go_roundw
      case rel => exact ⟨k + 1, by omega, by go_num, ⟨by rw [hs.out, ← List.append_assoc]; exact HR.out⟩, HB⟩
      case measure => simp [intOf]; omega
    · obtain rfl : k = x.length := by omega
      replace HR := Aside0.mk (show Row wr (w.heap.size + 1) 5 _ ([(x.length : Int)] ++ lay8 x) from by have h := HR.out; rwa [List.take_length] at h)
      clear HC HXX
      have HX : Aside0 (Blk wr (w.heap.size) 48 #[.slice (some ⟨b, off, none⟩) x.length c, .int .i64 S, .int .i64 D]) := ⟨(Blk.new w 48 #[.slice (some ⟨b, off, none⟩) x.length c, .int .i64 S, .int .i64 D]).below HB.out (by omega)⟩
      have HB' : Aside0 (Below w.heap.size w wr) := ⟨(below_alloc (Below.refl w.heap.size w) (.cells #[.slice (some ⟨b, off, none⟩) x.length c, .int .i64 S, .int .i64 D] 48)).trans (HB.out.mono (by omega))⟩
      obtain ⟨cX0, cX1, cX2, fX⟩ := HX.out.c3
      have s1 := Aside0.mk (z8 (S + 9223372036854775808))
      have s2 := Aside0.mk (z8 (D + 9223372036854775808))
      have hsz : (strOfNums ([(x.length : Int)] ++ lay8 x)).size ≤ 100 := by rw [size_strOfNums]; simp [lay8_length]; omega
      have t0 : ¬ 9223372036854775807 < (strOfNums ([(x.length : Int)] ++ lay8 x)).size + (strOfNums (be8 (S + 9223372036854775808))).size := by have := s1.out; omega
      have t1 : ¬ 9223372036854775807 < (strOfNums ([(x.length : Int)] ++ lay8 x)).size + (strOfNums (be8 (S + 9223372036854775808))).size + (strOfNums (be8 (D + 9223372036854775808))).size := by have := s1.out; have := s2.out; omega
      clear hsz s1 s2
      have HV := Aside0.mk (fun (W : World) (h : Below wr.heap.size wr W) => told (P := Try.prog) (src := 101) (e := 5) (dst := 9) Try.underlying101 Try.underlying5 Try.underlying9 (HR.out.below h))
      generalize hF : strOfNums ([(x.length : Int)] ++ lay8 x) = F at *
      generalize hG1 : strOfNums (be8 (S + 9223372036854775808)) = G1 at *
      generalize hG2 : strOfNums (be8 (D + 9223372036854775808)) = G2 at *
      have HF := Aside0.mk hF
      have HG1 := Aside0.mk hG1
      have HG2 := Aside0.mk hG2
      clear hF hG1 hG2
      have hv0 := HV.out wr (Below.refl _ _)
      have HD := Aside0.mk (Below.refl wr.heap.size wr)
      clear HB HR
      go_wp2_with fail
      refine wp_region_noPanic ?_
      refine wp_region_held_drew (S := (fun w' => w'.cell? ⟨w.heap.size, 1, none⟩ = some (.int .i64 S) ∧ w'.cell? ⟨w.heap.size, 2, none⟩ = some (.int .i64 D) ∧ (convert 101 9 u4).run Try.prog w' = .ok (.string F) w')) (by kernel_rfl) ⟨HX.out.cell 1, HX.out.cell 2, HV.out _ bel⟩ (fun hHeld => ?_)
      change wpAnyH _ _ _ _ _ 12 _ _ _
      refine Rg.tk (fuel := 11) 0 ?_
      refine Rg.tk (fuel := 10) 1 ?_
      refine Rg.tk (fuel := 9) 2 ?_
      refine Rg.tk (fuel := 8) 3 ?_
      refine Rg.tk (fuel := 7) 6 ?_
      refine Rg.tk (fuel := 6) 7 ?_
      refine wpAnyH_ready (fuel := 5) (rs := [4]) (by kernel_rfl) (by simp) ?_
      refine AllReadyH.cons rfl (fun K hK => ?_) ?_
      · go_simp
        refine (I1.out _).mono ?_
        rintro e w7 ⟨rfl, hk'⟩
        replace HX : Aside0 (Blk w7 (w.heap.size) 48 #[.slice (some ⟨b, off, none⟩) x.length c, .int .i64 S, .int .i64 D]) := ⟨Blk.step blk hk'⟩
        have HD1 := Aside0.mk (below_step (show Below wr.heap.size wr _ from bel) hk')
        clear HD
        have HD := HD1
        clear HD1 hk'
        go_wp2_with fail
        refine hK.out _ _ ⟨HX.out.cell 1, HX.out.cell 2, HV.out _ HD.out⟩ (fun hHeld => ?_)
        clear hK K
        try simp only [Act.put, List.setIfInBounds_toArray, List.set_cons_zero, List.set_cons_succ]
        refine Rg.tk (fuel := 4) 5 ?_
        refine wpAnyH_ready (fuel := 3) (rs := [8]) (by kernel_rfl) (by simp) ?_
        refine AllReadyH.cons rfl (fun K hK => ?_) ?_
        · go_simp
          refine (I2.out _).mono ?_
          rintro e w8 ⟨rfl, hk'⟩
          replace HX : Aside0 (Blk w8 (w.heap.size) 48 #[.slice (some ⟨b, off, none⟩) x.length c, .int .i64 S, .int .i64 D]) := ⟨Blk.step blk hk'⟩
          have HD1 := Aside0.mk (below_step (show Below wr.heap.size wr _ from bel) hk')
          clear HD
          have HD := HD1
          clear HD1 hk'
          go_wp2_with fail
          refine hK.out _ _ ⟨HX.out.cell 1, HX.out.cell 2, HV.out _ HD.out⟩ (fun hHeld => ?_)
          clear hK K
          try simp only [Act.put, List.setIfInBounds_toArray, List.set_cons_zero, List.set_cons_succ]
          refine Rg.tk (fuel := 2) 9 ?_
          refine Rg.tk (fuel := 1) 10 ?_
          refine Rg.tk (fuel := 0) 11 ?_
          refine wpAnyH_done (by kernel_rfl) ?_ _
          refine NoPanic.normal ?_
          go_wp2_with fail
          go_ret2
          refine ⟨?_, HB'.out.trans (HD.out.mono HB'.out.size)⟩
          rw [← HF.out, ← HG1.out, ← HG2.out]
          rfl
        exact AllReadyH.nil
      exact AllReadyH.nil


set_option maxRecDepth 100000 in
set_option maxHeartbeats 4000000 in
theorem put42_none (A : Option Addr) (c : Nat) (S D : Int) (w : World)  (hS : cntB S = true) (hD : cntB D = true) (rS : -9223372036854775808 ≤ S ∧ S < 9223372036854775808) (rD : -9223372036854775808 ≤ D ∧ D < 9223372036854775808) :
    Calls Try.prog 42 #[.agg #[.slice A 0 c, .int .i64 S, .int .i64 D]] w fun e w' => e = .returned (.tuple #[.string (strOfNums ([(0 : Int)]) ++ strOfNums (be8 (S + 9223372036854775808)) ++ strOfNums (be8 (D + 9223372036854775808))), .int .i64 0]) ∧ Below w.heap.size w w' := by
  have hu2 := Try.underlying48
  have CS := Aside0.mk (fun w => count_calls S w)
  rw [hS] at CS
  clear hS
  have CD := Aside0.mk (fun w => count_calls D w)
  rw [hD] at CD
  clear hD
  have I1 := Aside0.mk (fun w => I_calls S rS w)
  have I2 := Aside0.mk (fun w => I_calls D rD w)
  clear rS rD
  have C1 := Aside0.mk (fun w => one_calls (0 : Int) (by omega) w)
  have Z0 := Aside0.mk (show (strOfNums [(0 : Int)]).size ≤ maxLen by rw [size_strOfNums]; unfold maxLen; simp)
  have hr1 : ∀ q ∈ [(0 : Int)], 0 ≤ q ∧ q ≤ 255 := by intro q hq; simp only [List.mem_singleton] at hq; omega
  have HR1' := Aside0.mk (bn_strOfNums [(0 : Int)] hr1)
  clear hr1
  have HB := Aside0.mk (below_alloc (Below.refl w.heap.size w) (.cells #[.slice A 0 c, .int .i64 S, .int .i64 D] 48))
  have HX := Aside0.mk (Blk.new w 48 #[.slice A 0 c, .int .i64 S, .int .i64 D])
  go_enter Try.func42, Try.ntmps42
  go_wp2_with fail
  have HBV := Aside0.mk (Below.refl (w.heap.size + 1) (w.alloc (.cells #[.slice A 0 c, .int .i64 S, .int .i64 D] 48)))
  refine (CS.out _).mono ?_
  rintro e w1 ⟨rfl, hk⟩
  replace HX : Aside0 (Blk w1 (w.heap.size) 48 #[.slice A 0 c, .int .i64 S, .int .i64 D]) := ⟨Blk.step blk hk⟩
  replace HBV : Aside0 (Below (w.heap.size + 1) (w.alloc (.cells #[.slice A 0 c, .int .i64 S, .int .i64 D] 48)) w1) := ⟨HBV.out.trans (hk.mono (by first | omega | (simp; done) | (simp; omega)))⟩
  replace HB := Aside0.mk (below_step bel hk)
  have hsw1 := hk.size
  try simp at hsw1
  clear hk
  obtain ⟨cX0, cX1, cX2, fX⟩ := HX.out.c3
  go_wp2_with fail
  clear cX0 cX1 cX2 fX
  refine (CD.out _).mono ?_
  rintro e w2 ⟨rfl, hk⟩
  replace HX : Aside0 (Blk w2 (w.heap.size) 48 #[.slice A 0 c, .int .i64 S, .int .i64 D]) := ⟨Blk.step blk hk⟩
  replace HBV : Aside0 (Below (w.heap.size + 1) (w.alloc (.cells #[.slice A 0 c, .int .i64 S, .int .i64 D] 48)) w2) := ⟨HBV.out.trans (hk.mono (by first | omega | (simp; done) | (simp; omega)))⟩
  replace HB := Aside0.mk (below_step bel hk)
  have hsw2 := hk.size
  try simp at hsw2
  clear hk
  obtain ⟨cX0, cX1, cX2, fX⟩ := HX.out.c3
  go_wp2_with fail
  clear cX0 cX1 cX2 fX
  refine (C1.out _).mono ?_
  rintro e w3 ⟨rfl, hk⟩
  replace HX : Aside0 (Blk w3 (w.heap.size) 48 #[.slice A 0 c, .int .i64 S, .int .i64 D]) := ⟨Blk.step blk hk⟩
  replace HBV : Aside0 (Below (w.heap.size + 1) (w.alloc (.cells #[.slice A 0 c, .int .i64 S, .int .i64 D] 48)) w3) := ⟨HBV.out.trans (hk.mono (by first | omega | (simp; done) | (simp; omega)))⟩
  replace HB := Aside0.mk (below_step bel hk)
  have hsw3 := hk.size
  try simp at hsw3
  clear hk
  obtain ⟨cX0, cX1, cX2, fX⟩ := HX.out.c3
  clear cX0 cX1 cX2 fX
  obtain ⟨v, w4, hconv, hR, hb2⟩ := made (P := Try.prog) 9 101 5 Try.underlying9 Try.underlying101 Try.underlying5 (strOfNums [(0 : Int)]) w3 Z0.out
  have HR := Aside0.mk (Row.lower hR (show w.heap.size + 1 ≤ w3.heap.size by omega))
  have HBW : Aside0 (Below (w.heap.size + 1) (w.alloc (.cells #[.slice A 0 c, .int .i64 S, .int .i64 D] 48)) w4) := ⟨HBV.out.trans (hb2.mono (by omega))⟩
  replace HX : Aside0 (Blk w4 (w.heap.size) 48 #[.slice A 0 c, .int .i64 S, .int .i64 D]) := ⟨Blk.step HX.out hb2⟩
  clear hR hb2
  obtain ⟨cX0, cX1, cX2, fX⟩ := HX.out.c3
  rw [HR1'.out] at HR
  go_wp2_with fail
  clear cX0 cX1 cX2 fX hconv
  have hW0 : Below (w.heap.size + 1) (w.alloc (.cells #[.slice A 0 c, .int .i64 S, .int .i64 D] 48)) w4 := HBW.out
  replace HR := Aside0.mk (show Row w4 (w.heap.size + 1) 5 v [(0 : Int)] from by have h := HR.out; exact h)
  clear HB HX
  have HB := Aside0.mk hW0
  clear hW0 HBW
  go_loopw [4, 31] (fun v4 i wr => i = .int .i64 0 ∧ Aside0 (Row wr (w.heap.size + 1) 5 v4 [(0 : Int)]) ∧ Aside0 (Below (w.heap.size + 1) (w.alloc (.cells #[.slice A 0 c, .int .i64 S, .int .i64 D] 48)) wr)) (fun _ i _ => (intOf i).toNat)
  case atStart => exact ⟨rfl, HR, HB⟩
  case round =>
    clear HR HB
    (try clear hsw1 hsw2 hsw3)
    obtain ⟨rfl, HR, HB⟩ := hrel
    have HX : Aside0 (Blk wr (w.heap.size) 48 #[.slice A 0 c, .int .i64 S, .int .i64 D]) := ⟨(Blk.new w 48 #[.slice A 0 c, .int .i64 S, .int .i64 D]).below HB.out (by omega)⟩
    have HB' : Aside0 (Below w.heap.size w wr) := ⟨(below_alloc (Below.refl w.heap.size w) (.cells #[.slice A 0 c, .int .i64 S, .int .i64 D] 48)).trans (HB.out.mono (by omega))⟩
    obtain ⟨cX0, cX1, cX2, fX⟩ := HX.out.c3
    have s1 := Aside0.mk (z8 (S + 9223372036854775808))
    have s2 := Aside0.mk (z8 (D + 9223372036854775808))
    have hsz : (strOfNums ([(0 : Int)])).size ≤ 100 := by rw [size_strOfNums]; simp
    have t0 : ¬ 9223372036854775807 < (strOfNums ([(0 : Int)])).size + (strOfNums (be8 (S + 9223372036854775808))).size := by have := s1.out; omega
    have t1 : ¬ 9223372036854775807 < (strOfNums ([(0 : Int)])).size + (strOfNums (be8 (S + 9223372036854775808))).size + (strOfNums (be8 (D + 9223372036854775808))).size := by have := s1.out; have := s2.out; omega
    clear hsz s1 s2
    have HV := Aside0.mk (fun (W : World) (h : Below wr.heap.size wr W) => told (P := Try.prog) (src := 101) (e := 5) (dst := 9) Try.underlying101 Try.underlying5 Try.underlying9 (HR.out.below h))
    generalize hF : strOfNums ([(0 : Int)]) = F at *
    generalize hG1 : strOfNums (be8 (S + 9223372036854775808)) = G1 at *
    generalize hG2 : strOfNums (be8 (D + 9223372036854775808)) = G2 at *
    have HF := Aside0.mk hF
    have HG1 := Aside0.mk hG1
    have HG2 := Aside0.mk hG2
    clear hF hG1 hG2
    have hv0 := HV.out wr (Below.refl _ _)
    have HD := Aside0.mk (Below.refl wr.heap.size wr)
    clear HB HR
    go_wp2_with fail
    refine wp_region_noPanic ?_
    refine wp_region_held_drew (S := (fun w' => w'.cell? ⟨w.heap.size, 1, none⟩ = some (.int .i64 S) ∧ w'.cell? ⟨w.heap.size, 2, none⟩ = some (.int .i64 D) ∧ (convert 101 9 u4).run Try.prog w' = .ok (.string F) w')) (by kernel_rfl) ⟨HX.out.cell 1, HX.out.cell 2, HV.out _ bel⟩ (fun hHeld => ?_)
    change wpAnyH _ _ _ _ _ 12 _ _ _
    refine Rg.tk (fuel := 11) 0 ?_
    refine Rg.tk (fuel := 10) 1 ?_
    refine Rg.tk (fuel := 9) 2 ?_
    refine Rg.tk (fuel := 8) 3 ?_
    refine Rg.tk (fuel := 7) 6 ?_
    refine Rg.tk (fuel := 6) 7 ?_
    refine wpAnyH_ready (fuel := 5) (rs := [4]) (by kernel_rfl) (by simp) ?_
    refine AllReadyH.cons rfl (fun K hK => ?_) ?_
    · go_simp
      refine (I1.out _).mono ?_
      rintro e w7 ⟨rfl, hk'⟩
      replace HX : Aside0 (Blk w7 (w.heap.size) 48 #[.slice A 0 c, .int .i64 S, .int .i64 D]) := ⟨Blk.step blk hk'⟩
      have HD1 := Aside0.mk (below_step (show Below wr.heap.size wr _ from bel) hk')
      clear HD
      have HD := HD1
      clear HD1 hk'
      go_wp2_with fail
      refine hK.out _ _ ⟨HX.out.cell 1, HX.out.cell 2, HV.out _ HD.out⟩ (fun hHeld => ?_)
      clear hK K
      try simp only [Act.put, List.setIfInBounds_toArray, List.set_cons_zero, List.set_cons_succ]
      refine Rg.tk (fuel := 4) 5 ?_
      refine wpAnyH_ready (fuel := 3) (rs := [8]) (by kernel_rfl) (by simp) ?_
      refine AllReadyH.cons rfl (fun K hK => ?_) ?_
      · go_simp
        refine (I2.out _).mono ?_
        rintro e w8 ⟨rfl, hk'⟩
        replace HX : Aside0 (Blk w8 (w.heap.size) 48 #[.slice A 0 c, .int .i64 S, .int .i64 D]) := ⟨Blk.step blk hk'⟩
        have HD1 := Aside0.mk (below_step (show Below wr.heap.size wr _ from bel) hk')
        clear HD
        have HD := HD1
        clear HD1 hk'
        go_wp2_with fail
        refine hK.out _ _ ⟨HX.out.cell 1, HX.out.cell 2, HV.out _ HD.out⟩ (fun hHeld => ?_)
        clear hK K
        try simp only [Act.put, List.setIfInBounds_toArray, List.set_cons_zero, List.set_cons_succ]
        refine Rg.tk (fuel := 2) 9 ?_
        refine Rg.tk (fuel := 1) 10 ?_
        refine Rg.tk (fuel := 0) 11 ?_
        refine wpAnyH_done (by kernel_rfl) ?_ _
        refine NoPanic.normal ?_
        go_wp2_with fail
        go_ret2
        refine ⟨?_, HB'.out.trans (HD.out.mono HB'.out.size)⟩
        rw [← HF.out, ← HG1.out, ← HG2.out]
        rfl
      exact AllReadyH.nil
    exact AllReadyH.nil

end Go.Proofs.Ytlbjcdfognofgaa.RecN
