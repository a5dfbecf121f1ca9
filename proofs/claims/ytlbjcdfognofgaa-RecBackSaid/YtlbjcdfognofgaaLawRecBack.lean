/- The row RecBack: what was laid is read as it was, its time as it is kept; what is read is laid as the very bytes. -/
import Derived.Test.YtlbjcdfognofgaaBackB
import Derived.Test.YtlbjcdfognofgaaBackC
import Derived.Deep.DrawnRows
import Derived.Deep.RegionHeld3
import Derived.Test.YtlbjcdfognofgaaRows
import Derived.WalkKit
import Derived.ProofKit
import Derived.OpenShut
import Derived.ShutString
import Derived.ChangeOld
import Derived.Below
import Derived.SizedLaws
import Derived.Laws.Cover2

namespace Go.Proofs.Ytlbjcdfognofgaa.BackL
open Go.RowKit Go.Proofs.YtlbjcdfognofgaaW.PrintWords Go.Proofs.YtlbjcdfognofgaaW.PrintLast Go.Proofs.YtlbjcdfognofgaaW.PrintMore Go.Proofs.Ytlbjcdfognofgaa.Be Go.Proofs.Ytlbjcdfognofgaa.Fl Go.Proofs.Ytlbjcdfognofgaa.StampA Go.Proofs.Ytlbjcdfognofgaa.StampB Go.Proofs.Ytlbjcdfognofgaa.StampC Go.Proofs.Ytlbjcdfognofgaa.StampD Go.Proofs.Ytlbjcdfognofgaa.StampK Go.Proofs.Ytlbjcdfognofgaa.SRec Go.Proofs.Ytlbjcdfognofgaa.StampQ Go.Proofs.Ytlbjcdfognofgaa.StampR Go.Proofs.Ytlbjcdfognofgaa.Wk Go.Proofs.Ytlbjcdfognofgaa.RecA Go.Proofs.Ytlbjcdfognofgaa.RecB Go.Proofs.Ytlbjcdfognofgaa.RecC Go.Proofs.Ytlbjcdfognofgaa.RecD Go.Proofs.Ytlbjcdfognofgaa.RecE Go.Proofs.Ytlbjcdfognofgaa.RecF Go.Proofs.Ytlbjcdfognofgaa.RecI Go.Proofs.Ytlbjcdfognofgaa.PRecStates Go.Proofs.Ytlbjcdfognofgaa.RecM Go.Proofs.Ytlbjcdfognofgaa.RecN Go.Proofs.Ytlbjcdfognofgaa.RecP Go.Proofs.Ytlbjcdfognofgaa.RecQ Go.Proofs.Ytlbjcdfognofgaa.BackN Go.Proofs.Ytlbjcdfognofgaa.BackB Go.Proofs.Ytlbjcdfognofgaa.BackC
attribute [local go_sem ↓] Go.wp_at_zero Go.wp_at_succ
attribute [local go_sem] run_store_float
set_option linter.unusedVariables false

theorem gev_nn (s : ByteArray) : 0 ≤ (gev s).2 := by
  by_cases h1 : (s.size : Int) < 26
  · rw [gev_short h1]; decide
  by_cases h2 : (26 : Int) < s.size
  · rw [gev_long h2]; decide
  rw [gev_is (by omega)]
  split <;> first | exact Int.le_refl 0 | (show (0 : Int) ≤ 5; decide) | (show (0 : Int) ≤ 6; decide)
theorem gmsg_nn (s : ByteArray) : 0 ≤ (gmsg s).2.2 := by
  by_cases h1 : (s.size : Int) < 27
  · rw [gmsg_short h1]; decide
  by_cases h2 : (27 : Int) < s.size
  · rw [gmsg_long h2]; decide
  rw [gmsg_is (by omega)]
  split <;> first | exact Int.le_refl 0 | (show (0 : Int) ≤ 5; decide) | (show (0 : Int) ≤ 6; decide)
theorem gst_nn (s : ByteArray) : 0 ≤ (gst s).2.2.2 := by
  unfold gst
  repeat' split
  all_goals first | exact Int.le_refl 0 | (show (0 : Int) ≤ 5; decide) | (show (0 : Int) ≤ 6; decide)
theorem tmV_lt {u : Int} (h : 0 ≤ u ∧ u < 18446744073709551616) : tmV u < 18446744073709551616 := by
  unfold tmV
  split
  · decide
  · exact dk_lt h
theorem evAt_rng (s : ByteArray) (a : Int) : (evAt s a).1 < 18446744073709551616 ∧ -9223372036854775808 ≤ (evAt s a).2.2.2.2 ∧ (evAt s a).2.2.2.2 < 9223372036854775808 := by
  have h := nm8 s (a + 18)
  refine ⟨tmV_lt (nm8 s a), ?_, ?_⟩
  · show _ ≤ nm s (a + 18) 8 - 9223372036854775808; omega
  · show nm s (a + 18) 8 - 9223372036854775808 < _; omega
theorem gev_rng (s : ByteArray) : (gev s).1.1 < 18446744073709551616 ∧ -9223372036854775808 ≤ (gev s).1.2.2.2.2 ∧ (gev s).1.2.2.2.2 < 9223372036854775808 := by
  by_cases h1 : (s.size : Int) < 26
  · rw [gev_short h1]; decide
  by_cases h2 : (26 : Int) < s.size
  · rw [gev_long h2]; decide
  rw [gev_is (by omega)]
  split
  · exact evAt_rng s 0
  · decide
theorem gmsg_rng (s : ByteArray) : (gmsg s).1.1 < 18446744073709551616 ∧ -9223372036854775808 ≤ (gmsg s).1.2.2.2.2 ∧ (gmsg s).1.2.2.2.2 < 9223372036854775808 := by
  by_cases h1 : (s.size : Int) < 27
  · rw [gmsg_short h1]; decide
  by_cases h2 : (27 : Int) < s.size
  · rw [gmsg_long h2]; decide
  rw [gmsg_is (by omega)]
  split
  · exact evAt_rng s 1
  · decide
theorem msg_ok (b : Bool) (t : Nat) (s n d p : Int) (K : ByteArray) (w : World) (za : K.size ≤ 100) (CA : Aside0 (Gives 58 #[.agg #[.float .f64 t, .int .i64 s, .int .i64 n, .int .i64 d, .int .i64 p]] (.tuple #[.string K, .int .i64 0]))) :
    Calls Try.prog 59 #[.agg #[.float .f64 t, .int .i64 s, .int .i64 n, .int .i64 d, .int .i64 p, .bool b]] w fun e w' => e = .returned (.tuple #[.string (strOfNums [if b then 1 else 0] ++ K), .int .i64 0]) ∧ Below w.heap.size w w' := by
  cases b
  · exact msg_false_ok t s n d p K w za CA
  · exact msg_true_ok t s n d p K w za CA

theorem law (t : Nat) (s n d p : Int) (anti : Bool) (fl : Int) (S : ByteArray) {w : World} (h1 : (Lit.float .f64 t).wf = true) (_ : (Lit.int .i64 s).wf = true) (_ : (Lit.int .i64 n).wf = true) (_ : (Lit.int .i64 d).wf = true) (h5 : (Lit.int .i64 p).wf = true) (h6 : (Lit.int .u8 fl).wf = true) (_ : S.size ≤ maxLen) :
    Calls Try.prog 12 #[.agg #[.float .f64 t, .int .i64 s, .int .i64 n, .int .i64 d, .int .i64 p, .bool anti, .int .u8 fl, .string S]] w fun e w' => e = .returned (.bool true) ∧ Below w.heap.size w w' := by
  by_cases hb : 200 < S.size
  · exact walk_big t s n d p anti fl S w hb
  have hz : S.size ≤ 140737488351232 := by omega
  have ht : t < 18446744073709551616 := of_decide_eq_true h1
  have hp := wf_i64 h5
  have hfl : 0 ≤ fl ∧ fl ≤ 255 := by
    simp [Lit.wf, IntKind.min, IntKind.max, IntKind.signed, IntKind.bits] at h6
    omega
  have CG := fun w => get61_calls S hz w
  have CT := fun W => get43_reads S hz W
  have CM := fun w => get62_calls S hz w
  have CR := fun w => right57_calls t s n d p w
  by_cases hr : rightB t s n d = true
  · rw [hr] at CR
    have hs := evS_size t s n d p
    have hw : wrap64 (fl.tmod 8) = fl % 8 := by rw [Int.tmod_eq_emod_of_nonneg hfl.1, wrap64_in _ (by omega) (by omega)]
    have CA := fun w => put_calls t s n d p ht hp w
    rw [if_pos hr, if_pos hr] at CA
    have CB := fun w => msg_ok anti t s n d p _ w (by omega) ⟨CA⟩
    have CD := fun w => done_calls t s n d p (wrap64 (fl.tmod 8)) ht hp w
    have hd : dnS t s n d p (wrap64 (fl.tmod 8)) = (evS t s n d p ++ strOfNums [wrap64 (fl.tmod 8)], 0) := by rw [dnS, if_pos ⟨hr, by omega, by omega⟩]
    rw [hd] at CD
    have DA := fun w => get61_calls (evS t s n d p) (by omega) w
    rw [gev_evS hr ht hp] at DA
    have DB := fun w => get62_calls (strOfNums [if anti then 1 else 0] ++ evS t s n d p) (by rw [ByteArray.size_append, hs, size_strOfNums]; simp only [List.length_cons, List.length_nil]; omega) w
    rw [gmsg_evS anti hr ht hp] at DB
    have DD := fun w => get63_calls (evS t s n d p ++ strOfNums [wrap64 (fl.tmod 8)]) (by rw [ByteArray.size_append, hs, size_strOfNums]; simp only [List.length_cons, List.length_nil]; omega) w
    rw [gdone_evS hr ht hp (by omega)] at DD
    have CK := fun w => kept65_calls t s n d p w
    by_cases c1 : (gev S).2 = 0
    · obtain ⟨z1, r1, l1⟩ := gev_lay c1
      have d2 : 1 ≤ (gst S).2.2.2 := by
        have q0 := gst_nn S
        by_cases q : (gst S).2.2.2 = 0
        · have q1 := (gst_lay q).1
          omega
        · omega
      have d3 : 1 ≤ (gmsg S).2.2 := by
        have q0 := gmsg_nn S
        by_cases q : (gmsg S).2.2 = 0
        · have q1 := (gmsg_lay q).1
          omega
        · omega
      have hg := gev_rng S
      have CP := fun w => put_calls ((gev S).1).1 ((gev S).1).2.1 ((gev S).1).2.2.1 ((gev S).1).2.2.2.1 ((gev S).1).2.2.2.2 hg.1 hg.2 w
      rw [if_pos r1, if_pos r1, l1] at CP
      rw [c1] at CG
      exact walk_R_ev t s n d p anti fl S w _ _ _ _ _ _ _ _ _ _ _ _ _ _ _ d2 _ d3 (by omega) ⟨CR⟩ ⟨CG⟩ ⟨CT⟩ ⟨CM⟩ ⟨CP⟩ _ _ _ _ ⟨CA⟩ ⟨CB⟩ ⟨CD⟩ ⟨DA⟩ ⟨DB⟩ ⟨DD⟩ ⟨CK⟩
    · have d1 : 1 ≤ (gev S).2 := by have := gev_nn S; omega
      by_cases c2 : (gst S).2.2.2 = 0
      · obtain ⟨z2, o2, l2, x2⟩ := gst_lay c2
        have d3 : 1 ≤ (gmsg S).2.2 := by
          have q0 := gmsg_nn S
          by_cases q : (gmsg S).2.2 = 0
          · have q1 := (gmsg_lay q).1
            omega
          · omega
        have CU := fun W (B : Option Addr) (c : Nat) (h : Kd.C (Kd.int .i64) W B (gst S).1.length (gst S).1) => put42_ok B c (gst S).1 (gst S).2.1 (gst S).2.2.1 W o2 h x2
        rw [l2] at CU
        rw [c2] at CT
        exact walk_R_st t s n d p anti fl S w _ _ _ _ _ _ _ _ _ _ _ _ _ _ _ d1 _ d3 (by omega) ⟨CR⟩ ⟨CG⟩ ⟨CT⟩ ⟨CM⟩ ⟨CU⟩ _ _ _ _ ⟨CA⟩ ⟨CB⟩ ⟨CD⟩ ⟨DA⟩ ⟨DB⟩ ⟨DD⟩ ⟨CK⟩
      · have d2 : 1 ≤ (gst S).2.2.2 := by have := gst_nn S; omega
        by_cases c3 : (gmsg S).2.2 = 0
        · obtain ⟨z3, r3, l3⟩ := gmsg_lay c3
          have hg := gmsg_rng S
          have CQ := fun w => put_calls ((gmsg S).1).1 ((gmsg S).1).2.1 ((gmsg S).1).2.2.1 ((gmsg S).1).2.2.2.1 ((gmsg S).1).2.2.2.2 hg.1 hg.2 w
          rw [if_pos r3, if_pos r3] at CQ
          have hs3 := evS_size ((gmsg S).1).1 ((gmsg S).1).2.1 ((gmsg S).1).2.2.1 ((gmsg S).1).2.2.2.1 ((gmsg S).1).2.2.2.2
          have CV := fun w => msg_ok (gmsg S).2.1 ((gmsg S).1).1 ((gmsg S).1).2.1 ((gmsg S).1).2.2.1 ((gmsg S).1).2.2.2.1 ((gmsg S).1).2.2.2.2 _ w (by omega) ⟨CQ⟩
          rw [l3] at CV
          rw [c3] at CM
          exact walk_R_msg t s n d p anti fl S w _ _ _ _ _ _ _ _ _ _ _ _ _ _ _ d1 _ d2 (by omega) ⟨CR⟩ ⟨CG⟩ ⟨CT⟩ ⟨CM⟩ ⟨CV⟩ _ _ _ _ ⟨CA⟩ ⟨CB⟩ ⟨CD⟩ ⟨DA⟩ ⟨DB⟩ ⟨DD⟩ ⟨CK⟩
        · have d3 : 1 ≤ (gmsg S).2.2 := by have := gmsg_nn S; omega
          exact walk_R_none t s n d p anti fl S w _ _ _ _ _ _ _ _ _ _ _ _ _ _ _ d1 _ d2 _ d3 (by omega) ⟨CR⟩ ⟨CG⟩ ⟨CT⟩ ⟨CM⟩ _ _ _ _ ⟨CA⟩ ⟨CB⟩ ⟨CD⟩ ⟨DA⟩ ⟨DB⟩ ⟨DD⟩ ⟨CK⟩
  · have hr' : rightB t s n d = false := by simpa using hr
    rw [hr'] at CR
    by_cases c1 : (gev S).2 = 0
    · obtain ⟨z1, r1, l1⟩ := gev_lay c1
      have d2 : 1 ≤ (gst S).2.2.2 := by
        have q0 := gst_nn S
        by_cases q : (gst S).2.2.2 = 0
        · have q1 := (gst_lay q).1
          omega
        · omega
      have d3 : 1 ≤ (gmsg S).2.2 := by
        have q0 := gmsg_nn S
        by_cases q : (gmsg S).2.2 = 0
        · have q1 := (gmsg_lay q).1
          omega
        · omega
      have hg := gev_rng S
      have CP := fun w => put_calls ((gev S).1).1 ((gev S).1).2.1 ((gev S).1).2.2.1 ((gev S).1).2.2.2.1 ((gev S).1).2.2.2.2 hg.1 hg.2 w
      rw [if_pos r1, if_pos r1, l1] at CP
      rw [c1] at CG
      exact walk_N_ev t s n d p anti fl S w _ _ _ _ _ _ _ _ _ _ _ _ _ _ _ d2 _ d3 (by omega) ⟨CR⟩ ⟨CG⟩ ⟨CT⟩ ⟨CM⟩ ⟨CP⟩ 
    · have d1 : 1 ≤ (gev S).2 := by have := gev_nn S; omega
      by_cases c2 : (gst S).2.2.2 = 0
      · obtain ⟨z2, o2, l2, x2⟩ := gst_lay c2
        have d3 : 1 ≤ (gmsg S).2.2 := by
          have q0 := gmsg_nn S
          by_cases q : (gmsg S).2.2 = 0
          · have q1 := (gmsg_lay q).1
            omega
          · omega
        have CU := fun W (B : Option Addr) (c : Nat) (h : Kd.C (Kd.int .i64) W B (gst S).1.length (gst S).1) => put42_ok B c (gst S).1 (gst S).2.1 (gst S).2.2.1 W o2 h x2
        rw [l2] at CU
        rw [c2] at CT
        exact walk_N_st t s n d p anti fl S w _ _ _ _ _ _ _ _ _ _ _ _ _ _ _ d1 _ d3 (by omega) ⟨CR⟩ ⟨CG⟩ ⟨CT⟩ ⟨CM⟩ ⟨CU⟩ 
      · have d2 : 1 ≤ (gst S).2.2.2 := by have := gst_nn S; omega
        by_cases c3 : (gmsg S).2.2 = 0
        · obtain ⟨z3, r3, l3⟩ := gmsg_lay c3
          have hg := gmsg_rng S
          have CQ := fun w => put_calls ((gmsg S).1).1 ((gmsg S).1).2.1 ((gmsg S).1).2.2.1 ((gmsg S).1).2.2.2.1 ((gmsg S).1).2.2.2.2 hg.1 hg.2 w
          rw [if_pos r3, if_pos r3] at CQ
          have hs3 := evS_size ((gmsg S).1).1 ((gmsg S).1).2.1 ((gmsg S).1).2.2.1 ((gmsg S).1).2.2.2.1 ((gmsg S).1).2.2.2.2
          have CV := fun w => msg_ok (gmsg S).2.1 ((gmsg S).1).1 ((gmsg S).1).2.1 ((gmsg S).1).2.2.1 ((gmsg S).1).2.2.2.1 ((gmsg S).1).2.2.2.2 _ w (by omega) ⟨CQ⟩
          rw [l3] at CV
          rw [c3] at CM
          exact walk_N_msg t s n d p anti fl S w _ _ _ _ _ _ _ _ _ _ _ _ _ _ _ d1 _ d2 (by omega) ⟨CR⟩ ⟨CG⟩ ⟨CT⟩ ⟨CM⟩ ⟨CV⟩ 
        · have d3 : 1 ≤ (gmsg S).2.2 := by have := gmsg_nn S; omega
          exact walk_N_none t s n d p anti fl S w _ _ _ _ _ _ _ _ _ _ _ _ _ _ _ d1 _ d2 _ d3 (by omega) ⟨CR⟩ ⟨CG⟩ ⟨CT⟩ ⟨CM⟩ 
end Go.Proofs.Ytlbjcdfognofgaa.BackL

namespace Go.Proofs.Ytlbjcdfognofgaa.recBack
open Go.ChangeShapes Go.WideShapes Go.ChangeAt Go.RowKit
open Go.ChangeMaps (open_string shut_string)
set_option linter.unusedVariables false
theorem own : ownKnob Try.prog.godebug = none := by kernel_rfl
theorem laidOut : laidOutB Try.prog = true := by kernel_rfl
theorem cell_float {H : Type} {enc : TypeId × Value → H} {w : World} {base : Nat} {spare : Nat → Bool} {held : Bool} {P : Program} {t n : Nat} {cs : List Value} {x : DataW H × List MemPlace} {k : FloatKind} (ht : P.underlying t = some (.float k)) (h : DataW.trod enc P w base spare held n t cs = some x) : ∃ b, cs = [.float k b] ∧ (Lit.float k b).wf = true := by
  cases n with
  | zero => simp [DataW.trod] at h
  | succ n =>
    unfold DataW.trod at h
    rw [ht] at h
    split at h <;> simp_all
set_option maxRecDepth 100000 in
theorem open70 {H : Type} {enc : TypeId × Value → H} {w : World} {base : Nat} {spare : Nat → Bool} {held : Bool} {r : Reach} {b0 : Nat} {v : Value} {d : DataW H} {p : List MemPlace} (hv : Value.okWide Try.prog w r b0 70 v) (h : DataW.Trod enc Try.prog w base spare held 70 v d p) :
    ∃ (a1 : Nat) (a2 : Int) (a3 : Int) (a4 : Int) (a5 : Int) (a6 : Bool) (a7 : Int) (a8 : ByteArray), v = .agg #[.float .f64 a1, .int .i64 a2, .int .i64 a3, .int .i64 a4, .int .i64 a5, .bool a6, .int .u8 a7, .string a8] ∧ (Lit.float .f64 a1).wf = true ∧ (Lit.int .i64 a2).wf = true ∧ (Lit.int .i64 a3).wf = true ∧ (Lit.int .i64 a4).wf = true ∧ (Lit.int .i64 a5).wf = true ∧ (Lit.int .u8 a7).wf = true ∧ a8.size ≤ maxLen := by
  obtain ⟨cs, rfl, hsz⟩ := okWide_struct Try.underlying70 hv
  obtain ⟨l⟩ := cs
  have hc : Try.prog.cellsOf 70 = 8 := by kernel_rfl
  match l, hsz.trans hc with
  | [cl0, cl1, cl2, cl3, cl4, cl5, cl6, cl7], _ =>
    obtain ⟨fuel, hf⟩ := h
    simp only [Value.cells] at hf
    obtain ⟨xsq1, nq1, _, _, _, hlq1, hgq1⟩ := DataW.trod_struct Try.underlying70 hf
    have h20 := hgq1 0 _ rfl
    have h2 : DataW.trod enc Try.prog w base spare held nq1 68 [cl0, cl1, cl2, cl3, cl4] = some (xsq1[0]'(by rw [hlq1]; decide)) := by
      rw [← List.getElem?_eq_getElem]; simpa [show Try.prog.cellsOf 68 = 5 from by kernel_rfl] using h20
    clear h20
    obtain ⟨xsq3, nq3, _, _, _, hlq3, hgq3⟩ := DataW.trod_struct Try.underlying68 h2
    have h40 := hgq3 0 _ rfl
    have h4 : DataW.trod enc Try.prog w base spare held nq3 42 [cl0, cl1, cl2] = some (xsq3[0]'(by rw [hlq3]; decide)) := by
      rw [← List.getElem?_eq_getElem]; simpa [show Try.prog.cellsOf 42 = 3 from by kernel_rfl] using h40
    clear h40
    obtain ⟨xsq5, nq5, _, _, _, hlq5, hgq5⟩ := DataW.trod_struct Try.underlying42 h4
    have h60 := hgq5 0 _ rfl
    have h6 : DataW.trod enc Try.prog w base spare held nq5 36 [cl0] = some (xsq5[0]'(by rw [hlq5]; decide)) := by
      rw [← List.getElem?_eq_getElem]; simpa [show Try.prog.cellsOf 36 = 1 from by kernel_rfl] using h60
    clear h60
    obtain ⟨a1, e1, w1⟩ := cell_float Try.underlying36 h6
    obtain rfl : cl0 = .float .f64 a1 := by simpa using e1
    have h70 := hgq5 1 _ rfl
    have h7 : DataW.trod enc Try.prog w base spare held nq5 3 [cl1] = some (xsq5[1]'(by rw [hlq5]; decide)) := by
      rw [← List.getElem?_eq_getElem]; simpa [show Try.prog.cellsOf 3 = 1 from by kernel_rfl] using h70
    clear h70
    obtain ⟨a2, e2, _, w2⟩ := DataW.trod_int Try.underlying3 h7
    obtain rfl : cl1 = .int .i64 a2 := by simpa using e2
    have h80 := hgq5 2 _ rfl
    have h8 : DataW.trod enc Try.prog w base spare held nq5 3 [cl2] = some (xsq5[2]'(by rw [hlq5]; decide)) := by
      rw [← List.getElem?_eq_getElem]; simpa [show Try.prog.cellsOf 3 = 1 from by kernel_rfl] using h80
    clear h80
    obtain ⟨a3, e3, _, w3⟩ := DataW.trod_int Try.underlying3 h8
    obtain rfl : cl2 = .int .i64 a3 := by simpa using e3
    have h90 := hgq3 1 _ rfl
    have h9 : DataW.trod enc Try.prog w base spare held nq3 3 [cl3] = some (xsq3[1]'(by rw [hlq3]; decide)) := by
      rw [← List.getElem?_eq_getElem]; simpa [show Try.prog.cellsOf 3 = 1 from by kernel_rfl] using h90
    clear h90
    obtain ⟨a4, e4, _, w4⟩ := DataW.trod_int Try.underlying3 h9
    obtain rfl : cl3 = .int .i64 a4 := by simpa using e4
    have h100 := hgq3 2 _ rfl
    have h10 : DataW.trod enc Try.prog w base spare held nq3 3 [cl4] = some (xsq3[2]'(by rw [hlq3]; decide)) := by
      rw [← List.getElem?_eq_getElem]; simpa [show Try.prog.cellsOf 3 = 1 from by kernel_rfl] using h100
    clear h100
    obtain ⟨a5, e5, _, w5⟩ := DataW.trod_int Try.underlying3 h10
    obtain rfl : cl4 = .int .i64 a5 := by simpa using e5
    have h110 := hgq1 1 _ rfl
    have h11 : DataW.trod enc Try.prog w base spare held nq1 4 [cl5] = some (xsq1[1]'(by rw [hlq1]; decide)) := by
      rw [← List.getElem?_eq_getElem]; simpa [show Try.prog.cellsOf 4 = 1 from by kernel_rfl] using h110
    clear h110
    obtain ⟨a6, e6, _⟩ := DataW.trod_bool Try.underlying4 h11
    obtain rfl : cl5 = .bool a6 := by simpa using e6
    have h120 := hgq1 2 _ rfl
    have h12 : DataW.trod enc Try.prog w base spare held nq1 5 [cl6] = some (xsq1[2]'(by rw [hlq1]; decide)) := by
      rw [← List.getElem?_eq_getElem]; simpa [show Try.prog.cellsOf 5 = 1 from by kernel_rfl] using h120
    clear h120
    obtain ⟨a7, e7, _, w7⟩ := DataW.trod_int Try.underlying5 h12
    obtain rfl : cl6 = .int .u8 a7 := by simpa using e7
    have h130 := hgq1 3 _ rfl
    have h13 : DataW.trod enc Try.prog w base spare held nq1 9 [cl7] = some (xsq1[3]'(by rw [hlq1]; decide)) := by
      rw [← List.getElem?_eq_getElem]; simpa [show Try.prog.cellsOf 9 = 1 from by kernel_rfl] using h130
    clear h130
    obtain ⟨a8, e8, _, w8⟩ := DataW.trod_string Try.underlying9 h13
    obtain rfl : cl7 = .string a8 := by simpa using e8
    exact ⟨a1, a2, a3, a4, a5, a6, a7, a8, rfl, w1, w2, w3, w4, w5, w7, w8⟩
set_option maxRecDepth 100000 in
theorem lifted (os : Os) (started : os.Started) (H : Type) (enc : TypeId × Value → H) :
    ReturnsInHanded {} Try.checked os 12 .any (Rows.recBackSpec.pre6 enc Try.prog Try.f12 Rows.recBackRow.domain false) (Rows.recBackSpec.post enc Try.prog Try.f12 false true false false) := by
  refine returnsInHanded_of_change_sized (C := Try.checked) own started (by kernel_rfl) Try.func12
    (ChangeSpec.witness6 (enc := enc) (C := Try.checked) false ⟨#[], #[.agg #[.float .f64 0, .int .i64 0, .int .i64 0, .int .i64 0, .int .i64 0, .bool false, .int .u8 0, .string ByteArray.empty]], []⟩ 8 (by kernel_rfl) (by kernel_rfl) (by kernel_rfl) (by kernel_rfl)) ?_
  intro W base args ds gs before hval0 hW hcnd hsz0 _
  have hsz : (DataW.weightsEach Try.prog (Try.f12.params.toList ++ Rows.recBackSpec.plain.varTypes Try.prog) (ds ++ gs)).all (· ≤ reachBytes) = true := hsz0
  have hval : ∀ (j : Nat) t v, Try.f12.params[j]? = some t → args[j]? = some v → Value.okWide Try.prog W .any base t v := hval0
  have hW' := hW
  obtain ⟨p, q, hA0, hV, rfl, hfz, hnd⟩ := hW
  have hA : DataW.TrodAll enc Try.prog W 0 (fun _ => true) true Try.f12.params.toList args.toList ds p := hA0
  rw [Try.params12] at hA hval hsz
  obtain ⟨v0, vs0, d0, ds0, p0, q0, hargs, rfl, rfl, h0, r0⟩ := trodAll_cons hA
  obtain ⟨rfl, rfl, rfl⟩ := trodAll_nil r0
  obtain rfl : args = #[v0] := by cases args; simp_all
  obtain ⟨rfl, rfl⟩ := trodVars_none hV
  have k0 := h0
  have lt0 : ∀ x ∈ p0, x.block < W.heap.size := by obtain ⟨m, hm⟩ := k0; exact DataW.trod_lt m _ _ _ hm
  obtain ⟨a1_0, a2_0, a3_0, a4_0, a5_0, a6_0, a7_0, a8_0, rfl, u1_0, u2_0, u3_0, u4_0, u5_0, u7_0, u8_0⟩ := open70 (hval 0 70 v0 rfl rfl) h0
  clear hA0 hval0 hsz0
  refine (Go.Proofs.Ytlbjcdfognofgaa.BackL.law a1_0 a2_0 a3_0 a4_0 a5_0 a6_0 a7_0 a8_0 u1_0 u2_0 u3_0 u4_0 u5_0 u7_0 u8_0).mono fun e W' ⟨he, bel⟩ => ?_
  subst he
  exact ⟨_, rfl, _, _, _, [], _, [], hW', trodAll_mk1 (shut_bool Try.underlying4 _), (trodAll_cons_mk (Below.trod laidOut (by kernel_rfl) (of_decide_eq_true (by kernel_rfl)) k0 bel lt0) trodAll_mk0), rfl, bel.frame _, fun h => by cases h⟩
theorem u1 : (Rows.recBackRow.inPlace == Try.pinned.checked.prog.inPlace 12) = true := by kernel_rfl
theorem u2 : (Rows.recBackRow.unfollowed == Try.pinned.checked.prog.unfollowed 12) = true := by kernel_rfl
theorem u3 : (Rows.recBackRow.recurses == Try.pinned.checked.prog.recurses 12) = true := by kernel_rfl
theorem u4 : (Rows.recBackRow.named == Try.pinned.checked.prog.varsNamed 12) = true := by kernel_rfl
theorem closed : joinedFacts Try.pinned.checked.prog 12 Try.f12 Rows.recBackSpec Rows.recBackRow = true := by
  unfold joinedFacts
  rw [u1, u2, u3, u4]
  kernel_rfl
theorem over : Rows.recBackRow.holds Try.pinned (OpenSpec.ofChange Rows.recBackSpec) :=
  OpenClaim.holds_of_wide 12 Try.f12 rfl rfl rfl rfl rfl rfl rfl ⟨rfl, rfl, rfl, rfl, rfl⟩ rfl rfl rfl rfl rfl (by kernel_rfl) Try.func12 closed
    (of_decide_eq_true (by kernel_rfl)) (by unfold Func.isWrapper; first | (rw [if_pos (by decide +kernel)]; kernel_rfl) | (rw [if_neg (by decide +kernel)]; exact ⟨rfl, rfl⟩))
    (fun os started H enc _ => lifted os started H enc)
theorem proved : Rows.RecBackSaid := over
#print axioms proved
end Go.Proofs.Ytlbjcdfognofgaa.recBack
namespace Go.Proofs.Ytlbjcdfognofgaa
/-- The row, under a short name, for the claim. -/
theorem recBack_holds : Rows.RecBackSaid := recBack.proved
end Go.Proofs.Ytlbjcdfognofgaa
