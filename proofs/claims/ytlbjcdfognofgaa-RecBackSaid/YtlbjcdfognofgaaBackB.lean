/- The walk of RecBack: what was laid is read as it was; what is read is laid as the very bytes. -/
import Derived.Test.YtlbjcdfognofgaaBackA
import Derived.Deep.DrawnRows
import Derived.Deep.RegionHeld3
namespace Go.Proofs.Ytlbjcdfognofgaa.BackB
open Go.RowKit Go.Proofs.YtlbjcdfognofgaaW.PrintWords Go.Proofs.YtlbjcdfognofgaaW.PrintLast Go.Proofs.YtlbjcdfognofgaaW.PrintMore Go.Proofs.Ytlbjcdfognofgaa.Be Go.Proofs.Ytlbjcdfognofgaa.Fl Go.Proofs.Ytlbjcdfognofgaa.StampA Go.Proofs.Ytlbjcdfognofgaa.StampB Go.Proofs.Ytlbjcdfognofgaa.StampC Go.Proofs.Ytlbjcdfognofgaa.StampD Go.Proofs.Ytlbjcdfognofgaa.StampK Go.Proofs.Ytlbjcdfognofgaa.SRec Go.Proofs.Ytlbjcdfognofgaa.StampQ Go.Proofs.Ytlbjcdfognofgaa.StampR Go.Proofs.Ytlbjcdfognofgaa.Wk Go.Proofs.Ytlbjcdfognofgaa.RecA Go.Proofs.Ytlbjcdfognofgaa.RecB Go.Proofs.Ytlbjcdfognofgaa.RecC Go.Proofs.Ytlbjcdfognofgaa.RecD Go.Proofs.Ytlbjcdfognofgaa.RecE Go.Proofs.Ytlbjcdfognofgaa.RecF Go.Proofs.Ytlbjcdfognofgaa.RecI Go.Proofs.Ytlbjcdfognofgaa.PRecStates Go.Proofs.Ytlbjcdfognofgaa.RecM Go.Proofs.Ytlbjcdfognofgaa.RecN Go.Proofs.Ytlbjcdfognofgaa.RecP Go.Proofs.Ytlbjcdfognofgaa.RecQ Go.Proofs.Ytlbjcdfognofgaa.BackN
attribute [local go_sem ↓] Go.wp_at_zero Go.wp_at_succ
attribute [local go_sem] run_store_float
set_option linter.unusedVariables false


set_option maxRecDepth 100000 in
set_option maxHeartbeats 8000000 in
theorem walk_R_none (t : Nat) (s n d p : Int) (anti : Bool) (fl : Int) (S : ByteArray) (w : World) (y1 z1 : Nat) (y2 y3 y4 y5 z2 z3 z4 z5 q1 q2 : Int) (l : List Int) (zb : Bool) (f : Int) (hf : 1 ≤ f) (e : Int) (he : 1 ≤ e) (g : Int) (hg : 1 ≤ g)
    (h : S.size ≤ 200) (CR : (Aside0 (Gives 57 #[.agg #[.float .f64 t, .int .i64 s, .int .i64 n, .int .i64 d, .int .i64 p]] (.bool true)))) (CG : (Aside0 (Gives 61 #[.string S] (.tuple #[.agg #[.float .f64 y1, .int .i64 y2, .int .i64 y3, .int .i64 y4, .int .i64 y5], .int .i64 f]))))
    (CT : (Aside0 (∀ W, Calls Try.prog 43 #[.string S] W fun e' w' => ∃ (B : Option Addr) (c : Nat), e' = .returned (.tuple #[.agg #[.slice B l.length c, .int .i64 q1, .int .i64 q2], .int .i64 e]) ∧ (l.length ≤ c ∧ Kd.C (Kd.int .i64) w' B l.length l) ∧ Below W.heap.size W w'))) (CM : (Aside0 (Gives 62 #[.string S] (.tuple #[.agg #[.float .f64 z1, .int .i64 z2, .int .i64 z3, .int .i64 z4, .int .i64 z5, .bool zb], .int .i64 g]))))
    (KA KM KD : ByteArray) (t' : Nat)
    (CA : (Aside0 (Gives 58 #[.agg #[.float .f64 t, .int .i64 s, .int .i64 n, .int .i64 d, .int .i64 p]] (.tuple #[.string KA, .int .i64 0])))) (CB : (Aside0 (Gives 59 #[.agg #[.float .f64 t, .int .i64 s, .int .i64 n, .int .i64 d, .int .i64 p, .bool anti]] (.tuple #[.string KM, .int .i64 0])))) (CD : (Aside0 (Gives 60 #[.agg #[.float .f64 t, .int .i64 s, .int .i64 n, .int .i64 d, .int .i64 p, .int .i64 (wrap64 (fl.tmod 8))]] (.tuple #[.string KD, .int .i64 0]))))
    (DA : (Aside0 (Gives 61 #[.string KA] (.tuple #[.agg #[.float .f64 t', .int .i64 s, .int .i64 n, .int .i64 d, .int .i64 p], .int .i64 0])))) (DB : (Aside0 (Gives 62 #[.string KM] (.tuple #[.agg #[.float .f64 t', .int .i64 s, .int .i64 n, .int .i64 d, .int .i64 p, .bool anti], .int .i64 0])))) (DD : (Aside0 (Gives 63 #[.string KD] (.tuple #[.agg #[.float .f64 t', .int .i64 s, .int .i64 n, .int .i64 d, .int .i64 p, .int .i64 (wrap64 (fl.tmod 8))], .int .i64 0]))))
    (CK : (Aside0 (Gives 65 #[.agg #[.float .f64 t, .int .i64 s, .int .i64 n, .int .i64 d, .int .i64 p]] (.agg #[.float .f64 t', .int .i64 s, .int .i64 n, .int .i64 d, .int .i64 p])))) :
    Calls Try.prog 12 #[.agg #[.float .f64 t, .int .i64 s, .int .i64 n, .int .i64 d, .int .i64 p, .bool anti, .int .u8 fl, .string S]] w fun e w' => e = .returned (.bool true) ∧ Below w.heap.size w w' := by
  have hu2 := Try.underlying42
  have hu3 := Try.underlying68
  have hu4 := Try.underlying73
  have hu5 := Try.underlying77
  have hu6 := Try.underlying48
  have hu7 := Try.underlying70
  have hd1 : decide ((200 : Int) < (S.size : Int)) = false := decide_eq_false (by omega)
  have HB := Aside0.mk (below_alloc (Below.refl w.heap.size w) (.cells #[.float .f64 t, .int .i64 s, .int .i64 n, .int .i64 d, .int .i64 p, .bool anti, .int .u8 fl, .string S] 70))
  have HQ := Aside0.mk (Blk.new w 70 #[.float .f64 t, .int .i64 s, .int .i64 n, .int .i64 d, .int .i64 p, .bool anti, .int .u8 fl, .string S])
  obtain ⟨cQ0, cQ1, cQ2, cQ3, cQ4, cQ5, cQ6, cQ7, fQ⟩ := blk_c8 HQ.out
  go_enter Try.func12, Try.ntmps12
  go_wp2_with fail
  go_region
  clear cQ0 cQ1 cQ2 cQ3 cQ4 cQ5 cQ6 cQ7 fQ HQ hu7
  have HE : Aside0 (Blk (((w.alloc (.cells #[.float .f64 t, .int .i64 s, .int .i64 n, .int .i64 d, .int .i64 p, .bool anti, .int .u8 fl, .string S] 70)).alloc (.cells #[.float .f64 t, .int .i64 s, .int .i64 n, .int .i64 d, .int .i64 p] 68)).drew) (w.heap.size + 1) 68 #[.float .f64 t, .int .i64 s, .int .i64 n, .int .i64 d, .int .i64 p]) := ⟨by have h := (Blk.new (w.alloc (.cells #[.float .f64 t, .int .i64 s, .int .i64 n, .int .i64 d, .int .i64 p, .bool anti, .int .u8 fl, .string S] 70)) 68 #[.float .f64 t, .int .i64 s, .int .i64 n, .int .i64 d, .int .i64 p]).drew; simpa using h⟩
  go_wp2_with fail
  refine (CR.out _).mono ?_
  rintro e w1 ⟨rfl, hk⟩
  replace HE : Aside0 (Blk w1 (w.heap.size + 1) 68 #[.float .f64 t, .int .i64 s, .int .i64 n, .int .i64 d, .int .i64 p]) := ⟨Blk.step blk hk⟩
  replace HB := Aside0.mk (below_step bel hk)
  have hsw1 := hk.size
  try simp at hsw1
  clear hk
  obtain ⟨cE0, cE1, cE2, cE3, cE4, fE⟩ := HE.out.c5
  have nEw1 : w.heap.size + 1 < w1.heap.size := by omega
  have uEw1 : ¬ w.heap.size + 1 = w1.heap.size := by omega
  go_wp2_with fail
  generalize wrap64 (fl.tmod 8) = F at *
  have HD : Aside0 (Blk (w1.alloc (.cells #[.float .f64 t, .int .i64 s, .int .i64 n, .int .i64 d, .int .i64 p, .int .i64 F] 73)) w1.heap.size 73 #[.float .f64 t, .int .i64 s, .int .i64 n, .int .i64 d, .int .i64 p, .int .i64 F]) := ⟨Blk.new w1 73 #[.float .f64 t, .int .i64 s, .int .i64 n, .int .i64 d, .int .i64 p, .int .i64 F]⟩
  clear cE0 cE1 cE2 cE3 cE4 fE
  refine (CA.out _).mono ?_
  rintro e w2 ⟨rfl, hk⟩
  replace HE : Aside0 (Blk w2 (w.heap.size + 1) 68 #[.float .f64 t, .int .i64 s, .int .i64 n, .int .i64 d, .int .i64 p]) := ⟨Blk.step blk hk⟩
  replace HD : Aside0 (Blk w2 (w1.heap.size) 73 #[.float .f64 t, .int .i64 s, .int .i64 n, .int .i64 d, .int .i64 p, .int .i64 F]) := ⟨Blk.step blk hk⟩
  replace HB := Aside0.mk (below_step bel hk)
  have hsw2 := hk.size
  try simp at hsw2
  clear hk
  obtain ⟨cE0, cE1, cE2, cE3, cE4, fE⟩ := HE.out.c5
  obtain ⟨cD0, cD1, cD2, cD3, cD4, cD5, fD⟩ := HD.out.c6
  have nEw2 : w.heap.size + 1 < w2.heap.size := by omega
  have uEw2 : ¬ w.heap.size + 1 = w2.heap.size := by omega
  have nDw2 : w1.heap.size < w2.heap.size := by omega
  have uDw2 : ¬ w1.heap.size = w2.heap.size := by omega
  go_wp2_with fail
  clear cE0 cE1 cE2 cE3 cE4 fE cD0 cD1 cD2 cD3 cD4 cD5 fD
  refine (CB.out _).mono ?_
  rintro e w3 ⟨rfl, hk⟩
  replace HE : Aside0 (Blk w3 (w.heap.size + 1) 68 #[.float .f64 t, .int .i64 s, .int .i64 n, .int .i64 d, .int .i64 p]) := ⟨Blk.step blk hk⟩
  replace HD : Aside0 (Blk w3 (w1.heap.size) 73 #[.float .f64 t, .int .i64 s, .int .i64 n, .int .i64 d, .int .i64 p, .int .i64 F]) := ⟨Blk.step blk hk⟩
  replace HB := Aside0.mk (below_step bel hk)
  have hsw3 := hk.size
  try simp at hsw3
  clear hk
  obtain ⟨cE0, cE1, cE2, cE3, cE4, fE⟩ := HE.out.c5
  obtain ⟨cD0, cD1, cD2, cD3, cD4, cD5, fD⟩ := HD.out.c6
  have nEw3 : w.heap.size + 1 < w3.heap.size := by omega
  have uEw3 : ¬ w.heap.size + 1 = w3.heap.size := by omega
  have nDw3 : w1.heap.size < w3.heap.size := by omega
  have uDw3 : ¬ w1.heap.size = w3.heap.size := by omega
  go_wp2_with fail
  clear cE0 cE1 cE2 cE3 cE4 fE cD0 cD1 cD2 cD3 cD4 cD5 fD
  refine (CD.out _).mono ?_
  rintro e w4 ⟨rfl, hk⟩
  replace HE : Aside0 (Blk w4 (w.heap.size + 1) 68 #[.float .f64 t, .int .i64 s, .int .i64 n, .int .i64 d, .int .i64 p]) := ⟨Blk.step blk hk⟩
  replace HD : Aside0 (Blk w4 (w1.heap.size) 73 #[.float .f64 t, .int .i64 s, .int .i64 n, .int .i64 d, .int .i64 p, .int .i64 F]) := ⟨Blk.step blk hk⟩
  replace HB := Aside0.mk (below_step bel hk)
  have hsw4 := hk.size
  try simp at hsw4
  clear hk
  obtain ⟨cE0, cE1, cE2, cE3, cE4, fE⟩ := HE.out.c5
  obtain ⟨cD0, cD1, cD2, cD3, cD4, cD5, fD⟩ := HD.out.c6
  have nEw4 : w.heap.size + 1 < w4.heap.size := by omega
  have uEw4 : ¬ w.heap.size + 1 = w4.heap.size := by omega
  have nDw4 : w1.heap.size < w4.heap.size := by omega
  have uDw4 : ¬ w1.heap.size = w4.heap.size := by omega
  go_wp2_with fail
  clear cE0 cE1 cE2 cE3 cE4 fE cD0 cD1 cD2 cD3 cD4 cD5 fD
  refine (DA.out _).mono ?_
  rintro e w5 ⟨rfl, hk⟩
  replace HE : Aside0 (Blk w5 (w.heap.size + 1) 68 #[.float .f64 t, .int .i64 s, .int .i64 n, .int .i64 d, .int .i64 p]) := ⟨Blk.step blk hk⟩
  replace HD : Aside0 (Blk w5 (w1.heap.size) 73 #[.float .f64 t, .int .i64 s, .int .i64 n, .int .i64 d, .int .i64 p, .int .i64 F]) := ⟨Blk.step blk hk⟩
  replace HB := Aside0.mk (below_step bel hk)
  have hsw5 := hk.size
  try simp at hsw5
  clear hk
  obtain ⟨cE0, cE1, cE2, cE3, cE4, fE⟩ := HE.out.c5
  obtain ⟨cD0, cD1, cD2, cD3, cD4, cD5, fD⟩ := HD.out.c6
  have nEw5 : w.heap.size + 1 < w5.heap.size := by omega
  have uEw5 : ¬ w.heap.size + 1 = w5.heap.size := by omega
  have nDw5 : w1.heap.size < w5.heap.size := by omega
  have uDw5 : ¬ w1.heap.size = w5.heap.size := by omega
  have HX := Aside0.mk (Blk.new w5 68 #[.float .f64 t', .int .i64 s, .int .i64 n, .int .i64 d, .int .i64 p])
  go_wp2_with fail
  clear cE0 cE1 cE2 cE3 cE4 fE cD0 cD1 cD2 cD3 cD4 cD5 fD
  refine (DB.out _).mono ?_
  rintro e w6 ⟨rfl, hk⟩
  replace HE : Aside0 (Blk w6 (w.heap.size + 1) 68 #[.float .f64 t, .int .i64 s, .int .i64 n, .int .i64 d, .int .i64 p]) := ⟨Blk.step blk hk⟩
  replace HD : Aside0 (Blk w6 (w1.heap.size) 73 #[.float .f64 t, .int .i64 s, .int .i64 n, .int .i64 d, .int .i64 p, .int .i64 F]) := ⟨Blk.step blk hk⟩
  replace HX : Aside0 (Blk w6 (w5.heap.size) 68 #[.float .f64 t', .int .i64 s, .int .i64 n, .int .i64 d, .int .i64 p]) := ⟨Blk.step blk hk⟩
  replace HB := Aside0.mk (below_step bel hk)
  have hsw6 := hk.size
  try simp at hsw6
  clear hk
  obtain ⟨cE0, cE1, cE2, cE3, cE4, fE⟩ := HE.out.c5
  obtain ⟨cD0, cD1, cD2, cD3, cD4, cD5, fD⟩ := HD.out.c6
  obtain ⟨cX0, cX1, cX2, cX3, cX4, fX⟩ := HX.out.c5
  have nEw6 : w.heap.size + 1 < w6.heap.size := by omega
  have uEw6 : ¬ w.heap.size + 1 = w6.heap.size := by omega
  have nDw6 : w1.heap.size < w6.heap.size := by omega
  have uDw6 : ¬ w1.heap.size = w6.heap.size := by omega
  have nXw6 : w5.heap.size < w6.heap.size := by omega
  have uXw6 : ¬ w5.heap.size = w6.heap.size := by omega
  have HY := Aside0.mk (Blk.new w6 77 #[.float .f64 t', .int .i64 s, .int .i64 n, .int .i64 d, .int .i64 p, .bool anti])
  go_wp2_with fail
  clear cE0 cE1 cE2 cE3 cE4 fE cD0 cD1 cD2 cD3 cD4 cD5 fD cX0 cX1 cX2 cX3 cX4 fX
  refine (DD.out _).mono ?_
  rintro e w7 ⟨rfl, hk⟩
  replace HE : Aside0 (Blk w7 (w.heap.size + 1) 68 #[.float .f64 t, .int .i64 s, .int .i64 n, .int .i64 d, .int .i64 p]) := ⟨Blk.step blk hk⟩
  replace HD : Aside0 (Blk w7 (w1.heap.size) 73 #[.float .f64 t, .int .i64 s, .int .i64 n, .int .i64 d, .int .i64 p, .int .i64 F]) := ⟨Blk.step blk hk⟩
  replace HX : Aside0 (Blk w7 (w5.heap.size) 68 #[.float .f64 t', .int .i64 s, .int .i64 n, .int .i64 d, .int .i64 p]) := ⟨Blk.step blk hk⟩
  replace HY : Aside0 (Blk w7 (w6.heap.size) 77 #[.float .f64 t', .int .i64 s, .int .i64 n, .int .i64 d, .int .i64 p, .bool anti]) := ⟨Blk.step blk hk⟩
  replace HB := Aside0.mk (below_step bel hk)
  have hsw7 := hk.size
  try simp at hsw7
  clear hk
  obtain ⟨cE0, cE1, cE2, cE3, cE4, fE⟩ := HE.out.c5
  obtain ⟨cD0, cD1, cD2, cD3, cD4, cD5, fD⟩ := HD.out.c6
  obtain ⟨cX0, cX1, cX2, cX3, cX4, fX⟩ := HX.out.c5
  obtain ⟨cY0, cY1, cY2, cY3, cY4, cY5, fY⟩ := HY.out.c6
  have nEw7 : w.heap.size + 1 < w7.heap.size := by omega
  have uEw7 : ¬ w.heap.size + 1 = w7.heap.size := by omega
  have nDw7 : w1.heap.size < w7.heap.size := by omega
  have uDw7 : ¬ w1.heap.size = w7.heap.size := by omega
  have nXw7 : w5.heap.size < w7.heap.size := by omega
  have uXw7 : ¬ w5.heap.size = w7.heap.size := by omega
  have nYw7 : w6.heap.size < w7.heap.size := by omega
  have uYw7 : ¬ w6.heap.size = w7.heap.size := by omega
  have HZ := Aside0.mk (Blk.new w7 73 #[.float .f64 t', .int .i64 s, .int .i64 n, .int .i64 d, .int .i64 p, .int .i64 F])
  go_wp2_with fail
  clear cE0 cE1 cE2 cE3 cE4 fE cD0 cD1 cD2 cD3 cD4 cD5 fD cX0 cX1 cX2 cX3 cX4 fX cY0 cY1 cY2 cY3 cY4 cY5 fY
  refine wp_region_noPanic ?_
  refine wp_region_held_drew (S := (fun w' => w'.cell? ⟨w.heap.size + 1, 0, none⟩ = some (.float .f64 t) ∧ w'.cell? ⟨w.heap.size + 1, 1, none⟩ = some (.int .i64 s) ∧ w'.cell? ⟨w.heap.size + 1, 2, none⟩ = some (.int .i64 n) ∧ w'.cell? ⟨w.heap.size + 1, 3, none⟩ = some (.int .i64 d) ∧ w'.cell? ⟨w.heap.size + 1, 4, none⟩ = some (.int .i64 p) ∧ w'.cell? ⟨w1.heap.size, 0, none⟩ = some (.float .f64 t) ∧ w'.cell? ⟨w1.heap.size, 1, none⟩ = some (.int .i64 s) ∧ w'.cell? ⟨w1.heap.size, 2, none⟩ = some (.int .i64 n) ∧ w'.cell? ⟨w1.heap.size, 3, none⟩ = some (.int .i64 d) ∧ w'.cell? ⟨w1.heap.size, 4, none⟩ = some (.int .i64 p) ∧ w'.cell? ⟨w1.heap.size, 5, none⟩ = some (.int .i64 F) ∧ w'.cell? ⟨w5.heap.size, 0, none⟩ = some (.float .f64 t') ∧ w'.cell? ⟨w5.heap.size, 1, none⟩ = some (.int .i64 s) ∧ w'.cell? ⟨w5.heap.size, 2, none⟩ = some (.int .i64 n) ∧ w'.cell? ⟨w5.heap.size, 3, none⟩ = some (.int .i64 d) ∧ w'.cell? ⟨w5.heap.size, 4, none⟩ = some (.int .i64 p) ∧ w'.cell? ⟨w6.heap.size, 0, none⟩ = some (.float .f64 t') ∧ w'.cell? ⟨w6.heap.size, 1, none⟩ = some (.int .i64 s) ∧ w'.cell? ⟨w6.heap.size, 2, none⟩ = some (.int .i64 n) ∧ w'.cell? ⟨w6.heap.size, 3, none⟩ = some (.int .i64 d) ∧ w'.cell? ⟨w6.heap.size, 4, none⟩ = some (.int .i64 p) ∧ w'.cell? ⟨w6.heap.size, 5, none⟩ = some (.bool anti) ∧ w'.cell? ⟨w7.heap.size, 0, none⟩ = some (.float .f64 t') ∧ w'.cell? ⟨w7.heap.size, 1, none⟩ = some (.int .i64 s) ∧ w'.cell? ⟨w7.heap.size, 2, none⟩ = some (.int .i64 n) ∧ w'.cell? ⟨w7.heap.size, 3, none⟩ = some (.int .i64 d) ∧ w'.cell? ⟨w7.heap.size, 4, none⟩ = some (.int .i64 p) ∧ w'.cell? ⟨w7.heap.size, 5, none⟩ = some (.int .i64 F))) (by kernel_rfl) ⟨(show Blk _ (w.heap.size + 1) 68 #[.float .f64 t, .int .i64 s, .int .i64 n, .int .i64 d, .int .i64 p] from blk).cell 0, (show Blk _ (w.heap.size + 1) 68 #[.float .f64 t, .int .i64 s, .int .i64 n, .int .i64 d, .int .i64 p] from blk).cell 1, (show Blk _ (w.heap.size + 1) 68 #[.float .f64 t, .int .i64 s, .int .i64 n, .int .i64 d, .int .i64 p] from blk).cell 2, (show Blk _ (w.heap.size + 1) 68 #[.float .f64 t, .int .i64 s, .int .i64 n, .int .i64 d, .int .i64 p] from blk).cell 3, (show Blk _ (w.heap.size + 1) 68 #[.float .f64 t, .int .i64 s, .int .i64 n, .int .i64 d, .int .i64 p] from blk).cell 4, (show Blk _ (w1.heap.size) 73 #[.float .f64 t, .int .i64 s, .int .i64 n, .int .i64 d, .int .i64 p, .int .i64 F] from blk).cell 0, (show Blk _ (w1.heap.size) 73 #[.float .f64 t, .int .i64 s, .int .i64 n, .int .i64 d, .int .i64 p, .int .i64 F] from blk).cell 1, (show Blk _ (w1.heap.size) 73 #[.float .f64 t, .int .i64 s, .int .i64 n, .int .i64 d, .int .i64 p, .int .i64 F] from blk).cell 2, (show Blk _ (w1.heap.size) 73 #[.float .f64 t, .int .i64 s, .int .i64 n, .int .i64 d, .int .i64 p, .int .i64 F] from blk).cell 3, (show Blk _ (w1.heap.size) 73 #[.float .f64 t, .int .i64 s, .int .i64 n, .int .i64 d, .int .i64 p, .int .i64 F] from blk).cell 4, (show Blk _ (w1.heap.size) 73 #[.float .f64 t, .int .i64 s, .int .i64 n, .int .i64 d, .int .i64 p, .int .i64 F] from blk).cell 5, (show Blk _ (w5.heap.size) 68 #[.float .f64 t', .int .i64 s, .int .i64 n, .int .i64 d, .int .i64 p] from blk).cell 0, (show Blk _ (w5.heap.size) 68 #[.float .f64 t', .int .i64 s, .int .i64 n, .int .i64 d, .int .i64 p] from blk).cell 1, (show Blk _ (w5.heap.size) 68 #[.float .f64 t', .int .i64 s, .int .i64 n, .int .i64 d, .int .i64 p] from blk).cell 2, (show Blk _ (w5.heap.size) 68 #[.float .f64 t', .int .i64 s, .int .i64 n, .int .i64 d, .int .i64 p] from blk).cell 3, (show Blk _ (w5.heap.size) 68 #[.float .f64 t', .int .i64 s, .int .i64 n, .int .i64 d, .int .i64 p] from blk).cell 4, (show Blk _ (w6.heap.size) 77 #[.float .f64 t', .int .i64 s, .int .i64 n, .int .i64 d, .int .i64 p, .bool anti] from blk).cell 0, (show Blk _ (w6.heap.size) 77 #[.float .f64 t', .int .i64 s, .int .i64 n, .int .i64 d, .int .i64 p, .bool anti] from blk).cell 1, (show Blk _ (w6.heap.size) 77 #[.float .f64 t', .int .i64 s, .int .i64 n, .int .i64 d, .int .i64 p, .bool anti] from blk).cell 2, (show Blk _ (w6.heap.size) 77 #[.float .f64 t', .int .i64 s, .int .i64 n, .int .i64 d, .int .i64 p, .bool anti] from blk).cell 3, (show Blk _ (w6.heap.size) 77 #[.float .f64 t', .int .i64 s, .int .i64 n, .int .i64 d, .int .i64 p, .bool anti] from blk).cell 4, (show Blk _ (w6.heap.size) 77 #[.float .f64 t', .int .i64 s, .int .i64 n, .int .i64 d, .int .i64 p, .bool anti] from blk).cell 5, (show Blk _ (w7.heap.size) 73 #[.float .f64 t', .int .i64 s, .int .i64 n, .int .i64 d, .int .i64 p, .int .i64 F] from blk).cell 0, (show Blk _ (w7.heap.size) 73 #[.float .f64 t', .int .i64 s, .int .i64 n, .int .i64 d, .int .i64 p, .int .i64 F] from blk).cell 1, (show Blk _ (w7.heap.size) 73 #[.float .f64 t', .int .i64 s, .int .i64 n, .int .i64 d, .int .i64 p, .int .i64 F] from blk).cell 2, (show Blk _ (w7.heap.size) 73 #[.float .f64 t', .int .i64 s, .int .i64 n, .int .i64 d, .int .i64 p, .int .i64 F] from blk).cell 3, (show Blk _ (w7.heap.size) 73 #[.float .f64 t', .int .i64 s, .int .i64 n, .int .i64 d, .int .i64 p, .int .i64 F] from blk).cell 4, (show Blk _ (w7.heap.size) 73 #[.float .f64 t', .int .i64 s, .int .i64 n, .int .i64 d, .int .i64 p, .int .i64 F] from blk).cell 5⟩ (fun hHeld => ?_)
  change wpAnyH _ _ _ _ _ 46 _ _ _
  refine Rg.tk (fuel := 45) 0 ?_
  refine Rg.tk (fuel := 44) 1 ?_
  refine Rg.tk (fuel := 43) 2 ?_
  refine Rg.tk (fuel := 42) 3 ?_
  refine Rg.tk (fuel := 41) 4 ?_
  refine Rg.tk (fuel := 40) 5 ?_
  refine Rg.tk (fuel := 39) 6 ?_
  refine Rg.tk (fuel := 38) 7 ?_
  refine Rg.tk (fuel := 37) 8 ?_
  refine Rg.tk (fuel := 36) 9 ?_
  refine Rg.tk (fuel := 35) 10 ?_
  refine Rg.tk (fuel := 34) 11 ?_
  refine Rg.tk (fuel := 33) 12 ?_
  refine wpAnyH_ready (fuel := 32) (rs := [13]) (by kernel_rfl) (by simp) ?_
  refine AllReadyH.cons rfl (fun K hK => ?_) ?_
  · go_simp
    refine (CK.out _).mono ?_
    rintro e w8 ⟨rfl, hk⟩
    replace HE : Aside0 (Blk w8 (w.heap.size + 1) 68 #[.float .f64 t, .int .i64 s, .int .i64 n, .int .i64 d, .int .i64 p]) := ⟨Blk.step blk hk⟩
    replace HD : Aside0 (Blk w8 (w1.heap.size) 73 #[.float .f64 t, .int .i64 s, .int .i64 n, .int .i64 d, .int .i64 p, .int .i64 F]) := ⟨Blk.step blk hk⟩
    replace HX : Aside0 (Blk w8 (w5.heap.size) 68 #[.float .f64 t', .int .i64 s, .int .i64 n, .int .i64 d, .int .i64 p]) := ⟨Blk.step blk hk⟩
    replace HY : Aside0 (Blk w8 (w6.heap.size) 77 #[.float .f64 t', .int .i64 s, .int .i64 n, .int .i64 d, .int .i64 p, .bool anti]) := ⟨Blk.step blk hk⟩
    replace HZ : Aside0 (Blk w8 (w7.heap.size) 73 #[.float .f64 t', .int .i64 s, .int .i64 n, .int .i64 d, .int .i64 p, .int .i64 F]) := ⟨Blk.step blk hk⟩
    replace HB := Aside0.mk (below_step bel hk)
    have hsw8 := hk.size
    try simp at hsw8
    clear hk
    go_wp2_with fail
    refine hK.out _ _ ⟨HE.out.cell 0, HE.out.cell 1, HE.out.cell 2, HE.out.cell 3, HE.out.cell 4, HD.out.cell 0, HD.out.cell 1, HD.out.cell 2, HD.out.cell 3, HD.out.cell 4, HD.out.cell 5, HX.out.cell 0, HX.out.cell 1, HX.out.cell 2, HX.out.cell 3, HX.out.cell 4, HY.out.cell 0, HY.out.cell 1, HY.out.cell 2, HY.out.cell 3, HY.out.cell 4, HY.out.cell 5, HZ.out.cell 0, HZ.out.cell 1, HZ.out.cell 2, HZ.out.cell 3, HZ.out.cell 4, HZ.out.cell 5⟩ (fun hHeld => ?_)
    clear hK K
    try simp only [Act.put, List.setIfInBounds_toArray, List.set_cons_zero, List.set_cons_succ]
    refine wpAnyH_ready (fuel := 31) (rs := [14]) (by kernel_rfl) (by simp) ?_
    refine AllReadyH.cons rfl (fun K hK => ?_) ?_
    · go_simp
      refine (same64_calls _ _ _ _ _ _).mono ?_
      rintro e w9 ⟨rfl, hk⟩
      replace HE : Aside0 (Blk w9 (w.heap.size + 1) 68 #[.float .f64 t, .int .i64 s, .int .i64 n, .int .i64 d, .int .i64 p]) := ⟨Blk.step blk hk⟩
      replace HD : Aside0 (Blk w9 (w1.heap.size) 73 #[.float .f64 t, .int .i64 s, .int .i64 n, .int .i64 d, .int .i64 p, .int .i64 F]) := ⟨Blk.step blk hk⟩
      replace HX : Aside0 (Blk w9 (w5.heap.size) 68 #[.float .f64 t', .int .i64 s, .int .i64 n, .int .i64 d, .int .i64 p]) := ⟨Blk.step blk hk⟩
      replace HY : Aside0 (Blk w9 (w6.heap.size) 77 #[.float .f64 t', .int .i64 s, .int .i64 n, .int .i64 d, .int .i64 p, .bool anti]) := ⟨Blk.step blk hk⟩
      replace HZ : Aside0 (Blk w9 (w7.heap.size) 73 #[.float .f64 t', .int .i64 s, .int .i64 n, .int .i64 d, .int .i64 p, .int .i64 F]) := ⟨Blk.step blk hk⟩
      replace HB := Aside0.mk (below_step bel hk)
      have hsw9 := hk.size
      try simp at hsw9
      clear hk
      go_wp2_with fail
      refine hK.out _ _ ⟨HE.out.cell 0, HE.out.cell 1, HE.out.cell 2, HE.out.cell 3, HE.out.cell 4, HD.out.cell 0, HD.out.cell 1, HD.out.cell 2, HD.out.cell 3, HD.out.cell 4, HD.out.cell 5, HX.out.cell 0, HX.out.cell 1, HX.out.cell 2, HX.out.cell 3, HX.out.cell 4, HY.out.cell 0, HY.out.cell 1, HY.out.cell 2, HY.out.cell 3, HY.out.cell 4, HY.out.cell 5, HZ.out.cell 0, HZ.out.cell 1, HZ.out.cell 2, HZ.out.cell 3, HZ.out.cell 4, HZ.out.cell 5⟩ (fun hHeld => ?_)
      clear hK K
      try simp only [Act.put, List.setIfInBounds_toArray, List.set_cons_zero, List.set_cons_succ]
      refine Rg.tk (fuel := 30) 15 ?_
      refine Rg.tk (fuel := 29) 16 ?_
      refine Rg.tk (fuel := 28) 17 ?_
      refine Rg.tk (fuel := 27) 18 ?_
      refine Rg.tk (fuel := 26) 19 ?_
      refine Rg.tk (fuel := 25) 20 ?_
      refine wpAnyH_ready (fuel := 24) (rs := [21]) (by kernel_rfl) (by simp) ?_
      refine AllReadyH.cons rfl (fun K hK => ?_) ?_
      · go_simp
        refine (CK.out _).mono ?_
        rintro e w10 ⟨rfl, hk⟩
        replace HE : Aside0 (Blk w10 (w.heap.size + 1) 68 #[.float .f64 t, .int .i64 s, .int .i64 n, .int .i64 d, .int .i64 p]) := ⟨Blk.step blk hk⟩
        replace HD : Aside0 (Blk w10 (w1.heap.size) 73 #[.float .f64 t, .int .i64 s, .int .i64 n, .int .i64 d, .int .i64 p, .int .i64 F]) := ⟨Blk.step blk hk⟩
        replace HX : Aside0 (Blk w10 (w5.heap.size) 68 #[.float .f64 t', .int .i64 s, .int .i64 n, .int .i64 d, .int .i64 p]) := ⟨Blk.step blk hk⟩
        replace HY : Aside0 (Blk w10 (w6.heap.size) 77 #[.float .f64 t', .int .i64 s, .int .i64 n, .int .i64 d, .int .i64 p, .bool anti]) := ⟨Blk.step blk hk⟩
        replace HZ : Aside0 (Blk w10 (w7.heap.size) 73 #[.float .f64 t', .int .i64 s, .int .i64 n, .int .i64 d, .int .i64 p, .int .i64 F]) := ⟨Blk.step blk hk⟩
        replace HB := Aside0.mk (below_step bel hk)
        have hsw10 := hk.size
        try simp at hsw10
        clear hk
        go_wp2_with fail
        refine hK.out _ _ ⟨HE.out.cell 0, HE.out.cell 1, HE.out.cell 2, HE.out.cell 3, HE.out.cell 4, HD.out.cell 0, HD.out.cell 1, HD.out.cell 2, HD.out.cell 3, HD.out.cell 4, HD.out.cell 5, HX.out.cell 0, HX.out.cell 1, HX.out.cell 2, HX.out.cell 3, HX.out.cell 4, HY.out.cell 0, HY.out.cell 1, HY.out.cell 2, HY.out.cell 3, HY.out.cell 4, HY.out.cell 5, HZ.out.cell 0, HZ.out.cell 1, HZ.out.cell 2, HZ.out.cell 3, HZ.out.cell 4, HZ.out.cell 5⟩ (fun hHeld => ?_)
        clear hK K
        try simp only [Act.put, List.setIfInBounds_toArray, List.set_cons_zero, List.set_cons_succ]
        refine wpAnyH_ready (fuel := 23) (rs := [22]) (by kernel_rfl) (by simp) ?_
        refine AllReadyH.cons rfl (fun K hK => ?_) ?_
        · go_simp
          refine (same64_calls _ _ _ _ _ _).mono ?_
          rintro e w11 ⟨rfl, hk⟩
          replace HE : Aside0 (Blk w11 (w.heap.size + 1) 68 #[.float .f64 t, .int .i64 s, .int .i64 n, .int .i64 d, .int .i64 p]) := ⟨Blk.step blk hk⟩
          replace HD : Aside0 (Blk w11 (w1.heap.size) 73 #[.float .f64 t, .int .i64 s, .int .i64 n, .int .i64 d, .int .i64 p, .int .i64 F]) := ⟨Blk.step blk hk⟩
          replace HX : Aside0 (Blk w11 (w5.heap.size) 68 #[.float .f64 t', .int .i64 s, .int .i64 n, .int .i64 d, .int .i64 p]) := ⟨Blk.step blk hk⟩
          replace HY : Aside0 (Blk w11 (w6.heap.size) 77 #[.float .f64 t', .int .i64 s, .int .i64 n, .int .i64 d, .int .i64 p, .bool anti]) := ⟨Blk.step blk hk⟩
          replace HZ : Aside0 (Blk w11 (w7.heap.size) 73 #[.float .f64 t', .int .i64 s, .int .i64 n, .int .i64 d, .int .i64 p, .int .i64 F]) := ⟨Blk.step blk hk⟩
          replace HB := Aside0.mk (below_step bel hk)
          have hsw11 := hk.size
          try simp at hsw11
          clear hk
          go_wp2_with fail
          refine hK.out _ _ ⟨HE.out.cell 0, HE.out.cell 1, HE.out.cell 2, HE.out.cell 3, HE.out.cell 4, HD.out.cell 0, HD.out.cell 1, HD.out.cell 2, HD.out.cell 3, HD.out.cell 4, HD.out.cell 5, HX.out.cell 0, HX.out.cell 1, HX.out.cell 2, HX.out.cell 3, HX.out.cell 4, HY.out.cell 0, HY.out.cell 1, HY.out.cell 2, HY.out.cell 3, HY.out.cell 4, HY.out.cell 5, HZ.out.cell 0, HZ.out.cell 1, HZ.out.cell 2, HZ.out.cell 3, HZ.out.cell 4, HZ.out.cell 5⟩ (fun hHeld => ?_)
          clear hK K
          try simp only [Act.put, List.setIfInBounds_toArray, List.set_cons_zero, List.set_cons_succ]
          refine Rg.tk (fuel := 22) 23 ?_
          refine Rg.tk (fuel := 21) 24 ?_
          refine Rg.tk (fuel := 20) 25 ?_
          refine Rg.tk (fuel := 19) 26 ?_
          refine Rg.tk (fuel := 18) 27 ?_
          refine Rg.tk (fuel := 17) 28 ?_
          refine Rg.tk (fuel := 16) 29 ?_
          refine Rg.tk (fuel := 15) 30 ?_
          refine Rg.tk (fuel := 14) 31 ?_
          refine Rg.tk (fuel := 13) 32 ?_
          refine Rg.tk (fuel := 12) 33 ?_
          refine Rg.tk (fuel := 11) 34 ?_
          refine wpAnyH_ready (fuel := 10) (rs := [35]) (by kernel_rfl) (by simp) ?_
          refine AllReadyH.cons rfl (fun K hK => ?_) ?_
          · go_simp
            refine (CK.out _).mono ?_
            rintro e w12 ⟨rfl, hk⟩
            replace HE : Aside0 (Blk w12 (w.heap.size + 1) 68 #[.float .f64 t, .int .i64 s, .int .i64 n, .int .i64 d, .int .i64 p]) := ⟨Blk.step blk hk⟩
            replace HD : Aside0 (Blk w12 (w1.heap.size) 73 #[.float .f64 t, .int .i64 s, .int .i64 n, .int .i64 d, .int .i64 p, .int .i64 F]) := ⟨Blk.step blk hk⟩
            replace HX : Aside0 (Blk w12 (w5.heap.size) 68 #[.float .f64 t', .int .i64 s, .int .i64 n, .int .i64 d, .int .i64 p]) := ⟨Blk.step blk hk⟩
            replace HY : Aside0 (Blk w12 (w6.heap.size) 77 #[.float .f64 t', .int .i64 s, .int .i64 n, .int .i64 d, .int .i64 p, .bool anti]) := ⟨Blk.step blk hk⟩
            replace HZ : Aside0 (Blk w12 (w7.heap.size) 73 #[.float .f64 t', .int .i64 s, .int .i64 n, .int .i64 d, .int .i64 p, .int .i64 F]) := ⟨Blk.step blk hk⟩
            replace HB := Aside0.mk (below_step bel hk)
            have hsw12 := hk.size
            try simp at hsw12
            clear hk
            go_wp2_with fail
            refine hK.out _ _ ⟨HE.out.cell 0, HE.out.cell 1, HE.out.cell 2, HE.out.cell 3, HE.out.cell 4, HD.out.cell 0, HD.out.cell 1, HD.out.cell 2, HD.out.cell 3, HD.out.cell 4, HD.out.cell 5, HX.out.cell 0, HX.out.cell 1, HX.out.cell 2, HX.out.cell 3, HX.out.cell 4, HY.out.cell 0, HY.out.cell 1, HY.out.cell 2, HY.out.cell 3, HY.out.cell 4, HY.out.cell 5, HZ.out.cell 0, HZ.out.cell 1, HZ.out.cell 2, HZ.out.cell 3, HZ.out.cell 4, HZ.out.cell 5⟩ (fun hHeld => ?_)
            clear hK K
            try simp only [Act.put, List.setIfInBounds_toArray, List.set_cons_zero, List.set_cons_succ]
            refine wpAnyH_ready (fuel := 9) (rs := [36]) (by kernel_rfl) (by simp) ?_
            refine AllReadyH.cons rfl (fun K hK => ?_) ?_
            · go_simp
              refine (same64_calls _ _ _ _ _ _).mono ?_
              rintro e w13 ⟨rfl, hk⟩
              replace HE : Aside0 (Blk w13 (w.heap.size + 1) 68 #[.float .f64 t, .int .i64 s, .int .i64 n, .int .i64 d, .int .i64 p]) := ⟨Blk.step blk hk⟩
              replace HD : Aside0 (Blk w13 (w1.heap.size) 73 #[.float .f64 t, .int .i64 s, .int .i64 n, .int .i64 d, .int .i64 p, .int .i64 F]) := ⟨Blk.step blk hk⟩
              replace HX : Aside0 (Blk w13 (w5.heap.size) 68 #[.float .f64 t', .int .i64 s, .int .i64 n, .int .i64 d, .int .i64 p]) := ⟨Blk.step blk hk⟩
              replace HY : Aside0 (Blk w13 (w6.heap.size) 77 #[.float .f64 t', .int .i64 s, .int .i64 n, .int .i64 d, .int .i64 p, .bool anti]) := ⟨Blk.step blk hk⟩
              replace HZ : Aside0 (Blk w13 (w7.heap.size) 73 #[.float .f64 t', .int .i64 s, .int .i64 n, .int .i64 d, .int .i64 p, .int .i64 F]) := ⟨Blk.step blk hk⟩
              replace HB := Aside0.mk (below_step bel hk)
              have hsw13 := hk.size
              try simp at hsw13
              clear hk
              go_wp2_with fail
              refine hK.out _ _ ⟨HE.out.cell 0, HE.out.cell 1, HE.out.cell 2, HE.out.cell 3, HE.out.cell 4, HD.out.cell 0, HD.out.cell 1, HD.out.cell 2, HD.out.cell 3, HD.out.cell 4, HD.out.cell 5, HX.out.cell 0, HX.out.cell 1, HX.out.cell 2, HX.out.cell 3, HX.out.cell 4, HY.out.cell 0, HY.out.cell 1, HY.out.cell 2, HY.out.cell 3, HY.out.cell 4, HY.out.cell 5, HZ.out.cell 0, HZ.out.cell 1, HZ.out.cell 2, HZ.out.cell 3, HZ.out.cell 4, HZ.out.cell 5⟩ (fun hHeld => ?_)
              clear hK K
              try simp only [Act.put, List.setIfInBounds_toArray, List.set_cons_zero, List.set_cons_succ]
              refine Rg.tk (fuel := 8) 37 ?_
              refine Rg.tk (fuel := 7) 38 ?_
              refine Rg.tk (fuel := 6) 39 ?_
              refine Rg.tk (fuel := 5) 40 ?_
              refine Rg.tk (fuel := 4) 41 ?_
              refine Rg.tk (fuel := 3) 42 ?_
              refine Rg.tk (fuel := 2) 43 ?_
              refine Rg.tk (fuel := 1) 44 ?_
              refine Rg.tk (fuel := 0) 45 ?_
              refine wpAnyH_done (by kernel_rfl) ?_ _
              refine NoPanic.normal ?_
              go_wp2_with fail
              clear HX
              clear HY
              clear HZ
              clear HD
              clear HE
              refine (CG.out _).mono ?_
              rintro e w14 ⟨rfl, hk⟩
              replace HB := Aside0.mk (below_step bel hk)
              have hsw14 := hk.size
              try simp at hsw14
              clear hk
              have HL := Aside0.mk (Blk.new w14 68 #[.float .f64 y1, .int .i64 y2, .int .i64 y3, .int .i64 y4, .int .i64 y5])
              go_wp2_with fail
              clear HL
              refine (CT.out _).mono ?_
              rintro e w15 ⟨B, c, rfl, ⟨hc, hK⟩, hk⟩
              replace HB := Aside0.mk (below_step bel hk)
              have hsw15 := hk.size
              try simp at hsw15
              clear hk
              clear hK hc
              go_wp2_with fail
              refine (CM.out _).mono ?_
              rintro e w16 ⟨rfl, hk⟩
              replace HB := Aside0.mk (below_step bel hk)
              have hsw16 := hk.size
              try simp at hsw16
              clear hk
              have HM := Aside0.mk (Blk.new w16 77 #[.float .f64 z1, .int .i64 z2, .int .i64 z3, .int .i64 z4, .int .i64 z5, .bool zb])
              go_wp2_with fail
              clear HM
              refine (RecF.awake_calls _).mono ?_
              rintro e w17 ⟨rfl, hk⟩
              replace HB := Aside0.mk (below_step bel hk)
              have hsw17 := hk.size
              try simp at hsw17
              clear hk
              go_wp2_with fail
              go_ret
              exact ⟨rfl, bel⟩
            exact AllReadyH.nil
          exact AllReadyH.nil
        exact AllReadyH.nil
      exact AllReadyH.nil
    exact AllReadyH.nil
  exact AllReadyH.nil


set_option maxRecDepth 100000 in
set_option maxHeartbeats 8000000 in
theorem walk_R_ev (t : Nat) (s n d p : Int) (anti : Bool) (fl : Int) (S : ByteArray) (w : World) (y1 z1 : Nat) (y2 y3 y4 y5 z2 z3 z4 z5 q1 q2 : Int) (l : List Int) (zb : Bool) (e : Int) (he : 1 ≤ e) (g : Int) (hg : 1 ≤ g)
    (h : S.size ≤ 200) (CR : (Aside0 (Gives 57 #[.agg #[.float .f64 t, .int .i64 s, .int .i64 n, .int .i64 d, .int .i64 p]] (.bool true)))) (CG : (Aside0 (Gives 61 #[.string S] (.tuple #[.agg #[.float .f64 y1, .int .i64 y2, .int .i64 y3, .int .i64 y4, .int .i64 y5], .int .i64 0]))))
    (CT : (Aside0 (∀ W, Calls Try.prog 43 #[.string S] W fun e' w' => ∃ (B : Option Addr) (c : Nat), e' = .returned (.tuple #[.agg #[.slice B l.length c, .int .i64 q1, .int .i64 q2], .int .i64 e]) ∧ (l.length ≤ c ∧ Kd.C (Kd.int .i64) w' B l.length l) ∧ Below W.heap.size W w'))) (CM : (Aside0 (Gives 62 #[.string S] (.tuple #[.agg #[.float .f64 z1, .int .i64 z2, .int .i64 z3, .int .i64 z4, .int .i64 z5, .bool zb], .int .i64 g])))) (CP : (Aside0 (Gives 58 #[.agg #[.float .f64 y1, .int .i64 y2, .int .i64 y3, .int .i64 y4, .int .i64 y5]] (.tuple #[.string S, .int .i64 0]))))
    (KA KM KD : ByteArray) (t' : Nat)
    (CA : (Aside0 (Gives 58 #[.agg #[.float .f64 t, .int .i64 s, .int .i64 n, .int .i64 d, .int .i64 p]] (.tuple #[.string KA, .int .i64 0])))) (CB : (Aside0 (Gives 59 #[.agg #[.float .f64 t, .int .i64 s, .int .i64 n, .int .i64 d, .int .i64 p, .bool anti]] (.tuple #[.string KM, .int .i64 0])))) (CD : (Aside0 (Gives 60 #[.agg #[.float .f64 t, .int .i64 s, .int .i64 n, .int .i64 d, .int .i64 p, .int .i64 (wrap64 (fl.tmod 8))]] (.tuple #[.string KD, .int .i64 0]))))
    (DA : (Aside0 (Gives 61 #[.string KA] (.tuple #[.agg #[.float .f64 t', .int .i64 s, .int .i64 n, .int .i64 d, .int .i64 p], .int .i64 0])))) (DB : (Aside0 (Gives 62 #[.string KM] (.tuple #[.agg #[.float .f64 t', .int .i64 s, .int .i64 n, .int .i64 d, .int .i64 p, .bool anti], .int .i64 0])))) (DD : (Aside0 (Gives 63 #[.string KD] (.tuple #[.agg #[.float .f64 t', .int .i64 s, .int .i64 n, .int .i64 d, .int .i64 p, .int .i64 (wrap64 (fl.tmod 8))], .int .i64 0]))))
    (CK : (Aside0 (Gives 65 #[.agg #[.float .f64 t, .int .i64 s, .int .i64 n, .int .i64 d, .int .i64 p]] (.agg #[.float .f64 t', .int .i64 s, .int .i64 n, .int .i64 d, .int .i64 p])))) :
    Calls Try.prog 12 #[.agg #[.float .f64 t, .int .i64 s, .int .i64 n, .int .i64 d, .int .i64 p, .bool anti, .int .u8 fl, .string S]] w fun e w' => e = .returned (.bool true) ∧ Below w.heap.size w w' := by
  have hu2 := Try.underlying42
  have hu3 := Try.underlying68
  have hu4 := Try.underlying73
  have hu5 := Try.underlying77
  have hu6 := Try.underlying48
  have hu7 := Try.underlying70
  have hd1 : decide ((200 : Int) < (S.size : Int)) = false := decide_eq_false (by omega)
  have HB := Aside0.mk (below_alloc (Below.refl w.heap.size w) (.cells #[.float .f64 t, .int .i64 s, .int .i64 n, .int .i64 d, .int .i64 p, .bool anti, .int .u8 fl, .string S] 70))
  have HQ := Aside0.mk (Blk.new w 70 #[.float .f64 t, .int .i64 s, .int .i64 n, .int .i64 d, .int .i64 p, .bool anti, .int .u8 fl, .string S])
  obtain ⟨cQ0, cQ1, cQ2, cQ3, cQ4, cQ5, cQ6, cQ7, fQ⟩ := blk_c8 HQ.out
  go_enter Try.func12, Try.ntmps12
  go_wp2_with fail
  go_region
  clear cQ0 cQ1 cQ2 cQ3 cQ4 cQ5 cQ6 cQ7 fQ HQ hu7
  have HE : Aside0 (Blk (((w.alloc (.cells #[.float .f64 t, .int .i64 s, .int .i64 n, .int .i64 d, .int .i64 p, .bool anti, .int .u8 fl, .string S] 70)).alloc (.cells #[.float .f64 t, .int .i64 s, .int .i64 n, .int .i64 d, .int .i64 p] 68)).drew) (w.heap.size + 1) 68 #[.float .f64 t, .int .i64 s, .int .i64 n, .int .i64 d, .int .i64 p]) := ⟨by have h := (Blk.new (w.alloc (.cells #[.float .f64 t, .int .i64 s, .int .i64 n, .int .i64 d, .int .i64 p, .bool anti, .int .u8 fl, .string S] 70)) 68 #[.float .f64 t, .int .i64 s, .int .i64 n, .int .i64 d, .int .i64 p]).drew; simpa using h⟩
  go_wp2_with fail
  refine (CR.out _).mono ?_
  rintro e w1 ⟨rfl, hk⟩
  replace HE : Aside0 (Blk w1 (w.heap.size + 1) 68 #[.float .f64 t, .int .i64 s, .int .i64 n, .int .i64 d, .int .i64 p]) := ⟨Blk.step blk hk⟩
  replace HB := Aside0.mk (below_step bel hk)
  have hsw1 := hk.size
  try simp at hsw1
  clear hk
  obtain ⟨cE0, cE1, cE2, cE3, cE4, fE⟩ := HE.out.c5
  have nEw1 : w.heap.size + 1 < w1.heap.size := by omega
  have uEw1 : ¬ w.heap.size + 1 = w1.heap.size := by omega
  go_wp2_with fail
  generalize wrap64 (fl.tmod 8) = F at *
  have HD : Aside0 (Blk (w1.alloc (.cells #[.float .f64 t, .int .i64 s, .int .i64 n, .int .i64 d, .int .i64 p, .int .i64 F] 73)) w1.heap.size 73 #[.float .f64 t, .int .i64 s, .int .i64 n, .int .i64 d, .int .i64 p, .int .i64 F]) := ⟨Blk.new w1 73 #[.float .f64 t, .int .i64 s, .int .i64 n, .int .i64 d, .int .i64 p, .int .i64 F]⟩
  clear cE0 cE1 cE2 cE3 cE4 fE
  refine (CA.out _).mono ?_
  rintro e w2 ⟨rfl, hk⟩
  replace HE : Aside0 (Blk w2 (w.heap.size + 1) 68 #[.float .f64 t, .int .i64 s, .int .i64 n, .int .i64 d, .int .i64 p]) := ⟨Blk.step blk hk⟩
  replace HD : Aside0 (Blk w2 (w1.heap.size) 73 #[.float .f64 t, .int .i64 s, .int .i64 n, .int .i64 d, .int .i64 p, .int .i64 F]) := ⟨Blk.step blk hk⟩
  replace HB := Aside0.mk (below_step bel hk)
  have hsw2 := hk.size
  try simp at hsw2
  clear hk
  obtain ⟨cE0, cE1, cE2, cE3, cE4, fE⟩ := HE.out.c5
  obtain ⟨cD0, cD1, cD2, cD3, cD4, cD5, fD⟩ := HD.out.c6
  have nEw2 : w.heap.size + 1 < w2.heap.size := by omega
  have uEw2 : ¬ w.heap.size + 1 = w2.heap.size := by omega
  have nDw2 : w1.heap.size < w2.heap.size := by omega
  have uDw2 : ¬ w1.heap.size = w2.heap.size := by omega
  go_wp2_with fail
  clear cE0 cE1 cE2 cE3 cE4 fE cD0 cD1 cD2 cD3 cD4 cD5 fD
  refine (CB.out _).mono ?_
  rintro e w3 ⟨rfl, hk⟩
  replace HE : Aside0 (Blk w3 (w.heap.size + 1) 68 #[.float .f64 t, .int .i64 s, .int .i64 n, .int .i64 d, .int .i64 p]) := ⟨Blk.step blk hk⟩
  replace HD : Aside0 (Blk w3 (w1.heap.size) 73 #[.float .f64 t, .int .i64 s, .int .i64 n, .int .i64 d, .int .i64 p, .int .i64 F]) := ⟨Blk.step blk hk⟩
  replace HB := Aside0.mk (below_step bel hk)
  have hsw3 := hk.size
  try simp at hsw3
  clear hk
  obtain ⟨cE0, cE1, cE2, cE3, cE4, fE⟩ := HE.out.c5
  obtain ⟨cD0, cD1, cD2, cD3, cD4, cD5, fD⟩ := HD.out.c6
  have nEw3 : w.heap.size + 1 < w3.heap.size := by omega
  have uEw3 : ¬ w.heap.size + 1 = w3.heap.size := by omega
  have nDw3 : w1.heap.size < w3.heap.size := by omega
  have uDw3 : ¬ w1.heap.size = w3.heap.size := by omega
  go_wp2_with fail
  clear cE0 cE1 cE2 cE3 cE4 fE cD0 cD1 cD2 cD3 cD4 cD5 fD
  refine (CD.out _).mono ?_
  rintro e w4 ⟨rfl, hk⟩
  replace HE : Aside0 (Blk w4 (w.heap.size + 1) 68 #[.float .f64 t, .int .i64 s, .int .i64 n, .int .i64 d, .int .i64 p]) := ⟨Blk.step blk hk⟩
  replace HD : Aside0 (Blk w4 (w1.heap.size) 73 #[.float .f64 t, .int .i64 s, .int .i64 n, .int .i64 d, .int .i64 p, .int .i64 F]) := ⟨Blk.step blk hk⟩
  replace HB := Aside0.mk (below_step bel hk)
  have hsw4 := hk.size
  try simp at hsw4
  clear hk
  obtain ⟨cE0, cE1, cE2, cE3, cE4, fE⟩ := HE.out.c5
  obtain ⟨cD0, cD1, cD2, cD3, cD4, cD5, fD⟩ := HD.out.c6
  have nEw4 : w.heap.size + 1 < w4.heap.size := by omega
  have uEw4 : ¬ w.heap.size + 1 = w4.heap.size := by omega
  have nDw4 : w1.heap.size < w4.heap.size := by omega
  have uDw4 : ¬ w1.heap.size = w4.heap.size := by omega
  go_wp2_with fail
  clear cE0 cE1 cE2 cE3 cE4 fE cD0 cD1 cD2 cD3 cD4 cD5 fD
  refine (DA.out _).mono ?_
  rintro e w5 ⟨rfl, hk⟩
  replace HE : Aside0 (Blk w5 (w.heap.size + 1) 68 #[.float .f64 t, .int .i64 s, .int .i64 n, .int .i64 d, .int .i64 p]) := ⟨Blk.step blk hk⟩
  replace HD : Aside0 (Blk w5 (w1.heap.size) 73 #[.float .f64 t, .int .i64 s, .int .i64 n, .int .i64 d, .int .i64 p, .int .i64 F]) := ⟨Blk.step blk hk⟩
  replace HB := Aside0.mk (below_step bel hk)
  have hsw5 := hk.size
  try simp at hsw5
  clear hk
  obtain ⟨cE0, cE1, cE2, cE3, cE4, fE⟩ := HE.out.c5
  obtain ⟨cD0, cD1, cD2, cD3, cD4, cD5, fD⟩ := HD.out.c6
  have nEw5 : w.heap.size + 1 < w5.heap.size := by omega
  have uEw5 : ¬ w.heap.size + 1 = w5.heap.size := by omega
  have nDw5 : w1.heap.size < w5.heap.size := by omega
  have uDw5 : ¬ w1.heap.size = w5.heap.size := by omega
  have HX := Aside0.mk (Blk.new w5 68 #[.float .f64 t', .int .i64 s, .int .i64 n, .int .i64 d, .int .i64 p])
  go_wp2_with fail
  clear cE0 cE1 cE2 cE3 cE4 fE cD0 cD1 cD2 cD3 cD4 cD5 fD
  refine (DB.out _).mono ?_
  rintro e w6 ⟨rfl, hk⟩
  replace HE : Aside0 (Blk w6 (w.heap.size + 1) 68 #[.float .f64 t, .int .i64 s, .int .i64 n, .int .i64 d, .int .i64 p]) := ⟨Blk.step blk hk⟩
  replace HD : Aside0 (Blk w6 (w1.heap.size) 73 #[.float .f64 t, .int .i64 s, .int .i64 n, .int .i64 d, .int .i64 p, .int .i64 F]) := ⟨Blk.step blk hk⟩
  replace HX : Aside0 (Blk w6 (w5.heap.size) 68 #[.float .f64 t', .int .i64 s, .int .i64 n, .int .i64 d, .int .i64 p]) := ⟨Blk.step blk hk⟩
  replace HB := Aside0.mk (below_step bel hk)
  have hsw6 := hk.size
  try simp at hsw6
  clear hk
  obtain ⟨cE0, cE1, cE2, cE3, cE4, fE⟩ := HE.out.c5
  obtain ⟨cD0, cD1, cD2, cD3, cD4, cD5, fD⟩ := HD.out.c6
  obtain ⟨cX0, cX1, cX2, cX3, cX4, fX⟩ := HX.out.c5
  have nEw6 : w.heap.size + 1 < w6.heap.size := by omega
  have uEw6 : ¬ w.heap.size + 1 = w6.heap.size := by omega
  have nDw6 : w1.heap.size < w6.heap.size := by omega
  have uDw6 : ¬ w1.heap.size = w6.heap.size := by omega
  have nXw6 : w5.heap.size < w6.heap.size := by omega
  have uXw6 : ¬ w5.heap.size = w6.heap.size := by omega
  have HY := Aside0.mk (Blk.new w6 77 #[.float .f64 t', .int .i64 s, .int .i64 n, .int .i64 d, .int .i64 p, .bool anti])
  go_wp2_with fail
  clear cE0 cE1 cE2 cE3 cE4 fE cD0 cD1 cD2 cD3 cD4 cD5 fD cX0 cX1 cX2 cX3 cX4 fX
  refine (DD.out _).mono ?_
  rintro e w7 ⟨rfl, hk⟩
  replace HE : Aside0 (Blk w7 (w.heap.size + 1) 68 #[.float .f64 t, .int .i64 s, .int .i64 n, .int .i64 d, .int .i64 p]) := ⟨Blk.step blk hk⟩
  replace HD : Aside0 (Blk w7 (w1.heap.size) 73 #[.float .f64 t, .int .i64 s, .int .i64 n, .int .i64 d, .int .i64 p, .int .i64 F]) := ⟨Blk.step blk hk⟩
  replace HX : Aside0 (Blk w7 (w5.heap.size) 68 #[.float .f64 t', .int .i64 s, .int .i64 n, .int .i64 d, .int .i64 p]) := ⟨Blk.step blk hk⟩
  replace HY : Aside0 (Blk w7 (w6.heap.size) 77 #[.float .f64 t', .int .i64 s, .int .i64 n, .int .i64 d, .int .i64 p, .bool anti]) := ⟨Blk.step blk hk⟩
  replace HB := Aside0.mk (below_step bel hk)
  have hsw7 := hk.size
  try simp at hsw7
  clear hk
  obtain ⟨cE0, cE1, cE2, cE3, cE4, fE⟩ := HE.out.c5
  obtain ⟨cD0, cD1, cD2, cD3, cD4, cD5, fD⟩ := HD.out.c6
  obtain ⟨cX0, cX1, cX2, cX3, cX4, fX⟩ := HX.out.c5
  obtain ⟨cY0, cY1, cY2, cY3, cY4, cY5, fY⟩ := HY.out.c6
  have nEw7 : w.heap.size + 1 < w7.heap.size := by omega
  have uEw7 : ¬ w.heap.size + 1 = w7.heap.size := by omega
  have nDw7 : w1.heap.size < w7.heap.size := by omega
  have uDw7 : ¬ w1.heap.size = w7.heap.size := by omega
  have nXw7 : w5.heap.size < w7.heap.size := by omega
  have uXw7 : ¬ w5.heap.size = w7.heap.size := by omega
  have nYw7 : w6.heap.size < w7.heap.size := by omega
  have uYw7 : ¬ w6.heap.size = w7.heap.size := by omega
  have HZ := Aside0.mk (Blk.new w7 73 #[.float .f64 t', .int .i64 s, .int .i64 n, .int .i64 d, .int .i64 p, .int .i64 F])
  go_wp2_with fail
  clear cE0 cE1 cE2 cE3 cE4 fE cD0 cD1 cD2 cD3 cD4 cD5 fD cX0 cX1 cX2 cX3 cX4 fX cY0 cY1 cY2 cY3 cY4 cY5 fY
  refine wp_region_noPanic ?_
  refine wp_region_held_drew (S := (fun w' => w'.cell? ⟨w.heap.size + 1, 0, none⟩ = some (.float .f64 t) ∧ w'.cell? ⟨w.heap.size + 1, 1, none⟩ = some (.int .i64 s) ∧ w'.cell? ⟨w.heap.size + 1, 2, none⟩ = some (.int .i64 n) ∧ w'.cell? ⟨w.heap.size + 1, 3, none⟩ = some (.int .i64 d) ∧ w'.cell? ⟨w.heap.size + 1, 4, none⟩ = some (.int .i64 p) ∧ w'.cell? ⟨w1.heap.size, 0, none⟩ = some (.float .f64 t) ∧ w'.cell? ⟨w1.heap.size, 1, none⟩ = some (.int .i64 s) ∧ w'.cell? ⟨w1.heap.size, 2, none⟩ = some (.int .i64 n) ∧ w'.cell? ⟨w1.heap.size, 3, none⟩ = some (.int .i64 d) ∧ w'.cell? ⟨w1.heap.size, 4, none⟩ = some (.int .i64 p) ∧ w'.cell? ⟨w1.heap.size, 5, none⟩ = some (.int .i64 F) ∧ w'.cell? ⟨w5.heap.size, 0, none⟩ = some (.float .f64 t') ∧ w'.cell? ⟨w5.heap.size, 1, none⟩ = some (.int .i64 s) ∧ w'.cell? ⟨w5.heap.size, 2, none⟩ = some (.int .i64 n) ∧ w'.cell? ⟨w5.heap.size, 3, none⟩ = some (.int .i64 d) ∧ w'.cell? ⟨w5.heap.size, 4, none⟩ = some (.int .i64 p) ∧ w'.cell? ⟨w6.heap.size, 0, none⟩ = some (.float .f64 t') ∧ w'.cell? ⟨w6.heap.size, 1, none⟩ = some (.int .i64 s) ∧ w'.cell? ⟨w6.heap.size, 2, none⟩ = some (.int .i64 n) ∧ w'.cell? ⟨w6.heap.size, 3, none⟩ = some (.int .i64 d) ∧ w'.cell? ⟨w6.heap.size, 4, none⟩ = some (.int .i64 p) ∧ w'.cell? ⟨w6.heap.size, 5, none⟩ = some (.bool anti) ∧ w'.cell? ⟨w7.heap.size, 0, none⟩ = some (.float .f64 t') ∧ w'.cell? ⟨w7.heap.size, 1, none⟩ = some (.int .i64 s) ∧ w'.cell? ⟨w7.heap.size, 2, none⟩ = some (.int .i64 n) ∧ w'.cell? ⟨w7.heap.size, 3, none⟩ = some (.int .i64 d) ∧ w'.cell? ⟨w7.heap.size, 4, none⟩ = some (.int .i64 p) ∧ w'.cell? ⟨w7.heap.size, 5, none⟩ = some (.int .i64 F))) (by kernel_rfl) ⟨(show Blk _ (w.heap.size + 1) 68 #[.float .f64 t, .int .i64 s, .int .i64 n, .int .i64 d, .int .i64 p] from blk).cell 0, (show Blk _ (w.heap.size + 1) 68 #[.float .f64 t, .int .i64 s, .int .i64 n, .int .i64 d, .int .i64 p] from blk).cell 1, (show Blk _ (w.heap.size + 1) 68 #[.float .f64 t, .int .i64 s, .int .i64 n, .int .i64 d, .int .i64 p] from blk).cell 2, (show Blk _ (w.heap.size + 1) 68 #[.float .f64 t, .int .i64 s, .int .i64 n, .int .i64 d, .int .i64 p] from blk).cell 3, (show Blk _ (w.heap.size + 1) 68 #[.float .f64 t, .int .i64 s, .int .i64 n, .int .i64 d, .int .i64 p] from blk).cell 4, (show Blk _ (w1.heap.size) 73 #[.float .f64 t, .int .i64 s, .int .i64 n, .int .i64 d, .int .i64 p, .int .i64 F] from blk).cell 0, (show Blk _ (w1.heap.size) 73 #[.float .f64 t, .int .i64 s, .int .i64 n, .int .i64 d, .int .i64 p, .int .i64 F] from blk).cell 1, (show Blk _ (w1.heap.size) 73 #[.float .f64 t, .int .i64 s, .int .i64 n, .int .i64 d, .int .i64 p, .int .i64 F] from blk).cell 2, (show Blk _ (w1.heap.size) 73 #[.float .f64 t, .int .i64 s, .int .i64 n, .int .i64 d, .int .i64 p, .int .i64 F] from blk).cell 3, (show Blk _ (w1.heap.size) 73 #[.float .f64 t, .int .i64 s, .int .i64 n, .int .i64 d, .int .i64 p, .int .i64 F] from blk).cell 4, (show Blk _ (w1.heap.size) 73 #[.float .f64 t, .int .i64 s, .int .i64 n, .int .i64 d, .int .i64 p, .int .i64 F] from blk).cell 5, (show Blk _ (w5.heap.size) 68 #[.float .f64 t', .int .i64 s, .int .i64 n, .int .i64 d, .int .i64 p] from blk).cell 0, (show Blk _ (w5.heap.size) 68 #[.float .f64 t', .int .i64 s, .int .i64 n, .int .i64 d, .int .i64 p] from blk).cell 1, (show Blk _ (w5.heap.size) 68 #[.float .f64 t', .int .i64 s, .int .i64 n, .int .i64 d, .int .i64 p] from blk).cell 2, (show Blk _ (w5.heap.size) 68 #[.float .f64 t', .int .i64 s, .int .i64 n, .int .i64 d, .int .i64 p] from blk).cell 3, (show Blk _ (w5.heap.size) 68 #[.float .f64 t', .int .i64 s, .int .i64 n, .int .i64 d, .int .i64 p] from blk).cell 4, (show Blk _ (w6.heap.size) 77 #[.float .f64 t', .int .i64 s, .int .i64 n, .int .i64 d, .int .i64 p, .bool anti] from blk).cell 0, (show Blk _ (w6.heap.size) 77 #[.float .f64 t', .int .i64 s, .int .i64 n, .int .i64 d, .int .i64 p, .bool anti] from blk).cell 1, (show Blk _ (w6.heap.size) 77 #[.float .f64 t', .int .i64 s, .int .i64 n, .int .i64 d, .int .i64 p, .bool anti] from blk).cell 2, (show Blk _ (w6.heap.size) 77 #[.float .f64 t', .int .i64 s, .int .i64 n, .int .i64 d, .int .i64 p, .bool anti] from blk).cell 3, (show Blk _ (w6.heap.size) 77 #[.float .f64 t', .int .i64 s, .int .i64 n, .int .i64 d, .int .i64 p, .bool anti] from blk).cell 4, (show Blk _ (w6.heap.size) 77 #[.float .f64 t', .int .i64 s, .int .i64 n, .int .i64 d, .int .i64 p, .bool anti] from blk).cell 5, (show Blk _ (w7.heap.size) 73 #[.float .f64 t', .int .i64 s, .int .i64 n, .int .i64 d, .int .i64 p, .int .i64 F] from blk).cell 0, (show Blk _ (w7.heap.size) 73 #[.float .f64 t', .int .i64 s, .int .i64 n, .int .i64 d, .int .i64 p, .int .i64 F] from blk).cell 1, (show Blk _ (w7.heap.size) 73 #[.float .f64 t', .int .i64 s, .int .i64 n, .int .i64 d, .int .i64 p, .int .i64 F] from blk).cell 2, (show Blk _ (w7.heap.size) 73 #[.float .f64 t', .int .i64 s, .int .i64 n, .int .i64 d, .int .i64 p, .int .i64 F] from blk).cell 3, (show Blk _ (w7.heap.size) 73 #[.float .f64 t', .int .i64 s, .int .i64 n, .int .i64 d, .int .i64 p, .int .i64 F] from blk).cell 4, (show Blk _ (w7.heap.size) 73 #[.float .f64 t', .int .i64 s, .int .i64 n, .int .i64 d, .int .i64 p, .int .i64 F] from blk).cell 5⟩ (fun hHeld => ?_)
  change wpAnyH _ _ _ _ _ 46 _ _ _
  refine Rg.tk (fuel := 45) 0 ?_
  refine Rg.tk (fuel := 44) 1 ?_
  refine Rg.tk (fuel := 43) 2 ?_
  refine Rg.tk (fuel := 42) 3 ?_
  refine Rg.tk (fuel := 41) 4 ?_
  refine Rg.tk (fuel := 40) 5 ?_
  refine Rg.tk (fuel := 39) 6 ?_
  refine Rg.tk (fuel := 38) 7 ?_
  refine Rg.tk (fuel := 37) 8 ?_
  refine Rg.tk (fuel := 36) 9 ?_
  refine Rg.tk (fuel := 35) 10 ?_
  refine Rg.tk (fuel := 34) 11 ?_
  refine Rg.tk (fuel := 33) 12 ?_
  refine wpAnyH_ready (fuel := 32) (rs := [13]) (by kernel_rfl) (by simp) ?_
  refine AllReadyH.cons rfl (fun K hK => ?_) ?_
  · go_simp
    refine (CK.out _).mono ?_
    rintro e w8 ⟨rfl, hk⟩
    replace HE : Aside0 (Blk w8 (w.heap.size + 1) 68 #[.float .f64 t, .int .i64 s, .int .i64 n, .int .i64 d, .int .i64 p]) := ⟨Blk.step blk hk⟩
    replace HD : Aside0 (Blk w8 (w1.heap.size) 73 #[.float .f64 t, .int .i64 s, .int .i64 n, .int .i64 d, .int .i64 p, .int .i64 F]) := ⟨Blk.step blk hk⟩
    replace HX : Aside0 (Blk w8 (w5.heap.size) 68 #[.float .f64 t', .int .i64 s, .int .i64 n, .int .i64 d, .int .i64 p]) := ⟨Blk.step blk hk⟩
    replace HY : Aside0 (Blk w8 (w6.heap.size) 77 #[.float .f64 t', .int .i64 s, .int .i64 n, .int .i64 d, .int .i64 p, .bool anti]) := ⟨Blk.step blk hk⟩
    replace HZ : Aside0 (Blk w8 (w7.heap.size) 73 #[.float .f64 t', .int .i64 s, .int .i64 n, .int .i64 d, .int .i64 p, .int .i64 F]) := ⟨Blk.step blk hk⟩
    replace HB := Aside0.mk (below_step bel hk)
    have hsw8 := hk.size
    try simp at hsw8
    clear hk
    go_wp2_with fail
    refine hK.out _ _ ⟨HE.out.cell 0, HE.out.cell 1, HE.out.cell 2, HE.out.cell 3, HE.out.cell 4, HD.out.cell 0, HD.out.cell 1, HD.out.cell 2, HD.out.cell 3, HD.out.cell 4, HD.out.cell 5, HX.out.cell 0, HX.out.cell 1, HX.out.cell 2, HX.out.cell 3, HX.out.cell 4, HY.out.cell 0, HY.out.cell 1, HY.out.cell 2, HY.out.cell 3, HY.out.cell 4, HY.out.cell 5, HZ.out.cell 0, HZ.out.cell 1, HZ.out.cell 2, HZ.out.cell 3, HZ.out.cell 4, HZ.out.cell 5⟩ (fun hHeld => ?_)
    clear hK K
    try simp only [Act.put, List.setIfInBounds_toArray, List.set_cons_zero, List.set_cons_succ]
    refine wpAnyH_ready (fuel := 31) (rs := [14]) (by kernel_rfl) (by simp) ?_
    refine AllReadyH.cons rfl (fun K hK => ?_) ?_
    · go_simp
      refine (same64_calls _ _ _ _ _ _).mono ?_
      rintro e w9 ⟨rfl, hk⟩
      replace HE : Aside0 (Blk w9 (w.heap.size + 1) 68 #[.float .f64 t, .int .i64 s, .int .i64 n, .int .i64 d, .int .i64 p]) := ⟨Blk.step blk hk⟩
      replace HD : Aside0 (Blk w9 (w1.heap.size) 73 #[.float .f64 t, .int .i64 s, .int .i64 n, .int .i64 d, .int .i64 p, .int .i64 F]) := ⟨Blk.step blk hk⟩
      replace HX : Aside0 (Blk w9 (w5.heap.size) 68 #[.float .f64 t', .int .i64 s, .int .i64 n, .int .i64 d, .int .i64 p]) := ⟨Blk.step blk hk⟩
      replace HY : Aside0 (Blk w9 (w6.heap.size) 77 #[.float .f64 t', .int .i64 s, .int .i64 n, .int .i64 d, .int .i64 p, .bool anti]) := ⟨Blk.step blk hk⟩
      replace HZ : Aside0 (Blk w9 (w7.heap.size) 73 #[.float .f64 t', .int .i64 s, .int .i64 n, .int .i64 d, .int .i64 p, .int .i64 F]) := ⟨Blk.step blk hk⟩
      replace HB := Aside0.mk (below_step bel hk)
      have hsw9 := hk.size
      try simp at hsw9
      clear hk
      go_wp2_with fail
      refine hK.out _ _ ⟨HE.out.cell 0, HE.out.cell 1, HE.out.cell 2, HE.out.cell 3, HE.out.cell 4, HD.out.cell 0, HD.out.cell 1, HD.out.cell 2, HD.out.cell 3, HD.out.cell 4, HD.out.cell 5, HX.out.cell 0, HX.out.cell 1, HX.out.cell 2, HX.out.cell 3, HX.out.cell 4, HY.out.cell 0, HY.out.cell 1, HY.out.cell 2, HY.out.cell 3, HY.out.cell 4, HY.out.cell 5, HZ.out.cell 0, HZ.out.cell 1, HZ.out.cell 2, HZ.out.cell 3, HZ.out.cell 4, HZ.out.cell 5⟩ (fun hHeld => ?_)
      clear hK K
      try simp only [Act.put, List.setIfInBounds_toArray, List.set_cons_zero, List.set_cons_succ]
      refine Rg.tk (fuel := 30) 15 ?_
      refine Rg.tk (fuel := 29) 16 ?_
      refine Rg.tk (fuel := 28) 17 ?_
      refine Rg.tk (fuel := 27) 18 ?_
      refine Rg.tk (fuel := 26) 19 ?_
      refine Rg.tk (fuel := 25) 20 ?_
      refine wpAnyH_ready (fuel := 24) (rs := [21]) (by kernel_rfl) (by simp) ?_
      refine AllReadyH.cons rfl (fun K hK => ?_) ?_
      · go_simp
        refine (CK.out _).mono ?_
        rintro e w10 ⟨rfl, hk⟩
        replace HE : Aside0 (Blk w10 (w.heap.size + 1) 68 #[.float .f64 t, .int .i64 s, .int .i64 n, .int .i64 d, .int .i64 p]) := ⟨Blk.step blk hk⟩
        replace HD : Aside0 (Blk w10 (w1.heap.size) 73 #[.float .f64 t, .int .i64 s, .int .i64 n, .int .i64 d, .int .i64 p, .int .i64 F]) := ⟨Blk.step blk hk⟩
        replace HX : Aside0 (Blk w10 (w5.heap.size) 68 #[.float .f64 t', .int .i64 s, .int .i64 n, .int .i64 d, .int .i64 p]) := ⟨Blk.step blk hk⟩
        replace HY : Aside0 (Blk w10 (w6.heap.size) 77 #[.float .f64 t', .int .i64 s, .int .i64 n, .int .i64 d, .int .i64 p, .bool anti]) := ⟨Blk.step blk hk⟩
        replace HZ : Aside0 (Blk w10 (w7.heap.size) 73 #[.float .f64 t', .int .i64 s, .int .i64 n, .int .i64 d, .int .i64 p, .int .i64 F]) := ⟨Blk.step blk hk⟩
        replace HB := Aside0.mk (below_step bel hk)
        have hsw10 := hk.size
        try simp at hsw10
        clear hk
        go_wp2_with fail
        refine hK.out _ _ ⟨HE.out.cell 0, HE.out.cell 1, HE.out.cell 2, HE.out.cell 3, HE.out.cell 4, HD.out.cell 0, HD.out.cell 1, HD.out.cell 2, HD.out.cell 3, HD.out.cell 4, HD.out.cell 5, HX.out.cell 0, HX.out.cell 1, HX.out.cell 2, HX.out.cell 3, HX.out.cell 4, HY.out.cell 0, HY.out.cell 1, HY.out.cell 2, HY.out.cell 3, HY.out.cell 4, HY.out.cell 5, HZ.out.cell 0, HZ.out.cell 1, HZ.out.cell 2, HZ.out.cell 3, HZ.out.cell 4, HZ.out.cell 5⟩ (fun hHeld => ?_)
        clear hK K
        try simp only [Act.put, List.setIfInBounds_toArray, List.set_cons_zero, List.set_cons_succ]
        refine wpAnyH_ready (fuel := 23) (rs := [22]) (by kernel_rfl) (by simp) ?_
        refine AllReadyH.cons rfl (fun K hK => ?_) ?_
        · go_simp
          refine (same64_calls _ _ _ _ _ _).mono ?_
          rintro e w11 ⟨rfl, hk⟩
          replace HE : Aside0 (Blk w11 (w.heap.size + 1) 68 #[.float .f64 t, .int .i64 s, .int .i64 n, .int .i64 d, .int .i64 p]) := ⟨Blk.step blk hk⟩
          replace HD : Aside0 (Blk w11 (w1.heap.size) 73 #[.float .f64 t, .int .i64 s, .int .i64 n, .int .i64 d, .int .i64 p, .int .i64 F]) := ⟨Blk.step blk hk⟩
          replace HX : Aside0 (Blk w11 (w5.heap.size) 68 #[.float .f64 t', .int .i64 s, .int .i64 n, .int .i64 d, .int .i64 p]) := ⟨Blk.step blk hk⟩
          replace HY : Aside0 (Blk w11 (w6.heap.size) 77 #[.float .f64 t', .int .i64 s, .int .i64 n, .int .i64 d, .int .i64 p, .bool anti]) := ⟨Blk.step blk hk⟩
          replace HZ : Aside0 (Blk w11 (w7.heap.size) 73 #[.float .f64 t', .int .i64 s, .int .i64 n, .int .i64 d, .int .i64 p, .int .i64 F]) := ⟨Blk.step blk hk⟩
          replace HB := Aside0.mk (below_step bel hk)
          have hsw11 := hk.size
          try simp at hsw11
          clear hk
          go_wp2_with fail
          refine hK.out _ _ ⟨HE.out.cell 0, HE.out.cell 1, HE.out.cell 2, HE.out.cell 3, HE.out.cell 4, HD.out.cell 0, HD.out.cell 1, HD.out.cell 2, HD.out.cell 3, HD.out.cell 4, HD.out.cell 5, HX.out.cell 0, HX.out.cell 1, HX.out.cell 2, HX.out.cell 3, HX.out.cell 4, HY.out.cell 0, HY.out.cell 1, HY.out.cell 2, HY.out.cell 3, HY.out.cell 4, HY.out.cell 5, HZ.out.cell 0, HZ.out.cell 1, HZ.out.cell 2, HZ.out.cell 3, HZ.out.cell 4, HZ.out.cell 5⟩ (fun hHeld => ?_)
          clear hK K
          try simp only [Act.put, List.setIfInBounds_toArray, List.set_cons_zero, List.set_cons_succ]
          refine Rg.tk (fuel := 22) 23 ?_
          refine Rg.tk (fuel := 21) 24 ?_
          refine Rg.tk (fuel := 20) 25 ?_
          refine Rg.tk (fuel := 19) 26 ?_
          refine Rg.tk (fuel := 18) 27 ?_
          refine Rg.tk (fuel := 17) 28 ?_
          refine Rg.tk (fuel := 16) 29 ?_
          refine Rg.tk (fuel := 15) 30 ?_
          refine Rg.tk (fuel := 14) 31 ?_
          refine Rg.tk (fuel := 13) 32 ?_
          refine Rg.tk (fuel := 12) 33 ?_
          refine Rg.tk (fuel := 11) 34 ?_
          refine wpAnyH_ready (fuel := 10) (rs := [35]) (by kernel_rfl) (by simp) ?_
          refine AllReadyH.cons rfl (fun K hK => ?_) ?_
          · go_simp
            refine (CK.out _).mono ?_
            rintro e w12 ⟨rfl, hk⟩
            replace HE : Aside0 (Blk w12 (w.heap.size + 1) 68 #[.float .f64 t, .int .i64 s, .int .i64 n, .int .i64 d, .int .i64 p]) := ⟨Blk.step blk hk⟩
            replace HD : Aside0 (Blk w12 (w1.heap.size) 73 #[.float .f64 t, .int .i64 s, .int .i64 n, .int .i64 d, .int .i64 p, .int .i64 F]) := ⟨Blk.step blk hk⟩
            replace HX : Aside0 (Blk w12 (w5.heap.size) 68 #[.float .f64 t', .int .i64 s, .int .i64 n, .int .i64 d, .int .i64 p]) := ⟨Blk.step blk hk⟩
            replace HY : Aside0 (Blk w12 (w6.heap.size) 77 #[.float .f64 t', .int .i64 s, .int .i64 n, .int .i64 d, .int .i64 p, .bool anti]) := ⟨Blk.step blk hk⟩
            replace HZ : Aside0 (Blk w12 (w7.heap.size) 73 #[.float .f64 t', .int .i64 s, .int .i64 n, .int .i64 d, .int .i64 p, .int .i64 F]) := ⟨Blk.step blk hk⟩
            replace HB := Aside0.mk (below_step bel hk)
            have hsw12 := hk.size
            try simp at hsw12
            clear hk
            go_wp2_with fail
            refine hK.out _ _ ⟨HE.out.cell 0, HE.out.cell 1, HE.out.cell 2, HE.out.cell 3, HE.out.cell 4, HD.out.cell 0, HD.out.cell 1, HD.out.cell 2, HD.out.cell 3, HD.out.cell 4, HD.out.cell 5, HX.out.cell 0, HX.out.cell 1, HX.out.cell 2, HX.out.cell 3, HX.out.cell 4, HY.out.cell 0, HY.out.cell 1, HY.out.cell 2, HY.out.cell 3, HY.out.cell 4, HY.out.cell 5, HZ.out.cell 0, HZ.out.cell 1, HZ.out.cell 2, HZ.out.cell 3, HZ.out.cell 4, HZ.out.cell 5⟩ (fun hHeld => ?_)
            clear hK K
            try simp only [Act.put, List.setIfInBounds_toArray, List.set_cons_zero, List.set_cons_succ]
            refine wpAnyH_ready (fuel := 9) (rs := [36]) (by kernel_rfl) (by simp) ?_
            refine AllReadyH.cons rfl (fun K hK => ?_) ?_
            · go_simp
              refine (same64_calls _ _ _ _ _ _).mono ?_
              rintro e w13 ⟨rfl, hk⟩
              replace HE : Aside0 (Blk w13 (w.heap.size + 1) 68 #[.float .f64 t, .int .i64 s, .int .i64 n, .int .i64 d, .int .i64 p]) := ⟨Blk.step blk hk⟩
              replace HD : Aside0 (Blk w13 (w1.heap.size) 73 #[.float .f64 t, .int .i64 s, .int .i64 n, .int .i64 d, .int .i64 p, .int .i64 F]) := ⟨Blk.step blk hk⟩
              replace HX : Aside0 (Blk w13 (w5.heap.size) 68 #[.float .f64 t', .int .i64 s, .int .i64 n, .int .i64 d, .int .i64 p]) := ⟨Blk.step blk hk⟩
              replace HY : Aside0 (Blk w13 (w6.heap.size) 77 #[.float .f64 t', .int .i64 s, .int .i64 n, .int .i64 d, .int .i64 p, .bool anti]) := ⟨Blk.step blk hk⟩
              replace HZ : Aside0 (Blk w13 (w7.heap.size) 73 #[.float .f64 t', .int .i64 s, .int .i64 n, .int .i64 d, .int .i64 p, .int .i64 F]) := ⟨Blk.step blk hk⟩
              replace HB := Aside0.mk (below_step bel hk)
              have hsw13 := hk.size
              try simp at hsw13
              clear hk
              go_wp2_with fail
              refine hK.out _ _ ⟨HE.out.cell 0, HE.out.cell 1, HE.out.cell 2, HE.out.cell 3, HE.out.cell 4, HD.out.cell 0, HD.out.cell 1, HD.out.cell 2, HD.out.cell 3, HD.out.cell 4, HD.out.cell 5, HX.out.cell 0, HX.out.cell 1, HX.out.cell 2, HX.out.cell 3, HX.out.cell 4, HY.out.cell 0, HY.out.cell 1, HY.out.cell 2, HY.out.cell 3, HY.out.cell 4, HY.out.cell 5, HZ.out.cell 0, HZ.out.cell 1, HZ.out.cell 2, HZ.out.cell 3, HZ.out.cell 4, HZ.out.cell 5⟩ (fun hHeld => ?_)
              clear hK K
              try simp only [Act.put, List.setIfInBounds_toArray, List.set_cons_zero, List.set_cons_succ]
              refine Rg.tk (fuel := 8) 37 ?_
              refine Rg.tk (fuel := 7) 38 ?_
              refine Rg.tk (fuel := 6) 39 ?_
              refine Rg.tk (fuel := 5) 40 ?_
              refine Rg.tk (fuel := 4) 41 ?_
              refine Rg.tk (fuel := 3) 42 ?_
              refine Rg.tk (fuel := 2) 43 ?_
              refine Rg.tk (fuel := 1) 44 ?_
              refine Rg.tk (fuel := 0) 45 ?_
              refine wpAnyH_done (by kernel_rfl) ?_ _
              refine NoPanic.normal ?_
              go_wp2_with fail
              clear HX
              clear HY
              clear HZ
              clear HD
              clear HE
              refine (CG.out _).mono ?_
              rintro e w14 ⟨rfl, hk⟩
              replace HB := Aside0.mk (below_step bel hk)
              have hsw14 := hk.size
              try simp at hsw14
              clear hk
              have HL := Aside0.mk (Blk.new w14 68 #[.float .f64 y1, .int .i64 y2, .int .i64 y3, .int .i64 y4, .int .i64 y5])
              go_wp2_with fail
              refine (CP.out _).mono ?_
              rintro e w15 ⟨rfl, hk⟩
              replace HL : Aside0 (Blk w15 (w14.heap.size) 68 #[.float .f64 y1, .int .i64 y2, .int .i64 y3, .int .i64 y4, .int .i64 y5]) := ⟨Blk.step blk hk⟩
              replace HB := Aside0.mk (below_step bel hk)
              have hsw15 := hk.size
              try simp at hsw15
              clear hk
              obtain ⟨cL0, cL1, cL2, cL3, cL4, fL⟩ := HL.out.c5
              have nLw15 : w14.heap.size < w15.heap.size := by omega
              have uLw15 : ¬ w14.heap.size = w15.heap.size := by omega
              go_wp2_with fail
              clear cL0 cL1 cL2 cL3 cL4 fL
              clear HL
              refine (CT.out _).mono ?_
              rintro e w16 ⟨B, c, rfl, ⟨hc, hK⟩, hk⟩
              replace HB := Aside0.mk (below_step bel hk)
              have hsw16 := hk.size
              try simp at hsw16
              clear hk
              clear hK hc
              go_wp2_with fail
              refine (CM.out _).mono ?_
              rintro e w17 ⟨rfl, hk⟩
              replace HB := Aside0.mk (below_step bel hk)
              have hsw17 := hk.size
              try simp at hsw17
              clear hk
              have HM := Aside0.mk (Blk.new w17 77 #[.float .f64 z1, .int .i64 z2, .int .i64 z3, .int .i64 z4, .int .i64 z5, .bool zb])
              go_wp2_with fail
              clear HM
              refine (RecF.awake_calls _).mono ?_
              rintro e w18 ⟨rfl, hk⟩
              replace HB := Aside0.mk (below_step bel hk)
              have hsw18 := hk.size
              try simp at hsw18
              clear hk
              go_wp2_with fail
              go_ret
              exact ⟨rfl, bel⟩
            exact AllReadyH.nil
          exact AllReadyH.nil
        exact AllReadyH.nil
      exact AllReadyH.nil
    exact AllReadyH.nil
  exact AllReadyH.nil

end Go.Proofs.Ytlbjcdfognofgaa.BackB
