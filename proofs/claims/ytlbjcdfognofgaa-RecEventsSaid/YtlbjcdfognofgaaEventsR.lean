/- The walk of RecEvents: every event's bytes and key, as a message, as one that was handled. -/
import Derived.Test.YtlbjcdfognofgaaRecJ
import Derived.Deep.DrawnRows
import Derived.Deep.RegionHeld3
namespace Go.Proofs.Ytlbjcdfognofgaa.EventsR
open Go.RowKit Go.Proofs.YtlbjcdfognofgaaW.PrintWords Go.Proofs.YtlbjcdfognofgaaW.PrintLast Go.Proofs.YtlbjcdfognofgaaW.PrintMore Go.Proofs.Ytlbjcdfognofgaa.Be Go.Proofs.Ytlbjcdfognofgaa.Fl Go.Proofs.Ytlbjcdfognofgaa.StampA Go.Proofs.Ytlbjcdfognofgaa.StampB Go.Proofs.Ytlbjcdfognofgaa.StampC Go.Proofs.Ytlbjcdfognofgaa.StampD Go.Proofs.Ytlbjcdfognofgaa.StampK Go.Proofs.Ytlbjcdfognofgaa.SRec Go.Proofs.Ytlbjcdfognofgaa.StampQ Go.Proofs.Ytlbjcdfognofgaa.StampR Go.Proofs.Ytlbjcdfognofgaa.Wk Go.Proofs.Ytlbjcdfognofgaa.RecA Go.Proofs.Ytlbjcdfognofgaa.RecB Go.Proofs.Ytlbjcdfognofgaa.RecC Go.Proofs.Ytlbjcdfognofgaa.RecD Go.Proofs.Ytlbjcdfognofgaa.RecE Go.Proofs.Ytlbjcdfognofgaa.RecF Go.Proofs.Ytlbjcdfognofgaa.RecI Go.Proofs.Ytlbjcdfognofgaa.PRecStates Go.Proofs.Ytlbjcdfognofgaa.RecJ
attribute [local go_sem ↓] Go.wp_at_zero Go.wp_at_succ
attribute [local go_sem] run_store_float
set_option linter.unusedVariables false


set_option maxRecDepth 100000 in
set_option maxHeartbeats 4000000 in
theorem walk_no (t : Nat) (s n d p f : Int) (anti : Bool) (K A : ByteArray) (w : World) (za : A.size ≤ 100)
    (CK : Aside0 (Gives 73 #[.agg #[.float .f64 t, .int .i64 s, .int .i64 n, .int .i64 d, .int .i64 p]] (.tuple #[.string ⟨#[]⟩, .int .i64 2]))) (CS : Aside0 (Gives 58 #[.agg #[.float .f64 t, .int .i64 s, .int .i64 n, .int .i64 d, .int .i64 p]] (.tuple #[.string ⟨#[]⟩, .int .i64 2])))
    (CM : Aside0 (Gives 59 #[.agg #[.float .f64 t, .int .i64 s, .int .i64 n, .int .i64 d, .int .i64 p, .bool anti]] (.tuple #[.string ⟨#[]⟩, .int .i64 2]))) (CD : Aside0 (Gives 60 #[.agg #[.float .f64 t, .int .i64 s, .int .i64 n, .int .i64 d, .int .i64 p, .int .i64 f]] (.tuple #[.string ⟨#[]⟩, .int .i64 2])))
    (CR : Aside0 (Gives 57 #[.agg #[.float .f64 t, .int .i64 s, .int .i64 n, .int .i64 d, .int .i64 p]] (.bool false)))  :
    Calls Try.prog 20 #[.agg #[.float .f64 t, .int .i64 s, .int .i64 n, .int .i64 d, .int .i64 p], .bool anti, .int .i64 f] w fun e w' => e = .returned (.bool true) ∧ Below w.heap.size w w' := by
  have hu2 := Try.underlying42
  have hu3 := Try.underlying68
  have hu4 := Try.underlying73
  have hu5 := Try.underlying77
  skip
  have q0 : ((⟨#[]⟩ : ByteArray) ++ ⟨#[]⟩ ++ ⟨#[]⟩ ++ ⟨#[]⟩).toList = [] := by decide +kernel
  clear za
  have HB := Aside0.mk (below_alloc (Below.refl w.heap.size w) (.cells #[.float .f64 t, .int .i64 s, .int .i64 n, .int .i64 d, .int .i64 p] 68))
  have HE := Aside0.mk (Blk.new w 68 #[.float .f64 t, .int .i64 s, .int .i64 n, .int .i64 d, .int .i64 p])
  go_enter Try.func20, Try.ntmps20
  go_wp2_with fail
  refine (CK.out _).mono ?_
  rintro e w1 ⟨rfl, hk⟩
  replace HE : Aside0 (Blk w1 (w.heap.size) 68 #[.float .f64 t, .int .i64 s, .int .i64 n, .int .i64 d, .int .i64 p]) := ⟨Blk.step blk hk⟩
  replace HB := Aside0.mk (below_step bel hk)
  have hsw1 := hk.size
  try simp at hsw1
  clear hk
  obtain ⟨cE0, cE1, cE2, cE3, cE4, fE⟩ := HE.out.c5
  go_wp2_with fail
  clear cE0 cE1 cE2 cE3 cE4 fE
  refine (CS.out _).mono ?_
  rintro e w2 ⟨rfl, hk⟩
  replace HE : Aside0 (Blk w2 (w.heap.size) 68 #[.float .f64 t, .int .i64 s, .int .i64 n, .int .i64 d, .int .i64 p]) := ⟨Blk.step blk hk⟩
  replace HB := Aside0.mk (below_step bel hk)
  have hsw2 := hk.size
  try simp at hsw2
  clear hk
  obtain ⟨cE0, cE1, cE2, cE3, cE4, fE⟩ := HE.out.c5
  go_wp2_with fail
  clear cE0 cE1 cE2 cE3 cE4 fE
  refine (CM.out _).mono ?_
  rintro e w3 ⟨rfl, hk⟩
  replace HE : Aside0 (Blk w3 (w.heap.size) 68 #[.float .f64 t, .int .i64 s, .int .i64 n, .int .i64 d, .int .i64 p]) := ⟨Blk.step blk hk⟩
  replace HB := Aside0.mk (below_step bel hk)
  have hsw3 := hk.size
  try simp at hsw3
  clear hk
  obtain ⟨cE0, cE1, cE2, cE3, cE4, fE⟩ := HE.out.c5
  go_wp2_with fail
  clear cE0 cE1 cE2 cE3 cE4 fE
  refine (CD.out _).mono ?_
  rintro e w4 ⟨rfl, hk⟩
  replace HE : Aside0 (Blk w4 (w.heap.size) 68 #[.float .f64 t, .int .i64 s, .int .i64 n, .int .i64 d, .int .i64 p]) := ⟨Blk.step blk hk⟩
  replace HB := Aside0.mk (below_step bel hk)
  have hsw4 := hk.size
  try simp at hsw4
  clear hk
  obtain ⟨cE0, cE1, cE2, cE3, cE4, fE⟩ := HE.out.c5
  go_wp2_with fail
  clear cE0 cE1 cE2 cE3 cE4 fE
  refine (CR.out _).mono ?_
  rintro e w5 ⟨rfl, hk⟩
  replace HE : Aside0 (Blk w5 (w.heap.size) 68 #[.float .f64 t, .int .i64 s, .int .i64 n, .int .i64 d, .int .i64 p]) := ⟨Blk.step blk hk⟩
  replace HB := Aside0.mk (below_step bel hk)
  have hsw5 := hk.size
  try simp at hsw5
  clear hk
  obtain ⟨cE0, cE1, cE2, cE3, cE4, fE⟩ := HE.out.c5
  go_wp2_with fail
  clear cE0 cE1 cE2 cE3 cE4 fE
  refine (RecF.awake_calls _).mono ?_
  rintro e w6 ⟨rfl, hk⟩
  replace HE : Aside0 (Blk w6 (w.heap.size) 68 #[.float .f64 t, .int .i64 s, .int .i64 n, .int .i64 d, .int .i64 p]) := ⟨Blk.step blk hk⟩
  replace HB := Aside0.mk (below_step bel hk)
  have hsw6 := hk.size
  try simp at hsw6
  clear hk
  obtain ⟨cE0, cE1, cE2, cE3, cE4, fE⟩ := HE.out.c5
  go_wp2_with fail
  go_ret
  exact ⟨rfl, bel⟩


set_option maxRecDepth 100000 in
set_option maxHeartbeats 4000000 in
theorem walk_t_neg (t : Nat) (s n d p f : Int) (anti : Bool) (K A : ByteArray) (w : World) (za : A.size ≤ 100)
    (CK : Aside0 (Gives 73 #[.agg #[.float .f64 t, .int .i64 s, .int .i64 n, .int .i64 d, .int .i64 p]] (.tuple #[.string K, .int .i64 0]))) (CS : Aside0 (Gives 58 #[.agg #[.float .f64 t, .int .i64 s, .int .i64 n, .int .i64 d, .int .i64 p]] (.tuple #[.string A, .int .i64 0])))
    (CM : Aside0 (Gives 59 #[.agg #[.float .f64 t, .int .i64 s, .int .i64 n, .int .i64 d, .int .i64 p, .bool true]] (.tuple #[.string (⟨#[1]⟩ ++ A), .int .i64 0]))) (CD : Aside0 (Gives 60 #[.agg #[.float .f64 t, .int .i64 s, .int .i64 n, .int .i64 d, .int .i64 p, .int .i64 f]] (.tuple #[.string ⟨#[]⟩, .int .i64 2])))
    (CR : Aside0 (Gives 57 #[.agg #[.float .f64 t, .int .i64 s, .int .i64 n, .int .i64 d, .int .i64 p]] (.bool true))) (CL : Aside0 (Gives 75 #[.agg #[.float .f64 t, .int .i64 s, .int .i64 n, .int .i64 d, .int .i64 p]] (.string K))) (CT : Aside0 (Gives 76 #[.agg #[.float .f64 t, .int .i64 s, .int .i64 n, .int .i64 d, .int .i64 p]] (.string A))) (hf : decide (f < 0) = true) :
    Calls Try.prog 20 #[.agg #[.float .f64 t, .int .i64 s, .int .i64 n, .int .i64 d, .int .i64 p], .bool true, .int .i64 f] w fun e w' => e = .returned (.bool true) ∧ Below w.heap.size w w' := by
  have hu2 := Try.underlying42
  have hu3 := Try.underlying68
  have hu4 := Try.underlying73
  have hu5 := Try.underlying77
  skip
  have s0 : ¬ 9223372036854775807 < ByteArray.size ⟨#[1]⟩ + A.size := by have : ByteArray.size ⟨#[1]⟩ = 1 := rfl; omega
  clear za
  have HB := Aside0.mk (below_alloc (Below.refl w.heap.size w) (.cells #[.float .f64 t, .int .i64 s, .int .i64 n, .int .i64 d, .int .i64 p] 68))
  have HE := Aside0.mk (Blk.new w 68 #[.float .f64 t, .int .i64 s, .int .i64 n, .int .i64 d, .int .i64 p])
  go_enter Try.func20, Try.ntmps20
  go_wp2_with fail
  refine (CK.out _).mono ?_
  rintro e w1 ⟨rfl, hk⟩
  replace HE : Aside0 (Blk w1 (w.heap.size) 68 #[.float .f64 t, .int .i64 s, .int .i64 n, .int .i64 d, .int .i64 p]) := ⟨Blk.step blk hk⟩
  replace HB := Aside0.mk (below_step bel hk)
  have hsw1 := hk.size
  try simp at hsw1
  clear hk
  obtain ⟨cE0, cE1, cE2, cE3, cE4, fE⟩ := HE.out.c5
  go_wp2_with fail
  clear cE0 cE1 cE2 cE3 cE4 fE
  refine (CS.out _).mono ?_
  rintro e w2 ⟨rfl, hk⟩
  replace HE : Aside0 (Blk w2 (w.heap.size) 68 #[.float .f64 t, .int .i64 s, .int .i64 n, .int .i64 d, .int .i64 p]) := ⟨Blk.step blk hk⟩
  replace HB := Aside0.mk (below_step bel hk)
  have hsw2 := hk.size
  try simp at hsw2
  clear hk
  obtain ⟨cE0, cE1, cE2, cE3, cE4, fE⟩ := HE.out.c5
  go_wp2_with fail
  clear cE0 cE1 cE2 cE3 cE4 fE
  refine (CM.out _).mono ?_
  rintro e w3 ⟨rfl, hk⟩
  replace HE : Aside0 (Blk w3 (w.heap.size) 68 #[.float .f64 t, .int .i64 s, .int .i64 n, .int .i64 d, .int .i64 p]) := ⟨Blk.step blk hk⟩
  replace HB := Aside0.mk (below_step bel hk)
  have hsw3 := hk.size
  try simp at hsw3
  clear hk
  obtain ⟨cE0, cE1, cE2, cE3, cE4, fE⟩ := HE.out.c5
  go_wp2_with fail
  clear cE0 cE1 cE2 cE3 cE4 fE
  refine (CD.out _).mono ?_
  rintro e w4 ⟨rfl, hk⟩
  replace HE : Aside0 (Blk w4 (w.heap.size) 68 #[.float .f64 t, .int .i64 s, .int .i64 n, .int .i64 d, .int .i64 p]) := ⟨Blk.step blk hk⟩
  replace HB := Aside0.mk (below_step bel hk)
  have hsw4 := hk.size
  try simp at hsw4
  clear hk
  obtain ⟨cE0, cE1, cE2, cE3, cE4, fE⟩ := HE.out.c5
  go_wp2_with fail
  clear cE0 cE1 cE2 cE3 cE4 fE
  refine (CR.out _).mono ?_
  rintro e w5 ⟨rfl, hk⟩
  replace HE : Aside0 (Blk w5 (w.heap.size) 68 #[.float .f64 t, .int .i64 s, .int .i64 n, .int .i64 d, .int .i64 p]) := ⟨Blk.step blk hk⟩
  replace HB := Aside0.mk (below_step bel hk)
  have hsw5 := hk.size
  try simp at hsw5
  clear hk
  obtain ⟨cE0, cE1, cE2, cE3, cE4, fE⟩ := HE.out.c5
  go_wp2_with fail
  clear cE0 cE1 cE2 cE3 cE4 fE
  refine (CL.out _).mono ?_
  rintro e w6 ⟨rfl, hk⟩
  replace HE : Aside0 (Blk w6 (w.heap.size) 68 #[.float .f64 t, .int .i64 s, .int .i64 n, .int .i64 d, .int .i64 p]) := ⟨Blk.step blk hk⟩
  replace HB := Aside0.mk (below_step bel hk)
  have hsw6 := hk.size
  try simp at hsw6
  clear hk
  obtain ⟨cE0, cE1, cE2, cE3, cE4, fE⟩ := HE.out.c5
  go_wp2_with fail
  clear cE0 cE1 cE2 cE3 cE4 fE
  refine (CT.out _).mono ?_
  rintro e w7 ⟨rfl, hk⟩
  replace HE : Aside0 (Blk w7 (w.heap.size) 68 #[.float .f64 t, .int .i64 s, .int .i64 n, .int .i64 d, .int .i64 p]) := ⟨Blk.step blk hk⟩
  replace HB := Aside0.mk (below_step bel hk)
  have hsw7 := hk.size
  try simp at hsw7
  clear hk
  obtain ⟨cE0, cE1, cE2, cE3, cE4, fE⟩ := HE.out.c5
  go_wp2_with fail
  clear cE0 cE1 cE2 cE3 cE4 fE
  refine (RecF.awake_calls _).mono ?_
  rintro e w8 ⟨rfl, hk⟩
  replace HE : Aside0 (Blk w8 (w.heap.size) 68 #[.float .f64 t, .int .i64 s, .int .i64 n, .int .i64 d, .int .i64 p]) := ⟨Blk.step blk hk⟩
  replace HB := Aside0.mk (below_step bel hk)
  have hsw8 := hk.size
  try simp at hsw8
  clear hk
  obtain ⟨cE0, cE1, cE2, cE3, cE4, fE⟩ := HE.out.c5
  go_wp2_with fail
  go_ret
  exact ⟨rfl, bel⟩


set_option maxRecDepth 100000 in
set_option maxHeartbeats 4000000 in
theorem walk_t_big (t : Nat) (s n d p f : Int) (anti : Bool) (K A : ByteArray) (w : World) (za : A.size ≤ 100)
    (CK : Aside0 (Gives 73 #[.agg #[.float .f64 t, .int .i64 s, .int .i64 n, .int .i64 d, .int .i64 p]] (.tuple #[.string K, .int .i64 0]))) (CS : Aside0 (Gives 58 #[.agg #[.float .f64 t, .int .i64 s, .int .i64 n, .int .i64 d, .int .i64 p]] (.tuple #[.string A, .int .i64 0])))
    (CM : Aside0 (Gives 59 #[.agg #[.float .f64 t, .int .i64 s, .int .i64 n, .int .i64 d, .int .i64 p, .bool true]] (.tuple #[.string (⟨#[1]⟩ ++ A), .int .i64 0]))) (CD : Aside0 (Gives 60 #[.agg #[.float .f64 t, .int .i64 s, .int .i64 n, .int .i64 d, .int .i64 p, .int .i64 f]] (.tuple #[.string ⟨#[]⟩, .int .i64 2])))
    (CR : Aside0 (Gives 57 #[.agg #[.float .f64 t, .int .i64 s, .int .i64 n, .int .i64 d, .int .i64 p]] (.bool true))) (CL : Aside0 (Gives 75 #[.agg #[.float .f64 t, .int .i64 s, .int .i64 n, .int .i64 d, .int .i64 p]] (.string K))) (CT : Aside0 (Gives 76 #[.agg #[.float .f64 t, .int .i64 s, .int .i64 n, .int .i64 d, .int .i64 p]] (.string A))) (hf : decide (f < 0) = false ∧ decide (7 < f) = true) :
    Calls Try.prog 20 #[.agg #[.float .f64 t, .int .i64 s, .int .i64 n, .int .i64 d, .int .i64 p], .bool true, .int .i64 f] w fun e w' => e = .returned (.bool true) ∧ Below w.heap.size w w' := by
  have hu2 := Try.underlying42
  have hu3 := Try.underlying68
  have hu4 := Try.underlying73
  have hu5 := Try.underlying77
  obtain ⟨hf1, hf2⟩ := hf
  have s0 : ¬ 9223372036854775807 < ByteArray.size ⟨#[1]⟩ + A.size := by have : ByteArray.size ⟨#[1]⟩ = 1 := rfl; omega
  clear za
  have HB := Aside0.mk (below_alloc (Below.refl w.heap.size w) (.cells #[.float .f64 t, .int .i64 s, .int .i64 n, .int .i64 d, .int .i64 p] 68))
  have HE := Aside0.mk (Blk.new w 68 #[.float .f64 t, .int .i64 s, .int .i64 n, .int .i64 d, .int .i64 p])
  go_enter Try.func20, Try.ntmps20
  go_wp2_with fail
  refine (CK.out _).mono ?_
  rintro e w1 ⟨rfl, hk⟩
  replace HE : Aside0 (Blk w1 (w.heap.size) 68 #[.float .f64 t, .int .i64 s, .int .i64 n, .int .i64 d, .int .i64 p]) := ⟨Blk.step blk hk⟩
  replace HB := Aside0.mk (below_step bel hk)
  have hsw1 := hk.size
  try simp at hsw1
  clear hk
  obtain ⟨cE0, cE1, cE2, cE3, cE4, fE⟩ := HE.out.c5
  go_wp2_with fail
  clear cE0 cE1 cE2 cE3 cE4 fE
  refine (CS.out _).mono ?_
  rintro e w2 ⟨rfl, hk⟩
  replace HE : Aside0 (Blk w2 (w.heap.size) 68 #[.float .f64 t, .int .i64 s, .int .i64 n, .int .i64 d, .int .i64 p]) := ⟨Blk.step blk hk⟩
  replace HB := Aside0.mk (below_step bel hk)
  have hsw2 := hk.size
  try simp at hsw2
  clear hk
  obtain ⟨cE0, cE1, cE2, cE3, cE4, fE⟩ := HE.out.c5
  go_wp2_with fail
  clear cE0 cE1 cE2 cE3 cE4 fE
  refine (CM.out _).mono ?_
  rintro e w3 ⟨rfl, hk⟩
  replace HE : Aside0 (Blk w3 (w.heap.size) 68 #[.float .f64 t, .int .i64 s, .int .i64 n, .int .i64 d, .int .i64 p]) := ⟨Blk.step blk hk⟩
  replace HB := Aside0.mk (below_step bel hk)
  have hsw3 := hk.size
  try simp at hsw3
  clear hk
  obtain ⟨cE0, cE1, cE2, cE3, cE4, fE⟩ := HE.out.c5
  go_wp2_with fail
  clear cE0 cE1 cE2 cE3 cE4 fE
  refine (CD.out _).mono ?_
  rintro e w4 ⟨rfl, hk⟩
  replace HE : Aside0 (Blk w4 (w.heap.size) 68 #[.float .f64 t, .int .i64 s, .int .i64 n, .int .i64 d, .int .i64 p]) := ⟨Blk.step blk hk⟩
  replace HB := Aside0.mk (below_step bel hk)
  have hsw4 := hk.size
  try simp at hsw4
  clear hk
  obtain ⟨cE0, cE1, cE2, cE3, cE4, fE⟩ := HE.out.c5
  go_wp2_with fail
  clear cE0 cE1 cE2 cE3 cE4 fE
  refine (CR.out _).mono ?_
  rintro e w5 ⟨rfl, hk⟩
  replace HE : Aside0 (Blk w5 (w.heap.size) 68 #[.float .f64 t, .int .i64 s, .int .i64 n, .int .i64 d, .int .i64 p]) := ⟨Blk.step blk hk⟩
  replace HB := Aside0.mk (below_step bel hk)
  have hsw5 := hk.size
  try simp at hsw5
  clear hk
  obtain ⟨cE0, cE1, cE2, cE3, cE4, fE⟩ := HE.out.c5
  go_wp2_with fail
  clear cE0 cE1 cE2 cE3 cE4 fE
  refine (CL.out _).mono ?_
  rintro e w6 ⟨rfl, hk⟩
  replace HE : Aside0 (Blk w6 (w.heap.size) 68 #[.float .f64 t, .int .i64 s, .int .i64 n, .int .i64 d, .int .i64 p]) := ⟨Blk.step blk hk⟩
  replace HB := Aside0.mk (below_step bel hk)
  have hsw6 := hk.size
  try simp at hsw6
  clear hk
  obtain ⟨cE0, cE1, cE2, cE3, cE4, fE⟩ := HE.out.c5
  go_wp2_with fail
  clear cE0 cE1 cE2 cE3 cE4 fE
  refine (CT.out _).mono ?_
  rintro e w7 ⟨rfl, hk⟩
  replace HE : Aside0 (Blk w7 (w.heap.size) 68 #[.float .f64 t, .int .i64 s, .int .i64 n, .int .i64 d, .int .i64 p]) := ⟨Blk.step blk hk⟩
  replace HB := Aside0.mk (below_step bel hk)
  have hsw7 := hk.size
  try simp at hsw7
  clear hk
  obtain ⟨cE0, cE1, cE2, cE3, cE4, fE⟩ := HE.out.c5
  go_wp2_with fail
  clear cE0 cE1 cE2 cE3 cE4 fE
  refine (RecF.awake_calls _).mono ?_
  rintro e w8 ⟨rfl, hk⟩
  replace HE : Aside0 (Blk w8 (w.heap.size) 68 #[.float .f64 t, .int .i64 s, .int .i64 n, .int .i64 d, .int .i64 p]) := ⟨Blk.step blk hk⟩
  replace HB := Aside0.mk (below_step bel hk)
  have hsw8 := hk.size
  try simp at hsw8
  clear hk
  obtain ⟨cE0, cE1, cE2, cE3, cE4, fE⟩ := HE.out.c5
  go_wp2_with fail
  go_ret
  exact ⟨rfl, bel⟩


set_option maxRecDepth 100000 in
set_option maxHeartbeats 4000000 in
theorem walk_t_in (t : Nat) (s n d p f : Int) (anti : Bool) (K A : ByteArray) (w : World) (za : A.size ≤ 100)
    (CK : Aside0 (Gives 73 #[.agg #[.float .f64 t, .int .i64 s, .int .i64 n, .int .i64 d, .int .i64 p]] (.tuple #[.string K, .int .i64 0]))) (CS : Aside0 (Gives 58 #[.agg #[.float .f64 t, .int .i64 s, .int .i64 n, .int .i64 d, .int .i64 p]] (.tuple #[.string A, .int .i64 0])))
    (CM : Aside0 (Gives 59 #[.agg #[.float .f64 t, .int .i64 s, .int .i64 n, .int .i64 d, .int .i64 p, .bool true]] (.tuple #[.string (⟨#[1]⟩ ++ A), .int .i64 0]))) (CD : Aside0 (Gives 60 #[.agg #[.float .f64 t, .int .i64 s, .int .i64 n, .int .i64 d, .int .i64 p, .int .i64 f]] (.tuple #[.string (A ++ strOfNums [f]), .int .i64 0])))
    (CR : Aside0 (Gives 57 #[.agg #[.float .f64 t, .int .i64 s, .int .i64 n, .int .i64 d, .int .i64 p]] (.bool true))) (CL : Aside0 (Gives 75 #[.agg #[.float .f64 t, .int .i64 s, .int .i64 n, .int .i64 d, .int .i64 p]] (.string K))) (CT : Aside0 (Gives 76 #[.agg #[.float .f64 t, .int .i64 s, .int .i64 n, .int .i64 d, .int .i64 p]] (.string A))) (hf : decide (f < 0) = false ∧ decide (7 < f) = false) (hq : 0 ≤ f ∧ f ≤ 7) :
    Calls Try.prog 20 #[.agg #[.float .f64 t, .int .i64 s, .int .i64 n, .int .i64 d, .int .i64 p], .bool true, .int .i64 f] w fun e w' => e = .returned (.bool true) ∧ Below w.heap.size w w' := by
  have hu2 := Try.underlying42
  have hu3 := Try.underlying68
  have hu4 := Try.underlying73
  have hu5 := Try.underlying77
  obtain ⟨hf1, hf2⟩ := hf
  have s0 : ¬ 9223372036854775807 < ByteArray.size ⟨#[1]⟩ + A.size := by have : ByteArray.size ⟨#[1]⟩ = 1 := rfl; omega
  have s1 : ¬ 9223372036854775807 < A.size + (strOfNums [f]).size := by have := z1 f; omega
  have hw2 : IntKind.u8.wrap f = f := by unfold IntKind.wrap; simp [IntKind.bits, IntKind.signed]; omega
  have cv : ∀ (W : World) (b : Nat), W.cell? ⟨b, 0, none⟩ = some (.int .u8 f) → (convert 101 9 (.slice (some ⟨b, 0, none⟩) 1 1)).run Try.prog W = .ok (.string (strOfNums [f])) W := fun W b h => run_convert_bytes_arg W 101 5 Try.underlying101 Try.underlying5 b 0 1 1 [f] rfl (fun i hi => by (obtain rfl : i = 0 := by omega); exact h) 9 Try.underlying9
  generalize strOfNums [f] = B at *
  clear hq
  clear za
  have HB := Aside0.mk (below_alloc (Below.refl w.heap.size w) (.cells #[.float .f64 t, .int .i64 s, .int .i64 n, .int .i64 d, .int .i64 p] 68))
  have HE := Aside0.mk (Blk.new w 68 #[.float .f64 t, .int .i64 s, .int .i64 n, .int .i64 d, .int .i64 p])
  go_enter Try.func20, Try.ntmps20
  go_wp2_with fail
  refine (CK.out _).mono ?_
  rintro e w1 ⟨rfl, hk⟩
  replace HE : Aside0 (Blk w1 (w.heap.size) 68 #[.float .f64 t, .int .i64 s, .int .i64 n, .int .i64 d, .int .i64 p]) := ⟨Blk.step blk hk⟩
  replace HB := Aside0.mk (below_step bel hk)
  have hsw1 := hk.size
  try simp at hsw1
  clear hk
  obtain ⟨cE0, cE1, cE2, cE3, cE4, fE⟩ := HE.out.c5
  go_wp2_with fail
  clear cE0 cE1 cE2 cE3 cE4 fE
  refine (CS.out _).mono ?_
  rintro e w2 ⟨rfl, hk⟩
  replace HE : Aside0 (Blk w2 (w.heap.size) 68 #[.float .f64 t, .int .i64 s, .int .i64 n, .int .i64 d, .int .i64 p]) := ⟨Blk.step blk hk⟩
  replace HB := Aside0.mk (below_step bel hk)
  have hsw2 := hk.size
  try simp at hsw2
  clear hk
  obtain ⟨cE0, cE1, cE2, cE3, cE4, fE⟩ := HE.out.c5
  go_wp2_with fail
  clear cE0 cE1 cE2 cE3 cE4 fE
  refine (CM.out _).mono ?_
  rintro e w3 ⟨rfl, hk⟩
  replace HE : Aside0 (Blk w3 (w.heap.size) 68 #[.float .f64 t, .int .i64 s, .int .i64 n, .int .i64 d, .int .i64 p]) := ⟨Blk.step blk hk⟩
  replace HB := Aside0.mk (below_step bel hk)
  have hsw3 := hk.size
  try simp at hsw3
  clear hk
  obtain ⟨cE0, cE1, cE2, cE3, cE4, fE⟩ := HE.out.c5
  go_wp2_with fail
  clear cE0 cE1 cE2 cE3 cE4 fE
  refine (CD.out _).mono ?_
  rintro e w4 ⟨rfl, hk⟩
  replace HE : Aside0 (Blk w4 (w.heap.size) 68 #[.float .f64 t, .int .i64 s, .int .i64 n, .int .i64 d, .int .i64 p]) := ⟨Blk.step blk hk⟩
  replace HB := Aside0.mk (below_step bel hk)
  have hsw4 := hk.size
  try simp at hsw4
  clear hk
  obtain ⟨cE0, cE1, cE2, cE3, cE4, fE⟩ := HE.out.c5
  go_wp2_with fail
  clear cE0 cE1 cE2 cE3 cE4 fE
  refine (CR.out _).mono ?_
  rintro e w5 ⟨rfl, hk⟩
  replace HE : Aside0 (Blk w5 (w.heap.size) 68 #[.float .f64 t, .int .i64 s, .int .i64 n, .int .i64 d, .int .i64 p]) := ⟨Blk.step blk hk⟩
  replace HB := Aside0.mk (below_step bel hk)
  have hsw5 := hk.size
  try simp at hsw5
  clear hk
  obtain ⟨cE0, cE1, cE2, cE3, cE4, fE⟩ := HE.out.c5
  go_wp2_with fail
  clear cE0 cE1 cE2 cE3 cE4 fE
  refine (CL.out _).mono ?_
  rintro e w6 ⟨rfl, hk⟩
  replace HE : Aside0 (Blk w6 (w.heap.size) 68 #[.float .f64 t, .int .i64 s, .int .i64 n, .int .i64 d, .int .i64 p]) := ⟨Blk.step blk hk⟩
  replace HB := Aside0.mk (below_step bel hk)
  have hsw6 := hk.size
  try simp at hsw6
  clear hk
  obtain ⟨cE0, cE1, cE2, cE3, cE4, fE⟩ := HE.out.c5
  go_wp2_with fail
  clear cE0 cE1 cE2 cE3 cE4 fE
  refine (CT.out _).mono ?_
  rintro e w7 ⟨rfl, hk⟩
  replace HE : Aside0 (Blk w7 (w.heap.size) 68 #[.float .f64 t, .int .i64 s, .int .i64 n, .int .i64 d, .int .i64 p]) := ⟨Blk.step blk hk⟩
  replace HB := Aside0.mk (below_step bel hk)
  have hsw7 := hk.size
  try simp at hsw7
  clear hk
  obtain ⟨cE0, cE1, cE2, cE3, cE4, fE⟩ := HE.out.c5
  go_wp2_with fail
  clear cE0 cE1 cE2 cE3 cE4 fE
  refine (RecF.awake_calls _).mono ?_
  rintro e w8 ⟨rfl, hk⟩
  replace HE : Aside0 (Blk w8 (w.heap.size) 68 #[.float .f64 t, .int .i64 s, .int .i64 n, .int .i64 d, .int .i64 p]) := ⟨Blk.step blk hk⟩
  replace HB := Aside0.mk (below_step bel hk)
  have hsw8 := hk.size
  try simp at hsw8
  clear hk
  obtain ⟨cE0, cE1, cE2, cE3, cE4, fE⟩ := HE.out.c5
  go_wp2_with fail
  go_ret
  exact ⟨rfl, bel⟩


set_option maxRecDepth 100000 in
set_option maxHeartbeats 4000000 in
theorem walk_f_neg (t : Nat) (s n d p f : Int) (anti : Bool) (K A : ByteArray) (w : World) (za : A.size ≤ 100)
    (CK : Aside0 (Gives 73 #[.agg #[.float .f64 t, .int .i64 s, .int .i64 n, .int .i64 d, .int .i64 p]] (.tuple #[.string K, .int .i64 0]))) (CS : Aside0 (Gives 58 #[.agg #[.float .f64 t, .int .i64 s, .int .i64 n, .int .i64 d, .int .i64 p]] (.tuple #[.string A, .int .i64 0])))
    (CM : Aside0 (Gives 59 #[.agg #[.float .f64 t, .int .i64 s, .int .i64 n, .int .i64 d, .int .i64 p, .bool false]] (.tuple #[.string (⟨#[0]⟩ ++ A), .int .i64 0]))) (CD : Aside0 (Gives 60 #[.agg #[.float .f64 t, .int .i64 s, .int .i64 n, .int .i64 d, .int .i64 p, .int .i64 f]] (.tuple #[.string ⟨#[]⟩, .int .i64 2])))
    (CR : Aside0 (Gives 57 #[.agg #[.float .f64 t, .int .i64 s, .int .i64 n, .int .i64 d, .int .i64 p]] (.bool true))) (CL : Aside0 (Gives 75 #[.agg #[.float .f64 t, .int .i64 s, .int .i64 n, .int .i64 d, .int .i64 p]] (.string K))) (CT : Aside0 (Gives 76 #[.agg #[.float .f64 t, .int .i64 s, .int .i64 n, .int .i64 d, .int .i64 p]] (.string A))) (hf : decide (f < 0) = true) :
    Calls Try.prog 20 #[.agg #[.float .f64 t, .int .i64 s, .int .i64 n, .int .i64 d, .int .i64 p], .bool false, .int .i64 f] w fun e w' => e = .returned (.bool true) ∧ Below w.heap.size w w' := by
  have hu2 := Try.underlying42
  have hu3 := Try.underlying68
  have hu4 := Try.underlying73
  have hu5 := Try.underlying77
  skip
  have s0 : ¬ 9223372036854775807 < ByteArray.size ⟨#[0]⟩ + A.size := by have : ByteArray.size ⟨#[0]⟩ = 1 := rfl; omega
  clear za
  have HB := Aside0.mk (below_alloc (Below.refl w.heap.size w) (.cells #[.float .f64 t, .int .i64 s, .int .i64 n, .int .i64 d, .int .i64 p] 68))
  have HE := Aside0.mk (Blk.new w 68 #[.float .f64 t, .int .i64 s, .int .i64 n, .int .i64 d, .int .i64 p])
  go_enter Try.func20, Try.ntmps20
  go_wp2_with fail
  refine (CK.out _).mono ?_
  rintro e w1 ⟨rfl, hk⟩
  replace HE : Aside0 (Blk w1 (w.heap.size) 68 #[.float .f64 t, .int .i64 s, .int .i64 n, .int .i64 d, .int .i64 p]) := ⟨Blk.step blk hk⟩
  replace HB := Aside0.mk (below_step bel hk)
  have hsw1 := hk.size
  try simp at hsw1
  clear hk
  obtain ⟨cE0, cE1, cE2, cE3, cE4, fE⟩ := HE.out.c5
  go_wp2_with fail
  clear cE0 cE1 cE2 cE3 cE4 fE
  refine (CS.out _).mono ?_
  rintro e w2 ⟨rfl, hk⟩
  replace HE : Aside0 (Blk w2 (w.heap.size) 68 #[.float .f64 t, .int .i64 s, .int .i64 n, .int .i64 d, .int .i64 p]) := ⟨Blk.step blk hk⟩
  replace HB := Aside0.mk (below_step bel hk)
  have hsw2 := hk.size
  try simp at hsw2
  clear hk
  obtain ⟨cE0, cE1, cE2, cE3, cE4, fE⟩ := HE.out.c5
  go_wp2_with fail
  clear cE0 cE1 cE2 cE3 cE4 fE
  refine (CM.out _).mono ?_
  rintro e w3 ⟨rfl, hk⟩
  replace HE : Aside0 (Blk w3 (w.heap.size) 68 #[.float .f64 t, .int .i64 s, .int .i64 n, .int .i64 d, .int .i64 p]) := ⟨Blk.step blk hk⟩
  replace HB := Aside0.mk (below_step bel hk)
  have hsw3 := hk.size
  try simp at hsw3
  clear hk
  obtain ⟨cE0, cE1, cE2, cE3, cE4, fE⟩ := HE.out.c5
  go_wp2_with fail
  clear cE0 cE1 cE2 cE3 cE4 fE
  refine (CD.out _).mono ?_
  rintro e w4 ⟨rfl, hk⟩
  replace HE : Aside0 (Blk w4 (w.heap.size) 68 #[.float .f64 t, .int .i64 s, .int .i64 n, .int .i64 d, .int .i64 p]) := ⟨Blk.step blk hk⟩
  replace HB := Aside0.mk (below_step bel hk)
  have hsw4 := hk.size
  try simp at hsw4
  clear hk
  obtain ⟨cE0, cE1, cE2, cE3, cE4, fE⟩ := HE.out.c5
  go_wp2_with fail
  clear cE0 cE1 cE2 cE3 cE4 fE
  refine (CR.out _).mono ?_
  rintro e w5 ⟨rfl, hk⟩
  replace HE : Aside0 (Blk w5 (w.heap.size) 68 #[.float .f64 t, .int .i64 s, .int .i64 n, .int .i64 d, .int .i64 p]) := ⟨Blk.step blk hk⟩
  replace HB := Aside0.mk (below_step bel hk)
  have hsw5 := hk.size
  try simp at hsw5
  clear hk
  obtain ⟨cE0, cE1, cE2, cE3, cE4, fE⟩ := HE.out.c5
  go_wp2_with fail
  clear cE0 cE1 cE2 cE3 cE4 fE
  refine (CL.out _).mono ?_
  rintro e w6 ⟨rfl, hk⟩
  replace HE : Aside0 (Blk w6 (w.heap.size) 68 #[.float .f64 t, .int .i64 s, .int .i64 n, .int .i64 d, .int .i64 p]) := ⟨Blk.step blk hk⟩
  replace HB := Aside0.mk (below_step bel hk)
  have hsw6 := hk.size
  try simp at hsw6
  clear hk
  obtain ⟨cE0, cE1, cE2, cE3, cE4, fE⟩ := HE.out.c5
  go_wp2_with fail
  clear cE0 cE1 cE2 cE3 cE4 fE
  refine (CT.out _).mono ?_
  rintro e w7 ⟨rfl, hk⟩
  replace HE : Aside0 (Blk w7 (w.heap.size) 68 #[.float .f64 t, .int .i64 s, .int .i64 n, .int .i64 d, .int .i64 p]) := ⟨Blk.step blk hk⟩
  replace HB := Aside0.mk (below_step bel hk)
  have hsw7 := hk.size
  try simp at hsw7
  clear hk
  obtain ⟨cE0, cE1, cE2, cE3, cE4, fE⟩ := HE.out.c5
  go_wp2_with fail
  clear cE0 cE1 cE2 cE3 cE4 fE
  refine (RecF.awake_calls _).mono ?_
  rintro e w8 ⟨rfl, hk⟩
  replace HE : Aside0 (Blk w8 (w.heap.size) 68 #[.float .f64 t, .int .i64 s, .int .i64 n, .int .i64 d, .int .i64 p]) := ⟨Blk.step blk hk⟩
  replace HB := Aside0.mk (below_step bel hk)
  have hsw8 := hk.size
  try simp at hsw8
  clear hk
  obtain ⟨cE0, cE1, cE2, cE3, cE4, fE⟩ := HE.out.c5
  go_wp2_with fail
  go_ret
  exact ⟨rfl, bel⟩


set_option maxRecDepth 100000 in
set_option maxHeartbeats 4000000 in
theorem walk_f_big (t : Nat) (s n d p f : Int) (anti : Bool) (K A : ByteArray) (w : World) (za : A.size ≤ 100)
    (CK : Aside0 (Gives 73 #[.agg #[.float .f64 t, .int .i64 s, .int .i64 n, .int .i64 d, .int .i64 p]] (.tuple #[.string K, .int .i64 0]))) (CS : Aside0 (Gives 58 #[.agg #[.float .f64 t, .int .i64 s, .int .i64 n, .int .i64 d, .int .i64 p]] (.tuple #[.string A, .int .i64 0])))
    (CM : Aside0 (Gives 59 #[.agg #[.float .f64 t, .int .i64 s, .int .i64 n, .int .i64 d, .int .i64 p, .bool false]] (.tuple #[.string (⟨#[0]⟩ ++ A), .int .i64 0]))) (CD : Aside0 (Gives 60 #[.agg #[.float .f64 t, .int .i64 s, .int .i64 n, .int .i64 d, .int .i64 p, .int .i64 f]] (.tuple #[.string ⟨#[]⟩, .int .i64 2])))
    (CR : Aside0 (Gives 57 #[.agg #[.float .f64 t, .int .i64 s, .int .i64 n, .int .i64 d, .int .i64 p]] (.bool true))) (CL : Aside0 (Gives 75 #[.agg #[.float .f64 t, .int .i64 s, .int .i64 n, .int .i64 d, .int .i64 p]] (.string K))) (CT : Aside0 (Gives 76 #[.agg #[.float .f64 t, .int .i64 s, .int .i64 n, .int .i64 d, .int .i64 p]] (.string A))) (hf : decide (f < 0) = false ∧ decide (7 < f) = true) :
    Calls Try.prog 20 #[.agg #[.float .f64 t, .int .i64 s, .int .i64 n, .int .i64 d, .int .i64 p], .bool false, .int .i64 f] w fun e w' => e = .returned (.bool true) ∧ Below w.heap.size w w' := by
  have hu2 := Try.underlying42
  have hu3 := Try.underlying68
  have hu4 := Try.underlying73
  have hu5 := Try.underlying77
  obtain ⟨hf1, hf2⟩ := hf
  have s0 : ¬ 9223372036854775807 < ByteArray.size ⟨#[0]⟩ + A.size := by have : ByteArray.size ⟨#[0]⟩ = 1 := rfl; omega
  clear za
  have HB := Aside0.mk (below_alloc (Below.refl w.heap.size w) (.cells #[.float .f64 t, .int .i64 s, .int .i64 n, .int .i64 d, .int .i64 p] 68))
  have HE := Aside0.mk (Blk.new w 68 #[.float .f64 t, .int .i64 s, .int .i64 n, .int .i64 d, .int .i64 p])
  go_enter Try.func20, Try.ntmps20
  go_wp2_with fail
  refine (CK.out _).mono ?_
  rintro e w1 ⟨rfl, hk⟩
  replace HE : Aside0 (Blk w1 (w.heap.size) 68 #[.float .f64 t, .int .i64 s, .int .i64 n, .int .i64 d, .int .i64 p]) := ⟨Blk.step blk hk⟩
  replace HB := Aside0.mk (below_step bel hk)
  have hsw1 := hk.size
  try simp at hsw1
  clear hk
  obtain ⟨cE0, cE1, cE2, cE3, cE4, fE⟩ := HE.out.c5
  go_wp2_with fail
  clear cE0 cE1 cE2 cE3 cE4 fE
  refine (CS.out _).mono ?_
  rintro e w2 ⟨rfl, hk⟩
  replace HE : Aside0 (Blk w2 (w.heap.size) 68 #[.float .f64 t, .int .i64 s, .int .i64 n, .int .i64 d, .int .i64 p]) := ⟨Blk.step blk hk⟩
  replace HB := Aside0.mk (below_step bel hk)
  have hsw2 := hk.size
  try simp at hsw2
  clear hk
  obtain ⟨cE0, cE1, cE2, cE3, cE4, fE⟩ := HE.out.c5
  go_wp2_with fail
  clear cE0 cE1 cE2 cE3 cE4 fE
  refine (CM.out _).mono ?_
  rintro e w3 ⟨rfl, hk⟩
  replace HE : Aside0 (Blk w3 (w.heap.size) 68 #[.float .f64 t, .int .i64 s, .int .i64 n, .int .i64 d, .int .i64 p]) := ⟨Blk.step blk hk⟩
  replace HB := Aside0.mk (below_step bel hk)
  have hsw3 := hk.size
  try simp at hsw3
  clear hk
  obtain ⟨cE0, cE1, cE2, cE3, cE4, fE⟩ := HE.out.c5
  go_wp2_with fail
  clear cE0 cE1 cE2 cE3 cE4 fE
  refine (CD.out _).mono ?_
  rintro e w4 ⟨rfl, hk⟩
  replace HE : Aside0 (Blk w4 (w.heap.size) 68 #[.float .f64 t, .int .i64 s, .int .i64 n, .int .i64 d, .int .i64 p]) := ⟨Blk.step blk hk⟩
  replace HB := Aside0.mk (below_step bel hk)
  have hsw4 := hk.size
  try simp at hsw4
  clear hk
  obtain ⟨cE0, cE1, cE2, cE3, cE4, fE⟩ := HE.out.c5
  go_wp2_with fail
  clear cE0 cE1 cE2 cE3 cE4 fE
  refine (CR.out _).mono ?_
  rintro e w5 ⟨rfl, hk⟩
  replace HE : Aside0 (Blk w5 (w.heap.size) 68 #[.float .f64 t, .int .i64 s, .int .i64 n, .int .i64 d, .int .i64 p]) := ⟨Blk.step blk hk⟩
  replace HB := Aside0.mk (below_step bel hk)
  have hsw5 := hk.size
  try simp at hsw5
  clear hk
  obtain ⟨cE0, cE1, cE2, cE3, cE4, fE⟩ := HE.out.c5
  go_wp2_with fail
  clear cE0 cE1 cE2 cE3 cE4 fE
  refine (CL.out _).mono ?_
  rintro e w6 ⟨rfl, hk⟩
  replace HE : Aside0 (Blk w6 (w.heap.size) 68 #[.float .f64 t, .int .i64 s, .int .i64 n, .int .i64 d, .int .i64 p]) := ⟨Blk.step blk hk⟩
  replace HB := Aside0.mk (below_step bel hk)
  have hsw6 := hk.size
  try simp at hsw6
  clear hk
  obtain ⟨cE0, cE1, cE2, cE3, cE4, fE⟩ := HE.out.c5
  go_wp2_with fail
  clear cE0 cE1 cE2 cE3 cE4 fE
  refine (CT.out _).mono ?_
  rintro e w7 ⟨rfl, hk⟩
  replace HE : Aside0 (Blk w7 (w.heap.size) 68 #[.float .f64 t, .int .i64 s, .int .i64 n, .int .i64 d, .int .i64 p]) := ⟨Blk.step blk hk⟩
  replace HB := Aside0.mk (below_step bel hk)
  have hsw7 := hk.size
  try simp at hsw7
  clear hk
  obtain ⟨cE0, cE1, cE2, cE3, cE4, fE⟩ := HE.out.c5
  go_wp2_with fail
  clear cE0 cE1 cE2 cE3 cE4 fE
  refine (RecF.awake_calls _).mono ?_
  rintro e w8 ⟨rfl, hk⟩
  replace HE : Aside0 (Blk w8 (w.heap.size) 68 #[.float .f64 t, .int .i64 s, .int .i64 n, .int .i64 d, .int .i64 p]) := ⟨Blk.step blk hk⟩
  replace HB := Aside0.mk (below_step bel hk)
  have hsw8 := hk.size
  try simp at hsw8
  clear hk
  obtain ⟨cE0, cE1, cE2, cE3, cE4, fE⟩ := HE.out.c5
  go_wp2_with fail
  go_ret
  exact ⟨rfl, bel⟩


set_option maxRecDepth 100000 in
set_option maxHeartbeats 4000000 in
theorem walk_f_in (t : Nat) (s n d p f : Int) (anti : Bool) (K A : ByteArray) (w : World) (za : A.size ≤ 100)
    (CK : Aside0 (Gives 73 #[.agg #[.float .f64 t, .int .i64 s, .int .i64 n, .int .i64 d, .int .i64 p]] (.tuple #[.string K, .int .i64 0]))) (CS : Aside0 (Gives 58 #[.agg #[.float .f64 t, .int .i64 s, .int .i64 n, .int .i64 d, .int .i64 p]] (.tuple #[.string A, .int .i64 0])))
    (CM : Aside0 (Gives 59 #[.agg #[.float .f64 t, .int .i64 s, .int .i64 n, .int .i64 d, .int .i64 p, .bool false]] (.tuple #[.string (⟨#[0]⟩ ++ A), .int .i64 0]))) (CD : Aside0 (Gives 60 #[.agg #[.float .f64 t, .int .i64 s, .int .i64 n, .int .i64 d, .int .i64 p, .int .i64 f]] (.tuple #[.string (A ++ strOfNums [f]), .int .i64 0])))
    (CR : Aside0 (Gives 57 #[.agg #[.float .f64 t, .int .i64 s, .int .i64 n, .int .i64 d, .int .i64 p]] (.bool true))) (CL : Aside0 (Gives 75 #[.agg #[.float .f64 t, .int .i64 s, .int .i64 n, .int .i64 d, .int .i64 p]] (.string K))) (CT : Aside0 (Gives 76 #[.agg #[.float .f64 t, .int .i64 s, .int .i64 n, .int .i64 d, .int .i64 p]] (.string A))) (hf : decide (f < 0) = false ∧ decide (7 < f) = false) (hq : 0 ≤ f ∧ f ≤ 7) :
    Calls Try.prog 20 #[.agg #[.float .f64 t, .int .i64 s, .int .i64 n, .int .i64 d, .int .i64 p], .bool false, .int .i64 f] w fun e w' => e = .returned (.bool true) ∧ Below w.heap.size w w' := by
  have hu2 := Try.underlying42
  have hu3 := Try.underlying68
  have hu4 := Try.underlying73
  have hu5 := Try.underlying77
  obtain ⟨hf1, hf2⟩ := hf
  have s0 : ¬ 9223372036854775807 < ByteArray.size ⟨#[0]⟩ + A.size := by have : ByteArray.size ⟨#[0]⟩ = 1 := rfl; omega
  have s1 : ¬ 9223372036854775807 < A.size + (strOfNums [f]).size := by have := z1 f; omega
  have hw2 : IntKind.u8.wrap f = f := by unfold IntKind.wrap; simp [IntKind.bits, IntKind.signed]; omega
  have cv : ∀ (W : World) (b : Nat), W.cell? ⟨b, 0, none⟩ = some (.int .u8 f) → (convert 101 9 (.slice (some ⟨b, 0, none⟩) 1 1)).run Try.prog W = .ok (.string (strOfNums [f])) W := fun W b h => run_convert_bytes_arg W 101 5 Try.underlying101 Try.underlying5 b 0 1 1 [f] rfl (fun i hi => by (obtain rfl : i = 0 := by omega); exact h) 9 Try.underlying9
  generalize strOfNums [f] = B at *
  clear hq
  clear za
  have HB := Aside0.mk (below_alloc (Below.refl w.heap.size w) (.cells #[.float .f64 t, .int .i64 s, .int .i64 n, .int .i64 d, .int .i64 p] 68))
  have HE := Aside0.mk (Blk.new w 68 #[.float .f64 t, .int .i64 s, .int .i64 n, .int .i64 d, .int .i64 p])
  go_enter Try.func20, Try.ntmps20
  go_wp2_with fail
  refine (CK.out _).mono ?_
  rintro e w1 ⟨rfl, hk⟩
  replace HE : Aside0 (Blk w1 (w.heap.size) 68 #[.float .f64 t, .int .i64 s, .int .i64 n, .int .i64 d, .int .i64 p]) := ⟨Blk.step blk hk⟩
  replace HB := Aside0.mk (below_step bel hk)
  have hsw1 := hk.size
  try simp at hsw1
  clear hk
  obtain ⟨cE0, cE1, cE2, cE3, cE4, fE⟩ := HE.out.c5
  go_wp2_with fail
  clear cE0 cE1 cE2 cE3 cE4 fE
  refine (CS.out _).mono ?_
  rintro e w2 ⟨rfl, hk⟩
  replace HE : Aside0 (Blk w2 (w.heap.size) 68 #[.float .f64 t, .int .i64 s, .int .i64 n, .int .i64 d, .int .i64 p]) := ⟨Blk.step blk hk⟩
  replace HB := Aside0.mk (below_step bel hk)
  have hsw2 := hk.size
  try simp at hsw2
  clear hk
  obtain ⟨cE0, cE1, cE2, cE3, cE4, fE⟩ := HE.out.c5
  go_wp2_with fail
  clear cE0 cE1 cE2 cE3 cE4 fE
  refine (CM.out _).mono ?_
  rintro e w3 ⟨rfl, hk⟩
  replace HE : Aside0 (Blk w3 (w.heap.size) 68 #[.float .f64 t, .int .i64 s, .int .i64 n, .int .i64 d, .int .i64 p]) := ⟨Blk.step blk hk⟩
  replace HB := Aside0.mk (below_step bel hk)
  have hsw3 := hk.size
  try simp at hsw3
  clear hk
  obtain ⟨cE0, cE1, cE2, cE3, cE4, fE⟩ := HE.out.c5
  go_wp2_with fail
  clear cE0 cE1 cE2 cE3 cE4 fE
  refine (CD.out _).mono ?_
  rintro e w4 ⟨rfl, hk⟩
  replace HE : Aside0 (Blk w4 (w.heap.size) 68 #[.float .f64 t, .int .i64 s, .int .i64 n, .int .i64 d, .int .i64 p]) := ⟨Blk.step blk hk⟩
  replace HB := Aside0.mk (below_step bel hk)
  have hsw4 := hk.size
  try simp at hsw4
  clear hk
  obtain ⟨cE0, cE1, cE2, cE3, cE4, fE⟩ := HE.out.c5
  go_wp2_with fail
  clear cE0 cE1 cE2 cE3 cE4 fE
  refine (CR.out _).mono ?_
  rintro e w5 ⟨rfl, hk⟩
  replace HE : Aside0 (Blk w5 (w.heap.size) 68 #[.float .f64 t, .int .i64 s, .int .i64 n, .int .i64 d, .int .i64 p]) := ⟨Blk.step blk hk⟩
  replace HB := Aside0.mk (below_step bel hk)
  have hsw5 := hk.size
  try simp at hsw5
  clear hk
  obtain ⟨cE0, cE1, cE2, cE3, cE4, fE⟩ := HE.out.c5
  go_wp2_with fail
  clear cE0 cE1 cE2 cE3 cE4 fE
  refine (CL.out _).mono ?_
  rintro e w6 ⟨rfl, hk⟩
  replace HE : Aside0 (Blk w6 (w.heap.size) 68 #[.float .f64 t, .int .i64 s, .int .i64 n, .int .i64 d, .int .i64 p]) := ⟨Blk.step blk hk⟩
  replace HB := Aside0.mk (below_step bel hk)
  have hsw6 := hk.size
  try simp at hsw6
  clear hk
  obtain ⟨cE0, cE1, cE2, cE3, cE4, fE⟩ := HE.out.c5
  go_wp2_with fail
  clear cE0 cE1 cE2 cE3 cE4 fE
  refine (CT.out _).mono ?_
  rintro e w7 ⟨rfl, hk⟩
  replace HE : Aside0 (Blk w7 (w.heap.size) 68 #[.float .f64 t, .int .i64 s, .int .i64 n, .int .i64 d, .int .i64 p]) := ⟨Blk.step blk hk⟩
  replace HB := Aside0.mk (below_step bel hk)
  have hsw7 := hk.size
  try simp at hsw7
  clear hk
  obtain ⟨cE0, cE1, cE2, cE3, cE4, fE⟩ := HE.out.c5
  go_wp2_with fail
  clear cE0 cE1 cE2 cE3 cE4 fE
  refine (RecF.awake_calls _).mono ?_
  rintro e w8 ⟨rfl, hk⟩
  replace HE : Aside0 (Blk w8 (w.heap.size) 68 #[.float .f64 t, .int .i64 s, .int .i64 n, .int .i64 d, .int .i64 p]) := ⟨Blk.step blk hk⟩
  replace HB := Aside0.mk (below_step bel hk)
  have hsw8 := hk.size
  try simp at hsw8
  clear hk
  obtain ⟨cE0, cE1, cE2, cE3, cE4, fE⟩ := HE.out.c5
  go_wp2_with fail
  go_ret
  exact ⟨rfl, bel⟩


theorem law (t : Nat) (s n d p : Int) (anti : Bool) (f : Int) {w : World} (h1 : (Lit.float .f64 t).wf = true) (h2 : (Lit.int .i64 s).wf = true) (h3 : (Lit.int .i64 n).wf = true) (h4 : (Lit.int .i64 d).wf = true) (h5 : (Lit.int .i64 p).wf = true) (h6 : (Lit.int .i64 f).wf = true) :
    Calls Try.prog 20 #[.agg #[.float .f64 t, .int .i64 s, .int .i64 n, .int .i64 d, .int .i64 p], .bool anti, .int .i64 f] w fun e w' => e = .returned (.bool true) ∧ Below w.heap.size w w' := by
  have ht : t < 18446744073709551616 := of_decide_eq_true h1
  have hp := wf_i64 h5
  have CK := fun w => key_calls t s n d p ht hp w
  have CS := fun w => put_calls t s n d p ht hp w
  have CD := fun w => done_calls t s n d p f ht hp w
  have CR := fun w => right57_calls t s n d p w
  have hz := evS_size t s n d p
  by_cases hr : rightB t s n d = true
  · rw [if_pos hr, if_pos hr] at CK CS
    rw [hr] at CR
    have CL := fun w => key75_calls t s n d p ht hp hr w
    have CT := fun w => event76_calls t s n d p ht hp hr w
    have CMt : Gives 59 #[.agg #[.float .f64 t, .int .i64 s, .int .i64 n, .int .i64 d, .int .i64 p, .bool true]] (.tuple #[.string (⟨#[1]⟩ ++ evS t s n d p), .int .i64 0]) := fun w => msg_true_ok t s n d p _ w (by omega) ⟨CS⟩
    have CMf : Gives 59 #[.agg #[.float .f64 t, .int .i64 s, .int .i64 n, .int .i64 d, .int .i64 p, .bool false]] (.tuple #[.string (⟨#[0]⟩ ++ evS t s n d p), .int .i64 0]) := fun w => msg_false_ok t s n d p _ w (by omega) ⟨CS⟩
    by_cases h0 : 0 ≤ f
    · by_cases h7 : f ≤ 7
      · rw [show dnS t s n d p f = (evS t s n d p ++ strOfNums [f], 0) from if_pos ⟨hr, h0, h7⟩] at CD
        cases anti
        · exact walk_f_in t s n d p f false _ _ w (by omega) ⟨CK⟩ ⟨CS⟩ ⟨CMf⟩ ⟨CD⟩ ⟨CR⟩ ⟨CL⟩ ⟨CT⟩ ⟨decide_eq_false (by omega), decide_eq_false (by omega)⟩ ⟨h0, h7⟩
        · exact walk_t_in t s n d p f true _ _ w (by omega) ⟨CK⟩ ⟨CS⟩ ⟨CMt⟩ ⟨CD⟩ ⟨CR⟩ ⟨CL⟩ ⟨CT⟩ ⟨decide_eq_false (by omega), decide_eq_false (by omega)⟩ ⟨h0, h7⟩
      · rw [show dnS t s n d p f = (⟨#[]⟩, 2) from if_neg fun h => h7 h.2.2] at CD
        cases anti
        · exact walk_f_big t s n d p f false _ _ w (by omega) ⟨CK⟩ ⟨CS⟩ ⟨CMf⟩ ⟨CD⟩ ⟨CR⟩ ⟨CL⟩ ⟨CT⟩ ⟨decide_eq_false (by omega), decide_eq_true (by omega)⟩
        · exact walk_t_big t s n d p f true _ _ w (by omega) ⟨CK⟩ ⟨CS⟩ ⟨CMt⟩ ⟨CD⟩ ⟨CR⟩ ⟨CL⟩ ⟨CT⟩ ⟨decide_eq_false (by omega), decide_eq_true (by omega)⟩
    · rw [show dnS t s n d p f = (⟨#[]⟩, 2) from if_neg fun h => h0 h.2.1] at CD
      cases anti
      · exact walk_f_neg t s n d p f false _ _ w (by omega) ⟨CK⟩ ⟨CS⟩ ⟨CMf⟩ ⟨CD⟩ ⟨CR⟩ ⟨CL⟩ ⟨CT⟩ (decide_eq_true (by omega))
      · exact walk_t_neg t s n d p f true _ _ w (by omega) ⟨CK⟩ ⟨CS⟩ ⟨CMt⟩ ⟨CD⟩ ⟨CR⟩ ⟨CL⟩ ⟨CT⟩ (decide_eq_true (by omega))
  · rw [if_neg hr, if_neg hr] at CK CS
    rw [Bool.eq_false_iff.2 hr] at CR
    rw [show dnS t s n d p f = (⟨#[]⟩, 2) from if_neg fun h => hr h.1] at CD
    refine walk_no t s n d p f anti ⟨#[]⟩ ⟨#[]⟩ w (by decide) ⟨CK⟩ ⟨CS⟩ ⟨?_⟩ ⟨CD⟩ ⟨CR⟩
    cases anti
    · exact fun w => msg_false_no t s n d p _ w (by decide) ⟨CS⟩
    · exact fun w => msg_true_no t s n d p _ w (by decide) ⟨CS⟩

end Go.Proofs.Ytlbjcdfognofgaa.EventsR
