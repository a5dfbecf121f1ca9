/- The walk of RecStates: every state's bytes, and what any bytes are, read as one. -/
import Derived.Test.YtlbjcdfognofgaaRecP
import Derived.Deep.DrawnRows
import Derived.Deep.RegionHeld3
namespace Go.Proofs.Ytlbjcdfognofgaa.StatesR
open Go.RowKit Go.Proofs.YtlbjcdfognofgaaW.PrintWords Go.Proofs.YtlbjcdfognofgaaW.PrintLast Go.Proofs.YtlbjcdfognofgaaW.PrintMore Go.Proofs.Ytlbjcdfognofgaa.Be Go.Proofs.Ytlbjcdfognofgaa.Fl Go.Proofs.Ytlbjcdfognofgaa.StampA Go.Proofs.Ytlbjcdfognofgaa.StampB Go.Proofs.Ytlbjcdfognofgaa.StampC Go.Proofs.Ytlbjcdfognofgaa.StampD Go.Proofs.Ytlbjcdfognofgaa.StampK Go.Proofs.Ytlbjcdfognofgaa.SRec Go.Proofs.Ytlbjcdfognofgaa.StampQ Go.Proofs.Ytlbjcdfognofgaa.StampR Go.Proofs.Ytlbjcdfognofgaa.Wk Go.Proofs.Ytlbjcdfognofgaa.RecA Go.Proofs.Ytlbjcdfognofgaa.RecB Go.Proofs.Ytlbjcdfognofgaa.RecC Go.Proofs.Ytlbjcdfognofgaa.RecD Go.Proofs.Ytlbjcdfognofgaa.RecE Go.Proofs.Ytlbjcdfognofgaa.RecF Go.Proofs.Ytlbjcdfognofgaa.PRecStates Go.Proofs.Ytlbjcdfognofgaa.RecM Go.Proofs.Ytlbjcdfognofgaa.RecN Go.Proofs.Ytlbjcdfognofgaa.RecP
attribute [local go_sem ↓] Go.wp_at_zero Go.wp_at_succ
attribute [local go_sem] run_store_float
set_option linter.unusedVariables false


theorem kc {W : World} {A : Option Addr} {n : Nat} {xs : List Int} (h : Kd.C (Kd.int .i64) W A n xs := by repeat (first | (with_reducible exact Aside0.out (by assumption)) | (with_reducible apply Kd.C_alloc) | (with_reducible refine Kd.C_below ?_ (pw_below_drewN (Below.refl _ _) _)) | (refine Kd.C_below ?_ (below_drew1 (Below.refl _ _))))) : Kd.C (Kd.int .i64) W A n xs := h


set_option maxRecDepth 100000 in
set_option maxHeartbeats 1000000 in
theorem walk_many (s : ByteArray) (A : Option Addr) (n c : Nat) (S D : Int) (w : World) (h : 60 < n) :
    Calls Try.prog 9 #[.agg #[.slice A n c, .int .i64 S, .int .i64 D], .string s] w fun e w' => e = .returned (.bool true) ∧ Below w.heap.size w w' := by
  have hu2 := Try.underlying48
  have hd1 : decide ((60 : Int) < (n : Int)) = true := decide_eq_true (by omega)
  have HB := Aside0.mk (below_alloc (Below.refl w.heap.size w) (.cells #[.slice A n c, .int .i64 S, .int .i64 D] 48))
  have HX := Aside0.mk (Blk.new w 48 #[.slice A n c, .int .i64 S, .int .i64 D])
  go_enter Try.func9, Try.ntmps9
  go_wp2_with fail
  refine (RecF.awake_calls _).mono ?_
  rintro e w1 ⟨rfl, hk⟩
  replace HB := Aside0.mk (below_step bel hk)
  have hsw1 := hk.size
  try simp at hsw1
  clear hk
  go_wp2_with fail
  go_ret
  exact ⟨rfl, bel⟩


set_option maxRecDepth 100000 in
set_option maxHeartbeats 1000000 in
theorem walk_long (s : ByteArray) (A : Option Addr) (n c : Nat) (S D : Int) (w : World) (h0 : n ≤ 60) (h : 3000 < s.size) :
    Calls Try.prog 9 #[.agg #[.slice A n c, .int .i64 S, .int .i64 D], .string s] w fun e w' => e = .returned (.bool true) ∧ Below w.heap.size w w' := by
  have hu2 := Try.underlying48
  have hd1 : decide ((60 : Int) < (n : Int)) = false := decide_eq_false (by omega)
  have hd2 : decide ((3000 : Int) < (s.size : Int)) = true := decide_eq_true (by omega)
  have HB := Aside0.mk (below_alloc (Below.refl w.heap.size w) (.cells #[.slice A n c, .int .i64 S, .int .i64 D] 48))
  have HX := Aside0.mk (Blk.new w 48 #[.slice A n c, .int .i64 S, .int .i64 D])
  go_enter Try.func9, Try.ntmps9
  go_wp2_with fail
  refine (RecF.awake_calls _).mono ?_
  rintro e w1 ⟨rfl, hk⟩
  replace HB := Aside0.mk (below_step bel hk)
  have hsw1 := hk.size
  try simp at hsw1
  clear hk
  go_wp2_with fail
  go_ret
  exact ⟨rfl, bel⟩


set_option maxRecDepth 100000 in
set_option maxHeartbeats 8000000 in
theorem walk_no (s : ByteArray) (A : Option Addr) (c : Nat) (x l : List Int) (S D p q e : Int) (w : World) (hn : x.length ≤ 60) (hs : s.size ≤ 3000) (hl : l.length ≤ 8) (hc : x.length ≤ c) (hK : Kd.C (Kd.int .i64) w A x.length x)
    (CP : Aside0 (∀ W, Kd.C (Kd.int .i64) W A x.length x → Calls Try.prog 42 #[.agg #[.slice A x.length c, .int .i64 S, .int .i64 D]] W fun e w' => e = .returned (.tuple #[.string ⟨#[]⟩, .int .i64 2]) ∧ Below W.heap.size W w'))
    (CG : Aside0 (∀ W, Calls Try.prog 43 #[.string s] W fun e' w' => ∃ (B : Option Addr) (d : Nat), e' = .returned (.tuple #[.agg #[.slice B l.length d, .int .i64 p, .int .i64 q], .int .i64 e]) ∧ (l.length ≤ d ∧ Kd.C (Kd.int .i64) w' B l.length l) ∧ Below W.heap.size W w')) (CH : Aside0 (∀ W, Calls Try.prog 44 #[.string s] W fun e' w' => ∃ (B : Option Addr) (d : Nat), e' = .returned (.tuple #[.agg #[.slice B l.length d, .int .i64 p, .int .i64 q], .int .i64 e]) ∧ (l.length ≤ d ∧ Kd.C (Kd.int .i64) w' B l.length l) ∧ Below W.heap.size W w'))
    (CR : Aside0 (∀ W, Kd.C (Kd.int .i64) W A x.length x → Calls Try.prog 46 #[.agg #[.slice A x.length c, .int .i64 S, .int .i64 D]] W fun e w' => e = .returned (.bool false) ∧ Below W.heap.size W w')) :
    Calls Try.prog 9 #[.agg #[.slice A x.length c, .int .i64 S, .int .i64 D], .string s] w fun e w' => e = .returned (.bool true) ∧ Below w.heap.size w w' := by
  have hu2 := Try.underlying48
  have hd1 : decide ((60 : Int) < (x.length : Int)) = false := decide_eq_false (by omega)
  have hd2 : decide ((3000 : Int) < (s.size : Int)) = false := decide_eq_false (by omega)
  have HL := Aside0.mk hl
  have HC := Aside0.mk hc
  have HN := Aside0.mk hn
  clear hs hl hc hn
  have KX := Aside0.mk hK
  clear hK
  replace KX : Aside0 (Kd.C (Kd.int .i64) (w.alloc (.cells #[.slice A x.length c, .int .i64 S, .int .i64 D] 48)) A x.length x) := ⟨kc⟩
  have HB := Aside0.mk (below_alloc (Below.refl w.heap.size w) (.cells #[.slice A x.length c, .int .i64 S, .int .i64 D] 48))
  have HX := Aside0.mk (Blk.new w 48 #[.slice A x.length c, .int .i64 S, .int .i64 D])
  go_enter Try.func9, Try.ntmps9
  go_wp2_with fail
  refine (CP.out _ kc).mono ?_
  rintro e w1 ⟨rfl, hk⟩
  replace HX : Aside0 (Blk w1 (w.heap.size) 48 #[.slice A x.length c, .int .i64 S, .int .i64 D]) := ⟨Blk.step blk hk⟩
  replace KX : Aside0 (Kd.C (Kd.int .i64) w1 A x.length x) := ⟨Kd.C_below kc hk⟩
  replace HB := Aside0.mk (below_step bel hk)
  have hsw1 := hk.size
  try simp at hsw1
  clear hk
  obtain ⟨cX0, cX1, cX2, fX⟩ := HX.out.c3
  have nXw1 : w.heap.size < w1.heap.size := by omega
  have uXw1 : ¬ w.heap.size = w1.heap.size := by omega
  go_wp2_with fail
  clear cX0 cX1 cX2 fX
  refine (CG.out _).mono ?_
  rintro e w2 ⟨B1, d1, rfl, ⟨hd, hK⟩, hk⟩
  replace HX : Aside0 (Blk w2 (w.heap.size) 48 #[.slice A x.length c, .int .i64 S, .int .i64 D]) := ⟨Blk.step blk hk⟩
  replace KX : Aside0 (Kd.C (Kd.int .i64) w2 A x.length x) := ⟨Kd.C_below kc hk⟩
  replace HB := Aside0.mk (below_step bel hk)
  have hsw2 := hk.size
  try simp at hsw2
  clear hk
  have HYc := Aside0.mk hd
  have KY := Aside0.mk hK
  clear hd hK
  obtain ⟨cX0, cX1, cX2, fX⟩ := HX.out.c3
  have nXw2 : w.heap.size < w2.heap.size := by omega
  have uXw2 : ¬ w.heap.size = w2.heap.size := by omega
  have HY := Aside0.mk (Blk.new w2 48 #[.slice B1 l.length d1, .int .i64 p, .int .i64 q])
  go_wp2_with fail
  clear cX0 cX1 cX2 fX
  refine (CH.out _).mono ?_
  rintro e w3 ⟨B2, d2, rfl, ⟨hd, hK⟩, hk⟩
  replace HX : Aside0 (Blk w3 (w.heap.size) 48 #[.slice A x.length c, .int .i64 S, .int .i64 D]) := ⟨Blk.step blk hk⟩
  replace HY : Aside0 (Blk w3 (w2.heap.size) 48 #[.slice B1 l.length d1, .int .i64 p, .int .i64 q]) := ⟨Blk.step blk hk⟩
  replace KX : Aside0 (Kd.C (Kd.int .i64) w3 A x.length x) := ⟨Kd.C_below kc hk⟩
  replace KY : Aside0 (Kd.C (Kd.int .i64) w3 B1 l.length l) := ⟨Kd.C_below kc hk⟩
  replace HB := Aside0.mk (below_step bel hk)
  have hsw3 := hk.size
  try simp at hsw3
  clear hk
  have HZc := Aside0.mk hd
  have KZ := Aside0.mk hK
  clear hd hK
  obtain ⟨cX0, cX1, cX2, fX⟩ := HX.out.c3
  obtain ⟨cY0, cY1, cY2, fY⟩ := HY.out.c3
  have nXw3 : w.heap.size < w3.heap.size := by omega
  have uXw3 : ¬ w.heap.size = w3.heap.size := by omega
  have nYw3 : w2.heap.size < w3.heap.size := by omega
  have uYw3 : ¬ w2.heap.size = w3.heap.size := by omega
  have HZ := Aside0.mk (Blk.new w3 48 #[.slice B2 l.length d2, .int .i64 p, .int .i64 q])
  go_wp2_with fail
  clear cX0 cX1 cX2 fX cY0 cY1 cY2 fY
  refine (ref45_calls B1 B2 d1 d2 l p q _ kc HYc.out kc HZc.out (by have := HL.out; omega)).mono ?_
  rintro e w4 ⟨rfl, hk⟩
  replace HX : Aside0 (Blk w4 (w.heap.size) 48 #[.slice A x.length c, .int .i64 S, .int .i64 D]) := ⟨Blk.step blk hk⟩
  replace KX : Aside0 (Kd.C (Kd.int .i64) w4 A x.length x) := ⟨Kd.C_below kc hk⟩
  replace HB := Aside0.mk (below_step bel hk)
  have hsw4 := hk.size
  try simp at hsw4
  clear hk
  obtain ⟨cX0, cX1, cX2, fX⟩ := HX.out.c3
  have nXw4 : w.heap.size < w4.heap.size := by omega
  have uXw4 : ¬ w.heap.size = w4.heap.size := by omega
  go_wp2_with fail
  clear cX0 cX1 cX2 fX
  refine (RecF.awake_calls _).mono ?_
  rintro e w5 ⟨rfl, hk⟩
  replace HX : Aside0 (Blk w5 (w.heap.size) 48 #[.slice A x.length c, .int .i64 S, .int .i64 D]) := ⟨Blk.step blk hk⟩
  replace KX : Aside0 (Kd.C (Kd.int .i64) w5 A x.length x) := ⟨Kd.C_below kc hk⟩
  replace HB := Aside0.mk (below_step bel hk)
  have hsw5 := hk.size
  try simp at hsw5
  clear hk
  obtain ⟨cX0, cX1, cX2, fX⟩ := HX.out.c3
  have nXw5 : w.heap.size < w5.heap.size := by omega
  have uXw5 : ¬ w.heap.size = w5.heap.size := by omega
  go_wp2_with fail
  clear cX0 cX1 cX2 fX
  refine (CR.out _ kc).mono ?_
  rintro e w6 ⟨rfl, hk⟩
  replace HX : Aside0 (Blk w6 (w.heap.size) 48 #[.slice A x.length c, .int .i64 S, .int .i64 D]) := ⟨Blk.step blk hk⟩
  replace KX : Aside0 (Kd.C (Kd.int .i64) w6 A x.length x) := ⟨Kd.C_below kc hk⟩
  replace HB := Aside0.mk (below_step bel hk)
  have hsw6 := hk.size
  try simp at hsw6
  clear hk
  obtain ⟨cX0, cX1, cX2, fX⟩ := HX.out.c3
  have nXw6 : w.heap.size < w6.heap.size := by omega
  have uXw6 : ¬ w.heap.size = w6.heap.size := by omega
  go_wp2_with fail
  go_ret
  exact ⟨rfl, bel⟩


set_option maxRecDepth 100000 in
set_option maxHeartbeats 8000000 in
theorem walk_ok (s P : ByteArray) (A : Option Addr) (c : Nat) (x l : List Int) (S D p q e : Int) (w : World) (hn : x.length ≤ 60) (hs : s.size ≤ 3000) (hl : l.length ≤ 8) (hc : x.length ≤ c) (hK : Kd.C (Kd.int .i64) w A x.length x)
    (CP : Aside0 (∀ W, Kd.C (Kd.int .i64) W A x.length x → Calls Try.prog 42 #[.agg #[.slice A x.length c, .int .i64 S, .int .i64 D]] W fun e w' => e = .returned (.tuple #[.string P, .int .i64 0]) ∧ Below W.heap.size W w'))
    (CG : Aside0 (∀ W, Calls Try.prog 43 #[.string s] W fun e' w' => ∃ (B : Option Addr) (d : Nat), e' = .returned (.tuple #[.agg #[.slice B l.length d, .int .i64 p, .int .i64 q], .int .i64 e]) ∧ (l.length ≤ d ∧ Kd.C (Kd.int .i64) w' B l.length l) ∧ Below W.heap.size W w')) (CH : Aside0 (∀ W, Calls Try.prog 44 #[.string s] W fun e' w' => ∃ (B : Option Addr) (d : Nat), e' = .returned (.tuple #[.agg #[.slice B l.length d, .int .i64 p, .int .i64 q], .int .i64 e]) ∧ (l.length ≤ d ∧ Kd.C (Kd.int .i64) w' B l.length l) ∧ Below W.heap.size W w'))
    (CR : Aside0 (∀ W, Kd.C (Kd.int .i64) W A x.length x → Calls Try.prog 46 #[.agg #[.slice A x.length c, .int .i64 S, .int .i64 D]] W fun e w' => e = .returned (.bool true) ∧ Below W.heap.size W w'))
    (CI : Aside0 (∀ W, Calls Try.prog 43 #[.string P] W fun e' w' => ∃ (B : Option Addr) (d : Nat), e' = .returned (.tuple #[.agg #[.slice B x.length d, .int .i64 S, .int .i64 D], .int .i64 0]) ∧ (x.length ≤ d ∧ Kd.C (Kd.int .i64) w' B x.length x) ∧ Below W.heap.size W w')) (CS : Aside0 (∀ W, Kd.C (Kd.int .i64) W A x.length x → Calls Try.prog 47 #[.agg #[.slice A x.length c, .int .i64 S, .int .i64 D]] W fun e w' => e = .returned (.string P) ∧ Below W.heap.size W w')) :
    Calls Try.prog 9 #[.agg #[.slice A x.length c, .int .i64 S, .int .i64 D], .string s] w fun e w' => e = .returned (.bool true) ∧ Below w.heap.size w w' := by
  have hu2 := Try.underlying48
  have hd1 : decide ((60 : Int) < (x.length : Int)) = false := decide_eq_false (by omega)
  have hd2 : decide ((3000 : Int) < (s.size : Int)) = false := decide_eq_false (by omega)
  have HL := Aside0.mk hl
  have HC := Aside0.mk hc
  have HN := Aside0.mk hn
  clear hs hl hc hn
  have KX := Aside0.mk hK
  clear hK
  replace KX : Aside0 (Kd.C (Kd.int .i64) (w.alloc (.cells #[.slice A x.length c, .int .i64 S, .int .i64 D] 48)) A x.length x) := ⟨kc⟩
  have HB := Aside0.mk (below_alloc (Below.refl w.heap.size w) (.cells #[.slice A x.length c, .int .i64 S, .int .i64 D] 48))
  have HX := Aside0.mk (Blk.new w 48 #[.slice A x.length c, .int .i64 S, .int .i64 D])
  go_enter Try.func9, Try.ntmps9
  go_wp2_with fail
  refine (CP.out _ kc).mono ?_
  rintro e w1 ⟨rfl, hk⟩
  replace HX : Aside0 (Blk w1 (w.heap.size) 48 #[.slice A x.length c, .int .i64 S, .int .i64 D]) := ⟨Blk.step blk hk⟩
  replace KX : Aside0 (Kd.C (Kd.int .i64) w1 A x.length x) := ⟨Kd.C_below kc hk⟩
  replace HB := Aside0.mk (below_step bel hk)
  have hsw1 := hk.size
  try simp at hsw1
  clear hk
  obtain ⟨cX0, cX1, cX2, fX⟩ := HX.out.c3
  have nXw1 : w.heap.size < w1.heap.size := by omega
  have uXw1 : ¬ w.heap.size = w1.heap.size := by omega
  go_wp2_with fail
  clear cX0 cX1 cX2 fX
  refine (CG.out _).mono ?_
  rintro e w2 ⟨B1, d1, rfl, ⟨hd, hK⟩, hk⟩
  replace HX : Aside0 (Blk w2 (w.heap.size) 48 #[.slice A x.length c, .int .i64 S, .int .i64 D]) := ⟨Blk.step blk hk⟩
  replace KX : Aside0 (Kd.C (Kd.int .i64) w2 A x.length x) := ⟨Kd.C_below kc hk⟩
  replace HB := Aside0.mk (below_step bel hk)
  have hsw2 := hk.size
  try simp at hsw2
  clear hk
  have HYc := Aside0.mk hd
  have KY := Aside0.mk hK
  clear hd hK
  obtain ⟨cX0, cX1, cX2, fX⟩ := HX.out.c3
  have nXw2 : w.heap.size < w2.heap.size := by omega
  have uXw2 : ¬ w.heap.size = w2.heap.size := by omega
  have HY := Aside0.mk (Blk.new w2 48 #[.slice B1 l.length d1, .int .i64 p, .int .i64 q])
  go_wp2_with fail
  clear cX0 cX1 cX2 fX
  refine (CH.out _).mono ?_
  rintro e w3 ⟨B2, d2, rfl, ⟨hd, hK⟩, hk⟩
  replace HX : Aside0 (Blk w3 (w.heap.size) 48 #[.slice A x.length c, .int .i64 S, .int .i64 D]) := ⟨Blk.step blk hk⟩
  replace HY : Aside0 (Blk w3 (w2.heap.size) 48 #[.slice B1 l.length d1, .int .i64 p, .int .i64 q]) := ⟨Blk.step blk hk⟩
  replace KX : Aside0 (Kd.C (Kd.int .i64) w3 A x.length x) := ⟨Kd.C_below kc hk⟩
  replace KY : Aside0 (Kd.C (Kd.int .i64) w3 B1 l.length l) := ⟨Kd.C_below kc hk⟩
  replace HB := Aside0.mk (below_step bel hk)
  have hsw3 := hk.size
  try simp at hsw3
  clear hk
  have HZc := Aside0.mk hd
  have KZ := Aside0.mk hK
  clear hd hK
  obtain ⟨cX0, cX1, cX2, fX⟩ := HX.out.c3
  obtain ⟨cY0, cY1, cY2, fY⟩ := HY.out.c3
  have nXw3 : w.heap.size < w3.heap.size := by omega
  have uXw3 : ¬ w.heap.size = w3.heap.size := by omega
  have nYw3 : w2.heap.size < w3.heap.size := by omega
  have uYw3 : ¬ w2.heap.size = w3.heap.size := by omega
  have HZ := Aside0.mk (Blk.new w3 48 #[.slice B2 l.length d2, .int .i64 p, .int .i64 q])
  go_wp2_with fail
  clear cX0 cX1 cX2 fX cY0 cY1 cY2 fY
  refine (ref45_calls B1 B2 d1 d2 l p q _ kc HYc.out kc HZc.out (by have := HL.out; omega)).mono ?_
  rintro e w4 ⟨rfl, hk⟩
  replace HX : Aside0 (Blk w4 (w.heap.size) 48 #[.slice A x.length c, .int .i64 S, .int .i64 D]) := ⟨Blk.step blk hk⟩
  replace KX : Aside0 (Kd.C (Kd.int .i64) w4 A x.length x) := ⟨Kd.C_below kc hk⟩
  replace HB := Aside0.mk (below_step bel hk)
  have hsw4 := hk.size
  try simp at hsw4
  clear hk
  obtain ⟨cX0, cX1, cX2, fX⟩ := HX.out.c3
  have nXw4 : w.heap.size < w4.heap.size := by omega
  have uXw4 : ¬ w.heap.size = w4.heap.size := by omega
  go_wp2_with fail
  clear cX0 cX1 cX2 fX
  refine (RecF.awake_calls _).mono ?_
  rintro e w5 ⟨rfl, hk⟩
  replace HX : Aside0 (Blk w5 (w.heap.size) 48 #[.slice A x.length c, .int .i64 S, .int .i64 D]) := ⟨Blk.step blk hk⟩
  replace KX : Aside0 (Kd.C (Kd.int .i64) w5 A x.length x) := ⟨Kd.C_below kc hk⟩
  replace HB := Aside0.mk (below_step bel hk)
  have hsw5 := hk.size
  try simp at hsw5
  clear hk
  obtain ⟨cX0, cX1, cX2, fX⟩ := HX.out.c3
  have nXw5 : w.heap.size < w5.heap.size := by omega
  have uXw5 : ¬ w.heap.size = w5.heap.size := by omega
  go_wp2_with fail
  clear cX0 cX1 cX2 fX
  refine (CR.out _ kc).mono ?_
  rintro e w6 ⟨rfl, hk⟩
  replace HX : Aside0 (Blk w6 (w.heap.size) 48 #[.slice A x.length c, .int .i64 S, .int .i64 D]) := ⟨Blk.step blk hk⟩
  replace KX : Aside0 (Kd.C (Kd.int .i64) w6 A x.length x) := ⟨Kd.C_below kc hk⟩
  replace HB := Aside0.mk (below_step bel hk)
  have hsw6 := hk.size
  try simp at hsw6
  clear hk
  obtain ⟨cX0, cX1, cX2, fX⟩ := HX.out.c3
  have nXw6 : w.heap.size < w6.heap.size := by omega
  have uXw6 : ¬ w.heap.size = w6.heap.size := by omega
  go_wp2_with fail
  clear cX0 cX1 cX2 fX
  refine (CI.out _).mono ?_
  rintro e w7 ⟨B3, d3, rfl, ⟨hd, hK⟩, hk⟩
  replace HX : Aside0 (Blk w7 (w.heap.size) 48 #[.slice A x.length c, .int .i64 S, .int .i64 D]) := ⟨Blk.step blk hk⟩
  replace KX : Aside0 (Kd.C (Kd.int .i64) w7 A x.length x) := ⟨Kd.C_below kc hk⟩
  replace HB := Aside0.mk (below_step bel hk)
  have hsw7 := hk.size
  try simp at hsw7
  clear hk
  have HVc := Aside0.mk hd
  have KV := Aside0.mk hK
  clear hd hK
  obtain ⟨cX0, cX1, cX2, fX⟩ := HX.out.c3
  have nXw7 : w.heap.size < w7.heap.size := by omega
  have uXw7 : ¬ w.heap.size = w7.heap.size := by omega
  have HV := Aside0.mk (Blk.new w7 48 #[.slice B3 x.length d3, .int .i64 S, .int .i64 D])
  go_wp2_with fail
  clear cX0 cX1 cX2 fX
  refine (CS.out _ kc).mono ?_
  rintro e w8 ⟨rfl, hk⟩
  replace HX : Aside0 (Blk w8 (w.heap.size) 48 #[.slice A x.length c, .int .i64 S, .int .i64 D]) := ⟨Blk.step blk hk⟩
  replace HV : Aside0 (Blk w8 (w7.heap.size) 48 #[.slice B3 x.length d3, .int .i64 S, .int .i64 D]) := ⟨Blk.step blk hk⟩
  replace KX : Aside0 (Kd.C (Kd.int .i64) w8 A x.length x) := ⟨Kd.C_below kc hk⟩
  replace KV : Aside0 (Kd.C (Kd.int .i64) w8 B3 x.length x) := ⟨Kd.C_below kc hk⟩
  replace HB := Aside0.mk (below_step bel hk)
  have hsw8 := hk.size
  try simp at hsw8
  clear hk
  obtain ⟨cX0, cX1, cX2, fX⟩ := HX.out.c3
  obtain ⟨cV0, cV1, cV2, fV⟩ := HV.out.c3
  have nXw8 : w.heap.size < w8.heap.size := by omega
  have uXw8 : ¬ w.heap.size = w8.heap.size := by omega
  have nVw8 : w7.heap.size < w8.heap.size := by omega
  have uVw8 : ¬ w7.heap.size = w8.heap.size := by omega
  go_wp2_with fail
  clear cX0 cX1 cX2 fX cV0 cV1 cV2 fV
  refine (ref45_calls B3 A d3 c x S D _ kc HVc.out kc HC.out (by have := HN.out; omega)).mono ?_
  rintro e w9 ⟨rfl, hk⟩
  replace HX : Aside0 (Blk w9 (w.heap.size) 48 #[.slice A x.length c, .int .i64 S, .int .i64 D]) := ⟨Blk.step blk hk⟩
  replace HV : Aside0 (Blk w9 (w7.heap.size) 48 #[.slice B3 x.length d3, .int .i64 S, .int .i64 D]) := ⟨Blk.step blk hk⟩
  replace KX : Aside0 (Kd.C (Kd.int .i64) w9 A x.length x) := ⟨Kd.C_below kc hk⟩
  replace KV : Aside0 (Kd.C (Kd.int .i64) w9 B3 x.length x) := ⟨Kd.C_below kc hk⟩
  replace HB := Aside0.mk (below_step bel hk)
  have hsw9 := hk.size
  try simp at hsw9
  clear hk
  obtain ⟨cX0, cX1, cX2, fX⟩ := HX.out.c3
  obtain ⟨cV0, cV1, cV2, fV⟩ := HV.out.c3
  go_wp2_with fail
  go_ret
  exact ⟨rfl, bel⟩


theorem law (A : Option Addr) (n c : Nat) (z : List Int) (S D : Int) (s : ByteArray) {w : World} (hr : IsRow .i64 w A n c z) (_ : (Lit.int .i64 S).wf = true) (_ : (Lit.int .i64 D).wf = true) (hz : s.size ≤ 140737488351232) :
    Calls Try.prog 9 #[.agg #[.slice A n c, .int .i64 S, .int .i64 D], .string s] w fun e w' => e = .returned (.bool true) ∧ Below w.heap.size w w' := by
  by_cases h1 : 60 < n
  · exact walk_many s A n c S D w h1
  by_cases h2 : 3000 < s.size
  · exact walk_long s A n c S D w (by omega) h2
  obtain ⟨x, rfl, hK0, _, hw, hc⟩ := ReadsInt.ofRowC hr
  have hK : Kd.C (Kd.int .i64) w A x.length x := Kd.C_of_reads (d := (0 : Int)) (h1 := fun _ => rfl) hK0
  have hx : ∀ n ∈ x, -9223372036854775808 ≤ n ∧ n < 9223372036854775808 := fun n h => wf_i64 (hw n h)
  have CG := fun W => get43_reads s hz W
  have CH := fun W => ref44_reads s hz W
  have hl := gst_len s
  generalize (gst s).1 = l at *
  generalize (gst s).2.1 = p at *
  generalize (gst s).2.2.1 = q at *
  generalize (gst s).2.2.2 = e at *
  by_cases ho : okS x.length S D = true
  · have h8 : x.length ≤ 8 := by
      simp only [okS, Bool.and_eq_true, decide_eq_true_eq] at ho
      exact ho.1
    have zP : (pst x S D).size ≤ 140737488351232 := by
      have z8 : ∀ n, (strOfNums (be8 n)).size = 8 := fun n => by rw [size_strOfNums, be8_length]
      rw [pst, ByteArray.size_append, ByteArray.size_append, z8, z8, size_strOfNums, List.length_append, lay8_length]
      simp only [List.length_cons, List.length_nil]
      omega
    have CI := fun W => get43_reads (pst x S D) zP W
    rw [gst_pst x S D ho hx] at CI
    have CS := fun W (h : Kd.C (Kd.int .i64) W A x.length x) => ref47_calls A c x S D W ho h hc hx
    have CP := fun W (h : Kd.C (Kd.int .i64) W A x.length x) => put42_ok A c x S D W ho h hx
    have CR := fun W (h : Kd.C (Kd.int .i64) W A x.length x) => ref46_calls A c x S D W h hc
    rw [ho] at CR
    generalize pst x S D = P at *
    exact walk_ok s P A c x l S D p q e w (by omega) (by omega) hl hc hK ⟨CP⟩ ⟨CG⟩ ⟨CH⟩ ⟨CR⟩ ⟨CI⟩ ⟨CS⟩
  · have ho' : okS x.length S D = false := by simpa using ho
    have CP := fun W (h : Kd.C (Kd.int .i64) W A x.length x) => put42_no A x.length c S D W ho'
    have CR := fun W (h : Kd.C (Kd.int .i64) W A x.length x) => ref46_calls A c x S D W h hc
    rw [ho'] at CR
    exact walk_no s A c x l S D p q e w (by omega) (by omega) hl hc hK ⟨CP⟩ ⟨CG⟩ ⟨CH⟩ ⟨CR⟩

end Go.Proofs.Ytlbjcdfognofgaa.StatesR
