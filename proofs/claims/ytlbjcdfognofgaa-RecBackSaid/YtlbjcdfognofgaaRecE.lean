/- Events, messages, what was handled, keys: read. -/
import Derived.Test.YtlbjcdfognofgaaRecD
import Derived.Deep.DrawnRows
import Derived.Deep.RegionHeld3
namespace Go.Proofs.Ytlbjcdfognofgaa.RecE
open Go.RowKit Go.Proofs.YtlbjcdfognofgaaW.PrintWords Go.Proofs.YtlbjcdfognofgaaW.PrintLast Go.Proofs.YtlbjcdfognofgaaW.PrintMore Go.Proofs.Ytlbjcdfognofgaa.Be Go.Proofs.Ytlbjcdfognofgaa.Fl Go.Proofs.Ytlbjcdfognofgaa.StampA Go.Proofs.Ytlbjcdfognofgaa.StampB Go.Proofs.Ytlbjcdfognofgaa.StampC Go.Proofs.Ytlbjcdfognofgaa.StampD Go.Proofs.Ytlbjcdfognofgaa.StampK Go.Proofs.Ytlbjcdfognofgaa.SRec Go.Proofs.Ytlbjcdfognofgaa.StampQ Go.Proofs.Ytlbjcdfognofgaa.StampR Go.Proofs.Ytlbjcdfognofgaa.Wk Go.Proofs.Ytlbjcdfognofgaa.RecA Go.Proofs.Ytlbjcdfognofgaa.RecB Go.Proofs.Ytlbjcdfognofgaa.RecC Go.Proofs.Ytlbjcdfognofgaa.RecD Go.Proofs.Ytlbjcdfognofgaa.PRecStates
attribute [local go_sem ↓] Go.wp_at_zero Go.wp_at_succ
attribute [local go_sem] run_store_float
set_option linter.unusedVariables false


set_option maxRecDepth 100000 in
set_option maxHeartbeats 4000000 in
theorem get61_s0 (s : ByteArray) (a a0 : Int) (b b0 R : Bool) (T : Nat) (S N D Y E A d : Int) (w : World)
    (CE : Aside0 (∀ g w0 w, IsS115 w0 w g s 0 false → Below w0.heap.size w0 w → Calls Try.prog 103 #[.pointer (some ⟨g, 0, none⟩), .func (.func 94) #[.pointer (some ⟨g, 0, none⟩)] #[]] w fun e w' => e = .returned (.agg #[.float .f64 T, .int .i64 S, .int .i64 N, .int .i64 D, .int .i64 Y]) ∧ IsS115 w0 w' g s a b ∧ Below w0.heap.size w0 w' ∧ KeepBut w w' g none))
    (CR : Aside0 (∀ w, Calls Try.prog 101 #[.agg #[.float .f64 T, .int .i64 S, .int .i64 N, .int .i64 D, .int .i64 Y]] w fun e w' => e = .returned (.bool R) ∧ Below w.heap.size w w'))
    (CF : Aside0 (∀ g w0 w, IsS115 w0 w g s a b → Below w0.heap.size w0 w → Calls Try.prog 96 #[.pointer (some ⟨g, 0, none⟩), .bool R] w fun e w' => e = .returned (.int .i64 E) ∧ IsS115 w0 w' g s a b ∧ Below w0.heap.size w0 w' ∧ KeepBut w w' g none))
    (hE : E ≤ 0 ∧ 0 ≤ E) :
    Calls Try.prog 61 #[.string s] w fun e w' => e = .returned (.tuple #[.agg #[.float .f64 T, .int .i64 S, .int .i64 N, .int .i64 D, .int .i64 Y], .int .i64 0]) ∧ Below w.heap.size w w' := by
  have hu2 := Try.underlying42
  have hu3 := Try.underlying68
  have hu4 := Try.underlying68
  obtain ⟨hE1, hE2⟩ := hE
  have hgr : ¬ w.heap.size + 1 = w.heap.size := by omega
  have hrg : ¬ w.heap.size = w.heap.size + 1 := by omega
  have hB0 : Below w.heap.size w w := Below.refl w.heap.size w
  have hB1 := below_alloc hB0 (.cells #[.float .f64 0, .int .i64 0, .int .i64 0, .int .i64 0, .int .i64 0] 68)
  have HB := Aside0.mk (below_alloc hB1 (.cells #[.string s, .int .i64 0, .bool false] 115))
  have HI : Aside0 (IsS115 w ((w.alloc (.cells #[.float .f64 0, .int .i64 0, .int .i64 0, .int .i64 0, .int .i64 0] 68)).alloc (.cells #[.string s, .int .i64 0, .bool false] 115)) (w.heap.size + 1) s 0 false) := Aside0.mk (by have h := IsS115.new w (w.alloc (.cells #[.float .f64 0, .int .i64 0, .int .i64 0, .int .i64 0, .int .i64 0] 68)) s 0 false hB1; simpa using h)
  have HR : Aside0 (Blk ((w.alloc (.cells #[.float .f64 0, .int .i64 0, .int .i64 0, .int .i64 0, .int .i64 0] 68)).alloc (.cells #[.string s, .int .i64 0, .bool false] 115)) (w.heap.size) 68 #[.float .f64 0, .int .i64 0, .int .i64 0, .int .i64 0, .int .i64 0]) := Aside0.mk (by have h := (Blk.new w 68 #[.float .f64 0, .int .i64 0, .int .i64 0, .int .i64 0, .int .i64 0]).alloc (.cells #[.string s, .int .i64 0, .bool false] 115); simpa using h)

  clear hB0 hB1
  go_enter Try.func61, Try.ntmps61
  go_wp2_with fail
  refine (CE.out (w.heap.size + 1) w _ iss bel).mono ?_
  rintro e w1 ⟨rfl, hi, hb, hk⟩
  replace HR : Aside0 (Blk w1 (w.heap.size) 68 #[.float .f64 0, .int .i64 0, .int .i64 0, .int .i64 0, .int .i64 0]) := ⟨Blk.kept blk hk far⟩
  replace HI := Aside0.mk hi
  replace HB := Aside0.mk hb
  have hsw1 := hk.1
  try simp at hsw1
  clear hk hi hb
  obtain ⟨cR0, cR1, cR2, cR3, cR4, fR⟩ := HR.out.c5
  have HX := Aside0.mk (Blk.new w1 68 #[.float .f64 T, .int .i64 S, .int .i64 N, .int .i64 D, .int .i64 Y])
  have hgx : ¬ w.heap.size + 1 = w1.heap.size := by omega
  have hrx : ¬ w.heap.size = w1.heap.size := by omega
  have hxr : ¬ w1.heap.size = w.heap.size := by omega
  have hxv : w.heap.size ≤ w1.heap.size := by omega
  go_wp2_with fail
  clear cR0 cR1 cR2 cR3 cR4 fR
  refine (CR.out _).mono ?_
  rintro e w2 ⟨rfl, hk⟩
  replace HR : Aside0 (Blk w2 (w.heap.size) 68 #[.float .f64 0, .int .i64 0, .int .i64 0, .int .i64 0, .int .i64 0]) := ⟨Blk.step blk hk⟩
  replace HX : Aside0 (Blk w2 (w1.heap.size) 68 #[.float .f64 T, .int .i64 S, .int .i64 N, .int .i64 D, .int .i64 Y]) := ⟨Blk.step blk hk⟩
  replace HI := Aside0.mk (IsS115.below iss hk)
  replace HB := Aside0.mk (below_step bel hk)
  have hsw2 := hk.size
  try simp at hsw2
  clear hk
  obtain ⟨cR0, cR1, cR2, cR3, cR4, fR⟩ := HR.out.c5
  obtain ⟨cX0, cX1, cX2, cX3, cX4, fX⟩ := HX.out.c5
  go_wp2_with fail
  clear cR0 cR1 cR2 cR3 cR4 fR cX0 cX1 cX2 cX3 cX4 fX
  refine (CF.out (w.heap.size + 1) w _ iss bel).mono ?_
  rintro e w3 ⟨rfl, hi, hb, hk⟩
  replace HR : Aside0 (Blk w3 (w.heap.size) 68 #[.float .f64 0, .int .i64 0, .int .i64 0, .int .i64 0, .int .i64 0]) := ⟨Blk.kept blk hk far⟩
  replace HX : Aside0 (Blk w3 (w1.heap.size) 68 #[.float .f64 T, .int .i64 S, .int .i64 N, .int .i64 D, .int .i64 Y]) := ⟨Blk.kept blk hk far⟩
  replace HI := Aside0.mk hi
  replace HB := Aside0.mk hb
  have hsw3 := hk.1
  try simp at hsw3
  clear hk hi hb
  obtain ⟨cR0, cR1, cR2, cR3, cR4, fR⟩ := HR.out.c5
  obtain ⟨cX0, cX1, cX2, cX3, cX4, fX⟩ := HX.out.c5
  go_wp2_with fail
  have hr3 := Try.results61
  refine bodyPost_ret (v := .tuple #[.agg #[.float .f64 T, .int .i64 S, .int .i64 N, .int .i64 D, .int .i64 Y], .int .i64 0]) (by simp [results, Try.results61, go_sem, *]) rfl ⟨rfl, bel⟩


set_option maxRecDepth 100000 in
set_option maxHeartbeats 4000000 in
theorem get61_s1 (s : ByteArray) (a a0 : Int) (b b0 R : Bool) (T : Nat) (S N D Y E A d : Int) (w : World)
    (CE : Aside0 (∀ g w0 w, IsS115 w0 w g s 0 false → Below w0.heap.size w0 w → Calls Try.prog 103 #[.pointer (some ⟨g, 0, none⟩), .func (.func 94) #[.pointer (some ⟨g, 0, none⟩)] #[]] w fun e w' => e = .returned (.agg #[.float .f64 T, .int .i64 S, .int .i64 N, .int .i64 D, .int .i64 Y]) ∧ IsS115 w0 w' g s a b ∧ Below w0.heap.size w0 w' ∧ KeepBut w w' g none))
    (CR : Aside0 (∀ w, Calls Try.prog 101 #[.agg #[.float .f64 T, .int .i64 S, .int .i64 N, .int .i64 D, .int .i64 Y]] w fun e w' => e = .returned (.bool R) ∧ Below w.heap.size w w'))
    (CF : Aside0 (∀ g w0 w, IsS115 w0 w g s a b → Below w0.heap.size w0 w → Calls Try.prog 96 #[.pointer (some ⟨g, 0, none⟩), .bool R] w fun e w' => e = .returned (.int .i64 E) ∧ IsS115 w0 w' g s a b ∧ Below w0.heap.size w0 w' ∧ KeepBut w w' g none))
    (hE : 1 ≤ E) :
    Calls Try.prog 61 #[.string s] w fun e w' => e = .returned (.tuple #[.agg #[.float .f64 0, .int .i64 0, .int .i64 0, .int .i64 0, .int .i64 0], .int .i64 E]) ∧ Below w.heap.size w w' := by
  have hu2 := Try.underlying42
  have hu3 := Try.underlying68
  have hu4 := Try.underlying68
  skip
  have hgr : ¬ w.heap.size + 1 = w.heap.size := by omega
  have hrg : ¬ w.heap.size = w.heap.size + 1 := by omega
  have hB0 : Below w.heap.size w w := Below.refl w.heap.size w
  have hB1 := below_alloc hB0 (.cells #[.float .f64 0, .int .i64 0, .int .i64 0, .int .i64 0, .int .i64 0] 68)
  have HB := Aside0.mk (below_alloc hB1 (.cells #[.string s, .int .i64 0, .bool false] 115))
  have HI : Aside0 (IsS115 w ((w.alloc (.cells #[.float .f64 0, .int .i64 0, .int .i64 0, .int .i64 0, .int .i64 0] 68)).alloc (.cells #[.string s, .int .i64 0, .bool false] 115)) (w.heap.size + 1) s 0 false) := Aside0.mk (by have h := IsS115.new w (w.alloc (.cells #[.float .f64 0, .int .i64 0, .int .i64 0, .int .i64 0, .int .i64 0] 68)) s 0 false hB1; simpa using h)
  have HR : Aside0 (Blk ((w.alloc (.cells #[.float .f64 0, .int .i64 0, .int .i64 0, .int .i64 0, .int .i64 0] 68)).alloc (.cells #[.string s, .int .i64 0, .bool false] 115)) (w.heap.size) 68 #[.float .f64 0, .int .i64 0, .int .i64 0, .int .i64 0, .int .i64 0]) := Aside0.mk (by have h := (Blk.new w 68 #[.float .f64 0, .int .i64 0, .int .i64 0, .int .i64 0, .int .i64 0]).alloc (.cells #[.string s, .int .i64 0, .bool false] 115); simpa using h)

  clear hB0 hB1
  go_enter Try.func61, Try.ntmps61
  go_wp2_with fail
  refine (CE.out (w.heap.size + 1) w _ iss bel).mono ?_
  rintro e w1 ⟨rfl, hi, hb, hk⟩
  replace HR : Aside0 (Blk w1 (w.heap.size) 68 #[.float .f64 0, .int .i64 0, .int .i64 0, .int .i64 0, .int .i64 0]) := ⟨Blk.kept blk hk far⟩
  replace HI := Aside0.mk hi
  replace HB := Aside0.mk hb
  have hsw1 := hk.1
  try simp at hsw1
  clear hk hi hb
  obtain ⟨cR0, cR1, cR2, cR3, cR4, fR⟩ := HR.out.c5
  have HX := Aside0.mk (Blk.new w1 68 #[.float .f64 T, .int .i64 S, .int .i64 N, .int .i64 D, .int .i64 Y])
  have hgx : ¬ w.heap.size + 1 = w1.heap.size := by omega
  have hrx : ¬ w.heap.size = w1.heap.size := by omega
  have hxr : ¬ w1.heap.size = w.heap.size := by omega
  have hxv : w.heap.size ≤ w1.heap.size := by omega
  go_wp2_with fail
  clear cR0 cR1 cR2 cR3 cR4 fR
  refine (CR.out _).mono ?_
  rintro e w2 ⟨rfl, hk⟩
  replace HR : Aside0 (Blk w2 (w.heap.size) 68 #[.float .f64 0, .int .i64 0, .int .i64 0, .int .i64 0, .int .i64 0]) := ⟨Blk.step blk hk⟩
  replace HX : Aside0 (Blk w2 (w1.heap.size) 68 #[.float .f64 T, .int .i64 S, .int .i64 N, .int .i64 D, .int .i64 Y]) := ⟨Blk.step blk hk⟩
  replace HI := Aside0.mk (IsS115.below iss hk)
  replace HB := Aside0.mk (below_step bel hk)
  have hsw2 := hk.size
  try simp at hsw2
  clear hk
  obtain ⟨cR0, cR1, cR2, cR3, cR4, fR⟩ := HR.out.c5
  obtain ⟨cX0, cX1, cX2, cX3, cX4, fX⟩ := HX.out.c5
  go_wp2_with fail
  clear cR0 cR1 cR2 cR3 cR4 fR cX0 cX1 cX2 cX3 cX4 fX
  refine (CF.out (w.heap.size + 1) w _ iss bel).mono ?_
  rintro e w3 ⟨rfl, hi, hb, hk⟩
  replace HR : Aside0 (Blk w3 (w.heap.size) 68 #[.float .f64 0, .int .i64 0, .int .i64 0, .int .i64 0, .int .i64 0]) := ⟨Blk.kept blk hk far⟩
  replace HX : Aside0 (Blk w3 (w1.heap.size) 68 #[.float .f64 T, .int .i64 S, .int .i64 N, .int .i64 D, .int .i64 Y]) := ⟨Blk.kept blk hk far⟩
  replace HI := Aside0.mk hi
  replace HB := Aside0.mk hb
  have hsw3 := hk.1
  try simp at hsw3
  clear hk hi hb
  obtain ⟨cR0, cR1, cR2, cR3, cR4, fR⟩ := HR.out.c5
  obtain ⟨cX0, cX1, cX2, cX3, cX4, fX⟩ := HX.out.c5
  go_wp2_with fail
  have hr3 := Try.results61
  refine bodyPost_ret (v := .tuple #[.agg #[.float .f64 0, .int .i64 0, .int .i64 0, .int .i64 0, .int .i64 0], .int .i64 E]) (by simp [results, Try.results61, go_sem, *]) rfl ⟨rfl, bel⟩


set_option maxRecDepth 100000 in
set_option maxHeartbeats 4000000 in
theorem get78_s0 (s : ByteArray) (a a0 : Int) (b b0 R : Bool) (T : Nat) (S N D Y E A d : Int) (w : World)
    (CE : Aside0 (∀ g q w0 W, IsS115 w0 W g s 0 false → Below w0.heap.size w0 W → Blk W q 3 #[.int .i64 d] → ¬ g = q → Calls Try.prog 103 #[.pointer (some ⟨g, 0, none⟩), .func (.func 106) #[] #[.pointer (some ⟨q, 0, none⟩)]] W fun e w' => e = .returned (.agg #[.float .f64 T, .int .i64 S, .int .i64 N, .int .i64 D, .int .i64 Y]) ∧ IsS115 w0 w' g s a b ∧ Below w0.heap.size w0 w' ∧ KeepBut W w' g none))
    (CR : Aside0 (∀ w, Calls Try.prog 101 #[.agg #[.float .f64 T, .int .i64 S, .int .i64 N, .int .i64 D, .int .i64 Y]] w fun e w' => e = .returned (.bool R) ∧ Below w.heap.size w w'))
    (CF : Aside0 (∀ g w0 w, IsS115 w0 w g s a b → Below w0.heap.size w0 w → Calls Try.prog 96 #[.pointer (some ⟨g, 0, none⟩), .bool R] w fun e w' => e = .returned (.int .i64 E) ∧ IsS115 w0 w' g s a b ∧ Below w0.heap.size w0 w' ∧ KeepBut w w' g none))
    (hE : E ≤ 0 ∧ 0 ≤ E) :
    Calls Try.prog 78 #[.string s, .int .i64 d] w fun e w' => e = .returned (.tuple #[.agg #[.float .f64 T, .int .i64 S, .int .i64 N, .int .i64 D, .int .i64 Y], .int .i64 0]) ∧ Below w.heap.size w w' := by
  have hu2 := Try.underlying42
  have hu3 := Try.underlying68
  have hu4 := Try.underlying68
  obtain ⟨hE1, hE2⟩ := hE
  have hgr : ¬ w.heap.size + 1 + 1 = w.heap.size + 1 := by omega
  have hrg : ¬ w.heap.size + 1 = w.heap.size + 1 + 1 := by omega
  have hB0 : Below w.heap.size w (w.alloc (.cells #[.int .i64 d] 3)) := below_alloc (Below.refl w.heap.size w) _
  have hB1 := below_alloc hB0 (.cells #[.float .f64 0, .int .i64 0, .int .i64 0, .int .i64 0, .int .i64 0] 68)
  have HB := Aside0.mk (below_alloc hB1 (.cells #[.string s, .int .i64 0, .bool false] 115))
  have HI : Aside0 (IsS115 w (((w.alloc (.cells #[.int .i64 d] 3)).alloc (.cells #[.float .f64 0, .int .i64 0, .int .i64 0, .int .i64 0, .int .i64 0] 68)).alloc (.cells #[.string s, .int .i64 0, .bool false] 115)) (w.heap.size + 1 + 1) s 0 false) := Aside0.mk (by have h := IsS115.new w ((w.alloc (.cells #[.int .i64 d] 3)).alloc (.cells #[.float .f64 0, .int .i64 0, .int .i64 0, .int .i64 0, .int .i64 0] 68)) s 0 false hB1; simpa using h)
  have HR : Aside0 (Blk (((w.alloc (.cells #[.int .i64 d] 3)).alloc (.cells #[.float .f64 0, .int .i64 0, .int .i64 0, .int .i64 0, .int .i64 0] 68)).alloc (.cells #[.string s, .int .i64 0, .bool false] 115)) (w.heap.size + 1) 68 #[.float .f64 0, .int .i64 0, .int .i64 0, .int .i64 0, .int .i64 0]) := Aside0.mk (by have h := (Blk.new (w.alloc (.cells #[.int .i64 d] 3)) 68 #[.float .f64 0, .int .i64 0, .int .i64 0, .int .i64 0, .int .i64 0]).alloc (.cells #[.string s, .int .i64 0, .bool false] 115); simpa using h)
  have HD := Aside0.mk (((Blk.new w 3 #[.int .i64 d]).alloc (.cells #[.float .f64 0, .int .i64 0, .int .i64 0, .int .i64 0, .int .i64 0] 68)).alloc (.cells #[.string s, .int .i64 0, .bool false] 115))
  clear hB0 hB1
  go_enter Try.func78, Try.ntmps78
  go_wp2_with fail
  refine (CE.out (w.heap.size + 1 + 1) (w.heap.size) w _ HI.out HB.out HD.out (by omega)).mono ?_
  rintro e w1 ⟨rfl, hi, hb, hk⟩
  replace HR : Aside0 (Blk w1 (w.heap.size + 1) 68 #[.float .f64 0, .int .i64 0, .int .i64 0, .int .i64 0, .int .i64 0]) := ⟨Blk.kept blk hk far⟩
  replace HI := Aside0.mk hi
  replace HB := Aside0.mk hb
  have hsw1 := hk.1
  try simp at hsw1
  clear hk hi hb
  obtain ⟨cR0, cR1, cR2, cR3, cR4, fR⟩ := HR.out.c5
  have HX := Aside0.mk (Blk.new w1 68 #[.float .f64 T, .int .i64 S, .int .i64 N, .int .i64 D, .int .i64 Y])
  have hgx : ¬ w.heap.size + 1 + 1 = w1.heap.size := by omega
  have hrx : ¬ w.heap.size + 1 = w1.heap.size := by omega
  have hxr : ¬ w1.heap.size = w.heap.size + 1 := by omega
  have hxv : w.heap.size ≤ w1.heap.size := by omega
  go_wp2_with fail
  clear cR0 cR1 cR2 cR3 cR4 fR
  refine (CR.out _).mono ?_
  rintro e w2 ⟨rfl, hk⟩
  replace HR : Aside0 (Blk w2 (w.heap.size + 1) 68 #[.float .f64 0, .int .i64 0, .int .i64 0, .int .i64 0, .int .i64 0]) := ⟨Blk.step blk hk⟩
  replace HX : Aside0 (Blk w2 (w1.heap.size) 68 #[.float .f64 T, .int .i64 S, .int .i64 N, .int .i64 D, .int .i64 Y]) := ⟨Blk.step blk hk⟩
  replace HI := Aside0.mk (IsS115.below iss hk)
  replace HB := Aside0.mk (below_step bel hk)
  have hsw2 := hk.size
  try simp at hsw2
  clear hk
  obtain ⟨cR0, cR1, cR2, cR3, cR4, fR⟩ := HR.out.c5
  obtain ⟨cX0, cX1, cX2, cX3, cX4, fX⟩ := HX.out.c5
  go_wp2_with fail
  clear cR0 cR1 cR2 cR3 cR4 fR cX0 cX1 cX2 cX3 cX4 fX
  refine (CF.out (w.heap.size + 1 + 1) w _ iss bel).mono ?_
  rintro e w3 ⟨rfl, hi, hb, hk⟩
  replace HR : Aside0 (Blk w3 (w.heap.size + 1) 68 #[.float .f64 0, .int .i64 0, .int .i64 0, .int .i64 0, .int .i64 0]) := ⟨Blk.kept blk hk far⟩
  replace HX : Aside0 (Blk w3 (w1.heap.size) 68 #[.float .f64 T, .int .i64 S, .int .i64 N, .int .i64 D, .int .i64 Y]) := ⟨Blk.kept blk hk far⟩
  replace HI := Aside0.mk hi
  replace HB := Aside0.mk hb
  have hsw3 := hk.1
  try simp at hsw3
  clear hk hi hb
  obtain ⟨cR0, cR1, cR2, cR3, cR4, fR⟩ := HR.out.c5
  obtain ⟨cX0, cX1, cX2, cX3, cX4, fX⟩ := HX.out.c5
  go_wp2_with fail
  have hr3 := Try.results78
  refine bodyPost_ret (v := .tuple #[.agg #[.float .f64 T, .int .i64 S, .int .i64 N, .int .i64 D, .int .i64 Y], .int .i64 0]) (by simp [results, Try.results78, go_sem, *]) rfl ⟨rfl, bel⟩


set_option maxRecDepth 100000 in
set_option maxHeartbeats 4000000 in
theorem get78_s1 (s : ByteArray) (a a0 : Int) (b b0 R : Bool) (T : Nat) (S N D Y E A d : Int) (w : World)
    (CE : Aside0 (∀ g q w0 W, IsS115 w0 W g s 0 false → Below w0.heap.size w0 W → Blk W q 3 #[.int .i64 d] → ¬ g = q → Calls Try.prog 103 #[.pointer (some ⟨g, 0, none⟩), .func (.func 106) #[] #[.pointer (some ⟨q, 0, none⟩)]] W fun e w' => e = .returned (.agg #[.float .f64 T, .int .i64 S, .int .i64 N, .int .i64 D, .int .i64 Y]) ∧ IsS115 w0 w' g s a b ∧ Below w0.heap.size w0 w' ∧ KeepBut W w' g none))
    (CR : Aside0 (∀ w, Calls Try.prog 101 #[.agg #[.float .f64 T, .int .i64 S, .int .i64 N, .int .i64 D, .int .i64 Y]] w fun e w' => e = .returned (.bool R) ∧ Below w.heap.size w w'))
    (CF : Aside0 (∀ g w0 w, IsS115 w0 w g s a b → Below w0.heap.size w0 w → Calls Try.prog 96 #[.pointer (some ⟨g, 0, none⟩), .bool R] w fun e w' => e = .returned (.int .i64 E) ∧ IsS115 w0 w' g s a b ∧ Below w0.heap.size w0 w' ∧ KeepBut w w' g none))
    (hE : 1 ≤ E) :
    Calls Try.prog 78 #[.string s, .int .i64 d] w fun e w' => e = .returned (.tuple #[.agg #[.float .f64 0, .int .i64 0, .int .i64 0, .int .i64 0, .int .i64 0], .int .i64 E]) ∧ Below w.heap.size w w' := by
  have hu2 := Try.underlying42
  have hu3 := Try.underlying68
  have hu4 := Try.underlying68
  skip
  have hgr : ¬ w.heap.size + 1 + 1 = w.heap.size + 1 := by omega
  have hrg : ¬ w.heap.size + 1 = w.heap.size + 1 + 1 := by omega
  have hB0 : Below w.heap.size w (w.alloc (.cells #[.int .i64 d] 3)) := below_alloc (Below.refl w.heap.size w) _
  have hB1 := below_alloc hB0 (.cells #[.float .f64 0, .int .i64 0, .int .i64 0, .int .i64 0, .int .i64 0] 68)
  have HB := Aside0.mk (below_alloc hB1 (.cells #[.string s, .int .i64 0, .bool false] 115))
  have HI : Aside0 (IsS115 w (((w.alloc (.cells #[.int .i64 d] 3)).alloc (.cells #[.float .f64 0, .int .i64 0, .int .i64 0, .int .i64 0, .int .i64 0] 68)).alloc (.cells #[.string s, .int .i64 0, .bool false] 115)) (w.heap.size + 1 + 1) s 0 false) := Aside0.mk (by have h := IsS115.new w ((w.alloc (.cells #[.int .i64 d] 3)).alloc (.cells #[.float .f64 0, .int .i64 0, .int .i64 0, .int .i64 0, .int .i64 0] 68)) s 0 false hB1; simpa using h)
  have HR : Aside0 (Blk (((w.alloc (.cells #[.int .i64 d] 3)).alloc (.cells #[.float .f64 0, .int .i64 0, .int .i64 0, .int .i64 0, .int .i64 0] 68)).alloc (.cells #[.string s, .int .i64 0, .bool false] 115)) (w.heap.size + 1) 68 #[.float .f64 0, .int .i64 0, .int .i64 0, .int .i64 0, .int .i64 0]) := Aside0.mk (by have h := (Blk.new (w.alloc (.cells #[.int .i64 d] 3)) 68 #[.float .f64 0, .int .i64 0, .int .i64 0, .int .i64 0, .int .i64 0]).alloc (.cells #[.string s, .int .i64 0, .bool false] 115); simpa using h)
  have HD := Aside0.mk (((Blk.new w 3 #[.int .i64 d]).alloc (.cells #[.float .f64 0, .int .i64 0, .int .i64 0, .int .i64 0, .int .i64 0] 68)).alloc (.cells #[.string s, .int .i64 0, .bool false] 115))
  clear hB0 hB1
  go_enter Try.func78, Try.ntmps78
  go_wp2_with fail
  refine (CE.out (w.heap.size + 1 + 1) (w.heap.size) w _ HI.out HB.out HD.out (by omega)).mono ?_
  rintro e w1 ⟨rfl, hi, hb, hk⟩
  replace HR : Aside0 (Blk w1 (w.heap.size + 1) 68 #[.float .f64 0, .int .i64 0, .int .i64 0, .int .i64 0, .int .i64 0]) := ⟨Blk.kept blk hk far⟩
  replace HI := Aside0.mk hi
  replace HB := Aside0.mk hb
  have hsw1 := hk.1
  try simp at hsw1
  clear hk hi hb
  obtain ⟨cR0, cR1, cR2, cR3, cR4, fR⟩ := HR.out.c5
  have HX := Aside0.mk (Blk.new w1 68 #[.float .f64 T, .int .i64 S, .int .i64 N, .int .i64 D, .int .i64 Y])
  have hgx : ¬ w.heap.size + 1 + 1 = w1.heap.size := by omega
  have hrx : ¬ w.heap.size + 1 = w1.heap.size := by omega
  have hxr : ¬ w1.heap.size = w.heap.size + 1 := by omega
  have hxv : w.heap.size ≤ w1.heap.size := by omega
  go_wp2_with fail
  clear cR0 cR1 cR2 cR3 cR4 fR
  refine (CR.out _).mono ?_
  rintro e w2 ⟨rfl, hk⟩
  replace HR : Aside0 (Blk w2 (w.heap.size + 1) 68 #[.float .f64 0, .int .i64 0, .int .i64 0, .int .i64 0, .int .i64 0]) := ⟨Blk.step blk hk⟩
  replace HX : Aside0 (Blk w2 (w1.heap.size) 68 #[.float .f64 T, .int .i64 S, .int .i64 N, .int .i64 D, .int .i64 Y]) := ⟨Blk.step blk hk⟩
  replace HI := Aside0.mk (IsS115.below iss hk)
  replace HB := Aside0.mk (below_step bel hk)
  have hsw2 := hk.size
  try simp at hsw2
  clear hk
  obtain ⟨cR0, cR1, cR2, cR3, cR4, fR⟩ := HR.out.c5
  obtain ⟨cX0, cX1, cX2, cX3, cX4, fX⟩ := HX.out.c5
  go_wp2_with fail
  clear cR0 cR1 cR2 cR3 cR4 fR cX0 cX1 cX2 cX3 cX4 fX
  refine (CF.out (w.heap.size + 1 + 1) w _ iss bel).mono ?_
  rintro e w3 ⟨rfl, hi, hb, hk⟩
  replace HR : Aside0 (Blk w3 (w.heap.size + 1) 68 #[.float .f64 0, .int .i64 0, .int .i64 0, .int .i64 0, .int .i64 0]) := ⟨Blk.kept blk hk far⟩
  replace HX : Aside0 (Blk w3 (w1.heap.size) 68 #[.float .f64 T, .int .i64 S, .int .i64 N, .int .i64 D, .int .i64 Y]) := ⟨Blk.kept blk hk far⟩
  replace HI := Aside0.mk hi
  replace HB := Aside0.mk hb
  have hsw3 := hk.1
  try simp at hsw3
  clear hk hi hb
  obtain ⟨cR0, cR1, cR2, cR3, cR4, fR⟩ := HR.out.c5
  obtain ⟨cX0, cX1, cX2, cX3, cX4, fX⟩ := HX.out.c5
  go_wp2_with fail
  have hr3 := Try.results78
  refine bodyPost_ret (v := .tuple #[.agg #[.float .f64 0, .int .i64 0, .int .i64 0, .int .i64 0, .int .i64 0], .int .i64 E]) (by simp [results, Try.results78, go_sem, *]) rfl ⟨rfl, bel⟩


set_option maxRecDepth 100000 in
set_option maxHeartbeats 4000000 in
theorem get62_ty0 (s : ByteArray) (a a0 : Int) (b b0 R : Bool) (T : Nat) (S N D Y E A d : Int) (w : World)
    (CA : Aside0 (∀ g w0 w, IsS115 w0 w g s 0 false → Below w0.heap.size w0 w → Calls Try.prog 94 #[.pointer (some ⟨g, 0, none⟩)] w fun e w' => e = .returned (.int .i64 A) ∧ IsS115 w0 w' g s a0 b0 ∧ Below w0.heap.size w0 w' ∧ KeepBut w w' g none))
    (CE : Aside0 (∀ g w0 w, IsS115 w0 w g s a0 b0 → Below w0.heap.size w0 w → Calls Try.prog 103 #[.pointer (some ⟨g, 0, none⟩), .func (.func 94) #[.pointer (some ⟨g, 0, none⟩)] #[]] w fun e w' => e = .returned (.agg #[.float .f64 T, .int .i64 S, .int .i64 N, .int .i64 D, .int .i64 Y]) ∧ IsS115 w0 w' g s a b ∧ Below w0.heap.size w0 w' ∧ KeepBut w w' g none))
    (CR : Aside0 (∀ w, Calls Try.prog 101 #[.agg #[.float .f64 T, .int .i64 S, .int .i64 N, .int .i64 D, .int .i64 Y]] w fun e w' => e = .returned (.bool true) ∧ Below w.heap.size w w'))
    (CF : Aside0 (∀ g w0 w, IsS115 w0 w g s a b → Below w0.heap.size w0 w → Calls Try.prog 96 #[.pointer (some ⟨g, 0, none⟩), .bool true] w fun e w' => e = .returned (.int .i64 E) ∧ IsS115 w0 w' g s a b ∧ Below w0.heap.size w0 w' ∧ KeepBut w w' g none))
        (ht : decide (A ≤ 1) = true) (hE : E ≤ 0 ∧ 0 ≤ E) :
    Calls Try.prog 62 #[.string s] w fun e w' => e = .returned (.tuple #[.agg #[.float .f64 T, .int .i64 S, .int .i64 N, .int .i64 D, .int .i64 Y, .bool (A == 1)], .int .i64 0]) ∧ Below w.heap.size w w' := by
  have hu2 := Try.underlying42
  have hu3 := Try.underlying68
  have hu4 := Try.underlying77
  obtain ⟨hE1, hE2⟩ := hE
  have hgr : ¬ w.heap.size + 1 = w.heap.size := by omega
  have hrg : ¬ w.heap.size = w.heap.size + 1 := by omega
  have hB0 : Below w.heap.size w w := Below.refl w.heap.size w
  have hB1 := below_alloc hB0 (.cells #[.float .f64 0, .int .i64 0, .int .i64 0, .int .i64 0, .int .i64 0, .bool false] 77)
  have HB := Aside0.mk (below_alloc hB1 (.cells #[.string s, .int .i64 0, .bool false] 115))
  have HI : Aside0 (IsS115 w ((w.alloc (.cells #[.float .f64 0, .int .i64 0, .int .i64 0, .int .i64 0, .int .i64 0, .bool false] 77)).alloc (.cells #[.string s, .int .i64 0, .bool false] 115)) (w.heap.size + 1) s 0 false) := Aside0.mk (by have h := IsS115.new w (w.alloc (.cells #[.float .f64 0, .int .i64 0, .int .i64 0, .int .i64 0, .int .i64 0, .bool false] 77)) s 0 false hB1; simpa using h)
  have HR : Aside0 (Blk ((w.alloc (.cells #[.float .f64 0, .int .i64 0, .int .i64 0, .int .i64 0, .int .i64 0, .bool false] 77)).alloc (.cells #[.string s, .int .i64 0, .bool false] 115)) (w.heap.size) 77 #[.float .f64 0, .int .i64 0, .int .i64 0, .int .i64 0, .int .i64 0, .bool false]) := Aside0.mk (by have h := (Blk.new w 77 #[.float .f64 0, .int .i64 0, .int .i64 0, .int .i64 0, .int .i64 0, .bool false]).alloc (.cells #[.string s, .int .i64 0, .bool false] 115); simpa using h)

  clear hB0 hB1
  go_enter Try.func62, Try.ntmps62
  go_wp2_with fail
  refine (CA.out (w.heap.size + 1) w _ iss bel).mono ?_
  rintro e w1 ⟨rfl, hi, hb, hk⟩
  replace HR : Aside0 (Blk w1 (w.heap.size) 77 #[.float .f64 0, .int .i64 0, .int .i64 0, .int .i64 0, .int .i64 0, .bool false]) := ⟨Blk.kept blk hk far⟩
  replace HI := Aside0.mk hi
  replace HB := Aside0.mk hb
  have hsw1 := hk.1
  try simp at hsw1
  clear hk hi hb
  obtain ⟨cR0, cR1, cR2, cR3, cR4, cR5, fR⟩ := HR.out.c6
  go_wp2_with fail
  clear cR0 cR1 cR2 cR3 cR4 cR5 fR
  refine (CE.out (w.heap.size + 1) w _ iss bel).mono ?_
  rintro e w2 ⟨rfl, hi, hb, hk⟩
  replace HR : Aside0 (Blk w2 (w.heap.size) 77 #[.float .f64 0, .int .i64 0, .int .i64 0, .int .i64 0, .int .i64 0, .bool false]) := ⟨Blk.kept blk hk far⟩
  replace HI := Aside0.mk hi
  replace HB := Aside0.mk hb
  have hsw2 := hk.1
  try simp at hsw2
  clear hk hi hb
  obtain ⟨cR0, cR1, cR2, cR3, cR4, cR5, fR⟩ := HR.out.c6
  have HX := Aside0.mk (Blk.new w2 68 #[.float .f64 T, .int .i64 S, .int .i64 N, .int .i64 D, .int .i64 Y])
  have hgx : ¬ w.heap.size + 1 = w2.heap.size := by omega
  have hrx : ¬ w.heap.size = w2.heap.size := by omega
  have hxr : ¬ w2.heap.size = w.heap.size := by omega
  have hxv : w.heap.size ≤ w2.heap.size := by omega
  go_wp2_with fail
  clear cR0 cR1 cR2 cR3 cR4 cR5 fR
  refine (CR.out _).mono ?_
  rintro e w3 ⟨rfl, hk⟩
  replace HR : Aside0 (Blk w3 (w.heap.size) 77 #[.float .f64 0, .int .i64 0, .int .i64 0, .int .i64 0, .int .i64 0, .bool false]) := ⟨Blk.step blk hk⟩
  replace HX : Aside0 (Blk w3 (w2.heap.size) 68 #[.float .f64 T, .int .i64 S, .int .i64 N, .int .i64 D, .int .i64 Y]) := ⟨Blk.step blk hk⟩
  replace HI := Aside0.mk (IsS115.below iss hk)
  replace HB := Aside0.mk (below_step bel hk)
  have hsw3 := hk.size
  try simp at hsw3
  clear hk
  obtain ⟨cR0, cR1, cR2, cR3, cR4, cR5, fR⟩ := HR.out.c6
  obtain ⟨cX0, cX1, cX2, cX3, cX4, fX⟩ := HX.out.c5
  go_wp2_with fail
  clear cR0 cR1 cR2 cR3 cR4 cR5 fR cX0 cX1 cX2 cX3 cX4 fX
  refine (CF.out (w.heap.size + 1) w _ iss bel).mono ?_
  rintro e w4 ⟨rfl, hi, hb, hk⟩
  replace HR : Aside0 (Blk w4 (w.heap.size) 77 #[.float .f64 0, .int .i64 0, .int .i64 0, .int .i64 0, .int .i64 0, .bool false]) := ⟨Blk.kept blk hk far⟩
  replace HX : Aside0 (Blk w4 (w2.heap.size) 68 #[.float .f64 T, .int .i64 S, .int .i64 N, .int .i64 D, .int .i64 Y]) := ⟨Blk.kept blk hk far⟩
  replace HI := Aside0.mk hi
  replace HB := Aside0.mk hb
  have hsw4 := hk.1
  try simp at hsw4
  clear hk hi hb
  obtain ⟨cR0, cR1, cR2, cR3, cR4, cR5, fR⟩ := HR.out.c6
  obtain ⟨cX0, cX1, cX2, cX3, cX4, fX⟩ := HX.out.c5
  go_wp2_with fail
  have hr3 := Try.results62
  refine bodyPost_ret (v := .tuple #[.agg #[.float .f64 T, .int .i64 S, .int .i64 N, .int .i64 D, .int .i64 Y, .bool (A == 1)], .int .i64 0]) (by simp [results, Try.results62, go_sem, *]) rfl ⟨rfl, bel⟩


set_option maxRecDepth 100000 in
set_option maxHeartbeats 4000000 in
theorem get62_ty1 (s : ByteArray) (a a0 : Int) (b b0 R : Bool) (T : Nat) (S N D Y E A d : Int) (w : World)
    (CA : Aside0 (∀ g w0 w, IsS115 w0 w g s 0 false → Below w0.heap.size w0 w → Calls Try.prog 94 #[.pointer (some ⟨g, 0, none⟩)] w fun e w' => e = .returned (.int .i64 A) ∧ IsS115 w0 w' g s a0 b0 ∧ Below w0.heap.size w0 w' ∧ KeepBut w w' g none))
    (CE : Aside0 (∀ g w0 w, IsS115 w0 w g s a0 b0 → Below w0.heap.size w0 w → Calls Try.prog 103 #[.pointer (some ⟨g, 0, none⟩), .func (.func 94) #[.pointer (some ⟨g, 0, none⟩)] #[]] w fun e w' => e = .returned (.agg #[.float .f64 T, .int .i64 S, .int .i64 N, .int .i64 D, .int .i64 Y]) ∧ IsS115 w0 w' g s a b ∧ Below w0.heap.size w0 w' ∧ KeepBut w w' g none))
    (CR : Aside0 (∀ w, Calls Try.prog 101 #[.agg #[.float .f64 T, .int .i64 S, .int .i64 N, .int .i64 D, .int .i64 Y]] w fun e w' => e = .returned (.bool true) ∧ Below w.heap.size w w'))
    (CF : Aside0 (∀ g w0 w, IsS115 w0 w g s a b → Below w0.heap.size w0 w → Calls Try.prog 96 #[.pointer (some ⟨g, 0, none⟩), .bool true] w fun e w' => e = .returned (.int .i64 E) ∧ IsS115 w0 w' g s a b ∧ Below w0.heap.size w0 w' ∧ KeepBut w w' g none))
        (ht : decide (A ≤ 1) = true) (hE : 1 ≤ E) :
    Calls Try.prog 62 #[.string s] w fun e w' => e = .returned (.tuple #[.agg #[.float .f64 0, .int .i64 0, .int .i64 0, .int .i64 0, .int .i64 0, .bool false], .int .i64 E]) ∧ Below w.heap.size w w' := by
  have hu2 := Try.underlying42
  have hu3 := Try.underlying68
  have hu4 := Try.underlying77
  skip
  have hgr : ¬ w.heap.size + 1 = w.heap.size := by omega
  have hrg : ¬ w.heap.size = w.heap.size + 1 := by omega
  have hB0 : Below w.heap.size w w := Below.refl w.heap.size w
  have hB1 := below_alloc hB0 (.cells #[.float .f64 0, .int .i64 0, .int .i64 0, .int .i64 0, .int .i64 0, .bool false] 77)
  have HB := Aside0.mk (below_alloc hB1 (.cells #[.string s, .int .i64 0, .bool false] 115))
  have HI : Aside0 (IsS115 w ((w.alloc (.cells #[.float .f64 0, .int .i64 0, .int .i64 0, .int .i64 0, .int .i64 0, .bool false] 77)).alloc (.cells #[.string s, .int .i64 0, .bool false] 115)) (w.heap.size + 1) s 0 false) := Aside0.mk (by have h := IsS115.new w (w.alloc (.cells #[.float .f64 0, .int .i64 0, .int .i64 0, .int .i64 0, .int .i64 0, .bool false] 77)) s 0 false hB1; simpa using h)
  have HR : Aside0 (Blk ((w.alloc (.cells #[.float .f64 0, .int .i64 0, .int .i64 0, .int .i64 0, .int .i64 0, .bool false] 77)).alloc (.cells #[.string s, .int .i64 0, .bool false] 115)) (w.heap.size) 77 #[.float .f64 0, .int .i64 0, .int .i64 0, .int .i64 0, .int .i64 0, .bool false]) := Aside0.mk (by have h := (Blk.new w 77 #[.float .f64 0, .int .i64 0, .int .i64 0, .int .i64 0, .int .i64 0, .bool false]).alloc (.cells #[.string s, .int .i64 0, .bool false] 115); simpa using h)

  clear hB0 hB1
  go_enter Try.func62, Try.ntmps62
  go_wp2_with fail
  refine (CA.out (w.heap.size + 1) w _ iss bel).mono ?_
  rintro e w1 ⟨rfl, hi, hb, hk⟩
  replace HR : Aside0 (Blk w1 (w.heap.size) 77 #[.float .f64 0, .int .i64 0, .int .i64 0, .int .i64 0, .int .i64 0, .bool false]) := ⟨Blk.kept blk hk far⟩
  replace HI := Aside0.mk hi
  replace HB := Aside0.mk hb
  have hsw1 := hk.1
  try simp at hsw1
  clear hk hi hb
  obtain ⟨cR0, cR1, cR2, cR3, cR4, cR5, fR⟩ := HR.out.c6
  go_wp2_with fail
  clear cR0 cR1 cR2 cR3 cR4 cR5 fR
  refine (CE.out (w.heap.size + 1) w _ iss bel).mono ?_
  rintro e w2 ⟨rfl, hi, hb, hk⟩
  replace HR : Aside0 (Blk w2 (w.heap.size) 77 #[.float .f64 0, .int .i64 0, .int .i64 0, .int .i64 0, .int .i64 0, .bool false]) := ⟨Blk.kept blk hk far⟩
  replace HI := Aside0.mk hi
  replace HB := Aside0.mk hb
  have hsw2 := hk.1
  try simp at hsw2
  clear hk hi hb
  obtain ⟨cR0, cR1, cR2, cR3, cR4, cR5, fR⟩ := HR.out.c6
  have HX := Aside0.mk (Blk.new w2 68 #[.float .f64 T, .int .i64 S, .int .i64 N, .int .i64 D, .int .i64 Y])
  have hgx : ¬ w.heap.size + 1 = w2.heap.size := by omega
  have hrx : ¬ w.heap.size = w2.heap.size := by omega
  have hxr : ¬ w2.heap.size = w.heap.size := by omega
  have hxv : w.heap.size ≤ w2.heap.size := by omega
  go_wp2_with fail
  clear cR0 cR1 cR2 cR3 cR4 cR5 fR
  refine (CR.out _).mono ?_
  rintro e w3 ⟨rfl, hk⟩
  replace HR : Aside0 (Blk w3 (w.heap.size) 77 #[.float .f64 0, .int .i64 0, .int .i64 0, .int .i64 0, .int .i64 0, .bool false]) := ⟨Blk.step blk hk⟩
  replace HX : Aside0 (Blk w3 (w2.heap.size) 68 #[.float .f64 T, .int .i64 S, .int .i64 N, .int .i64 D, .int .i64 Y]) := ⟨Blk.step blk hk⟩
  replace HI := Aside0.mk (IsS115.below iss hk)
  replace HB := Aside0.mk (below_step bel hk)
  have hsw3 := hk.size
  try simp at hsw3
  clear hk
  obtain ⟨cR0, cR1, cR2, cR3, cR4, cR5, fR⟩ := HR.out.c6
  obtain ⟨cX0, cX1, cX2, cX3, cX4, fX⟩ := HX.out.c5
  go_wp2_with fail
  clear cR0 cR1 cR2 cR3 cR4 cR5 fR cX0 cX1 cX2 cX3 cX4 fX
  refine (CF.out (w.heap.size + 1) w _ iss bel).mono ?_
  rintro e w4 ⟨rfl, hi, hb, hk⟩
  replace HR : Aside0 (Blk w4 (w.heap.size) 77 #[.float .f64 0, .int .i64 0, .int .i64 0, .int .i64 0, .int .i64 0, .bool false]) := ⟨Blk.kept blk hk far⟩
  replace HX : Aside0 (Blk w4 (w2.heap.size) 68 #[.float .f64 T, .int .i64 S, .int .i64 N, .int .i64 D, .int .i64 Y]) := ⟨Blk.kept blk hk far⟩
  replace HI := Aside0.mk hi
  replace HB := Aside0.mk hb
  have hsw4 := hk.1
  try simp at hsw4
  clear hk hi hb
  obtain ⟨cR0, cR1, cR2, cR3, cR4, cR5, fR⟩ := HR.out.c6
  obtain ⟨cX0, cX1, cX2, cX3, cX4, fX⟩ := HX.out.c5
  go_wp2_with fail
  have hr3 := Try.results62
  refine bodyPost_ret (v := .tuple #[.agg #[.float .f64 0, .int .i64 0, .int .i64 0, .int .i64 0, .int .i64 0, .bool false], .int .i64 E]) (by simp [results, Try.results62, go_sem, *]) rfl ⟨rfl, bel⟩


set_option maxRecDepth 100000 in
set_option maxHeartbeats 4000000 in
theorem get62_tn1 (s : ByteArray) (a a0 : Int) (b b0 R : Bool) (T : Nat) (S N D Y E A d : Int) (w : World)
    (CA : Aside0 (∀ g w0 w, IsS115 w0 w g s 0 false → Below w0.heap.size w0 w → Calls Try.prog 94 #[.pointer (some ⟨g, 0, none⟩)] w fun e w' => e = .returned (.int .i64 A) ∧ IsS115 w0 w' g s a0 b0 ∧ Below w0.heap.size w0 w' ∧ KeepBut w w' g none))
    (CE : Aside0 (∀ g w0 w, IsS115 w0 w g s a0 b0 → Below w0.heap.size w0 w → Calls Try.prog 103 #[.pointer (some ⟨g, 0, none⟩), .func (.func 94) #[.pointer (some ⟨g, 0, none⟩)] #[]] w fun e w' => e = .returned (.agg #[.float .f64 T, .int .i64 S, .int .i64 N, .int .i64 D, .int .i64 Y]) ∧ IsS115 w0 w' g s a b ∧ Below w0.heap.size w0 w' ∧ KeepBut w w' g none))
    (CR : Aside0 (∀ w, Calls Try.prog 101 #[.agg #[.float .f64 T, .int .i64 S, .int .i64 N, .int .i64 D, .int .i64 Y]] w fun e w' => e = .returned (.bool true) ∧ Below w.heap.size w w'))
    (CF : Aside0 (∀ g w0 w, IsS115 w0 w g s a b → Below w0.heap.size w0 w → Calls Try.prog 96 #[.pointer (some ⟨g, 0, none⟩), .bool false] w fun e w' => e = .returned (.int .i64 E) ∧ IsS115 w0 w' g s a b ∧ Below w0.heap.size w0 w' ∧ KeepBut w w' g none))
        (ht : decide (A ≤ 1) = false) (hE : 1 ≤ E) :
    Calls Try.prog 62 #[.string s] w fun e w' => e = .returned (.tuple #[.agg #[.float .f64 0, .int .i64 0, .int .i64 0, .int .i64 0, .int .i64 0, .bool false], .int .i64 E]) ∧ Below w.heap.size w w' := by
  have hu2 := Try.underlying42
  have hu3 := Try.underlying68
  have hu4 := Try.underlying77
  skip
  have hgr : ¬ w.heap.size + 1 = w.heap.size := by omega
  have hrg : ¬ w.heap.size = w.heap.size + 1 := by omega
  have hB0 : Below w.heap.size w w := Below.refl w.heap.size w
  have hB1 := below_alloc hB0 (.cells #[.float .f64 0, .int .i64 0, .int .i64 0, .int .i64 0, .int .i64 0, .bool false] 77)
  have HB := Aside0.mk (below_alloc hB1 (.cells #[.string s, .int .i64 0, .bool false] 115))
  have HI : Aside0 (IsS115 w ((w.alloc (.cells #[.float .f64 0, .int .i64 0, .int .i64 0, .int .i64 0, .int .i64 0, .bool false] 77)).alloc (.cells #[.string s, .int .i64 0, .bool false] 115)) (w.heap.size + 1) s 0 false) := Aside0.mk (by have h := IsS115.new w (w.alloc (.cells #[.float .f64 0, .int .i64 0, .int .i64 0, .int .i64 0, .int .i64 0, .bool false] 77)) s 0 false hB1; simpa using h)
  have HR : Aside0 (Blk ((w.alloc (.cells #[.float .f64 0, .int .i64 0, .int .i64 0, .int .i64 0, .int .i64 0, .bool false] 77)).alloc (.cells #[.string s, .int .i64 0, .bool false] 115)) (w.heap.size) 77 #[.float .f64 0, .int .i64 0, .int .i64 0, .int .i64 0, .int .i64 0, .bool false]) := Aside0.mk (by have h := (Blk.new w 77 #[.float .f64 0, .int .i64 0, .int .i64 0, .int .i64 0, .int .i64 0, .bool false]).alloc (.cells #[.string s, .int .i64 0, .bool false] 115); simpa using h)

  clear hB0 hB1
  go_enter Try.func62, Try.ntmps62
  go_wp2_with fail
  refine (CA.out (w.heap.size + 1) w _ iss bel).mono ?_
  rintro e w1 ⟨rfl, hi, hb, hk⟩
  replace HR : Aside0 (Blk w1 (w.heap.size) 77 #[.float .f64 0, .int .i64 0, .int .i64 0, .int .i64 0, .int .i64 0, .bool false]) := ⟨Blk.kept blk hk far⟩
  replace HI := Aside0.mk hi
  replace HB := Aside0.mk hb
  have hsw1 := hk.1
  try simp at hsw1
  clear hk hi hb
  obtain ⟨cR0, cR1, cR2, cR3, cR4, cR5, fR⟩ := HR.out.c6
  go_wp2_with fail
  clear cR0 cR1 cR2 cR3 cR4 cR5 fR
  refine (CE.out (w.heap.size + 1) w _ iss bel).mono ?_
  rintro e w2 ⟨rfl, hi, hb, hk⟩
  replace HR : Aside0 (Blk w2 (w.heap.size) 77 #[.float .f64 0, .int .i64 0, .int .i64 0, .int .i64 0, .int .i64 0, .bool false]) := ⟨Blk.kept blk hk far⟩
  replace HI := Aside0.mk hi
  replace HB := Aside0.mk hb
  have hsw2 := hk.1
  try simp at hsw2
  clear hk hi hb
  obtain ⟨cR0, cR1, cR2, cR3, cR4, cR5, fR⟩ := HR.out.c6
  have HX := Aside0.mk (Blk.new w2 68 #[.float .f64 T, .int .i64 S, .int .i64 N, .int .i64 D, .int .i64 Y])
  have hgx : ¬ w.heap.size + 1 = w2.heap.size := by omega
  have hrx : ¬ w.heap.size = w2.heap.size := by omega
  have hxr : ¬ w2.heap.size = w.heap.size := by omega
  have hxv : w.heap.size ≤ w2.heap.size := by omega
  go_wp2_with fail
  clear cR0 cR1 cR2 cR3 cR4 cR5 fR
  refine (CR.out _).mono ?_
  rintro e w3 ⟨rfl, hk⟩
  replace HR : Aside0 (Blk w3 (w.heap.size) 77 #[.float .f64 0, .int .i64 0, .int .i64 0, .int .i64 0, .int .i64 0, .bool false]) := ⟨Blk.step blk hk⟩
  replace HX : Aside0 (Blk w3 (w2.heap.size) 68 #[.float .f64 T, .int .i64 S, .int .i64 N, .int .i64 D, .int .i64 Y]) := ⟨Blk.step blk hk⟩
  replace HI := Aside0.mk (IsS115.below iss hk)
  replace HB := Aside0.mk (below_step bel hk)
  have hsw3 := hk.size
  try simp at hsw3
  clear hk
  obtain ⟨cR0, cR1, cR2, cR3, cR4, cR5, fR⟩ := HR.out.c6
  obtain ⟨cX0, cX1, cX2, cX3, cX4, fX⟩ := HX.out.c5
  go_wp2_with fail
  clear cR0 cR1 cR2 cR3 cR4 cR5 fR cX0 cX1 cX2 cX3 cX4 fX
  refine (CF.out (w.heap.size + 1) w _ iss bel).mono ?_
  rintro e w4 ⟨rfl, hi, hb, hk⟩
  replace HR : Aside0 (Blk w4 (w.heap.size) 77 #[.float .f64 0, .int .i64 0, .int .i64 0, .int .i64 0, .int .i64 0, .bool false]) := ⟨Blk.kept blk hk far⟩
  replace HX : Aside0 (Blk w4 (w2.heap.size) 68 #[.float .f64 T, .int .i64 S, .int .i64 N, .int .i64 D, .int .i64 Y]) := ⟨Blk.kept blk hk far⟩
  replace HI := Aside0.mk hi
  replace HB := Aside0.mk hb
  have hsw4 := hk.1
  try simp at hsw4
  clear hk hi hb
  obtain ⟨cR0, cR1, cR2, cR3, cR4, cR5, fR⟩ := HR.out.c6
  obtain ⟨cX0, cX1, cX2, cX3, cX4, fX⟩ := HX.out.c5
  go_wp2_with fail
  have hr3 := Try.results62
  refine bodyPost_ret (v := .tuple #[.agg #[.float .f64 0, .int .i64 0, .int .i64 0, .int .i64 0, .int .i64 0, .bool false], .int .i64 E]) (by simp [results, Try.results62, go_sem, *]) rfl ⟨rfl, bel⟩


set_option maxRecDepth 100000 in
set_option maxHeartbeats 4000000 in
theorem get62_f1 (s : ByteArray) (a a0 : Int) (b b0 R : Bool) (T : Nat) (S N D Y E A d : Int) (w : World)
    (CA : Aside0 (∀ g w0 w, IsS115 w0 w g s 0 false → Below w0.heap.size w0 w → Calls Try.prog 94 #[.pointer (some ⟨g, 0, none⟩)] w fun e w' => e = .returned (.int .i64 A) ∧ IsS115 w0 w' g s a0 b0 ∧ Below w0.heap.size w0 w' ∧ KeepBut w w' g none))
    (CE : Aside0 (∀ g w0 w, IsS115 w0 w g s a0 b0 → Below w0.heap.size w0 w → Calls Try.prog 103 #[.pointer (some ⟨g, 0, none⟩), .func (.func 94) #[.pointer (some ⟨g, 0, none⟩)] #[]] w fun e w' => e = .returned (.agg #[.float .f64 T, .int .i64 S, .int .i64 N, .int .i64 D, .int .i64 Y]) ∧ IsS115 w0 w' g s a b ∧ Below w0.heap.size w0 w' ∧ KeepBut w w' g none))
    (CR : Aside0 (∀ w, Calls Try.prog 101 #[.agg #[.float .f64 T, .int .i64 S, .int .i64 N, .int .i64 D, .int .i64 Y]] w fun e w' => e = .returned (.bool false) ∧ Below w.heap.size w w'))
    (CF : Aside0 (∀ g w0 w, IsS115 w0 w g s a b → Below w0.heap.size w0 w → Calls Try.prog 96 #[.pointer (some ⟨g, 0, none⟩), .bool false] w fun e w' => e = .returned (.int .i64 E) ∧ IsS115 w0 w' g s a b ∧ Below w0.heap.size w0 w' ∧ KeepBut w w' g none))
    (hE : 1 ≤ E) :
    Calls Try.prog 62 #[.string s] w fun e w' => e = .returned (.tuple #[.agg #[.float .f64 0, .int .i64 0, .int .i64 0, .int .i64 0, .int .i64 0, .bool false], .int .i64 E]) ∧ Below w.heap.size w w' := by
  have hu2 := Try.underlying42
  have hu3 := Try.underlying68
  have hu4 := Try.underlying77
  skip
  have hgr : ¬ w.heap.size + 1 = w.heap.size := by omega
  have hrg : ¬ w.heap.size = w.heap.size + 1 := by omega
  have hB0 : Below w.heap.size w w := Below.refl w.heap.size w
  have hB1 := below_alloc hB0 (.cells #[.float .f64 0, .int .i64 0, .int .i64 0, .int .i64 0, .int .i64 0, .bool false] 77)
  have HB := Aside0.mk (below_alloc hB1 (.cells #[.string s, .int .i64 0, .bool false] 115))
  have HI : Aside0 (IsS115 w ((w.alloc (.cells #[.float .f64 0, .int .i64 0, .int .i64 0, .int .i64 0, .int .i64 0, .bool false] 77)).alloc (.cells #[.string s, .int .i64 0, .bool false] 115)) (w.heap.size + 1) s 0 false) := Aside0.mk (by have h := IsS115.new w (w.alloc (.cells #[.float .f64 0, .int .i64 0, .int .i64 0, .int .i64 0, .int .i64 0, .bool false] 77)) s 0 false hB1; simpa using h)
  have HR : Aside0 (Blk ((w.alloc (.cells #[.float .f64 0, .int .i64 0, .int .i64 0, .int .i64 0, .int .i64 0, .bool false] 77)).alloc (.cells #[.string s, .int .i64 0, .bool false] 115)) (w.heap.size) 77 #[.float .f64 0, .int .i64 0, .int .i64 0, .int .i64 0, .int .i64 0, .bool false]) := Aside0.mk (by have h := (Blk.new w 77 #[.float .f64 0, .int .i64 0, .int .i64 0, .int .i64 0, .int .i64 0, .bool false]).alloc (.cells #[.string s, .int .i64 0, .bool false] 115); simpa using h)

  clear hB0 hB1
  go_enter Try.func62, Try.ntmps62
  go_wp2_with fail
  refine (CA.out (w.heap.size + 1) w _ iss bel).mono ?_
  rintro e w1 ⟨rfl, hi, hb, hk⟩
  replace HR : Aside0 (Blk w1 (w.heap.size) 77 #[.float .f64 0, .int .i64 0, .int .i64 0, .int .i64 0, .int .i64 0, .bool false]) := ⟨Blk.kept blk hk far⟩
  replace HI := Aside0.mk hi
  replace HB := Aside0.mk hb
  have hsw1 := hk.1
  try simp at hsw1
  clear hk hi hb
  obtain ⟨cR0, cR1, cR2, cR3, cR4, cR5, fR⟩ := HR.out.c6
  go_wp2_with fail
  clear cR0 cR1 cR2 cR3 cR4 cR5 fR
  refine (CE.out (w.heap.size + 1) w _ iss bel).mono ?_
  rintro e w2 ⟨rfl, hi, hb, hk⟩
  replace HR : Aside0 (Blk w2 (w.heap.size) 77 #[.float .f64 0, .int .i64 0, .int .i64 0, .int .i64 0, .int .i64 0, .bool false]) := ⟨Blk.kept blk hk far⟩
  replace HI := Aside0.mk hi
  replace HB := Aside0.mk hb
  have hsw2 := hk.1
  try simp at hsw2
  clear hk hi hb
  obtain ⟨cR0, cR1, cR2, cR3, cR4, cR5, fR⟩ := HR.out.c6
  have HX := Aside0.mk (Blk.new w2 68 #[.float .f64 T, .int .i64 S, .int .i64 N, .int .i64 D, .int .i64 Y])
  have hgx : ¬ w.heap.size + 1 = w2.heap.size := by omega
  have hrx : ¬ w.heap.size = w2.heap.size := by omega
  have hxr : ¬ w2.heap.size = w.heap.size := by omega
  have hxv : w.heap.size ≤ w2.heap.size := by omega
  go_wp2_with fail
  clear cR0 cR1 cR2 cR3 cR4 cR5 fR
  refine (CR.out _).mono ?_
  rintro e w3 ⟨rfl, hk⟩
  replace HR : Aside0 (Blk w3 (w.heap.size) 77 #[.float .f64 0, .int .i64 0, .int .i64 0, .int .i64 0, .int .i64 0, .bool false]) := ⟨Blk.step blk hk⟩
  replace HX : Aside0 (Blk w3 (w2.heap.size) 68 #[.float .f64 T, .int .i64 S, .int .i64 N, .int .i64 D, .int .i64 Y]) := ⟨Blk.step blk hk⟩
  replace HI := Aside0.mk (IsS115.below iss hk)
  replace HB := Aside0.mk (below_step bel hk)
  have hsw3 := hk.size
  try simp at hsw3
  clear hk
  obtain ⟨cR0, cR1, cR2, cR3, cR4, cR5, fR⟩ := HR.out.c6
  obtain ⟨cX0, cX1, cX2, cX3, cX4, fX⟩ := HX.out.c5
  go_wp2_with fail
  clear cR0 cR1 cR2 cR3 cR4 cR5 fR cX0 cX1 cX2 cX3 cX4 fX
  refine (CF.out (w.heap.size + 1) w _ iss bel).mono ?_
  rintro e w4 ⟨rfl, hi, hb, hk⟩
  replace HR : Aside0 (Blk w4 (w.heap.size) 77 #[.float .f64 0, .int .i64 0, .int .i64 0, .int .i64 0, .int .i64 0, .bool false]) := ⟨Blk.kept blk hk far⟩
  replace HX : Aside0 (Blk w4 (w2.heap.size) 68 #[.float .f64 T, .int .i64 S, .int .i64 N, .int .i64 D, .int .i64 Y]) := ⟨Blk.kept blk hk far⟩
  replace HI := Aside0.mk hi
  replace HB := Aside0.mk hb
  have hsw4 := hk.1
  try simp at hsw4
  clear hk hi hb
  obtain ⟨cR0, cR1, cR2, cR3, cR4, cR5, fR⟩ := HR.out.c6
  obtain ⟨cX0, cX1, cX2, cX3, cX4, fX⟩ := HX.out.c5
  go_wp2_with fail
  have hr3 := Try.results62
  refine bodyPost_ret (v := .tuple #[.agg #[.float .f64 0, .int .i64 0, .int .i64 0, .int .i64 0, .int .i64 0, .bool false], .int .i64 E]) (by simp [results, Try.results62, go_sem, *]) rfl ⟨rfl, bel⟩


set_option maxRecDepth 100000 in
set_option maxHeartbeats 4000000 in
theorem get63_ty0 (s : ByteArray) (a a0 : Int) (b b0 R : Bool) (T : Nat) (S N D Y E A d : Int) (w : World)
    (CA : Aside0 (∀ g w0 w, IsS115 w0 w g s a0 b0 → Below w0.heap.size w0 w → Calls Try.prog 94 #[.pointer (some ⟨g, 0, none⟩)] w fun e w' => e = .returned (.int .i64 A) ∧ IsS115 w0 w' g s a b ∧ Below w0.heap.size w0 w' ∧ KeepBut w w' g none))
    (CE : Aside0 (∀ g w0 w, IsS115 w0 w g s 0 false → Below w0.heap.size w0 w → Calls Try.prog 103 #[.pointer (some ⟨g, 0, none⟩), .func (.func 94) #[.pointer (some ⟨g, 0, none⟩)] #[]] w fun e w' => e = .returned (.agg #[.float .f64 T, .int .i64 S, .int .i64 N, .int .i64 D, .int .i64 Y]) ∧ IsS115 w0 w' g s a0 b0 ∧ Below w0.heap.size w0 w' ∧ KeepBut w w' g none))
    (CR : Aside0 (∀ w, Calls Try.prog 101 #[.agg #[.float .f64 T, .int .i64 S, .int .i64 N, .int .i64 D, .int .i64 Y]] w fun e w' => e = .returned (.bool true) ∧ Below w.heap.size w w'))
    (CF : Aside0 (∀ g w0 w, IsS115 w0 w g s a b → Below w0.heap.size w0 w → Calls Try.prog 96 #[.pointer (some ⟨g, 0, none⟩), .bool true] w fun e w' => e = .returned (.int .i64 E) ∧ IsS115 w0 w' g s a b ∧ Below w0.heap.size w0 w' ∧ KeepBut w w' g none))
        (ht : decide (A ≤ 7) = true) (hE : E ≤ 0 ∧ 0 ≤ E) :
    Calls Try.prog 63 #[.string s] w fun e w' => e = .returned (.tuple #[.agg #[.float .f64 T, .int .i64 S, .int .i64 N, .int .i64 D, .int .i64 Y, .int .i64 A], .int .i64 0]) ∧ Below w.heap.size w w' := by
  have hu2 := Try.underlying42
  have hu3 := Try.underlying68
  have hu4 := Try.underlying73
  obtain ⟨hE1, hE2⟩ := hE
  have hgr : ¬ w.heap.size + 1 = w.heap.size := by omega
  have hrg : ¬ w.heap.size = w.heap.size + 1 := by omega
  have hB0 : Below w.heap.size w w := Below.refl w.heap.size w
  have hB1 := below_alloc hB0 (.cells #[.float .f64 0, .int .i64 0, .int .i64 0, .int .i64 0, .int .i64 0, .int .i64 0] 73)
  have HB := Aside0.mk (below_alloc hB1 (.cells #[.string s, .int .i64 0, .bool false] 115))
  have HI : Aside0 (IsS115 w ((w.alloc (.cells #[.float .f64 0, .int .i64 0, .int .i64 0, .int .i64 0, .int .i64 0, .int .i64 0] 73)).alloc (.cells #[.string s, .int .i64 0, .bool false] 115)) (w.heap.size + 1) s 0 false) := Aside0.mk (by have h := IsS115.new w (w.alloc (.cells #[.float .f64 0, .int .i64 0, .int .i64 0, .int .i64 0, .int .i64 0, .int .i64 0] 73)) s 0 false hB1; simpa using h)
  have HR : Aside0 (Blk ((w.alloc (.cells #[.float .f64 0, .int .i64 0, .int .i64 0, .int .i64 0, .int .i64 0, .int .i64 0] 73)).alloc (.cells #[.string s, .int .i64 0, .bool false] 115)) (w.heap.size) 73 #[.float .f64 0, .int .i64 0, .int .i64 0, .int .i64 0, .int .i64 0, .int .i64 0]) := Aside0.mk (by have h := (Blk.new w 73 #[.float .f64 0, .int .i64 0, .int .i64 0, .int .i64 0, .int .i64 0, .int .i64 0]).alloc (.cells #[.string s, .int .i64 0, .bool false] 115); simpa using h)

  clear hB0 hB1
  go_enter Try.func63, Try.ntmps63
  go_wp2_with fail
  refine (CE.out (w.heap.size + 1) w _ iss bel).mono ?_
  rintro e w1 ⟨rfl, hi, hb, hk⟩
  replace HR : Aside0 (Blk w1 (w.heap.size) 73 #[.float .f64 0, .int .i64 0, .int .i64 0, .int .i64 0, .int .i64 0, .int .i64 0]) := ⟨Blk.kept blk hk far⟩
  replace HI := Aside0.mk hi
  replace HB := Aside0.mk hb
  have hsw1 := hk.1
  try simp at hsw1
  clear hk hi hb
  obtain ⟨cR0, cR1, cR2, cR3, cR4, cR5, fR⟩ := HR.out.c6
  have HX := Aside0.mk (Blk.new w1 68 #[.float .f64 T, .int .i64 S, .int .i64 N, .int .i64 D, .int .i64 Y])
  have hgx : ¬ w.heap.size + 1 = w1.heap.size := by omega
  have hrx : ¬ w.heap.size = w1.heap.size := by omega
  have hxr : ¬ w1.heap.size = w.heap.size := by omega
  have hxv : w.heap.size ≤ w1.heap.size := by omega
  go_wp2_with fail
  clear cR0 cR1 cR2 cR3 cR4 cR5 fR
  refine (CA.out (w.heap.size + 1) w _ iss bel).mono ?_
  rintro e w2 ⟨rfl, hi, hb, hk⟩
  replace HR : Aside0 (Blk w2 (w.heap.size) 73 #[.float .f64 0, .int .i64 0, .int .i64 0, .int .i64 0, .int .i64 0, .int .i64 0]) := ⟨Blk.kept blk hk far⟩
  replace HX : Aside0 (Blk w2 (w1.heap.size) 68 #[.float .f64 T, .int .i64 S, .int .i64 N, .int .i64 D, .int .i64 Y]) := ⟨Blk.kept blk hk far⟩
  replace HI := Aside0.mk hi
  replace HB := Aside0.mk hb
  have hsw2 := hk.1
  try simp at hsw2
  clear hk hi hb
  obtain ⟨cR0, cR1, cR2, cR3, cR4, cR5, fR⟩ := HR.out.c6
  obtain ⟨cX0, cX1, cX2, cX3, cX4, fX⟩ := HX.out.c5
  go_wp2_with fail
  clear cR0 cR1 cR2 cR3 cR4 cR5 fR cX0 cX1 cX2 cX3 cX4 fX
  refine (CR.out _).mono ?_
  rintro e w3 ⟨rfl, hk⟩
  replace HR : Aside0 (Blk w3 (w.heap.size) 73 #[.float .f64 0, .int .i64 0, .int .i64 0, .int .i64 0, .int .i64 0, .int .i64 0]) := ⟨Blk.step blk hk⟩
  replace HX : Aside0 (Blk w3 (w1.heap.size) 68 #[.float .f64 T, .int .i64 S, .int .i64 N, .int .i64 D, .int .i64 Y]) := ⟨Blk.step blk hk⟩
  replace HI := Aside0.mk (IsS115.below iss hk)
  replace HB := Aside0.mk (below_step bel hk)
  have hsw3 := hk.size
  try simp at hsw3
  clear hk
  obtain ⟨cR0, cR1, cR2, cR3, cR4, cR5, fR⟩ := HR.out.c6
  obtain ⟨cX0, cX1, cX2, cX3, cX4, fX⟩ := HX.out.c5
  go_wp2_with fail
  clear cR0 cR1 cR2 cR3 cR4 cR5 fR cX0 cX1 cX2 cX3 cX4 fX
  refine (CF.out (w.heap.size + 1) w _ iss bel).mono ?_
  rintro e w4 ⟨rfl, hi, hb, hk⟩
  replace HR : Aside0 (Blk w4 (w.heap.size) 73 #[.float .f64 0, .int .i64 0, .int .i64 0, .int .i64 0, .int .i64 0, .int .i64 0]) := ⟨Blk.kept blk hk far⟩
  replace HX : Aside0 (Blk w4 (w1.heap.size) 68 #[.float .f64 T, .int .i64 S, .int .i64 N, .int .i64 D, .int .i64 Y]) := ⟨Blk.kept blk hk far⟩
  replace HI := Aside0.mk hi
  replace HB := Aside0.mk hb
  have hsw4 := hk.1
  try simp at hsw4
  clear hk hi hb
  obtain ⟨cR0, cR1, cR2, cR3, cR4, cR5, fR⟩ := HR.out.c6
  obtain ⟨cX0, cX1, cX2, cX3, cX4, fX⟩ := HX.out.c5
  go_wp2_with fail
  have hr3 := Try.results63
  refine bodyPost_ret (v := .tuple #[.agg #[.float .f64 T, .int .i64 S, .int .i64 N, .int .i64 D, .int .i64 Y, .int .i64 A], .int .i64 0]) (by simp [results, Try.results63, go_sem, *]) rfl ⟨rfl, bel⟩


set_option maxRecDepth 100000 in
set_option maxHeartbeats 4000000 in
theorem get63_ty1 (s : ByteArray) (a a0 : Int) (b b0 R : Bool) (T : Nat) (S N D Y E A d : Int) (w : World)
    (CA : Aside0 (∀ g w0 w, IsS115 w0 w g s a0 b0 → Below w0.heap.size w0 w → Calls Try.prog 94 #[.pointer (some ⟨g, 0, none⟩)] w fun e w' => e = .returned (.int .i64 A) ∧ IsS115 w0 w' g s a b ∧ Below w0.heap.size w0 w' ∧ KeepBut w w' g none))
    (CE : Aside0 (∀ g w0 w, IsS115 w0 w g s 0 false → Below w0.heap.size w0 w → Calls Try.prog 103 #[.pointer (some ⟨g, 0, none⟩), .func (.func 94) #[.pointer (some ⟨g, 0, none⟩)] #[]] w fun e w' => e = .returned (.agg #[.float .f64 T, .int .i64 S, .int .i64 N, .int .i64 D, .int .i64 Y]) ∧ IsS115 w0 w' g s a0 b0 ∧ Below w0.heap.size w0 w' ∧ KeepBut w w' g none))
    (CR : Aside0 (∀ w, Calls Try.prog 101 #[.agg #[.float .f64 T, .int .i64 S, .int .i64 N, .int .i64 D, .int .i64 Y]] w fun e w' => e = .returned (.bool true) ∧ Below w.heap.size w w'))
    (CF : Aside0 (∀ g w0 w, IsS115 w0 w g s a b → Below w0.heap.size w0 w → Calls Try.prog 96 #[.pointer (some ⟨g, 0, none⟩), .bool true] w fun e w' => e = .returned (.int .i64 E) ∧ IsS115 w0 w' g s a b ∧ Below w0.heap.size w0 w' ∧ KeepBut w w' g none))
        (ht : decide (A ≤ 7) = true) (hE : 1 ≤ E) :
    Calls Try.prog 63 #[.string s] w fun e w' => e = .returned (.tuple #[.agg #[.float .f64 0, .int .i64 0, .int .i64 0, .int .i64 0, .int .i64 0, .int .i64 0], .int .i64 E]) ∧ Below w.heap.size w w' := by
  have hu2 := Try.underlying42
  have hu3 := Try.underlying68
  have hu4 := Try.underlying73
  skip
  have hgr : ¬ w.heap.size + 1 = w.heap.size := by omega
  have hrg : ¬ w.heap.size = w.heap.size + 1 := by omega
  have hB0 : Below w.heap.size w w := Below.refl w.heap.size w
  have hB1 := below_alloc hB0 (.cells #[.float .f64 0, .int .i64 0, .int .i64 0, .int .i64 0, .int .i64 0, .int .i64 0] 73)
  have HB := Aside0.mk (below_alloc hB1 (.cells #[.string s, .int .i64 0, .bool false] 115))
  have HI : Aside0 (IsS115 w ((w.alloc (.cells #[.float .f64 0, .int .i64 0, .int .i64 0, .int .i64 0, .int .i64 0, .int .i64 0] 73)).alloc (.cells #[.string s, .int .i64 0, .bool false] 115)) (w.heap.size + 1) s 0 false) := Aside0.mk (by have h := IsS115.new w (w.alloc (.cells #[.float .f64 0, .int .i64 0, .int .i64 0, .int .i64 0, .int .i64 0, .int .i64 0] 73)) s 0 false hB1; simpa using h)
  have HR : Aside0 (Blk ((w.alloc (.cells #[.float .f64 0, .int .i64 0, .int .i64 0, .int .i64 0, .int .i64 0, .int .i64 0] 73)).alloc (.cells #[.string s, .int .i64 0, .bool false] 115)) (w.heap.size) 73 #[.float .f64 0, .int .i64 0, .int .i64 0, .int .i64 0, .int .i64 0, .int .i64 0]) := Aside0.mk (by have h := (Blk.new w 73 #[.float .f64 0, .int .i64 0, .int .i64 0, .int .i64 0, .int .i64 0, .int .i64 0]).alloc (.cells #[.string s, .int .i64 0, .bool false] 115); simpa using h)

  clear hB0 hB1
  go_enter Try.func63, Try.ntmps63
  go_wp2_with fail
  refine (CE.out (w.heap.size + 1) w _ iss bel).mono ?_
  rintro e w1 ⟨rfl, hi, hb, hk⟩
  replace HR : Aside0 (Blk w1 (w.heap.size) 73 #[.float .f64 0, .int .i64 0, .int .i64 0, .int .i64 0, .int .i64 0, .int .i64 0]) := ⟨Blk.kept blk hk far⟩
  replace HI := Aside0.mk hi
  replace HB := Aside0.mk hb
  have hsw1 := hk.1
  try simp at hsw1
  clear hk hi hb
  obtain ⟨cR0, cR1, cR2, cR3, cR4, cR5, fR⟩ := HR.out.c6
  have HX := Aside0.mk (Blk.new w1 68 #[.float .f64 T, .int .i64 S, .int .i64 N, .int .i64 D, .int .i64 Y])
  have hgx : ¬ w.heap.size + 1 = w1.heap.size := by omega
  have hrx : ¬ w.heap.size = w1.heap.size := by omega
  have hxr : ¬ w1.heap.size = w.heap.size := by omega
  have hxv : w.heap.size ≤ w1.heap.size := by omega
  go_wp2_with fail
  clear cR0 cR1 cR2 cR3 cR4 cR5 fR
  refine (CA.out (w.heap.size + 1) w _ iss bel).mono ?_
  rintro e w2 ⟨rfl, hi, hb, hk⟩
  replace HR : Aside0 (Blk w2 (w.heap.size) 73 #[.float .f64 0, .int .i64 0, .int .i64 0, .int .i64 0, .int .i64 0, .int .i64 0]) := ⟨Blk.kept blk hk far⟩
  replace HX : Aside0 (Blk w2 (w1.heap.size) 68 #[.float .f64 T, .int .i64 S, .int .i64 N, .int .i64 D, .int .i64 Y]) := ⟨Blk.kept blk hk far⟩
  replace HI := Aside0.mk hi
  replace HB := Aside0.mk hb
  have hsw2 := hk.1
  try simp at hsw2
  clear hk hi hb
  obtain ⟨cR0, cR1, cR2, cR3, cR4, cR5, fR⟩ := HR.out.c6
  obtain ⟨cX0, cX1, cX2, cX3, cX4, fX⟩ := HX.out.c5
  go_wp2_with fail
  clear cR0 cR1 cR2 cR3 cR4 cR5 fR cX0 cX1 cX2 cX3 cX4 fX
  refine (CR.out _).mono ?_
  rintro e w3 ⟨rfl, hk⟩
  replace HR : Aside0 (Blk w3 (w.heap.size) 73 #[.float .f64 0, .int .i64 0, .int .i64 0, .int .i64 0, .int .i64 0, .int .i64 0]) := ⟨Blk.step blk hk⟩
  replace HX : Aside0 (Blk w3 (w1.heap.size) 68 #[.float .f64 T, .int .i64 S, .int .i64 N, .int .i64 D, .int .i64 Y]) := ⟨Blk.step blk hk⟩
  replace HI := Aside0.mk (IsS115.below iss hk)
  replace HB := Aside0.mk (below_step bel hk)
  have hsw3 := hk.size
  try simp at hsw3
  clear hk
  obtain ⟨cR0, cR1, cR2, cR3, cR4, cR5, fR⟩ := HR.out.c6
  obtain ⟨cX0, cX1, cX2, cX3, cX4, fX⟩ := HX.out.c5
  go_wp2_with fail
  clear cR0 cR1 cR2 cR3 cR4 cR5 fR cX0 cX1 cX2 cX3 cX4 fX
  refine (CF.out (w.heap.size + 1) w _ iss bel).mono ?_
  rintro e w4 ⟨rfl, hi, hb, hk⟩
  replace HR : Aside0 (Blk w4 (w.heap.size) 73 #[.float .f64 0, .int .i64 0, .int .i64 0, .int .i64 0, .int .i64 0, .int .i64 0]) := ⟨Blk.kept blk hk far⟩
  replace HX : Aside0 (Blk w4 (w1.heap.size) 68 #[.float .f64 T, .int .i64 S, .int .i64 N, .int .i64 D, .int .i64 Y]) := ⟨Blk.kept blk hk far⟩
  replace HI := Aside0.mk hi
  replace HB := Aside0.mk hb
  have hsw4 := hk.1
  try simp at hsw4
  clear hk hi hb
  obtain ⟨cR0, cR1, cR2, cR3, cR4, cR5, fR⟩ := HR.out.c6
  obtain ⟨cX0, cX1, cX2, cX3, cX4, fX⟩ := HX.out.c5
  go_wp2_with fail
  have hr3 := Try.results63
  refine bodyPost_ret (v := .tuple #[.agg #[.float .f64 0, .int .i64 0, .int .i64 0, .int .i64 0, .int .i64 0, .int .i64 0], .int .i64 E]) (by simp [results, Try.results63, go_sem, *]) rfl ⟨rfl, bel⟩


set_option maxRecDepth 100000 in
set_option maxHeartbeats 4000000 in
theorem get63_tn1 (s : ByteArray) (a a0 : Int) (b b0 R : Bool) (T : Nat) (S N D Y E A d : Int) (w : World)
    (CA : Aside0 (∀ g w0 w, IsS115 w0 w g s a0 b0 → Below w0.heap.size w0 w → Calls Try.prog 94 #[.pointer (some ⟨g, 0, none⟩)] w fun e w' => e = .returned (.int .i64 A) ∧ IsS115 w0 w' g s a b ∧ Below w0.heap.size w0 w' ∧ KeepBut w w' g none))
    (CE : Aside0 (∀ g w0 w, IsS115 w0 w g s 0 false → Below w0.heap.size w0 w → Calls Try.prog 103 #[.pointer (some ⟨g, 0, none⟩), .func (.func 94) #[.pointer (some ⟨g, 0, none⟩)] #[]] w fun e w' => e = .returned (.agg #[.float .f64 T, .int .i64 S, .int .i64 N, .int .i64 D, .int .i64 Y]) ∧ IsS115 w0 w' g s a0 b0 ∧ Below w0.heap.size w0 w' ∧ KeepBut w w' g none))
    (CR : Aside0 (∀ w, Calls Try.prog 101 #[.agg #[.float .f64 T, .int .i64 S, .int .i64 N, .int .i64 D, .int .i64 Y]] w fun e w' => e = .returned (.bool true) ∧ Below w.heap.size w w'))
    (CF : Aside0 (∀ g w0 w, IsS115 w0 w g s a b → Below w0.heap.size w0 w → Calls Try.prog 96 #[.pointer (some ⟨g, 0, none⟩), .bool false] w fun e w' => e = .returned (.int .i64 E) ∧ IsS115 w0 w' g s a b ∧ Below w0.heap.size w0 w' ∧ KeepBut w w' g none))
        (ht : decide (A ≤ 7) = false) (hE : 1 ≤ E) :
    Calls Try.prog 63 #[.string s] w fun e w' => e = .returned (.tuple #[.agg #[.float .f64 0, .int .i64 0, .int .i64 0, .int .i64 0, .int .i64 0, .int .i64 0], .int .i64 E]) ∧ Below w.heap.size w w' := by
  have hu2 := Try.underlying42
  have hu3 := Try.underlying68
  have hu4 := Try.underlying73
  skip
  have hgr : ¬ w.heap.size + 1 = w.heap.size := by omega
  have hrg : ¬ w.heap.size = w.heap.size + 1 := by omega
  have hB0 : Below w.heap.size w w := Below.refl w.heap.size w
  have hB1 := below_alloc hB0 (.cells #[.float .f64 0, .int .i64 0, .int .i64 0, .int .i64 0, .int .i64 0, .int .i64 0] 73)
  have HB := Aside0.mk (below_alloc hB1 (.cells #[.string s, .int .i64 0, .bool false] 115))
  have HI : Aside0 (IsS115 w ((w.alloc (.cells #[.float .f64 0, .int .i64 0, .int .i64 0, .int .i64 0, .int .i64 0, .int .i64 0] 73)).alloc (.cells #[.string s, .int .i64 0, .bool false] 115)) (w.heap.size + 1) s 0 false) := Aside0.mk (by have h := IsS115.new w (w.alloc (.cells #[.float .f64 0, .int .i64 0, .int .i64 0, .int .i64 0, .int .i64 0, .int .i64 0] 73)) s 0 false hB1; simpa using h)
  have HR : Aside0 (Blk ((w.alloc (.cells #[.float .f64 0, .int .i64 0, .int .i64 0, .int .i64 0, .int .i64 0, .int .i64 0] 73)).alloc (.cells #[.string s, .int .i64 0, .bool false] 115)) (w.heap.size) 73 #[.float .f64 0, .int .i64 0, .int .i64 0, .int .i64 0, .int .i64 0, .int .i64 0]) := Aside0.mk (by have h := (Blk.new w 73 #[.float .f64 0, .int .i64 0, .int .i64 0, .int .i64 0, .int .i64 0, .int .i64 0]).alloc (.cells #[.string s, .int .i64 0, .bool false] 115); simpa using h)

  clear hB0 hB1
  go_enter Try.func63, Try.ntmps63
  go_wp2_with fail
  refine (CE.out (w.heap.size + 1) w _ iss bel).mono ?_
  rintro e w1 ⟨rfl, hi, hb, hk⟩
  replace HR : Aside0 (Blk w1 (w.heap.size) 73 #[.float .f64 0, .int .i64 0, .int .i64 0, .int .i64 0, .int .i64 0, .int .i64 0]) := ⟨Blk.kept blk hk far⟩
  replace HI := Aside0.mk hi
  replace HB := Aside0.mk hb
  have hsw1 := hk.1
  try simp at hsw1
  clear hk hi hb
  obtain ⟨cR0, cR1, cR2, cR3, cR4, cR5, fR⟩ := HR.out.c6
  have HX := Aside0.mk (Blk.new w1 68 #[.float .f64 T, .int .i64 S, .int .i64 N, .int .i64 D, .int .i64 Y])
  have hgx : ¬ w.heap.size + 1 = w1.heap.size := by omega
  have hrx : ¬ w.heap.size = w1.heap.size := by omega
  have hxr : ¬ w1.heap.size = w.heap.size := by omega
  have hxv : w.heap.size ≤ w1.heap.size := by omega
  go_wp2_with fail
  clear cR0 cR1 cR2 cR3 cR4 cR5 fR
  refine (CA.out (w.heap.size + 1) w _ iss bel).mono ?_
  rintro e w2 ⟨rfl, hi, hb, hk⟩
  replace HR : Aside0 (Blk w2 (w.heap.size) 73 #[.float .f64 0, .int .i64 0, .int .i64 0, .int .i64 0, .int .i64 0, .int .i64 0]) := ⟨Blk.kept blk hk far⟩
  replace HX : Aside0 (Blk w2 (w1.heap.size) 68 #[.float .f64 T, .int .i64 S, .int .i64 N, .int .i64 D, .int .i64 Y]) := ⟨Blk.kept blk hk far⟩
  replace HI := Aside0.mk hi
  replace HB := Aside0.mk hb
  have hsw2 := hk.1
  try simp at hsw2
  clear hk hi hb
  obtain ⟨cR0, cR1, cR2, cR3, cR4, cR5, fR⟩ := HR.out.c6
  obtain ⟨cX0, cX1, cX2, cX3, cX4, fX⟩ := HX.out.c5
  go_wp2_with fail
  clear cR0 cR1 cR2 cR3 cR4 cR5 fR cX0 cX1 cX2 cX3 cX4 fX
  refine (CR.out _).mono ?_
  rintro e w3 ⟨rfl, hk⟩
  replace HR : Aside0 (Blk w3 (w.heap.size) 73 #[.float .f64 0, .int .i64 0, .int .i64 0, .int .i64 0, .int .i64 0, .int .i64 0]) := ⟨Blk.step blk hk⟩
  replace HX : Aside0 (Blk w3 (w1.heap.size) 68 #[.float .f64 T, .int .i64 S, .int .i64 N, .int .i64 D, .int .i64 Y]) := ⟨Blk.step blk hk⟩
  replace HI := Aside0.mk (IsS115.below iss hk)
  replace HB := Aside0.mk (below_step bel hk)
  have hsw3 := hk.size
  try simp at hsw3
  clear hk
  obtain ⟨cR0, cR1, cR2, cR3, cR4, cR5, fR⟩ := HR.out.c6
  obtain ⟨cX0, cX1, cX2, cX3, cX4, fX⟩ := HX.out.c5
  go_wp2_with fail
  clear cR0 cR1 cR2 cR3 cR4 cR5 fR cX0 cX1 cX2 cX3 cX4 fX
  refine (CF.out (w.heap.size + 1) w _ iss bel).mono ?_
  rintro e w4 ⟨rfl, hi, hb, hk⟩
  replace HR : Aside0 (Blk w4 (w.heap.size) 73 #[.float .f64 0, .int .i64 0, .int .i64 0, .int .i64 0, .int .i64 0, .int .i64 0]) := ⟨Blk.kept blk hk far⟩
  replace HX : Aside0 (Blk w4 (w1.heap.size) 68 #[.float .f64 T, .int .i64 S, .int .i64 N, .int .i64 D, .int .i64 Y]) := ⟨Blk.kept blk hk far⟩
  replace HI := Aside0.mk hi
  replace HB := Aside0.mk hb
  have hsw4 := hk.1
  try simp at hsw4
  clear hk hi hb
  obtain ⟨cR0, cR1, cR2, cR3, cR4, cR5, fR⟩ := HR.out.c6
  obtain ⟨cX0, cX1, cX2, cX3, cX4, fX⟩ := HX.out.c5
  go_wp2_with fail
  have hr3 := Try.results63
  refine bodyPost_ret (v := .tuple #[.agg #[.float .f64 0, .int .i64 0, .int .i64 0, .int .i64 0, .int .i64 0, .int .i64 0], .int .i64 E]) (by simp [results, Try.results63, go_sem, *]) rfl ⟨rfl, bel⟩


set_option maxRecDepth 100000 in
set_option maxHeartbeats 4000000 in
theorem get63_f1 (s : ByteArray) (a a0 : Int) (b b0 R : Bool) (T : Nat) (S N D Y E A d : Int) (w : World)
    (CA : Aside0 (∀ g w0 w, IsS115 w0 w g s a0 b0 → Below w0.heap.size w0 w → Calls Try.prog 94 #[.pointer (some ⟨g, 0, none⟩)] w fun e w' => e = .returned (.int .i64 A) ∧ IsS115 w0 w' g s a b ∧ Below w0.heap.size w0 w' ∧ KeepBut w w' g none))
    (CE : Aside0 (∀ g w0 w, IsS115 w0 w g s 0 false → Below w0.heap.size w0 w → Calls Try.prog 103 #[.pointer (some ⟨g, 0, none⟩), .func (.func 94) #[.pointer (some ⟨g, 0, none⟩)] #[]] w fun e w' => e = .returned (.agg #[.float .f64 T, .int .i64 S, .int .i64 N, .int .i64 D, .int .i64 Y]) ∧ IsS115 w0 w' g s a0 b0 ∧ Below w0.heap.size w0 w' ∧ KeepBut w w' g none))
    (CR : Aside0 (∀ w, Calls Try.prog 101 #[.agg #[.float .f64 T, .int .i64 S, .int .i64 N, .int .i64 D, .int .i64 Y]] w fun e w' => e = .returned (.bool false) ∧ Below w.heap.size w w'))
    (CF : Aside0 (∀ g w0 w, IsS115 w0 w g s a b → Below w0.heap.size w0 w → Calls Try.prog 96 #[.pointer (some ⟨g, 0, none⟩), .bool false] w fun e w' => e = .returned (.int .i64 E) ∧ IsS115 w0 w' g s a b ∧ Below w0.heap.size w0 w' ∧ KeepBut w w' g none))
    (hE : 1 ≤ E) :
    Calls Try.prog 63 #[.string s] w fun e w' => e = .returned (.tuple #[.agg #[.float .f64 0, .int .i64 0, .int .i64 0, .int .i64 0, .int .i64 0, .int .i64 0], .int .i64 E]) ∧ Below w.heap.size w w' := by
  have hu2 := Try.underlying42
  have hu3 := Try.underlying68
  have hu4 := Try.underlying73
  skip
  have hgr : ¬ w.heap.size + 1 = w.heap.size := by omega
  have hrg : ¬ w.heap.size = w.heap.size + 1 := by omega
  have hB0 : Below w.heap.size w w := Below.refl w.heap.size w
  have hB1 := below_alloc hB0 (.cells #[.float .f64 0, .int .i64 0, .int .i64 0, .int .i64 0, .int .i64 0, .int .i64 0] 73)
  have HB := Aside0.mk (below_alloc hB1 (.cells #[.string s, .int .i64 0, .bool false] 115))
  have HI : Aside0 (IsS115 w ((w.alloc (.cells #[.float .f64 0, .int .i64 0, .int .i64 0, .int .i64 0, .int .i64 0, .int .i64 0] 73)).alloc (.cells #[.string s, .int .i64 0, .bool false] 115)) (w.heap.size + 1) s 0 false) := Aside0.mk (by have h := IsS115.new w (w.alloc (.cells #[.float .f64 0, .int .i64 0, .int .i64 0, .int .i64 0, .int .i64 0, .int .i64 0] 73)) s 0 false hB1; simpa using h)
  have HR : Aside0 (Blk ((w.alloc (.cells #[.float .f64 0, .int .i64 0, .int .i64 0, .int .i64 0, .int .i64 0, .int .i64 0] 73)).alloc (.cells #[.string s, .int .i64 0, .bool false] 115)) (w.heap.size) 73 #[.float .f64 0, .int .i64 0, .int .i64 0, .int .i64 0, .int .i64 0, .int .i64 0]) := Aside0.mk (by have h := (Blk.new w 73 #[.float .f64 0, .int .i64 0, .int .i64 0, .int .i64 0, .int .i64 0, .int .i64 0]).alloc (.cells #[.string s, .int .i64 0, .bool false] 115); simpa using h)

  clear hB0 hB1
  go_enter Try.func63, Try.ntmps63
  go_wp2_with fail
  refine (CE.out (w.heap.size + 1) w _ iss bel).mono ?_
  rintro e w1 ⟨rfl, hi, hb, hk⟩
  replace HR : Aside0 (Blk w1 (w.heap.size) 73 #[.float .f64 0, .int .i64 0, .int .i64 0, .int .i64 0, .int .i64 0, .int .i64 0]) := ⟨Blk.kept blk hk far⟩
  replace HI := Aside0.mk hi
  replace HB := Aside0.mk hb
  have hsw1 := hk.1
  try simp at hsw1
  clear hk hi hb
  obtain ⟨cR0, cR1, cR2, cR3, cR4, cR5, fR⟩ := HR.out.c6
  have HX := Aside0.mk (Blk.new w1 68 #[.float .f64 T, .int .i64 S, .int .i64 N, .int .i64 D, .int .i64 Y])
  have hgx : ¬ w.heap.size + 1 = w1.heap.size := by omega
  have hrx : ¬ w.heap.size = w1.heap.size := by omega
  have hxr : ¬ w1.heap.size = w.heap.size := by omega
  have hxv : w.heap.size ≤ w1.heap.size := by omega
  go_wp2_with fail
  clear cR0 cR1 cR2 cR3 cR4 cR5 fR
  refine (CA.out (w.heap.size + 1) w _ iss bel).mono ?_
  rintro e w2 ⟨rfl, hi, hb, hk⟩
  replace HR : Aside0 (Blk w2 (w.heap.size) 73 #[.float .f64 0, .int .i64 0, .int .i64 0, .int .i64 0, .int .i64 0, .int .i64 0]) := ⟨Blk.kept blk hk far⟩
  replace HX : Aside0 (Blk w2 (w1.heap.size) 68 #[.float .f64 T, .int .i64 S, .int .i64 N, .int .i64 D, .int .i64 Y]) := ⟨Blk.kept blk hk far⟩
  replace HI := Aside0.mk hi
  replace HB := Aside0.mk hb
  have hsw2 := hk.1
  try simp at hsw2
  clear hk hi hb
  obtain ⟨cR0, cR1, cR2, cR3, cR4, cR5, fR⟩ := HR.out.c6
  obtain ⟨cX0, cX1, cX2, cX3, cX4, fX⟩ := HX.out.c5
  go_wp2_with fail
  clear cR0 cR1 cR2 cR3 cR4 cR5 fR cX0 cX1 cX2 cX3 cX4 fX
  refine (CR.out _).mono ?_
  rintro e w3 ⟨rfl, hk⟩
  replace HR : Aside0 (Blk w3 (w.heap.size) 73 #[.float .f64 0, .int .i64 0, .int .i64 0, .int .i64 0, .int .i64 0, .int .i64 0]) := ⟨Blk.step blk hk⟩
  replace HX : Aside0 (Blk w3 (w1.heap.size) 68 #[.float .f64 T, .int .i64 S, .int .i64 N, .int .i64 D, .int .i64 Y]) := ⟨Blk.step blk hk⟩
  replace HI := Aside0.mk (IsS115.below iss hk)
  replace HB := Aside0.mk (below_step bel hk)
  have hsw3 := hk.size
  try simp at hsw3
  clear hk
  obtain ⟨cR0, cR1, cR2, cR3, cR4, cR5, fR⟩ := HR.out.c6
  obtain ⟨cX0, cX1, cX2, cX3, cX4, fX⟩ := HX.out.c5
  go_wp2_with fail
  clear cR0 cR1 cR2 cR3 cR4 cR5 fR cX0 cX1 cX2 cX3 cX4 fX
  refine (CF.out (w.heap.size + 1) w _ iss bel).mono ?_
  rintro e w4 ⟨rfl, hi, hb, hk⟩
  replace HR : Aside0 (Blk w4 (w.heap.size) 73 #[.float .f64 0, .int .i64 0, .int .i64 0, .int .i64 0, .int .i64 0, .int .i64 0]) := ⟨Blk.kept blk hk far⟩
  replace HX : Aside0 (Blk w4 (w1.heap.size) 68 #[.float .f64 T, .int .i64 S, .int .i64 N, .int .i64 D, .int .i64 Y]) := ⟨Blk.kept blk hk far⟩
  replace HI := Aside0.mk hi
  replace HB := Aside0.mk hb
  have hsw4 := hk.1
  try simp at hsw4
  clear hk hi hb
  obtain ⟨cR0, cR1, cR2, cR3, cR4, cR5, fR⟩ := HR.out.c6
  obtain ⟨cX0, cX1, cX2, cX3, cX4, fX⟩ := HX.out.c5
  go_wp2_with fail
  have hr3 := Try.results63
  refine bodyPost_ret (v := .tuple #[.agg #[.float .f64 0, .int .i64 0, .int .i64 0, .int .i64 0, .int .i64 0, .int .i64 0], .int .i64 E]) (by simp [results, Try.results63, go_sem, *]) rfl ⟨rfl, bel⟩


abbrev Ev := Nat × Int × Int × Int × Int
def ev0 : Ev := (0, 0, 0, 0, 0)
/-- The event that the reader reads; of a key the Dst is said. -/
def evA (s : ByteArray) (a : Int) (b : Bool) : Ev × Int × Bool :=
  let t := tmR s a b
  let y := byR s t.2.1 t.2.2
  let n := inR s y.2.1 y.2.2
  let d := byR s n.2.1 n.2.2
  let p := inR s d.2.1 d.2.2
  ((t.1, y.1 - 1, n.1, d.1, p.1), p.2.1, p.2.2)
def evB (s : ByteArray) (a : Int) (b : Bool) (d : Int) : Ev × Int × Bool :=
  let t := tmR s a b
  let y := byR s t.2.1 t.2.2
  let n := inR s y.2.1 y.2.2
  let p := inR s n.2.1 n.2.2
  ((t.1, y.1 - 1, n.1, d, p.1), p.2.1, p.2.2)
def rgt (x : Ev) : Bool := rightB x.1 x.2.1 x.2.2.1 x.2.2.2.1

theorem evA_in {s : ByteArray} {a : Int} {b : Bool} (h : 0 ≤ a ∧ a ≤ s.size) : 0 ≤ (evA s a b).2.1 ∧ (evA s a b).2.1 ≤ s.size :=
  inR_in (byR_in (inR_in (byR_in (tmR_in h))))

theorem event_byte_calls (g : Nat) (s : ByteArray) (a : Int) (b : Bool) (w0 w : World) (hz : s.size ≤ 140737488351232) (ha : 0 ≤ a ∧ a ≤ s.size) (hI : IsS115 w0 w g s a b) (hB : Below w0.heap.size w0 w) :
    Calls Try.prog 103 #[.pointer (some ⟨g, 0, none⟩), .func (.func 94) #[.pointer (some ⟨g, 0, none⟩)] #[]] w fun e w' => e = .returned (.agg #[.float .f64 (evA s a b).1.1, .int .i64 (evA s a b).1.2.1, .int .i64 (evA s a b).1.2.2.1, .int .i64 (evA s a b).1.2.2.2.1, .int .i64 (evA s a b).1.2.2.2.2]) ∧ IsS115 w0 w' g s (evA s a b).2.1 (evA s a b).2.2 ∧ Below w0.heap.size w0 w' ∧ KeepBut w w' g none :=
  event_byte g s a _ _ _ _ _ b _ _ _ _ _ _ _ _ _ _ w0 w hI hB (byR_range _ _ _) ⟨fun w hI hB => time_all g s a b w0 w hz ha hI hB⟩ ⟨fun w hI hB => byte_calls g s _ _ w0 w hz (tmR_in ha) hI hB⟩ ⟨fun w hI hB => int_calls g s _ _ w0 w hz (byR_in (tmR_in ha)) hI hB⟩
    ⟨fun w hI hB => byte_calls g s _ _ w0 w hz (inR_in (byR_in (tmR_in ha))) hI hB⟩ ⟨fun w hI hB => int_calls g s _ _ w0 w hz (byR_in (inR_in (byR_in (tmR_in ha)))) hI hB⟩

theorem said_calls (q : Nat) (d : Int) (w : World) (h : Blk w q 3 #[.int .i64 d]) : Calls Try.prog 106 #[.pointer (some ⟨q, 0, none⟩)] w fun e w' => e = .returned (.int .i64 d) ∧ w = w' := by
  have c : w.cell? ⟨q, 0, none⟩ = some (.int .i64 d) := h.cell 0
  clear h
  go_enter Try.func106, Try.ntmps106
  go_wp2
  go_ret
  exact ⟨rfl, rfl⟩

theorem event_said_calls (g q : Nat) (s : ByteArray) (a : Int) (b : Bool) (d : Int) (w0 w : World) (hz : s.size ≤ 140737488351232) (ha : 0 ≤ a ∧ a ≤ s.size) (hI : IsS115 w0 w g s a b) (hB : Below w0.heap.size w0 w) (hq : Blk w q 3 #[.int .i64 d]) (hg : ¬ g = q) :
    Calls Try.prog 103 #[.pointer (some ⟨g, 0, none⟩), .func (.func 106) #[] #[.pointer (some ⟨q, 0, none⟩)]] w fun e w' => e = .returned (.agg #[.float .f64 (evB s a b d).1.1, .int .i64 (evB s a b d).1.2.1, .int .i64 (evB s a b d).1.2.2.1, .int .i64 (evB s a b d).1.2.2.2.1, .int .i64 (evB s a b d).1.2.2.2.2]) ∧ IsS115 w0 w' g s (evB s a b d).2.1 (evB s a b d).2.2 ∧ Below w0.heap.size w0 w' ∧ KeepBut w w' g none :=
  event_said g s a _ _ _ _ _ b _ _ _ _ _ _ _ _ d _ q w0 w hI hB (byR_range _ _ _) ⟨fun w hI hB => time_all g s a b w0 w hz ha hI hB⟩ ⟨fun w hI hB => byte_calls g s _ _ w0 w hz (tmR_in ha) hI hB⟩ ⟨fun w hI hB => int_calls g s _ _ w0 w hz (byR_in (tmR_in ha)) hI hB⟩
    ⟨fun w' hK hI hB => (said_calls q d w' (hq.kept hK hg)).mono fun e w2 ⟨he, hw⟩ => ⟨he, hw ▸ hI, hw ▸ hB, hw ▸ KeepBut.refl w' g none⟩⟩ ⟨fun w hI hB => int_calls g s _ _ w0 w hz (inR_in (byR_in (tmR_in ha))) hI hB⟩

theorem right_ev (x : Ev) (w : World) : Calls Try.prog 101 #[.agg #[.float .f64 x.1, .int .i64 x.2.1, .int .i64 x.2.2.1, .int .i64 x.2.2.2.1, .int .i64 x.2.2.2.2]] w fun e w' => e = .returned (.bool (rgt x)) ∧ Below w.heap.size w w' := right_calls _ _ _ _ _ w

theorem enR_cases (s : ByteArray) (a : Int) (b ok : Bool) : (enR s a b ok = 0 ∧ ok = true) ∨ 1 ≤ enR s a b ok := by
  unfold enR
  split
  · exact .inr (by decide)
  · split
    · exact .inr (by decide)
    · split
      · rename_i h; exact .inl ⟨rfl, h⟩
      · exact .inr (by decide)

/-- What GetEvent, Of, GetMsg, GetDone come to. -/
def gev (s : ByteArray) : Ev × Int :=
  let x := evA s 0 false
  let e := enR s x.2.1 x.2.2 (rgt x.1)
  if e = 0 then (x.1, 0) else (ev0, e)
def gof (s : ByteArray) (d : Int) : Ev × Int :=
  let x := evB s 0 false d
  let e := enR s x.2.1 x.2.2 (rgt x.1)
  if e = 0 then (x.1, 0) else (ev0, e)
def gmsg (s : ByteArray) : Ev × Bool × Int :=
  let a := byR s 0 false
  let x := evA s a.2.1 a.2.2
  let e := enR s x.2.1 x.2.2 (rgt x.1 && decide (a.1 ≤ 1))
  if e = 0 then (x.1, a.1 == 1, 0) else (ev0, false, e)
def gdone (s : ByteArray) : Ev × Int × Int :=
  let x := evA s 0 false
  let a := byR s x.2.1 x.2.2
  let e := enR s a.2.1 a.2.2 (rgt x.1 && decide (a.1 ≤ 7))
  if e = 0 then (x.1, a.1, 0) else (ev0, 0, e)

theorem zin (s : ByteArray) : 0 ≤ (0 : Int) ∧ (0 : Int) ≤ s.size := ⟨Int.le_refl 0, Int.natCast_nonneg _⟩

theorem get61_calls (s : ByteArray) (hz : s.size ≤ 140737488351232) (w : World) :
    Calls Try.prog 61 #[.string s] w fun e w' => e = .returned (.tuple #[.agg #[.float .f64 (gev s).1.1, .int .i64 (gev s).1.2.1, .int .i64 (gev s).1.2.2.1, .int .i64 (gev s).1.2.2.2.1, .int .i64 (gev s).1.2.2.2.2], .int .i64 (gev s).2]) ∧ Below w.heap.size w w' := by
  unfold gev
  simp only
  rcases enR_cases s (evA s 0 false).2.1 (evA s 0 false).2.2 (rgt (evA s 0 false).1) with ⟨h, _⟩ | h
  · rw [if_pos h]
    exact get61_s0 s _ 0 _ false _ _ _ _ _ _ _ 0 0 w ⟨fun g w0 w hI hB => event_byte_calls g s 0 false w0 w hz (zin s) hI hB⟩ ⟨fun w => right_ev (evA s 0 false).1 w⟩ ⟨fun g w0 w hI hB => end_calls g s _ _ _ w0 w hI hB⟩ ⟨by omega, by omega⟩
  · rw [if_neg (by omega)]
    exact get61_s1 s _ 0 _ false _ _ _ _ _ _ _ 0 0 w ⟨fun g w0 w hI hB => event_byte_calls g s 0 false w0 w hz (zin s) hI hB⟩ ⟨fun w => right_ev (evA s 0 false).1 w⟩ ⟨fun g w0 w hI hB => end_calls g s _ _ _ w0 w hI hB⟩ h

theorem get78_calls (s : ByteArray) (d : Int) (hz : s.size ≤ 140737488351232) (w : World) :
    Calls Try.prog 78 #[.string s, .int .i64 d] w fun e w' => e = .returned (.tuple #[.agg #[.float .f64 (gof s d).1.1, .int .i64 (gof s d).1.2.1, .int .i64 (gof s d).1.2.2.1, .int .i64 (gof s d).1.2.2.2.1, .int .i64 (gof s d).1.2.2.2.2], .int .i64 (gof s d).2]) ∧ Below w.heap.size w w' := by
  unfold gof
  simp only
  rcases enR_cases s (evB s 0 false d).2.1 (evB s 0 false d).2.2 (rgt (evB s 0 false d).1) with ⟨h, _⟩ | h
  · rw [if_pos h]
    exact get78_s0 s _ 0 _ false _ _ _ _ _ _ _ 0 d w ⟨fun g q w0 w hI hB hq hg => event_said_calls g q s 0 false d w0 w hz (zin s) hI hB hq hg⟩ ⟨fun w => right_ev (evB s 0 false d).1 w⟩ ⟨fun g w0 w hI hB => end_calls g s _ _ _ w0 w hI hB⟩ ⟨by omega, by omega⟩
  · rw [if_neg (by omega)]
    exact get78_s1 s _ 0 _ false _ _ _ _ _ _ _ 0 d w ⟨fun g q w0 w hI hB hq hg => event_said_calls g q s 0 false d w0 w hz (zin s) hI hB hq hg⟩ ⟨fun w => right_ev (evB s 0 false d).1 w⟩ ⟨fun g w0 w hI hB => end_calls g s _ _ _ w0 w hI hB⟩ h

theorem get62_calls (s : ByteArray) (hz : s.size ≤ 140737488351232) (w : World) :
    Calls Try.prog 62 #[.string s] w fun e w' => e = .returned (.tuple #[.agg #[.float .f64 (gmsg s).1.1, .int .i64 (gmsg s).1.2.1, .int .i64 (gmsg s).1.2.2.1, .int .i64 (gmsg s).1.2.2.2.1, .int .i64 (gmsg s).1.2.2.2.2, .bool (gmsg s).2.1], .int .i64 (gmsg s).2.2]) ∧ Below w.heap.size w w' := by
  unfold gmsg
  simp only
  have CA := fun g w0 w hI hB => byte_calls g s 0 false w0 w hz (zin s) hI hB
  have CE := fun g w0 w hI hB => event_byte_calls g s (byR s 0 false).2.1 (byR s 0 false).2.2 w0 w hz (byR_in (zin s)) hI hB
  have CR := fun w => right_ev (evA s (byR s 0 false).2.1 (byR s 0 false).2.2).1 w
  have CF := fun g w0 w hI hB => end_calls g s (evA s (byR s 0 false).2.1 (byR s 0 false).2.2).2.1 (evA s (byR s 0 false).2.1 (byR s 0 false).2.2).2.2 (rgt (evA s (byR s 0 false).2.1 (byR s 0 false).2.2).1 && decide ((byR s 0 false).1 ≤ 1)) w0 w hI hB
  rcases enR_cases s (evA s (byR s 0 false).2.1 (byR s 0 false).2.2).2.1 (evA s (byR s 0 false).2.1 (byR s 0 false).2.2).2.2 (rgt (evA s (byR s 0 false).2.1 (byR s 0 false).2.2).1 && decide ((byR s 0 false).1 ≤ 1)) with ⟨h, ho⟩ | h
  · rw [if_pos h]
    rw [h, ho] at CF
    rw [Bool.and_eq_true] at ho
    rw [ho.1] at CR
    exact get62_ty0 s _ _ _ _ false _ _ _ _ _ 0 _ 0 w ⟨CA⟩ ⟨CE⟩ ⟨CR⟩ ⟨CF⟩ ho.2 ⟨Int.le_refl 0, Int.le_refl 0⟩
  · rw [if_neg (by omega)]
    by_cases hr : rgt (evA s (byR s 0 false).2.1 (byR s 0 false).2.2).1 = true
    · by_cases ht : decide ((byR s 0 false).1 ≤ 1) = true
      · rw [hr, ht, Bool.and_true] at CF h
        rw [hr] at CR
        rw [hr, ht, Bool.and_true]
        exact get62_ty1 s _ _ _ _ false _ _ _ _ _ _ _ 0 w ⟨CA⟩ ⟨CE⟩ ⟨CR⟩ ⟨CF⟩ ht h
      · rw [hr, Bool.eq_false_iff.2 ht, Bool.and_false] at CF h
        rw [hr] at CR
        rw [hr, Bool.eq_false_iff.2 ht, Bool.and_false]
        exact get62_tn1 s _ _ _ _ false _ _ _ _ _ _ _ 0 w ⟨CA⟩ ⟨CE⟩ ⟨CR⟩ ⟨CF⟩ (Bool.eq_false_iff.2 ht) h
    · rw [Bool.eq_false_iff.2 hr, Bool.false_and] at CF h
      rw [Bool.eq_false_iff.2 hr] at CR
      rw [Bool.eq_false_iff.2 hr, Bool.false_and]
      exact get62_f1 s _ _ _ _ false _ _ _ _ _ _ _ 0 w ⟨CA⟩ ⟨CE⟩ ⟨CR⟩ ⟨CF⟩ h

theorem get63_calls (s : ByteArray) (hz : s.size ≤ 140737488351232) (w : World) :
    Calls Try.prog 63 #[.string s] w fun e w' => e = .returned (.tuple #[.agg #[.float .f64 (gdone s).1.1, .int .i64 (gdone s).1.2.1, .int .i64 (gdone s).1.2.2.1, .int .i64 (gdone s).1.2.2.2.1, .int .i64 (gdone s).1.2.2.2.2, .int .i64 (gdone s).2.1], .int .i64 (gdone s).2.2]) ∧ Below w.heap.size w w' := by
  unfold gdone
  simp only
  have CA := fun g w0 w hI hB => byte_calls g s (evA s 0 false).2.1 (evA s 0 false).2.2 w0 w hz (evA_in (zin s)) hI hB
  have CE := fun g w0 w hI hB => event_byte_calls g s 0 false w0 w hz (zin s) hI hB
  have CR := fun w => right_ev (evA s 0 false).1 w
  have CF := fun g w0 w hI hB => end_calls g s (byR s (evA s 0 false).2.1 (evA s 0 false).2.2).2.1 (byR s (evA s 0 false).2.1 (evA s 0 false).2.2).2.2 (rgt (evA s 0 false).1 && decide ((byR s (evA s 0 false).2.1 (evA s 0 false).2.2).1 ≤ 7)) w0 w hI hB
  rcases enR_cases s (byR s (evA s 0 false).2.1 (evA s 0 false).2.2).2.1 (byR s (evA s 0 false).2.1 (evA s 0 false).2.2).2.2 (rgt (evA s 0 false).1 && decide ((byR s (evA s 0 false).2.1 (evA s 0 false).2.2).1 ≤ 7)) with ⟨h, ho⟩ | h
  · rw [if_pos h]
    rw [h, ho] at CF
    rw [Bool.and_eq_true] at ho
    rw [ho.1] at CR
    exact get63_ty0 s _ _ _ _ false _ _ _ _ _ 0 _ 0 w ⟨CA⟩ ⟨CE⟩ ⟨CR⟩ ⟨CF⟩ ho.2 ⟨Int.le_refl 0, Int.le_refl 0⟩
  · rw [if_neg (by omega)]
    by_cases hr : rgt (evA s 0 false).1 = true
    · by_cases ht : decide ((byR s (evA s 0 false).2.1 (evA s 0 false).2.2).1 ≤ 7) = true
      · rw [hr, ht, Bool.and_true] at CF h
        rw [hr] at CR
        rw [hr, ht, Bool.and_true]
        exact get63_ty1 s _ _ _ _ false _ _ _ _ _ _ _ 0 w ⟨CA⟩ ⟨CE⟩ ⟨CR⟩ ⟨CF⟩ ht h
      · rw [hr, Bool.eq_false_iff.2 ht, Bool.and_false] at CF h
        rw [hr] at CR
        rw [hr, Bool.eq_false_iff.2 ht, Bool.and_false]
        exact get63_tn1 s _ _ _ _ false _ _ _ _ _ _ _ 0 w ⟨CA⟩ ⟨CE⟩ ⟨CR⟩ ⟨CF⟩ (Bool.eq_false_iff.2 ht) h
    · rw [Bool.eq_false_iff.2 hr, Bool.false_and] at CF h
      rw [Bool.eq_false_iff.2 hr] at CR
      rw [Bool.eq_false_iff.2 hr, Bool.false_and]
      exact get63_f1 s _ _ _ _ false _ _ _ _ _ _ _ 0 w ⟨CA⟩ ⟨CE⟩ ⟨CR⟩ ⟨CF⟩ h

end Go.Proofs.Ytlbjcdfognofgaa.RecE
