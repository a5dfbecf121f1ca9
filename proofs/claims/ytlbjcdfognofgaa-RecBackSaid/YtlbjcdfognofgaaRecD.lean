/- An event that is read. -/
import Derived.Test.YtlbjcdfognofgaaRecC
import Derived.Test.YtlbjcdfognofgaaWk
import Derived.Deep.DrawnRows
import Derived.Deep.RegionHeld3
namespace Go.Proofs.Ytlbjcdfognofgaa.RecD
open Go.RowKit Go.Proofs.YtlbjcdfognofgaaW.PrintWords Go.Proofs.YtlbjcdfognofgaaW.PrintLast Go.Proofs.YtlbjcdfognofgaaW.PrintMore Go.Proofs.Ytlbjcdfognofgaa.Be Go.Proofs.Ytlbjcdfognofgaa.Fl Go.Proofs.Ytlbjcdfognofgaa.StampA Go.Proofs.Ytlbjcdfognofgaa.StampB Go.Proofs.Ytlbjcdfognofgaa.StampC Go.Proofs.Ytlbjcdfognofgaa.StampD Go.Proofs.Ytlbjcdfognofgaa.StampK Go.Proofs.Ytlbjcdfognofgaa.SRec Go.Proofs.Ytlbjcdfognofgaa.StampQ Go.Proofs.Ytlbjcdfognofgaa.StampR Go.Proofs.Ytlbjcdfognofgaa.Wk Go.Proofs.Ytlbjcdfognofgaa.RecA Go.Proofs.Ytlbjcdfognofgaa.RecB Go.Proofs.Ytlbjcdfognofgaa.RecC Go.Proofs.Ytlbjcdfognofgaa.PRecStates
attribute [local go_sem ↓] Go.wp_at_zero Go.wp_at_succ
attribute [local go_sem] run_store_float
set_option linter.unusedVariables false


set_option maxRecDepth 100000 in
set_option maxHeartbeats 4000000 in
theorem event_byte (g : Nat) (s : ByteArray) (a a1 a2 a3 a4 a5 : Int) (b b1 b2 b3 b4 b5 : Bool) (T : Nat) (S N D Y : Int) (w0 w : World) (hI : IsS115 w0 w g s a b) (hB : Below w0.heap.size w0 w) (hS : 0 ≤ S ∧ S ≤ 255)
    (CT : Aside0 (∀ w, IsS115 w0 w g s a b → Below w0.heap.size w0 w → Calls Try.prog 109 #[.pointer (some ⟨g, 0, none⟩)] w fun e w' => e = .returned (.float .f64 T) ∧ IsS115 w0 w' g s a1 b1 ∧ Below w0.heap.size w0 w' ∧ KeepBut w w' g none))
    (CS : Aside0 (∀ w, IsS115 w0 w g s a1 b1 → Below w0.heap.size w0 w → Calls Try.prog 94 #[.pointer (some ⟨g, 0, none⟩)] w fun e w' => e = .returned (.int .i64 S) ∧ IsS115 w0 w' g s a2 b2 ∧ Below w0.heap.size w0 w' ∧ KeepBut w w' g none))
    (CN : Aside0 (∀ w, IsS115 w0 w g s a2 b2 → Below w0.heap.size w0 w → Calls Try.prog 95 #[.pointer (some ⟨g, 0, none⟩)] w fun e w' => e = .returned (.int .i64 N) ∧ IsS115 w0 w' g s a3 b3 ∧ Below w0.heap.size w0 w' ∧ KeepBut w w' g none))
    (CD : Aside0 (∀ w', IsS115 w0 w' g s a3 b3 → Below w0.heap.size w0 w' → Calls Try.prog 94 #[.pointer (some ⟨g, 0, none⟩)] w' fun e w2 => e = .returned (.int .i64 D) ∧ IsS115 w0 w2 g s a4 b4 ∧ Below w0.heap.size w0 w2 ∧ KeepBut w' w2 g none))
    (CY : Aside0 (∀ w, IsS115 w0 w g s a4 b4 → Below w0.heap.size w0 w → Calls Try.prog 95 #[.pointer (some ⟨g, 0, none⟩)] w fun e w' => e = .returned (.int .i64 Y) ∧ IsS115 w0 w' g s a5 b5 ∧ Below w0.heap.size w0 w' ∧ KeepBut w w' g none)) :
    Calls Try.prog 103 #[.pointer (some ⟨g, 0, none⟩), .func (.func 94) #[.pointer (some ⟨g, 0, none⟩)] #[]] w fun e w' => e = .returned (.agg #[.float .f64 T, .int .i64 (S - 1), .int .i64 N, .int .i64 D, .int .i64 Y]) ∧ IsS115 w0 w' g s a5 b5 ∧ Below w0.heap.size w0 w' ∧ KeepBut w w' g none := by
  have hu2 := Try.underlying42
  have hu3 := Try.underlying68
  obtain ⟨hS1, hS2⟩ := hS
  have hgl := hI.lt
  have hgr : ¬ g = w.heap.size := by omega
  have hgh : ¬ g = w.heap.size + 1 := by omega
  have hrh : ¬ w.heap.size = w.heap.size + 1 := by omega
  have hhr : ¬ w.heap.size + 1 = w.heap.size := by omega
  have hv0 : w0.heap.size ≤ w.heap.size := hB.size
  have hv1 : w0.heap.size ≤ w.heap.size + 1 := by omega
  have hv2 : w.heap.size ≤ w.heap.size + 1 := by omega
  have hv3 : w.heap.size ≤ w.heap.size := by omega
  have HI := Aside0.mk hI
  have HK := Aside0.mk (KeepBut.refl w g none)
  have HB := Aside0.mk hB
  have HR := Aside0.mk ((Blk.new w 68 #[.float .f64 0, .int .i64 0, .int .i64 0, .int .i64 0, .int .i64 0]).alloc (.cells #[.float .f64 0, .int .i64 0, .int .i64 0, .int .i64 0, .int .i64 0] 68))
  have HH : Aside0 (Blk ((w.alloc (.cells #[.float .f64 0, .int .i64 0, .int .i64 0, .int .i64 0, .int .i64 0] 68)).alloc (.cells #[.float .f64 0, .int .i64 0, .int .i64 0, .int .i64 0, .int .i64 0] 68)) (w.heap.size + 1) 68 #[.float .f64 0, .int .i64 0, .int .i64 0, .int .i64 0, .int .i64 0]) := Aside0.mk (by have h := Blk.new (w.alloc (.cells #[.float .f64 0, .int .i64 0, .int .i64 0, .int .i64 0, .int .i64 0] 68)) 68 #[.float .f64 0, .int .i64 0, .int .i64 0, .int .i64 0, .int .i64 0]; simpa using h)
  clear hI hB hgl
  go_enter Try.func103, Try.ntmps103
  go_wp2_with fail
  refine (CT.out _ iss bel).mono ?_
  rintro e w1 ⟨rfl, hi, hb, hk⟩
  replace HR : Aside0 (Blk w1 (w.heap.size) 68 #[.float .f64 0, .int .i64 0, .int .i64 0, .int .i64 0, .int .i64 0]) := ⟨Blk.kept blk hk hgr⟩
  replace HH : Aside0 (Blk w1 (w.heap.size + 1) 68 #[.float .f64 0, .int .i64 0, .int .i64 0, .int .i64 0, .int .i64 0]) := ⟨Blk.kept blk hk hgh⟩
  replace HK : Aside0 (KeepBut w w1 g none) := ⟨KeepBut.trans kpb hk (.inl rfl)⟩
  replace HI := Aside0.mk hi
  replace HB := Aside0.mk hb
  clear hi hb hk
  obtain ⟨cR0, cR1, cR2, cR3, cR4, fR⟩ := HR.out.c5
  obtain ⟨cH0, cH1, cH2, cH3, cH4, fH⟩ := HH.out.c5
  go_wp2_with fail
  clear cR0 cR1 cR2 cR3 cR4 fR cH0 cH1 cH2 cH3 cH4 fH
  refine (CS.out _ iss bel).mono ?_
  rintro e w1 ⟨rfl, hi, hb, hk⟩
  replace HR : Aside0 (Blk w1 (w.heap.size) 68 #[.float .f64 0, .int .i64 0, .int .i64 0, .int .i64 0, .int .i64 0]) := ⟨Blk.kept blk hk hgr⟩
  replace HH : Aside0 (Blk w1 (w.heap.size + 1) 68 #[.float .f64 T, .int .i64 0, .int .i64 0, .int .i64 0, .int .i64 0]) := ⟨Blk.kept blk hk hgh⟩
  replace HK : Aside0 (KeepBut w w1 g none) := ⟨KeepBut.trans kpb hk (.inl rfl)⟩
  replace HI := Aside0.mk hi
  replace HB := Aside0.mk hb
  clear hi hb hk
  obtain ⟨cR0, cR1, cR2, cR3, cR4, fR⟩ := HR.out.c5
  obtain ⟨cH0, cH1, cH2, cH3, cH4, fH⟩ := HH.out.c5
  go_wp2_with fail
  clear cR0 cR1 cR2 cR3 cR4 fR cH0 cH1 cH2 cH3 cH4 fH
  refine (CN.out _ iss bel).mono ?_
  rintro e w1 ⟨rfl, hi, hb, hk⟩
  replace HR : Aside0 (Blk w1 (w.heap.size) 68 #[.float .f64 0, .int .i64 0, .int .i64 0, .int .i64 0, .int .i64 0]) := ⟨Blk.kept blk hk hgr⟩
  replace HH : Aside0 (Blk w1 (w.heap.size + 1) 68 #[.float .f64 T, .int .i64 (S - 1), .int .i64 0, .int .i64 0, .int .i64 0]) := ⟨Blk.kept blk hk hgh⟩
  replace HK : Aside0 (KeepBut w w1 g none) := ⟨KeepBut.trans kpb hk (.inl rfl)⟩
  replace HI := Aside0.mk hi
  replace HB := Aside0.mk hb
  clear hi hb hk
  obtain ⟨cR0, cR1, cR2, cR3, cR4, fR⟩ := HR.out.c5
  obtain ⟨cH0, cH1, cH2, cH3, cH4, fH⟩ := HH.out.c5
  go_wp2_with fail
  clear cR0 cR1 cR2 cR3 cR4 fR cH0 cH1 cH2 cH3 cH4 fH
  refine (CD.out _ iss bel).mono ?_
  rintro e w1 ⟨rfl, hi, hb, hk⟩
  replace HR : Aside0 (Blk w1 (w.heap.size) 68 #[.float .f64 0, .int .i64 0, .int .i64 0, .int .i64 0, .int .i64 0]) := ⟨Blk.kept blk hk hgr⟩
  replace HH : Aside0 (Blk w1 (w.heap.size + 1) 68 #[.float .f64 T, .int .i64 (S - 1), .int .i64 N, .int .i64 0, .int .i64 0]) := ⟨Blk.kept blk hk hgh⟩
  replace HK : Aside0 (KeepBut w w1 g none) := ⟨KeepBut.trans kpb hk (.inl rfl)⟩
  replace HI := Aside0.mk hi
  replace HB := Aside0.mk hb
  clear hi hb hk
  obtain ⟨cR0, cR1, cR2, cR3, cR4, fR⟩ := HR.out.c5
  obtain ⟨cH0, cH1, cH2, cH3, cH4, fH⟩ := HH.out.c5
  go_wp2_with fail
  clear cR0 cR1 cR2 cR3 cR4 fR cH0 cH1 cH2 cH3 cH4 fH
  refine (CY.out _ iss bel).mono ?_
  rintro e w1 ⟨rfl, hi, hb, hk⟩
  replace HR : Aside0 (Blk w1 (w.heap.size) 68 #[.float .f64 0, .int .i64 0, .int .i64 0, .int .i64 0, .int .i64 0]) := ⟨Blk.kept blk hk hgr⟩
  replace HH : Aside0 (Blk w1 (w.heap.size + 1) 68 #[.float .f64 T, .int .i64 (S - 1), .int .i64 N, .int .i64 D, .int .i64 0]) := ⟨Blk.kept blk hk hgh⟩
  replace HK : Aside0 (KeepBut w w1 g none) := ⟨KeepBut.trans kpb hk (.inl rfl)⟩
  replace HI := Aside0.mk hi
  replace HB := Aside0.mk hb
  clear hi hb hk
  obtain ⟨cR0, cR1, cR2, cR3, cR4, fR⟩ := HR.out.c5
  obtain ⟨cH0, cH1, cH2, cH3, cH4, fH⟩ := HH.out.c5
  go_wp2_with fail
  have hr3 := Try.results103
  refine bodyPost_ret (v := .agg #[.float .f64 T, .int .i64 (S - 1), .int .i64 N, .int .i64 D, .int .i64 Y]) (by simp [results, Try.results103, go_sem, *]) rfl ⟨rfl, iss, bel, kpb⟩


set_option maxRecDepth 100000 in
set_option maxHeartbeats 4000000 in
theorem event_said (g : Nat) (s : ByteArray) (a a1 a2 a3 a4 a5 : Int) (b b1 b2 b3 b4 b5 : Bool) (T : Nat) (S N D Y : Int) (d : Nat) (w0 w : World) (hI : IsS115 w0 w g s a b) (hB : Below w0.heap.size w0 w) (hS : 0 ≤ S ∧ S ≤ 255)
    (CT : Aside0 (∀ w, IsS115 w0 w g s a b → Below w0.heap.size w0 w → Calls Try.prog 109 #[.pointer (some ⟨g, 0, none⟩)] w fun e w' => e = .returned (.float .f64 T) ∧ IsS115 w0 w' g s a1 b1 ∧ Below w0.heap.size w0 w' ∧ KeepBut w w' g none))
    (CS : Aside0 (∀ w, IsS115 w0 w g s a1 b1 → Below w0.heap.size w0 w → Calls Try.prog 94 #[.pointer (some ⟨g, 0, none⟩)] w fun e w' => e = .returned (.int .i64 S) ∧ IsS115 w0 w' g s a2 b2 ∧ Below w0.heap.size w0 w' ∧ KeepBut w w' g none))
    (CN : Aside0 (∀ w, IsS115 w0 w g s a2 b2 → Below w0.heap.size w0 w → Calls Try.prog 95 #[.pointer (some ⟨g, 0, none⟩)] w fun e w' => e = .returned (.int .i64 N) ∧ IsS115 w0 w' g s a3 b3 ∧ Below w0.heap.size w0 w' ∧ KeepBut w w' g none))
    (CD : Aside0 (∀ w', KeepBut w w' g none → IsS115 w0 w' g s a3 b3 → Below w0.heap.size w0 w' → Calls Try.prog 106 #[.pointer (some ⟨d, 0, none⟩)] w' fun e w2 => e = .returned (.int .i64 D) ∧ IsS115 w0 w2 g s a4 b4 ∧ Below w0.heap.size w0 w2 ∧ KeepBut w' w2 g none))
    (CY : Aside0 (∀ w, IsS115 w0 w g s a4 b4 → Below w0.heap.size w0 w → Calls Try.prog 95 #[.pointer (some ⟨g, 0, none⟩)] w fun e w' => e = .returned (.int .i64 Y) ∧ IsS115 w0 w' g s a5 b5 ∧ Below w0.heap.size w0 w' ∧ KeepBut w w' g none)) :
    Calls Try.prog 103 #[.pointer (some ⟨g, 0, none⟩), .func (.func 106) #[] #[.pointer (some ⟨d, 0, none⟩)]] w fun e w' => e = .returned (.agg #[.float .f64 T, .int .i64 (S - 1), .int .i64 N, .int .i64 D, .int .i64 Y]) ∧ IsS115 w0 w' g s a5 b5 ∧ Below w0.heap.size w0 w' ∧ KeepBut w w' g none := by
  have hu2 := Try.underlying42
  have hu3 := Try.underlying68
  obtain ⟨hS1, hS2⟩ := hS
  have hgl := hI.lt
  have hgr : ¬ g = w.heap.size := by omega
  have hgh : ¬ g = w.heap.size + 1 := by omega
  have hrh : ¬ w.heap.size = w.heap.size + 1 := by omega
  have hhr : ¬ w.heap.size + 1 = w.heap.size := by omega
  have hv0 : w0.heap.size ≤ w.heap.size := hB.size
  have hv1 : w0.heap.size ≤ w.heap.size + 1 := by omega
  have hv2 : w.heap.size ≤ w.heap.size + 1 := by omega
  have hv3 : w.heap.size ≤ w.heap.size := by omega
  have HI := Aside0.mk hI
  have HK := Aside0.mk (KeepBut.refl w g none)
  have HB := Aside0.mk hB
  have HR := Aside0.mk ((Blk.new w 68 #[.float .f64 0, .int .i64 0, .int .i64 0, .int .i64 0, .int .i64 0]).alloc (.cells #[.float .f64 0, .int .i64 0, .int .i64 0, .int .i64 0, .int .i64 0] 68))
  have HH : Aside0 (Blk ((w.alloc (.cells #[.float .f64 0, .int .i64 0, .int .i64 0, .int .i64 0, .int .i64 0] 68)).alloc (.cells #[.float .f64 0, .int .i64 0, .int .i64 0, .int .i64 0, .int .i64 0] 68)) (w.heap.size + 1) 68 #[.float .f64 0, .int .i64 0, .int .i64 0, .int .i64 0, .int .i64 0]) := Aside0.mk (by have h := Blk.new (w.alloc (.cells #[.float .f64 0, .int .i64 0, .int .i64 0, .int .i64 0, .int .i64 0] 68)) 68 #[.float .f64 0, .int .i64 0, .int .i64 0, .int .i64 0, .int .i64 0]; simpa using h)
  clear hI hB hgl
  go_enter Try.func103, Try.ntmps103
  go_wp2_with fail
  refine (CT.out _ iss bel).mono ?_
  rintro e w1 ⟨rfl, hi, hb, hk⟩
  replace HR : Aside0 (Blk w1 (w.heap.size) 68 #[.float .f64 0, .int .i64 0, .int .i64 0, .int .i64 0, .int .i64 0]) := ⟨Blk.kept blk hk hgr⟩
  replace HH : Aside0 (Blk w1 (w.heap.size + 1) 68 #[.float .f64 0, .int .i64 0, .int .i64 0, .int .i64 0, .int .i64 0]) := ⟨Blk.kept blk hk hgh⟩
  replace HK : Aside0 (KeepBut w w1 g none) := ⟨KeepBut.trans kpb hk (.inl rfl)⟩
  replace HI := Aside0.mk hi
  replace HB := Aside0.mk hb
  clear hi hb hk
  obtain ⟨cR0, cR1, cR2, cR3, cR4, fR⟩ := HR.out.c5
  obtain ⟨cH0, cH1, cH2, cH3, cH4, fH⟩ := HH.out.c5
  go_wp2_with fail
  clear cR0 cR1 cR2 cR3 cR4 fR cH0 cH1 cH2 cH3 cH4 fH
  refine (CS.out _ iss bel).mono ?_
  rintro e w1 ⟨rfl, hi, hb, hk⟩
  replace HR : Aside0 (Blk w1 (w.heap.size) 68 #[.float .f64 0, .int .i64 0, .int .i64 0, .int .i64 0, .int .i64 0]) := ⟨Blk.kept blk hk hgr⟩
  replace HH : Aside0 (Blk w1 (w.heap.size + 1) 68 #[.float .f64 T, .int .i64 0, .int .i64 0, .int .i64 0, .int .i64 0]) := ⟨Blk.kept blk hk hgh⟩
  replace HK : Aside0 (KeepBut w w1 g none) := ⟨KeepBut.trans kpb hk (.inl rfl)⟩
  replace HI := Aside0.mk hi
  replace HB := Aside0.mk hb
  clear hi hb hk
  obtain ⟨cR0, cR1, cR2, cR3, cR4, fR⟩ := HR.out.c5
  obtain ⟨cH0, cH1, cH2, cH3, cH4, fH⟩ := HH.out.c5
  go_wp2_with fail
  clear cR0 cR1 cR2 cR3 cR4 fR cH0 cH1 cH2 cH3 cH4 fH
  refine (CN.out _ iss bel).mono ?_
  rintro e w1 ⟨rfl, hi, hb, hk⟩
  replace HR : Aside0 (Blk w1 (w.heap.size) 68 #[.float .f64 0, .int .i64 0, .int .i64 0, .int .i64 0, .int .i64 0]) := ⟨Blk.kept blk hk hgr⟩
  replace HH : Aside0 (Blk w1 (w.heap.size + 1) 68 #[.float .f64 T, .int .i64 (S - 1), .int .i64 0, .int .i64 0, .int .i64 0]) := ⟨Blk.kept blk hk hgh⟩
  replace HK : Aside0 (KeepBut w w1 g none) := ⟨KeepBut.trans kpb hk (.inl rfl)⟩
  replace HI := Aside0.mk hi
  replace HB := Aside0.mk hb
  clear hi hb hk
  obtain ⟨cR0, cR1, cR2, cR3, cR4, fR⟩ := HR.out.c5
  obtain ⟨cH0, cH1, cH2, cH3, cH4, fH⟩ := HH.out.c5
  go_wp2_with fail
  clear cR0 cR1 cR2 cR3 cR4 fR cH0 cH1 cH2 cH3 cH4 fH
  refine (CD.out _ kpb iss bel).mono ?_
  rintro e w1 ⟨rfl, hi, hb, hk⟩
  replace HR : Aside0 (Blk w1 (w.heap.size) 68 #[.float .f64 0, .int .i64 0, .int .i64 0, .int .i64 0, .int .i64 0]) := ⟨Blk.kept blk hk hgr⟩
  replace HH : Aside0 (Blk w1 (w.heap.size + 1) 68 #[.float .f64 T, .int .i64 (S - 1), .int .i64 N, .int .i64 0, .int .i64 0]) := ⟨Blk.kept blk hk hgh⟩
  replace HK : Aside0 (KeepBut w w1 g none) := ⟨KeepBut.trans kpb hk (.inl rfl)⟩
  replace HI := Aside0.mk hi
  replace HB := Aside0.mk hb
  clear hi hb hk
  obtain ⟨cR0, cR1, cR2, cR3, cR4, fR⟩ := HR.out.c5
  obtain ⟨cH0, cH1, cH2, cH3, cH4, fH⟩ := HH.out.c5
  go_wp2_with fail
  clear cR0 cR1 cR2 cR3 cR4 fR cH0 cH1 cH2 cH3 cH4 fH
  refine (CY.out _ iss bel).mono ?_
  rintro e w1 ⟨rfl, hi, hb, hk⟩
  replace HR : Aside0 (Blk w1 (w.heap.size) 68 #[.float .f64 0, .int .i64 0, .int .i64 0, .int .i64 0, .int .i64 0]) := ⟨Blk.kept blk hk hgr⟩
  replace HH : Aside0 (Blk w1 (w.heap.size + 1) 68 #[.float .f64 T, .int .i64 (S - 1), .int .i64 N, .int .i64 D, .int .i64 0]) := ⟨Blk.kept blk hk hgh⟩
  replace HK : Aside0 (KeepBut w w1 g none) := ⟨KeepBut.trans kpb hk (.inl rfl)⟩
  replace HI := Aside0.mk hi
  replace HB := Aside0.mk hb
  clear hi hb hk
  obtain ⟨cR0, cR1, cR2, cR3, cR4, fR⟩ := HR.out.c5
  obtain ⟨cH0, cH1, cH2, cH3, cH4, fH⟩ := HH.out.c5
  go_wp2_with fail
  have hr3 := Try.results103
  refine bodyPost_ret (v := .agg #[.float .f64 T, .int .i64 (S - 1), .int .i64 N, .int .i64 D, .int .i64 Y]) (by simp [results, Try.results103, go_sem, *]) rfl ⟨rfl, iss, bel, kpb⟩

end Go.Proofs.Ytlbjcdfognofgaa.RecD
