/- RecEvents: every event's bytes and key are as the reference says, as a message and as one that was handled, or it may not be. -/
import Derived.Test.YtlbjcdfognofgaaRows
import Derived.Test.YtlbjcdfognofgaaEventsR
import Derived.WalkKit
import Derived.ProofKit
import Derived.OpenShut
import Derived.ShutString
import Derived.ChangeOld
import Derived.Below
import Derived.SizedLaws
import Derived.Laws.Cover2
namespace Go.Proofs.Ytlbjcdfognofgaa.recEvents
open Go.ChangeShapes Go.WideShapes Go.ChangeAt Go.RowKit
open Go.ChangeMaps (open_string shut_string)
set_option linter.unusedVariables false
theorem own : ownKnob Try.prog.godebug = none := by kernel_rfl
theorem laidOut : laidOutB Try.prog = true := by kernel_rfl
theorem cell_float {H : Type} {enc : TypeId × Value → H} {w : World} {base : Nat} {spare : Nat → Bool} {held : Bool} {P : Program} {t n : Nat} {cs : List Value} {x : DataW H × List MemPlace} {k : FloatKind} (ht : P.underlying t = some (.float k)) (h : DataW.trod enc P w base spare held n t cs = some x) : ∃ b, cs = [.float k b] ∧ (Lit.float k b).wf = true := by
  cases n with
  | zero => simp [DataW.trod] at h
  | succ n =>
    unfold DataW.trod at h
    rw [ht] at h
    split at h <;> simp_all
set_option maxRecDepth 100000 in
theorem open68 {H : Type} {enc : TypeId × Value → H} {w : World} {base : Nat} {spare : Nat → Bool} {held : Bool} {r : Reach} {b0 : Nat} {v : Value} {d : DataW H} {p : List MemPlace} (hv : Value.okWide Try.prog w r b0 68 v) (h : DataW.Trod enc Try.prog w base spare held 68 v d p) :
    ∃ (a1 : Nat) (a2 : Int) (a3 : Int) (a4 : Int) (a5 : Int), v = .agg #[.float .f64 a1, .int .i64 a2, .int .i64 a3, .int .i64 a4, .int .i64 a5] ∧ (Lit.float .f64 a1).wf = true ∧ (Lit.int .i64 a2).wf = true ∧ (Lit.int .i64 a3).wf = true ∧ (Lit.int .i64 a4).wf = true ∧ (Lit.int .i64 a5).wf = true := by
  obtain ⟨cs, rfl, hsz⟩ := okWide_struct Try.underlying68 hv
  obtain ⟨l⟩ := cs
  have hc : Try.prog.cellsOf 68 = 5 := by kernel_rfl
  match l, hsz.trans hc with
  | [c0, c1, c2, c3, c4], _ =>
    obtain ⟨fuel, hf⟩ := h
    simp only [Value.cells] at hf
    obtain ⟨xsq1, nq1, _, _, _, hlq1, hgq1⟩ := DataW.trod_struct Try.underlying68 hf
    have h20 := hgq1 0 _ rfl
    have h2 : DataW.trod enc Try.prog w base spare held nq1 42 [c0, c1, c2] = some (xsq1[0]'(by rw [hlq1]; decide)) := by
      rw [← List.getElem?_eq_getElem]; simpa [show Try.prog.cellsOf 42 = 3 from by kernel_rfl] using h20
    clear h20
    obtain ⟨xsq3, nq3, _, _, _, hlq3, hgq3⟩ := DataW.trod_struct Try.underlying42 h2
    have h40 := hgq3 0 _ rfl
    have h4 : DataW.trod enc Try.prog w base spare held nq3 36 [c0] = some (xsq3[0]'(by rw [hlq3]; decide)) := by
      rw [← List.getElem?_eq_getElem]; simpa [show Try.prog.cellsOf 36 = 1 from by kernel_rfl] using h40
    clear h40
    obtain ⟨a1, e1, w1⟩ := cell_float Try.underlying36 h4
    obtain rfl : c0 = .float .f64 a1 := by simpa using e1
    have h50 := hgq3 1 _ rfl
    have h5 : DataW.trod enc Try.prog w base spare held nq3 3 [c1] = some (xsq3[1]'(by rw [hlq3]; decide)) := by
      rw [← List.getElem?_eq_getElem]; simpa [show Try.prog.cellsOf 3 = 1 from by kernel_rfl] using h50
    clear h50
    obtain ⟨a2, e2, _, w2⟩ := DataW.trod_int Try.underlying3 h5
    obtain rfl : c1 = .int .i64 a2 := by simpa using e2
    have h60 := hgq3 2 _ rfl
    have h6 : DataW.trod enc Try.prog w base spare held nq3 3 [c2] = some (xsq3[2]'(by rw [hlq3]; decide)) := by
      rw [← List.getElem?_eq_getElem]; simpa [show Try.prog.cellsOf 3 = 1 from by kernel_rfl] using h60
    clear h60
    obtain ⟨a3, e3, _, w3⟩ := DataW.trod_int Try.underlying3 h6
    obtain rfl : c2 = .int .i64 a3 := by simpa using e3
    have h70 := hgq1 1 _ rfl
    have h7 : DataW.trod enc Try.prog w base spare held nq1 3 [c3] = some (xsq1[1]'(by rw [hlq1]; decide)) := by
      rw [← List.getElem?_eq_getElem]; simpa [show Try.prog.cellsOf 3 = 1 from by kernel_rfl] using h70
    clear h70
    obtain ⟨a4, e4, _, w4⟩ := DataW.trod_int Try.underlying3 h7
    obtain rfl : c3 = .int .i64 a4 := by simpa using e4
    have h80 := hgq1 2 _ rfl
    have h8 : DataW.trod enc Try.prog w base spare held nq1 3 [c4] = some (xsq1[2]'(by rw [hlq1]; decide)) := by
      rw [← List.getElem?_eq_getElem]; simpa [show Try.prog.cellsOf 3 = 1 from by kernel_rfl] using h80
    clear h80
    obtain ⟨a5, e5, _, w5⟩ := DataW.trod_int Try.underlying3 h8
    obtain rfl : c4 = .int .i64 a5 := by simpa using e5
    exact ⟨a1, a2, a3, a4, a5, rfl, w1, w2, w3, w4, w5⟩
set_option maxRecDepth 100000 in
theorem lifted (os : Os) (started : os.Started) (H : Type) (enc : TypeId × Value → H) :
    ReturnsInHanded {} Try.checked os 20 .any (Rows.recEventsSpec.pre6 enc Try.prog Try.f20 Rows.recEventsRow.domain false) (Rows.recEventsSpec.post enc Try.prog Try.f20 false true false false) := by
  refine returnsInHanded_of_change_sized (C := Try.checked) own started (by kernel_rfl) Try.func20
    (ChangeSpec.witness6 (enc := enc) (C := Try.checked) false ⟨#[], #[.agg #[.float .f64 0, .int .i64 0, .int .i64 0, .int .i64 0, .int .i64 0], .bool false, .int .i64 0], []⟩ 8 (by kernel_rfl) (by kernel_rfl) (by kernel_rfl) (by kernel_rfl)) ?_
  intro W base args ds gs before hval0 hW hcnd hsz0 _
  have hsz : (DataW.weightsEach Try.prog (Try.f20.params.toList ++ Rows.recEventsSpec.plain.varTypes Try.prog) (ds ++ gs)).all (· ≤ reachBytes) = true := hsz0
  have hval : ∀ (j : Nat) t v, Try.f20.params[j]? = some t → args[j]? = some v → Value.okWide Try.prog W .any base t v := hval0
  have hW' := hW
  obtain ⟨p, q, hA0, hV, rfl, hfz, hnd⟩ := hW
  have hA : DataW.TrodAll enc Try.prog W 0 (fun _ => true) true Try.f20.params.toList args.toList ds p := hA0
  rw [Try.params20] at hA hval hsz
  obtain ⟨v0, vs0, d0, ds0, p0, q0, hargs, rfl, rfl, h0, r0⟩ := trodAll_cons hA
  obtain ⟨v1, vs1, d1, ds1, p1, q1, rfl, rfl, rfl, h1, r1⟩ := trodAll_cons r0
  obtain ⟨v2, vs2, d2, ds2, p2, q2, rfl, rfl, rfl, h2, r2⟩ := trodAll_cons r1
  obtain ⟨rfl, rfl, rfl⟩ := trodAll_nil r2
  obtain rfl : args = #[v0, v1, v2] := by cases args; simp_all
  obtain ⟨rfl, rfl⟩ := trodVars_none hV
  have k0 := h0
  have lt0 : ∀ x ∈ p0, x.block < W.heap.size := by obtain ⟨m, hm⟩ := k0; exact DataW.trod_lt m _ _ _ hm
  obtain ⟨a1_0, a2_0, a3_0, a4_0, a5_0, rfl, u1_0, u2_0, u3_0, u4_0, u5_0⟩ := open68 (hval 0 68 v0 rfl rfl) h0
  have k1 := h1
  have lt1 : ∀ x ∈ p1, x.block < W.heap.size := by obtain ⟨m, hm⟩ := k1; exact DataW.trod_lt m _ _ _ hm
  obtain ⟨b1, rfl, _, _⟩ := open_bool Try.underlying4 (hval 1 4 v1 rfl rfl) h1
  have k2 := h2
  have lt2 : ∀ x ∈ p2, x.block < W.heap.size := by obtain ⟨m, hm⟩ := k2; exact DataW.trod_lt m _ _ _ hm
  obtain ⟨b2, rfl, _, _, w2⟩ := open_int Try.underlying3 (hval 2 3 v2 rfl rfl) h2
  clear hA0 hval0 hsz0
  refine (EventsR.law a1_0 a2_0 a3_0 a4_0 a5_0 b1 b2 u1_0 u2_0 u3_0 u4_0 u5_0 w2).mono fun e W' ⟨he, bel⟩ => ?_
  subst he
  exact ⟨_, rfl, _, _, _, [], _, [], hW', trodAll_mk1 (shut_bool Try.underlying4 _), (trodAll_cons_mk (Below.trod laidOut (by kernel_rfl) (of_decide_eq_true (by kernel_rfl)) k0 bel lt0) (trodAll_cons_mk (Below.trod laidOut (by kernel_rfl) (of_decide_eq_true (by kernel_rfl)) k1 bel lt1) (trodAll_cons_mk (Below.trod laidOut (by kernel_rfl) (of_decide_eq_true (by kernel_rfl)) k2 bel lt2) trodAll_mk0))), rfl, bel.frame _, fun h => by cases h⟩
theorem u1 : (Rows.recEventsRow.inPlace == Try.pinned.checked.prog.inPlace 20) = true := by kernel_rfl
theorem u2 : (Rows.recEventsRow.unfollowed == Try.pinned.checked.prog.unfollowed 20) = true := by kernel_rfl
theorem u3 : (Rows.recEventsRow.recurses == Try.pinned.checked.prog.recurses 20) = true := by kernel_rfl
theorem u4 : (Rows.recEventsRow.named == Try.pinned.checked.prog.varsNamed 20) = true := by kernel_rfl
theorem closed : joinedFacts Try.pinned.checked.prog 20 Try.f20 Rows.recEventsSpec Rows.recEventsRow = true := by
  unfold joinedFacts
  rw [u1, u2, u3, u4]
  kernel_rfl
theorem over : Rows.recEventsRow.holds Try.pinned (OpenSpec.ofChange Rows.recEventsSpec) :=
  OpenClaim.holds_of_wide 20 Try.f20 rfl rfl rfl rfl rfl rfl rfl ⟨rfl, rfl, rfl, rfl, rfl⟩ rfl rfl rfl rfl rfl (by kernel_rfl) Try.func20 closed
    (of_decide_eq_true (by kernel_rfl)) (by unfold Func.isWrapper; first | (rw [if_pos (by decide +kernel)]; kernel_rfl) | (rw [if_neg (by decide +kernel)]; exact ⟨rfl, rfl⟩))
    (fun os started H enc _ => lifted os started H enc)
theorem proved : Rows.RecEventsSaid := over
#print axioms proved
end Go.Proofs.Ytlbjcdfognofgaa.recEvents
namespace Go.Proofs.Ytlbjcdfognofgaa
/-- The row, under a short name, for the claim. -/
theorem recEvents_holds : Rows.RecEventsSaid := recEvents.proved
end Go.Proofs.Ytlbjcdfognofgaa

