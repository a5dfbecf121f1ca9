/- StampFirst: First tells the first of the least stamps; no condition. -/
import Derived.Test.YtlbjcdfognofgaaRows
import Derived.Test.YtlbjcdfognofgaaFirstW
import Derived.WalkKit
import Derived.ProofKit
import Derived.OpenShut
import Derived.ShutString
import Derived.ChangeOld
import Derived.Below
import Derived.SizedLaws
import Derived.Laws.Cover2
import Derived.Deep.Slices
import Derived.Deep.Fields
import Derived.ChangeSame
namespace Go.Proofs.Ytlbjcdfognofgaa.stampFirst
open Go.ChangeShapes Go.WideShapes Go.ChangeAt Go.RowKit
open Go.ChangeMaps (open_string shut_string)
set_option linter.unusedVariables false
theorem own : ownKnob Try.prog.godebug = none := by kernel_rfl
theorem laidOut : laidOutB Try.prog = true := by kernel_rfl
open Go.Deep
open Go.Proofs.Ytlbjcdfognofgaa.FirstW (IsStamps)
theorem cell_float {H : Type} {enc : TypeId × Value → H} {w : World} {base : Nat} {spare : Nat → Bool} {held : Bool} {P : Program} {t n : Nat} {cs : List Value} {x : DataW H × List MemPlace} {k : FloatKind} (ht : P.underlying t = some (.float k)) (h : DataW.trod enc P w base spare held n t cs = some x) : ∃ b, cs = [.float k b] ∧ (Lit.float k b).wf = true := by
  cases n with
  | zero => simp [DataW.trod] at h
  | succ n =>
    unfold DataW.trod at h
    rw [ht] at h
    split at h <;> simp_all
theorem stamp_cells {H : Type} {enc : TypeId × Value → H} {w : World} {held : Bool} {n : Nat} {cs : List Value} {x : DataW H × List MemPlace} (hl : cs.length = 3) (h : DataW.trod enc Try.prog w 0 (fun _ => true) held n 42 cs = some x) : ∃ (t : Nat) (s k : Int), cs = [.float .f64 t, .int .i64 s, .int .i64 k] := by
  match cs, hl with
  | [c0, c1, c2], _ =>
    obtain ⟨xs, n', _, _, _, hlq, hg⟩ := DataW.trod_struct Try.underlying42 h
    have f00 := hg 0 _ rfl
    have f0 : DataW.trod enc Try.prog w 0 (fun _ => true) held n' 36 [c0] = some (xs[0]'(by rw [hlq]; decide)) := by
      rw [← List.getElem?_eq_getElem]; simpa [show Try.prog.cellsOf 36 = 1 from by kernel_rfl] using f00
    have f10 := hg 1 _ rfl
    have f1 : DataW.trod enc Try.prog w 0 (fun _ => true) held n' 3 [c1] = some (xs[1]'(by rw [hlq]; decide)) := by
      rw [← List.getElem?_eq_getElem]; simpa [show Try.prog.cellsOf 3 = 1 from by kernel_rfl] using f10
    have f20 := hg 2 _ rfl
    have f2 : DataW.trod enc Try.prog w 0 (fun _ => true) held n' 3 [c2] = some (xs[2]'(by rw [hlq]; decide)) := by
      rw [← List.getElem?_eq_getElem]; simpa [show Try.prog.cellsOf 3 = 1 from by kernel_rfl] using f20
    obtain ⟨t, e0, _⟩ := cell_float Try.underlying36 f0
    obtain ⟨s, e1, _, _⟩ := DataW.trod_int Try.underlying3 f1
    obtain ⟨k, e2, _, _⟩ := DataW.trod_int Try.underlying3 f2
    simp only [List.cons.injEq, and_true] at e0 e1 e2
    exact ⟨t, s, k, by rw [e0, e1, e2]⟩
theorem cell_stamps {H : Type} {enc : TypeId × Value → H} {w : World} {held : Bool} {n : Nat} {c : Value} {x : DataW H × List MemPlace} (h : DataW.trod enc Try.prog w 0 (fun _ => true) held n 88 [c] = some x) : ∃ a l q z, [c] = [.slice a l q] ∧ IsStamps w a l q z := by
  have c42 : Try.prog.cellsOf 42 = 3 := by kernel_rfl
  rcases open_slice Try.underlying88 h with ⟨hcs, _⟩ | ⟨a, len, cap, m, n1, D, Pl, hcs, _, hl, _, hm, _, hi⟩
  · exact ⟨_, _, _, (fun _ => 0, fun _ => 0, fun _ => 0), hcs, .inl ⟨rfl, rfl, rfl⟩⟩
  · have hm' : m = cap := by simpa using hm
    have key : ∀ i, i < len → ∃ (t : Nat) (s k : Int), w.cell? (a.add (i * 3)) = some (.float .f64 t) ∧ w.cell? (a.add (i * 3 + 1)) = some (.int .i64 s) ∧ w.cell? (a.add (i * 3 + 2)) = some (.int .i64 k) := by
      intro i hlt
      obtain ⟨cs, hc, ht⟩ := hi i (by omega)
      rw [c42] at hc
      obtain ⟨_, hcl, hat⟩ := World.cells?_some hc
      obtain ⟨t, s, k, e⟩ := stamp_cells hcl ht
      have q0 := hat 0 (by decide)
      have q1 := hat 1 (by decide)
      have q2 := hat 2 (by decide)
      rw [Go.Deep.add_add, e] at q0 q1 q2
      exact ⟨t, s, k, q0, q1, q2⟩
    refine ⟨_, _, _, (fun i => if h : i < len then (key i h).choose else 0, fun i => if h : i < len then (key i h).choose_spec.choose else 0, fun i => if h : i < len then (key i h).choose_spec.choose_spec.choose else 0), hcs, .inr ⟨a, rfl, hl, fun i hi => ?_⟩⟩
    have q := (key i hi).choose_spec.choose_spec.choose_spec
    simp only [dif_pos hi]
    exact q
set_option maxRecDepth 100000 in
theorem lifted (os : Os) (started : os.Started) (H : Type) (enc : TypeId × Value → H) :
    ReturnsInHanded {} Try.checked os 13 .any (Rows.stampFirstSpec.pre6 enc Try.prog Try.f13 Rows.stampFirstRow.domain false) (Rows.stampFirstSpec.post enc Try.prog Try.f13 false true false false) := by
  refine returnsInHanded_of_change_sized (C := Try.checked) own started (by kernel_rfl) Try.func13
    (ChangeSpec.witness6 (enc := enc) (C := Try.checked) false ⟨#[], #[.slice none 0 0], []⟩ 8 (by kernel_rfl) (by kernel_rfl) (by kernel_rfl) (by kernel_rfl)) ?_
  intro W base args ds gs before hval0 hW hcnd hsz0 _
  have hsz : (DataW.weightsEach Try.prog (Try.f13.params.toList ++ Rows.stampFirstSpec.plain.varTypes Try.prog) (ds ++ gs)).all (· ≤ reachBytes) = true := hsz0
  have hval : ∀ (j : Nat) t v, Try.f13.params[j]? = some t → args[j]? = some v → Value.okWide Try.prog W .any base t v := hval0
  have hW' := hW
  obtain ⟨p, q, hA0, hV, rfl, hfz, hnd⟩ := hW
  have hA : DataW.TrodAll enc Try.prog W 0 (fun _ => true) true Try.f13.params.toList args.toList ds p := hA0
  rw [Try.params13] at hA hval hsz
  obtain ⟨v0, vs0, d0, ds0, p0, q0, hargs, rfl, rfl, h0, r0⟩ := trodAll_cons hA
  obtain ⟨rfl, rfl, rfl⟩ := trodAll_nil r0
  obtain rfl : args = #[v0] := by cases args; simp_all
  obtain ⟨rfl, rfl⟩ := trodVars_none hV
  have k0 := h0
  have lt0 : ∀ x ∈ p0, x.block < W.heap.size := by obtain ⟨m, hm⟩ := k0; exact DataW.trod_lt m _ _ _ hm
  obtain ⟨b0, l0, c0, rfl⟩ := okWide_slice Try.underlying88 (hval 0 88 v0 rfl rfl)
  obtain ⟨z0, w0⟩ : ∃ z, IsStamps W b0 l0 c0 z := by
    obtain ⟨fuel, hf⟩ := h0
    simp only [Value.cells] at hf
    obtain ⟨a, l, q, z, e, r⟩ := cell_stamps hf
    simp only [List.cons.injEq, Value.slice.injEq, and_true] at e
    obtain ⟨rfl, rfl, rfl⟩ := e
    exact ⟨z, r⟩
  clear hA0 hval0 hsz0
  refine (FirstW.law b0 l0 c0 z0 w0).mono fun e W' ⟨he, bel⟩ => ?_
  subst he
  exact ⟨_, rfl, _, _, _, [], _, [], hW', trodAll_mk1 (shut_bool Try.underlying4 _), (trodAll_cons_mk (Below.trod laidOut (by kernel_rfl) (of_decide_eq_true (by kernel_rfl)) k0 bel lt0) trodAll_mk0), rfl, bel.frame _, fun h => by cases h⟩
theorem over : Rows.stampFirstRow.holds Try.pinned (OpenSpec.ofChange Rows.stampFirstSpec) :=
  OpenClaim.holds_of_wide 13 Try.f13 rfl rfl rfl rfl rfl rfl rfl ⟨rfl, rfl, rfl, rfl, rfl⟩ rfl rfl rfl rfl rfl (by kernel_rfl) Try.func13 (by kernel_rfl)
    (of_decide_eq_true (by kernel_rfl)) (by unfold Func.isWrapper; first | (rw [if_pos (by decide +kernel)]; kernel_rfl) | (rw [if_neg (by decide +kernel)]; exact ⟨rfl, rfl⟩))
    (fun os started H enc _ => lifted os started H enc)
theorem proved : Rows.StampFirstSaid := over
#print axioms proved
end Go.Proofs.Ytlbjcdfognofgaa.stampFirst
namespace Go.Proofs.Ytlbjcdfognofgaa
/-- The row, under a short name, for the claim. -/
theorem stampFirst_holds : Rows.StampFirstSaid := stampFirst.proved
end Go.Proofs.Ytlbjcdfognofgaa

