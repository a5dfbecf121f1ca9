/- The row RecStates: every state's bytes, and what any bytes are, read as one. -/
import Derived.Test.YtlbjcdfognofgaaRows
import Derived.Test.YtlbjcdfognofgaaStatesR
import Derived.WalkKit
import Derived.ProofKit
import Derived.OpenShut
import Derived.ShutString
import Derived.ChangeOld
import Derived.Below
import Derived.SizedLaws
import Derived.Laws.Cover2
namespace Go.Proofs.Ytlbjcdfognofgaa.recStates
open Go.ChangeShapes Go.WideShapes Go.ChangeAt Go.RowKit
open Go.ChangeMaps (open_string shut_string)
set_option linter.unusedVariables false
theorem own : ownKnob Try.prog.godebug = none := by kernel_rfl
theorem laidOut : laidOutB Try.prog = true := by kernel_rfl
open Go.Proofs.Ytlbjcdfognofgaa.Be (IsRow)
theorem cell_ints {H : Type} {enc : TypeId × Value → H} {w : World}   {held : Bool} {P : Program} {t e n : Nat} {c : Value} {x : DataW H × List MemPlace} {k : IntKind} (ht : P.underlying t = some (.slice e)) (he : P.underlying e = some (.int k)) (hc : P.cellsOf e = 1) (h : DataW.trod enc P w 0 (fun _ => true) held n t [c] = some x) : ∃ a l q z, [c] = [.slice a l q] ∧ IsRow k w a l q z := by
  rcases open_ints ht he hc h with ⟨hcs, _⟩ | ⟨y, l, q, zs, hcs, _, hl, hm, hz, _, hcell, hwz⟩
  · exact ⟨_, _, _, [], hcs, .inl ⟨rfl, rfl, rfl, rfl⟩⟩
  · exact ⟨_, _, _, zs, hcs, .inr ⟨_, rfl, hl, hm, by simpa using hz, hcell, hwz⟩⟩
set_option maxRecDepth 100000 in
theorem open48 {H : Type} {enc : TypeId × Value → H} {w : World}   {held : Bool} {r : Reach} {b0 : Nat} {v : Value} {d : DataW H} {p : List MemPlace} (hv : Value.okWide Try.prog w r b0 48 v) (h : DataW.Trod enc Try.prog w 0 (fun _ => true) held 48 v d p) :
    ∃ (a1 : Option Addr) (l1 c1 : Nat) (z1 : List Int) (a2 : Int) (a3 : Int), v = .agg #[.slice a1 l1 c1, .int .i64 a2, .int .i64 a3] ∧ IsRow .i64 w a1 l1 c1 z1 ∧ (Lit.int .i64 a2).wf = true ∧ (Lit.int .i64 a3).wf = true := by
  obtain ⟨cs, rfl, hsz⟩ := okWide_struct Try.underlying48 hv
  obtain ⟨l⟩ := cs
  have hc : Try.prog.cellsOf 48 = 3 := by kernel_rfl
  match l, hsz.trans hc with
  | [cl0, cl1, cl2], _ =>
    obtain ⟨fuel, hf⟩ := h
    simp only [Value.cells] at hf
    obtain ⟨xsq1, nq1, _, _, _, hlq1, hgq1⟩ := DataW.trod_struct Try.underlying48 hf
    have h20 := hgq1 0 _ rfl
    have h2 : DataW.trod enc Try.prog w 0 (fun _ => true) held nq1 30 [cl0] = some (xsq1[0]'(by rw [hlq1]; decide)) := by
      rw [← List.getElem?_eq_getElem]; simpa [show Try.prog.cellsOf 30 = 1 from by kernel_rfl] using h20
    clear h20
    obtain ⟨a1, l1, c1, z1, e1, w1⟩ := cell_ints Try.underlying30 Try.underlying3 (by kernel_rfl) h2
    obtain rfl : cl0 = .slice a1 l1 c1 := by simpa using e1
    have h30 := hgq1 1 _ rfl
    have h3 : DataW.trod enc Try.prog w 0 (fun _ => true) held nq1 3 [cl1] = some (xsq1[1]'(by rw [hlq1]; decide)) := by
      rw [← List.getElem?_eq_getElem]; simpa [show Try.prog.cellsOf 3 = 1 from by kernel_rfl] using h30
    clear h30
    obtain ⟨a2, e2, _, w2⟩ := DataW.trod_int Try.underlying3 h3
    obtain rfl : cl1 = .int .i64 a2 := by simpa using e2
    have h40 := hgq1 2 _ rfl
    have h4 : DataW.trod enc Try.prog w 0 (fun _ => true) held nq1 3 [cl2] = some (xsq1[2]'(by rw [hlq1]; decide)) := by
      rw [← List.getElem?_eq_getElem]; simpa [show Try.prog.cellsOf 3 = 1 from by kernel_rfl] using h40
    clear h40
    obtain ⟨a3, e3, _, w3⟩ := DataW.trod_int Try.underlying3 h4
    obtain rfl : cl2 = .int .i64 a3 := by simpa using e3
    exact ⟨a1, l1, c1, z1, a2, a3, rfl, w1, w2, w3⟩
set_option maxRecDepth 100000 in
theorem lifted (os : Os) (started : os.Started) (H : Type) (enc : TypeId × Value → H) :
    ReturnsInHanded {} Try.checked os 9 .any (Rows.recStatesSpec.pre6 enc Try.prog Try.f9 Rows.recStatesRow.domain false) (Rows.recStatesSpec.post enc Try.prog Try.f9 false true false false) := by
  refine returnsInHanded_of_change_sized (C := Try.checked) own started (by kernel_rfl) Try.func9
    (ChangeSpec.witness6 (enc := enc) (C := Try.checked) false ⟨#[], #[.agg #[.slice none 0 0, .int .i64 0, .int .i64 0], .string ByteArray.empty], []⟩ 8 (by kernel_rfl) (by kernel_rfl) (by kernel_rfl) (by kernel_rfl)) ?_
  intro W base args ds gs before hval0 hW hcnd hsz0 _
  have hsz : (DataW.weightsEach Try.prog (Try.f9.params.toList ++ Rows.recStatesSpec.plain.varTypes Try.prog) (ds ++ gs)).all (· ≤ reachBytes) = true := hsz0
  have hval : ∀ (j : Nat) t v, Try.f9.params[j]? = some t → args[j]? = some v → Value.okWide Try.prog W .any base t v := hval0
  have hW' := hW
  obtain ⟨p, q, hA0, hV, rfl, hfz, hnd⟩ := hW
  have hA : DataW.TrodAll enc Try.prog W 0 (fun _ => true) true Try.f9.params.toList args.toList ds p := hA0
  rw [Try.params9] at hA hval hsz
  obtain ⟨v0, vs0, d0, ds0, p0, q0, hargs, rfl, rfl, h0, r0⟩ := trodAll_cons hA
  obtain ⟨v1, vs1, d1, ds1, p1, q1, rfl, rfl, rfl, h1, r1⟩ := trodAll_cons r0
  obtain ⟨rfl, rfl, rfl⟩ := trodAll_nil r1
  obtain rfl : args = #[v0, v1] := by cases args; simp_all
  obtain ⟨rfl, rfl⟩ := trodVars_none hV
  have k0 := h0
  have lt0 : ∀ x ∈ p0, x.block < W.heap.size := by obtain ⟨m, hm⟩ := k0; exact DataW.trod_lt m _ _ _ hm
  obtain ⟨a1_0, l1_0, c1_0, z1_0, a2_0, a3_0, rfl, u1_0, u2_0, u3_0⟩ := open48 (hval 0 48 v0 rfl rfl) h0
  have k1 := h1
  have lt1 : ∀ x ∈ p1, x.block < W.heap.size := by obtain ⟨m, hm⟩ := k1; exact DataW.trod_lt m _ _ _ hm
  obtain ⟨b1, rfl, e1, _, y1⟩ := open_string Try.underlying9 (hval 1 9 v1 rfl rfl) h1
  have w1 : b1.size ≤ 140737488351232 := by
    subst e1
    have z := sized_string hsz (j := 1) (t := 9) rfl rfl
    rw [Array.length_toList] at z
    exact z
  clear hA0 hval0 hsz0
  refine (Go.Proofs.Ytlbjcdfognofgaa.StatesR.law a1_0 l1_0 c1_0 z1_0 a2_0 a3_0 b1 u1_0 u2_0 u3_0 w1).mono fun e W' ⟨he, bel⟩ => ?_
  subst he
  exact ⟨_, rfl, _, _, _, [], _, [], hW', trodAll_mk1 (shut_bool Try.underlying4 _), (trodAll_cons_mk (Below.trod laidOut (by kernel_rfl) (of_decide_eq_true (by kernel_rfl)) k0 bel lt0) (trodAll_cons_mk (Below.trod laidOut (by kernel_rfl) (of_decide_eq_true (by kernel_rfl)) k1 bel lt1) trodAll_mk0)), rfl, bel.frame _, fun h => by cases h⟩
theorem u1 : (Rows.recStatesRow.inPlace == Try.pinned.checked.prog.inPlace 9) = true := by kernel_rfl
theorem u2 : (Rows.recStatesRow.unfollowed == Try.pinned.checked.prog.unfollowed 9) = true := by kernel_rfl
theorem u3 : (Rows.recStatesRow.recurses == Try.pinned.checked.prog.recurses 9) = true := by kernel_rfl
theorem u4 : (Rows.recStatesRow.named == Try.pinned.checked.prog.varsNamed 9) = true := by kernel_rfl
theorem closed : joinedFacts Try.pinned.checked.prog 9 Try.f9 Rows.recStatesSpec Rows.recStatesRow = true := by
  unfold joinedFacts
  rw [u1, u2, u3, u4]
  kernel_rfl
theorem over : Rows.recStatesRow.holds Try.pinned (OpenSpec.ofChange Rows.recStatesSpec) :=
  OpenClaim.holds_of_wide 9 Try.f9 rfl rfl rfl rfl rfl rfl rfl ⟨rfl, rfl, rfl, rfl, rfl⟩ rfl rfl rfl rfl rfl (by kernel_rfl) Try.func9 closed
    (of_decide_eq_true (by kernel_rfl)) (by unfold Func.isWrapper; first | (rw [if_pos (by decide +kernel)]; kernel_rfl) | (rw [if_neg (by decide +kernel)]; exact ⟨rfl, rfl⟩))
    (fun os started H enc _ => lifted os started H enc)
theorem proved : Rows.RecStatesSaid := over
#print axioms proved
end Go.Proofs.Ytlbjcdfognofgaa.recStates
namespace Go.Proofs.Ytlbjcdfognofgaa
/-- The row, under a short name, for the claim. -/
theorem recStates_holds : Rows.RecStatesSaid := recStates.proved
end Go.Proofs.Ytlbjcdfognofgaa

