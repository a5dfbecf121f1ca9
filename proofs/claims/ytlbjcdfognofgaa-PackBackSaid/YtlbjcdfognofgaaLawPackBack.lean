/- PackBack: whatever number, text or list the package pack lays is read as it was, whatever bytes stand ahead of it and behind; no condition. -/
import Derived.Test.YtlbjcdfognofgaaRows
import Derived.Test.YtlbjcdfognofgaaBackW
import Derived.Test.YtlbjcdfognofgaaBk
import Derived.WalkKit
import Derived.ProofKit
import Derived.OpenShut
import Derived.ShutString
import Derived.ChangeOld
import Derived.Below
import Derived.SizedLaws
import Derived.Laws.Cover2
namespace Go.Proofs.Ytlbjcdfognofgaa.packBack
open Go.ChangeShapes Go.WideShapes Go.ChangeAt Go.RowKit
open Go.ChangeMaps (open_string shut_string)
set_option linter.unusedVariables false
theorem own : ownKnob Try.prog.godebug = none := by kernel_rfl
theorem laidOut : laidOutB Try.prog = true := by kernel_rfl
open Go.Proofs.Ytlbjcdfognofgaa.Be (IsRow)
theorem cell_ints {H : Type} {enc : TypeId × Value → H} {w : World}   {held : Bool} {P : Program} {t e n : Nat} {c : Value} {x : DataW H × List MemPlace} {k : IntKind} (ht : P.underlying t = some (.slice e)) (he : P.underlying e = some (.int k)) (hc : P.cellsOf e = 1) (h : DataW.trod enc P w 0 (fun _ => true) held n t [c] = some x) : ∃ a l q z, [c] = [.slice a l q] ∧ IsRow k w a l q z := by
  rcases open_ints ht he hc h with ⟨hcs, _⟩ | ⟨y, l, q, zs, hcs, _, hl, hm, hz, _, hcell, hwz⟩
  · exact ⟨_, _, _, [], hcs, .inl ⟨rfl, rfl, rfl, rfl⟩⟩
  · exact ⟨_, _, _, zs, hcs, .inr ⟨_, rfl, hl, hm, by simpa using hz, hcell, hwz⟩⟩
set_option maxRecDepth 100000 in
theorem open92 {H : Type} {enc : TypeId × Value → H} {w : World}   {held : Bool} {r : Reach} {b0 : Nat} {v : Value} {d : DataW H} {p : List MemPlace} (hv : Value.okWide Try.prog w r b0 92 v) (h : DataW.Trod enc Try.prog w 0 (fun _ => true) held 92 v d p) :
    ∃ (a1 : ByteArray) (a2 : ByteArray) (a3 : Int) (a4 : Int) (a5 : ByteArray) (a6 : Option Addr) (l6 c6 : Nat) (z6 : List Int), v = .agg #[.string a1, .string a2, .int .u64 a3, .int .i64 a4, .string a5, .slice a6 l6 c6] ∧ a1.size ≤ maxLen ∧ a2.size ≤ maxLen ∧ (Lit.int .u64 a3).wf = true ∧ (Lit.int .i64 a4).wf = true ∧ a5.size ≤ maxLen ∧ IsRow .i64 w a6 l6 c6 z6 := by
  obtain ⟨cs, rfl, hsz⟩ := okWide_struct Try.underlying92 hv
  obtain ⟨l⟩ := cs
  have hc : Try.prog.cellsOf 92 = 6 := by kernel_rfl
  match l, hsz.trans hc with
  | [c0, c1, c2, c3, c4, c5], _ =>
    obtain ⟨fuel, hf⟩ := h
    simp only [Value.cells] at hf
    obtain ⟨xsq1, nq1, _, _, _, hlq1, hgq1⟩ := DataW.trod_struct Try.underlying92 hf
    have h20 := hgq1 0 _ rfl
    have h2 : DataW.trod enc Try.prog w 0 (fun _ => true) held nq1 9 [c0] = some (xsq1[0]'(by rw [hlq1]; decide)) := by
      rw [← List.getElem?_eq_getElem]; simpa [show Try.prog.cellsOf 9 = 1 from by kernel_rfl] using h20
    clear h20
    obtain ⟨a1, e1, _, w1⟩ := DataW.trod_string Try.underlying9 h2
    obtain rfl : c0 = .string a1 := by simpa using e1
    have h30 := hgq1 1 _ rfl
    have h3 : DataW.trod enc Try.prog w 0 (fun _ => true) held nq1 9 [c1] = some (xsq1[1]'(by rw [hlq1]; decide)) := by
      rw [← List.getElem?_eq_getElem]; simpa [show Try.prog.cellsOf 9 = 1 from by kernel_rfl] using h30
    clear h30
    obtain ⟨a2, e2, _, w2⟩ := DataW.trod_string Try.underlying9 h3
    obtain rfl : c1 = .string a2 := by simpa using e2
    have h40 := hgq1 2 _ rfl
    have h4 : DataW.trod enc Try.prog w 0 (fun _ => true) held nq1 22 [c2] = some (xsq1[2]'(by rw [hlq1]; decide)) := by
      rw [← List.getElem?_eq_getElem]; simpa [show Try.prog.cellsOf 22 = 1 from by kernel_rfl] using h40
    clear h40
    obtain ⟨a3, e3, _, w3⟩ := DataW.trod_int Try.underlying22 h4
    obtain rfl : c2 = .int .u64 a3 := by simpa using e3
    have h50 := hgq1 3 _ rfl
    have h5 : DataW.trod enc Try.prog w 0 (fun _ => true) held nq1 3 [c3] = some (xsq1[3]'(by rw [hlq1]; decide)) := by
      rw [← List.getElem?_eq_getElem]; simpa [show Try.prog.cellsOf 3 = 1 from by kernel_rfl] using h50
    clear h50
    obtain ⟨a4, e4, _, w4⟩ := DataW.trod_int Try.underlying3 h5
    obtain rfl : c3 = .int .i64 a4 := by simpa using e4
    have h60 := hgq1 4 _ rfl
    have h6 : DataW.trod enc Try.prog w 0 (fun _ => true) held nq1 9 [c4] = some (xsq1[4]'(by rw [hlq1]; decide)) := by
      rw [← List.getElem?_eq_getElem]; simpa [show Try.prog.cellsOf 9 = 1 from by kernel_rfl] using h60
    clear h60
    obtain ⟨a5, e5, _, w5⟩ := DataW.trod_string Try.underlying9 h6
    obtain rfl : c4 = .string a5 := by simpa using e5
    have h70 := hgq1 5 _ rfl
    have h7 : DataW.trod enc Try.prog w 0 (fun _ => true) held nq1 30 [c5] = some (xsq1[5]'(by rw [hlq1]; decide)) := by
      rw [← List.getElem?_eq_getElem]; simpa [show Try.prog.cellsOf 30 = 1 from by kernel_rfl] using h70
    clear h70
    obtain ⟨a6, l6, c6, z6, e6, w6⟩ := cell_ints Try.underlying30 Try.underlying3 (by kernel_rfl) h7
    obtain rfl : c5 = .slice a6 l6 c6 := by simpa using e6
    exact ⟨a1, a2, a3, a4, a5, a6, l6, c6, z6, rfl, w1, w2, w3, w4, w5, w6⟩
set_option maxRecDepth 100000 in
theorem lifted (os : Os) (started : os.Started) (H : Type) (enc : TypeId × Value → H) :
    ReturnsInHanded {} Try.checked os 14 .any (Rows.packBackSpec.pre6 enc Try.prog Try.f14 Rows.packBackRow.domain false) (Rows.packBackSpec.post enc Try.prog Try.f14 false true false false) := by
  refine returnsInHanded_of_change_sized (C := Try.checked) own started (by kernel_rfl) Try.func14
    (ChangeSpec.witness6 (enc := enc) (C := Try.checked) false ⟨#[], #[.agg #[.string ByteArray.empty, .string ByteArray.empty, .int .u64 0, .int .i64 0, .string ByteArray.empty, .slice none 0 0]], []⟩ 8 (by kernel_rfl) (by kernel_rfl) (by kernel_rfl) (by kernel_rfl)) ?_
  intro W base args ds gs before hval0 hW hcnd hsz0 _
  have hsz : (DataW.weightsEach Try.prog (Try.f14.params.toList ++ Rows.packBackSpec.plain.varTypes Try.prog) (ds ++ gs)).all (· ≤ reachBytes) = true := hsz0
  have hval : ∀ (j : Nat) t v, Try.f14.params[j]? = some t → args[j]? = some v → Value.okWide Try.prog W .any base t v := hval0
  have hW' := hW
  obtain ⟨p, q, hA0, hV, rfl, hfz, hnd⟩ := hW
  have hA : DataW.TrodAll enc Try.prog W 0 (fun _ => true) true Try.f14.params.toList args.toList ds p := hA0
  rw [Try.params14] at hA hval hsz
  obtain ⟨v0, vs0, d0, ds0, p0, q0, hargs, rfl, rfl, h0, r0⟩ := trodAll_cons hA
  obtain ⟨rfl, rfl, rfl⟩ := trodAll_nil r0
  obtain rfl : args = #[v0] := by cases args; simp_all
  obtain ⟨rfl, rfl⟩ := trodVars_none hV
  have k0 := h0
  have lt0 : ∀ x ∈ p0, x.block < W.heap.size := by obtain ⟨m, hm⟩ := k0; exact DataW.trod_lt m _ _ _ hm
  obtain ⟨a1_0, a2_0, a3_0, a4_0, a5_0, a6_0, l6_0, c6_0, z6_0, rfl, u1_0, u2_0, u3_0, u4_0, u5_0, u6_0⟩ := open92 (hval 0 92 v0 rfl rfl) h0
  clear hA0 hval0 hsz0
  refine (BackW.law a1_0 a2_0 a3_0 a4_0 a5_0 a6_0 l6_0 c6_0 z6_0 u1_0 u2_0 u3_0 u4_0 u5_0 u6_0).mono fun e W' ⟨he, bel⟩ => ?_
  subst he
  exact ⟨_, rfl, _, _, _, [], _, [], hW', trodAll_mk1 (shut_bool Try.underlying4 _), (trodAll_cons_mk (Below.trod laidOut (by kernel_rfl) (of_decide_eq_true (by kernel_rfl)) k0 bel lt0) trodAll_mk0), rfl, bel.frame _, fun h => by cases h⟩
theorem over : Rows.packBackRow.holds Try.pinned (OpenSpec.ofChange Rows.packBackSpec) :=
  OpenClaim.holds_of_wide 14 Try.f14 rfl rfl rfl rfl rfl rfl rfl ⟨rfl, rfl, rfl, rfl, rfl⟩ rfl rfl rfl rfl rfl (by kernel_rfl) Try.func14 (by kernel_rfl)
    (of_decide_eq_true (by kernel_rfl)) (by unfold Func.isWrapper; first | (rw [if_pos (by decide +kernel)]; kernel_rfl) | (rw [if_neg (by decide +kernel)]; exact ⟨rfl, rfl⟩))
    (fun os started H enc _ => lifted os started H enc)
theorem proved : Rows.PackBackSaid := over
#print axioms proved
end Go.Proofs.Ytlbjcdfognofgaa.packBack
namespace Go.Proofs.Ytlbjcdfognofgaa
/-- The row, under a short name, for the claim. -/
theorem packBack_holds : Rows.PackBackSaid := packBack.proved
end Go.Proofs.Ytlbjcdfognofgaa

