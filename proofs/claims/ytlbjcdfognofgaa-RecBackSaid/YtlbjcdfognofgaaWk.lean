/- Words for walks: blocks that are known whole, what a world keeps. -/
import Derived.Test.YtlbjcdfognofgaaProg
import Derived.Test.YtlbjcdfognofgaaBe
import Derived.Laws.Rows
import Derived.WalkKit
namespace Go.Proofs.Ytlbjcdfognofgaa.Wk
open Go.RowKit Go.Proofs.YtlbjcdfognofgaaW.PrintWords Go.Proofs.YtlbjcdfognofgaaW.PrintLast Go.Proofs.YtlbjcdfognofgaaW.PrintMore
set_option linter.unusedVariables false

/-- Called in any world, it gives that, and nothing that was there turns. -/
abbrev Gives (f : FuncId) (args : Array Value) (v : Value) : Prop := ∀ w, Calls Try.prog f args w fun e w' => e = .returned v ∧ Below w.heap.size w w'

/-- A block that is known whole. -/
def Blk (w : World) (g : Nat) (t : TypeId) (cs : Array Value) : Prop := w.heap[g]? = some (.cells cs t (0, 0))
section
variable {w w' : World} {g : Nat} {t : TypeId} {cs cs' : Array Value}
theorem Blk.lt (h : Blk w g t cs) : g < w.heap.size := by
  rcases Nat.lt_or_ge g w.heap.size with hlt | hge
  · exact hlt
  · unfold Blk at h; rw [Array.getElem?_eq_none hge] at h; cases h
theorem Blk.cell (h : Blk w g t cs) (i : Nat) : w.cell? ⟨g, i, none⟩ = cs[i]? := cell_of_row w g i cs t (0, 0) h
theorem Blk.frozen (h : Blk w g t cs) (i : Nat) : w.frozen? ⟨g, i, none⟩ = false := by
  unfold Blk at h
  simp [World.frozen?, h]
theorem Blk.new (w : World) (t : TypeId) (cs : Array Value) : Blk (w.alloc (.cells cs t)) w.heap.size t cs := heap_alloc_new w _
theorem Blk.alloc (h : Blk w g t cs) (o : Obj) : Blk (w.alloc o) g t cs := (Below.heap_alloc w o g h.lt).trans h
theorem Blk.drewN (h : Blk w g t cs) (n : Nat) : Blk (w.drewN n) g t cs := h
theorem Blk.drew (h : Blk w g t cs) : Blk w.drew g t cs := h
theorem Blk.set_ (h : Blk w g t cs) (i : Nat) (u : Value) : Blk (w.setCell ⟨g, i, none⟩ u) g t (cs.setIfInBounds i u) := by
  unfold Blk at h ⊢
  simp [World.setCell, Array.getElem?_modify, h]
theorem Blk.set' (h : Aside0 (Blk w g t cs)) {i : Nat} {u : Value} (e : cs.setIfInBounds i u = cs') : Blk (w.setCell ⟨g, i, none⟩ u) g t cs' := e ▸ h.out.set_ i u
theorem Blk.far (h : Blk w g t cs) {p : Addr} (hp : g ≠ p.block) (u : Value) : Blk (w.setCell p u) g t cs := (Below.heap_setCell w p u g hp).trans h
theorem Blk.below {B : Nat} (h : Blk w g t cs) (hb : Below B w w') (hg : g < B) : Blk w' g t cs := (hb.block g hg).trans h
theorem Blk.kept {k : Nat} (h : Blk w g t cs) (hb : KeepBut w w' k none) (hg : ¬ k = g) : Blk w' g t cs := (hb.2 g h.lt (fun e => hg e.symm) (by simp)).trans h
theorem Blk.step (h : Blk w g t cs) (hb : Below w.heap.size w w') : Blk w' g t cs := h.below hb h.lt
theorem Blk.c1 {v0 : Value} (h : Blk w g t #[v0]) : w.cell? ⟨g, 0, none⟩ = some v0 ∧ ∀ i, w.frozen? ⟨g, i, none⟩ = false :=
  ⟨h.cell 0, h.frozen⟩
theorem Blk.c2 {v0 v1 : Value} (h : Blk w g t #[v0, v1]) : w.cell? ⟨g, 0, none⟩ = some v0 ∧ w.cell? ⟨g, 1, none⟩ = some v1 ∧ ∀ i, w.frozen? ⟨g, i, none⟩ = false :=
  ⟨h.cell 0, h.cell 1, h.frozen⟩
theorem Blk.c3 {v0 v1 v2 : Value} (h : Blk w g t #[v0, v1, v2]) : w.cell? ⟨g, 0, none⟩ = some v0 ∧ w.cell? ⟨g, 1, none⟩ = some v1 ∧ w.cell? ⟨g, 2, none⟩ = some v2 ∧ ∀ i, w.frozen? ⟨g, i, none⟩ = false :=
  ⟨h.cell 0, h.cell 1, h.cell 2, h.frozen⟩
theorem Blk.c4 {v0 v1 v2 v3 : Value} (h : Blk w g t #[v0, v1, v2, v3]) : w.cell? ⟨g, 0, none⟩ = some v0 ∧ w.cell? ⟨g, 1, none⟩ = some v1 ∧ w.cell? ⟨g, 2, none⟩ = some v2 ∧ w.cell? ⟨g, 3, none⟩ = some v3 ∧ ∀ i, w.frozen? ⟨g, i, none⟩ = false :=
  ⟨h.cell 0, h.cell 1, h.cell 2, h.cell 3, h.frozen⟩
theorem Blk.c5 {v0 v1 v2 v3 v4 : Value} (h : Blk w g t #[v0, v1, v2, v3, v4]) : w.cell? ⟨g, 0, none⟩ = some v0 ∧ w.cell? ⟨g, 1, none⟩ = some v1 ∧ w.cell? ⟨g, 2, none⟩ = some v2 ∧ w.cell? ⟨g, 3, none⟩ = some v3 ∧ w.cell? ⟨g, 4, none⟩ = some v4 ∧ ∀ i, w.frozen? ⟨g, i, none⟩ = false :=
  ⟨h.cell 0, h.cell 1, h.cell 2, h.cell 3, h.cell 4, h.frozen⟩
theorem Blk.c6 {v0 v1 v2 v3 v4 v5 : Value} (h : Blk w g t #[v0, v1, v2, v3, v4, v5]) : w.cell? ⟨g, 0, none⟩ = some v0 ∧ w.cell? ⟨g, 1, none⟩ = some v1 ∧ w.cell? ⟨g, 2, none⟩ = some v2 ∧ w.cell? ⟨g, 3, none⟩ = some v3 ∧ w.cell? ⟨g, 4, none⟩ = some v4 ∧ w.cell? ⟨g, 5, none⟩ = some v5 ∧ ∀ i, w.frozen? ⟨g, i, none⟩ = false :=
  ⟨h.cell 0, h.cell 1, h.cell 2, h.cell 3, h.cell 4, h.cell 5, h.frozen⟩
end
theorem kbelow {w W w1 : World} {g : Nat} (h : KeepBut w W g none) (hb : Below W.heap.size W w1) : KeepBut w w1 g none :=
  h.trans (KeepBut.of_below hb g none) (.inl rfl)
theorem kfar {w W : World} {g b j : Nat} {u : Value} (h : KeepBut w W g none) (hb : w.heap.size ≤ b) : KeepBut w (W.setCell ⟨b, j, none⟩ u) g none :=
  ⟨by simpa [World.setCell] using h.1, fun i hi hg hr => (Below.heap_setCell W ⟨b, j, none⟩ u i (by show i ≠ b; omega)).trans (h.2 i hi hg hr)⟩

theorem crr {w1 W : World} {b o : Nat} {v : Value} (hc : ∀ b o, b < W.heap.size → w1.cell? ⟨b, o, none⟩ = W.cell? ⟨b, o, none⟩) (hl : b < W.heap.size := by first | assumption | (simp; done) | (simp; omega) | omega) (h : W.cell? ⟨b, o, none⟩ = some v := by first | assumption | (go_simp; done) | (simp; done)) : w1.cell? ⟨b, o, none⟩ = some v := (hc b o hl).trans h

theorem c3s {w1 W : World} {b : Nat} {v0 v1 v2 : Value} (hb : Below W.heap.size W w1) (hl : b < W.heap.size := by first | assumption | (simp; done) | (simp; omega) | omega)
    (h0 : W.cell? ⟨b, 0, none⟩ = some v0 := by first | assumption | (go_simp; done) | (simp; done)) (h1 : W.cell? ⟨b, 1, none⟩ = some v1 := by first | assumption | (go_simp; done) | (simp; done)) (h2 : W.cell? ⟨b, 2, none⟩ = some v2 := by first | assumption | (go_simp; done) | (simp; done))
    (f0 : W.frozen? ⟨b, 0, none⟩ = false := by first | assumption | (go_simp; done) | (simp; done)) (f1 : W.frozen? ⟨b, 1, none⟩ = false := by first | assumption | (go_simp; done) | (simp; done)) (f2 : W.frozen? ⟨b, 2, none⟩ = false := by first | assumption | (go_simp; done) | (simp; done)) :
    w1.cell? ⟨b, 0, none⟩ = some v0 ∧ w1.cell? ⟨b, 1, none⟩ = some v1 ∧ w1.cell? ⟨b, 2, none⟩ = some v2 ∧ w1.frozen? ⟨b, 0, none⟩ = false ∧ w1.frozen? ⟨b, 1, none⟩ = false ∧ w1.frozen? ⟨b, 2, none⟩ = false ∧ b < w1.heap.size := by
  have hz : ∀ o, w1.frozen? ⟨b, o, none⟩ = W.frozen? ⟨b, o, none⟩ := fun o => by simp [World.frozen?, hb.block b hl]
  exact ⟨(hb.cell (p := ⟨b, 0, none⟩) hl).trans h0, (hb.cell (p := ⟨b, 1, none⟩) hl).trans h1, (hb.cell (p := ⟨b, 2, none⟩) hl).trans h2, (hz 0).trans f0, (hz 1).trans f1, (hz 2).trans f2, Nat.lt_of_lt_of_le hl hb.size⟩

/- What is known of an elder world, told of the world at hand: each tactic looks for it among what is laid aside. -/
theorem far {a b : Nat} (h : ¬ a = b := by first | assumption | (simp; done) | (simp; omega) | omega) : ¬ a = b := h
theorem bel {w W : World} (h : Below w.heap.size w W := by repeat (first | (with_reducible exact Aside0.out (by assumption)) | (with_reducible first | apply below_alloc | apply pw_below_drewN | apply below_drew1) | refine below_set ?_ (by first | assumption | omega | (simp; done) | (simp; omega)))) : Below w.heap.size w W := h
theorem kpb {w W : World} {g : Nat} (h : KeepBut w W g none := by repeat (first | (with_reducible exact Aside0.out (by assumption)) | (with_reducible first | apply KeepBut.set_ | apply keep_drewN | apply keep_drew | apply keep_alloc) | refine kfar ?_ (by first | assumption | (simp; done) | (simp; omega) | omega))) : KeepBut w W g none := h
theorem blk {W : World} {g : Nat} {t : TypeId} {cs : Array Value} (h : Blk W g t cs := by repeat (first | (with_reducible exact Aside0.out (by assumption)) | (with_reducible first | apply Blk.alloc | apply Blk.drewN | apply Blk.drew) | refine Blk.far ?_ (by first | assumption | (simp; done) | (simp; omega) | omega) _ | exact Blk.set' (by assumption) (by rfl))) : Blk W g t cs := h
end Go.Proofs.Ytlbjcdfognofgaa.Wk

