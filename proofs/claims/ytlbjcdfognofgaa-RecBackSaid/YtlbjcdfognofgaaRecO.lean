/- A state that is read, a state that is laid. (Texts in one, so that a claim has no more files than it may: RecM, RecN, RecP without the reference.) -/
import Derived.Test.YtlbjcdfognofgaaRecF
import Derived.Test.YtlbjcdfognofgaaRg
import Derived.Deep.DrawnRows
import Derived.Deep.RegionHeld3
import Derived.Deep.AppendLies
import Derived.Laws.OwnMore
import Derived.Deep.LoopGhost
import Derived.Test.YtlbjcdfognofgaaBrow
import Derived.Test.YtlbjcdfognofgaaLt

namespace Go.Proofs.Ytlbjcdfognofgaa.RecM
open Go.RowKit Go.Proofs.YtlbjcdfognofgaaW.PrintWords Go.Proofs.YtlbjcdfognofgaaW.PrintLast Go.Proofs.YtlbjcdfognofgaaW.PrintMore Go.Proofs.Ytlbjcdfognofgaa.Be Go.Proofs.Ytlbjcdfognofgaa.Fl Go.Proofs.Ytlbjcdfognofgaa.StampA Go.Proofs.Ytlbjcdfognofgaa.StampB Go.Proofs.Ytlbjcdfognofgaa.StampC Go.Proofs.Ytlbjcdfognofgaa.StampD Go.Proofs.Ytlbjcdfognofgaa.StampK Go.Proofs.Ytlbjcdfognofgaa.SRec Go.Proofs.Ytlbjcdfognofgaa.StampQ Go.Proofs.Ytlbjcdfognofgaa.StampR Go.Proofs.Ytlbjcdfognofgaa.Wk Go.Proofs.Ytlbjcdfognofgaa.RecA Go.Proofs.Ytlbjcdfognofgaa.RecB Go.Proofs.Ytlbjcdfognofgaa.RecC Go.Proofs.Ytlbjcdfognofgaa.RecD Go.Proofs.Ytlbjcdfognofgaa.RecE Go.Proofs.Ytlbjcdfognofgaa.RecF Go.Proofs.Ytlbjcdfognofgaa.PRecStates
attribute [local go_sem ↓] Go.wp_at_zero Go.wp_at_succ
attribute [local go_sem] run_store_float
set_option linter.unusedVariables false


theorem Blk.grown {w w' : World} {g : Nat} {t : TypeId} {cs : Array Value} {row : Option Nat} (h : Blk w g t cs) (hb : w.grownBy w' row) (hg : some g ≠ row) : Blk w' g t cs := (hb.block g h.lt hg).trans h
theorem below_grown {w W w2 : World} {row : Option Nat} (h : Below w.heap.size w W) (hg : W.grownBy w2 row) (hr : ∀ k, row = some k → w.heap.size ≤ k) : Below w.heap.size w w2 :=
  ⟨hg.os.trans h.os, hg.tape.trans h.tape, hg.output.trans h.output, Nat.le_trans h.size hg.size, fun i hi => (hg.block i (Nat.lt_of_lt_of_le hi h.size) (fun e => by have := hr i e.symm; omega)).trans (h.block i hi)⟩

/-- So many numbers, one behind the other. -/
def wds (s : ByteArray) (a : Int) (b : Bool) : Nat → List Int × Int × Bool
  | 0 => ([], a, b)
  | k + 1 => ((wds s a b k).1 ++ [(inR s (wds s a b k).2.1 (wds s a b k).2.2).1], (inR s (wds s a b k).2.1 (wds s a b k).2.2).2.1, (inR s (wds s a b k).2.1 (wds s a b k).2.2).2.2)
theorem wds_step {s : ByteArray} {a a' : Int} {b b' : Bool} {k : Nat} {ws : List Int} (h : wds s a b k = (ws, a', b')) : wds s a b (k + 1) = (ws ++ [(inR s a' b').1], (inR s a' b').2.1, (inR s a' b').2.2) := by
  rw [wds, h]

def cntB (a : Int) : Bool := decide (0 ≤ a) && decide (a ≤ 1099511627776)
theorem count_calls (a : Int) (w : World) : Calls Try.prog 92 #[.int .i64 a] w fun e w' => e = .returned (.bool (cntB a)) ∧ Below w.heap.size w w' := by
  refine (rec_count.calls a (cntB a) w ?_).mono fun e w' h => ⟨h.1, h.2.below⟩
  rw [rec_count.f, cntB]
  by_cases h : 0 ≤ a
  · rw [if_pos h, decide_eq_true h, Bool.true_and]
  · rw [if_neg h, decide_eq_false h, Bool.false_and]

/-- What the walk of GetState ends in. -/
def GP (w : World) (r1 : List Int) (r2 r3 r4 : Int) (e : Ending) (w' : World) : Prop :=
  ∃ v, e = .returned (.tuple #[.agg #[v, .int .i64 r2, .int .i64 r3], .int .i64 r4]) ∧ w'.ownsRow w.heap.size 3 1 v r1.length (nums .i64 r1) ∧ Below w.heap.size w w'

theorem Try.info3 : (Try.prog.info? 3).map (fun i => (i.zero, i.size, i.bytes)) = some (some (.int .i64 0), 1, 8) := by kernel_rfl


set_option maxRecDepth 100000 in
set_option maxHeartbeats 8000000 in
theorem get43_walk (s : ByteArray) (n : Nat) (a0 aW a1 a2 S D E : Int) (b0 bW b1 b2 ok : Bool) (WS : List Int) (w : World) (hz : s.size ≤ 140737488351232) (hn : n ≤ 255) (ha0 : 0 ≤ a0 ∧ a0 ≤ s.size) (hW : wds s a0 b0 n = (WS, aW, bW))
    (CB : Aside0 (∀ g w0 w, IsS115 w0 w g s 0 false → Below w0.heap.size w0 w → Calls Try.prog 94 #[.pointer (some ⟨g, 0, none⟩)] w fun e w' => e = .returned (.int .i64 (n : Int)) ∧ IsS115 w0 w' g s a0 b0 ∧ Below w0.heap.size w0 w' ∧ KeepBut w w' g none))
    (CS : Aside0 (∀ g w0 w, IsS115 w0 w g s aW bW → Below w0.heap.size w0 w → Calls Try.prog 95 #[.pointer (some ⟨g, 0, none⟩)] w fun e w' => e = .returned (.int .i64 S) ∧ IsS115 w0 w' g s a1 b1 ∧ Below w0.heap.size w0 w' ∧ KeepBut w w' g none))
    (CD : Aside0 (∀ g w0 w, IsS115 w0 w g s a1 b1 → Below w0.heap.size w0 w → Calls Try.prog 95 #[.pointer (some ⟨g, 0, none⟩)] w fun e w' => e = .returned (.int .i64 D) ∧ IsS115 w0 w' g s a2 b2 ∧ Below w0.heap.size w0 w' ∧ KeepBut w w' g none))
    (CF : Aside0 (∀ g w0 w, IsS115 w0 w g s a2 b2 → Below w0.heap.size w0 w → Calls Try.prog 96 #[.pointer (some ⟨g, 0, none⟩), .bool ok] w fun e w' => e = .returned (.int .i64 E) ∧ IsS115 w0 w' g s a2 b2 ∧ Below w0.heap.size w0 w' ∧ KeepBut w w' g none))
    (r1 : List Int) (r2 r3 r4 : Int) (hc : (8 < n ∧ ok = false ∧ 1 ≤ E ∧ r1 = [] ∧ r2 = 0 ∧ r3 = 0 ∧ E = r4) ∨ (n ≤ 8 ∧ cntB S = false ∧ ok = false ∧ 1 ≤ E ∧ r1 = [] ∧ r2 = 0 ∧ r3 = 0 ∧ E = r4) ∨ (n ≤ 8 ∧ cntB S = true ∧ ok = cntB D ∧ 1 ≤ E ∧ r1 = [] ∧ r2 = 0 ∧ r3 = 0 ∧ E = r4) ∨ (n ≤ 8 ∧ cntB S = true ∧ ok = cntB D ∧ (E ≤ 0 ∧ 0 ≤ E) ∧ WS = r1 ∧ S = r2 ∧ D = r3 ∧ r4 = 0)) :
    Calls Try.prog 43 #[.string s] w (GP w r1 r2 r3 r4) := by
  have hu2 := Try.underlying48
  obtain ⟨i0, hi, hz0, hz1, hz2⟩ := info_parts Try.info3
  have HW0 := Aside0.mk hW
  have HCC := Aside0.mk hc
  have HA0 := Aside0.mk ha0
  clear hW hc ha0
  have hgr : ¬ w.heap.size + 1 = w.heap.size := by omega
  have hrg : ¬ w.heap.size = w.heap.size + 1 := by omega
  have hgx : ¬ w.heap.size + 1 = w.heap.size + 1 + 1 := by omega
  have hrx : ¬ w.heap.size = w.heap.size + 1 + 1 := by omega
  have hxr : ¬ w.heap.size + 1 + 1 = w.heap.size := by omega
  have hxv : w.heap.size ≤ w.heap.size + 1 + 1 := by omega
  have hvv := Nat.le_refl w.heap.size
  have hB1 := below_alloc (Below.refl w.heap.size w) (.cells #[.slice none 0 0, .int .i64 0, .int .i64 0] 48)
  have HB := Aside0.mk (below_alloc (below_alloc hB1 (.cells #[.string s, .int .i64 0, .bool false] 115)) (.cells #[.slice none 0 0, .int .i64 0, .int .i64 0] 48))
  have HI : Aside0 (IsS115 w (((w.alloc (.cells #[.slice none 0 0, .int .i64 0, .int .i64 0] 48)).alloc (.cells #[.string s, .int .i64 0, .bool false] 115)).alloc (.cells #[.slice none 0 0, .int .i64 0, .int .i64 0] 48)) (w.heap.size + 1) s 0 false) := ⟨by have h := (IsS115.new w (w.alloc (.cells #[.slice none 0 0, .int .i64 0, .int .i64 0] 48)) s 0 false hB1).alloc (.cells #[.slice none 0 0, .int .i64 0, .int .i64 0] 48); simpa using h⟩
  have HR : Aside0 (Blk (((w.alloc (.cells #[.slice none 0 0, .int .i64 0, .int .i64 0] 48)).alloc (.cells #[.string s, .int .i64 0, .bool false] 115)).alloc (.cells #[.slice none 0 0, .int .i64 0, .int .i64 0] 48)) (w.heap.size) 48 #[.slice none 0 0, .int .i64 0, .int .i64 0]) := ⟨((Blk.new w 48 #[.slice none 0 0, .int .i64 0, .int .i64 0]).alloc (.cells #[.string s, .int .i64 0, .bool false] 115)).alloc (.cells #[.slice none 0 0, .int .i64 0, .int .i64 0] 48)⟩
  have HX : Aside0 (Blk (((w.alloc (.cells #[.slice none 0 0, .int .i64 0, .int .i64 0] 48)).alloc (.cells #[.string s, .int .i64 0, .bool false] 115)).alloc (.cells #[.slice none 0 0, .int .i64 0, .int .i64 0] 48)) (w.heap.size + 1 + 1) 48 #[.slice none 0 0, .int .i64 0, .int .i64 0]) := ⟨by have h := Blk.new ((w.alloc (.cells #[.slice none 0 0, .int .i64 0, .int .i64 0] 48)).alloc (.cells #[.string s, .int .i64 0, .bool false] 115)) 48 #[.slice none 0 0, .int .i64 0, .int .i64 0]; simpa using h⟩
  clear hB1
  go_enter Try.func43, Try.ntmps43
  go_wp2_with fail
  refine (CB.out (w.heap.size + 1) w _ iss bel).mono ?_
  rintro e w1 ⟨rfl, hi, hb, hk⟩
  replace HR : Aside0 (Blk w1 (w.heap.size) 48 #[.slice none 0 0, .int .i64 0, .int .i64 0]) := ⟨Blk.kept blk hk far⟩
  replace HX : Aside0 (Blk w1 (w.heap.size + 1 + 1) 48 #[.slice none 0 0, .int .i64 0, .int .i64 0]) := ⟨Blk.kept blk hk far⟩
  replace HI := Aside0.mk hi
  replace HB := Aside0.mk hb
  have hsw1 := hk.1
  try simp at hsw1
  clear hk hi hb
  obtain ⟨cR0, cR1, cR2, fR⟩ := HR.out.c3
  obtain ⟨cX0, cX1, cX2, fX⟩ := HX.out.c3
  clear cR0 cR1 cR2 fR cX0 cX1 cX2 fX
  go_wp2_with fail
  go_loopw [15] (fun i wr => ∃ (k : Nat) (ws : List Int) (a : Int) (b : Bool) (v : Value), i = .int .i64 k ∧ k ≤ n ∧ Aside0 (wds s a0 b0 k = (ws, a, b)) ∧ Aside0 (0 ≤ a ∧ a ≤ s.size) ∧ Aside0 (IsS115 w wr (w.heap.size + 1) s a b) ∧ Aside0 (Blk wr (w.heap.size) 48 #[.slice none 0 0, .int .i64 0, .int .i64 0]) ∧ Aside0 (Blk wr (w.heap.size + 1 + 1) 48 #[v, .int .i64 0, .int .i64 0]) ∧ Aside0 (wr.ownsRow w.heap.size 3 1 v k (nums .i64 ws)) ∧ Aside0 (Below w.heap.size w wr)) (fun i _ => n - (intOf i).toNat)
  case atStart => exact ⟨0, [], a0, b0, .slice none 0 0, rfl, Nat.zero_le _, ⟨rfl⟩, HA0, HI, HR, HX, ⟨own_nil _ _ _ _⟩, HB⟩
  case round =>
    clear HI HR HX HB hsw1
    obtain ⟨k, ws, a, b, v, rfl, hk, HW, HA, HI, HR, HX, HO, HB⟩ := hrel
    by_cases hlt : k < n
    · go_wp2_with fail
      refine wp_region_noPanic ?_
      refine wp_region_held_drew (S := (fun w' => True)) (by kernel_rfl) (by trivial) (fun hHeld => ?_)
      change wpAnyH _ _ _ _ _ 8 _ _ _
      refine Rg.tk (fuel := 7) 0 ?_
      refine Rg.tk (fuel := 6) 2 ?_
      refine wpAnyH_ready (fuel := 5) (rs := [1, 3]) (by kernel_rfl) (by simp) ?_
      refine AllReadyH.cons rfl (fun K hK => ?_) ?_
      · obtain ⟨cX0, cX1, cX2, fX⟩ := HX.out.c3
        go_simp
        clear cX0 cX1 cX2 fX
        refine hK.out _ _ (by trivial) (fun hHeld => ?_)
        clear hK K
        try simp only [Act.put, List.setIfInBounds_toArray, List.set_cons_zero, List.set_cons_succ]
        refine wpAnyH_ready (fuel := 4) (rs := [3]) (by kernel_rfl) (by simp) ?_
        refine AllReadyH.cons rfl (fun K hK => ?_) ?_
        · go_simp
          refine (int_calls (w.heap.size + 1) s a b w _ hz HA.out iss bel).mono ?_
          rintro e w1 ⟨rfl, hi', hb, hk'⟩
          replace HR : Aside0 (Blk w1 (w.heap.size) 48 #[.slice none 0 0, .int .i64 0, .int .i64 0]) := ⟨Blk.kept blk hk' far⟩
          have hxo := own_ne HO.out HX.out (by decide)
          have hgo : v.ownBlock ≠ some (w.heap.size + 1) := fun e => own_ne HO.out HI.out.1 (by decide) e.symm
          replace HX : Aside0 (Blk w1 (w.heap.size + 1 + 1) 48 #[v, .int .i64 0, .int .i64 0]) := ⟨Blk.kept blk hk' far⟩
          replace HO : Aside0 (w1.ownsRow w.heap.size 3 1 v k (nums .i64 ws)) := ⟨KeepBut.own hk' HO.out hgo (by cases v.ownBlock <;> simp)⟩
          replace HI := Aside0.mk hi'
          replace HB := Aside0.mk hb
          have hsz := hk'.1
          clear hi' hb hk' hgo
          have HQ := Aside0.mk (inR_range s a b)
          have HW2 := Aside0.mk (wds_step HW.out)
          have HA2 := Aside0.mk (inR_in (b := b) HA.out)
          clear HW HA
          generalize (inR s a b).1 = N at *
          generalize (inR s a b).2.1 = a' at *
          generalize (inR s a b).2.2 = b' at *
          obtain ⟨cX0, cX1, cX2, fX⟩ := HX.out.c3
          go_wp2_with fail
          refine hK.out _ _ (by trivial) (fun hHeld => ?_)
          clear hK K
          try simp only [Act.put, List.setIfInBounds_toArray, List.set_cons_zero, List.set_cons_succ]
          refine wpAnyH_ready (fuel := 3) (rs := [4]) (by kernel_rfl) (by simp) ?_
          refine AllReadyH.cons rfl (fun K hK => ?_) ?_
          · go_simp
            replace HR := Aside0.mk (HR.out.alloc (.cells #[.int .i64 N] 3))
            replace HX := Aside0.mk (HX.out.alloc (.cells #[.int .i64 N] 3))
            replace HO := Aside0.mk (HO.out.alloc (.cells #[.int .i64 N] 3))
            replace HI := Aside0.mk (HI.out.alloc (.cells #[.int .i64 N] 3))
            replace HB := Aside0.mk (below_alloc HB.out (.cells #[.int .i64 N] 3))
            have hnews := World.news_of_block (heap_alloc_new w1 (.cells #[.int .i64 N] 3))
            have HN := Aside0.mk hnews
            clear hnews cX0 cX1 cX2 fX
            obtain ⟨cX0, cX1, cX2, fX⟩ := HX.out.c3
            refine hK.out _ _ (by trivial) (fun hHeld => ?_)
            clear hK K
            try simp only [Act.put, List.setIfInBounds_toArray, List.set_cons_zero, List.set_cons_succ]
            refine wpAnyH_ready (fuel := 2) (rs := [5]) (by kernel_rfl) (by simp) ?_
            refine AllReadyH.cons rfl (fun K hK => ?_) ?_
            · refine step_append_lies _ (by rfl) _ _ 30 (by rfl) w.heap.size 3 i0 (.int .i64 0) 1 8 Try.underlying30 hi hz0 hz1 hz2 rfl (by decide) v k (nums .i64 ws) (by rfl) HO.out ⟨w1.heap.size, 0, none⟩ 1 1 [.int .i64 N] (by rfl) rfl HN.out (by simp [Value.oneCell']) (by decide) (by unfold maxLen; omega) (by omega) HB.out.size (w1.heap.size + 1) (by simp) ?_
              intro g' cap w2 hown hgrow hat hlt2
              replace HR : Aside0 (Blk w2 (w.heap.size) 48 #[.slice none 0 0, .int .i64 0, .int .i64 0]) := ⟨Blk.grown HR.out hgrow (own_ne HO.out HR.out (by decide))⟩
              replace HX : Aside0 (Blk w2 (w.heap.size + 1 + 1) 48 #[v, .int .i64 0, .int .i64 0]) := ⟨Blk.grown HX.out hgrow hxo⟩
              replace HI : Aside0 (IsS115 w w2 (w.heap.size + 1) s a' b') := ⟨HI.out.grown hgrow (own_ne HO.out HI.out.1 (by decide))⟩
              replace HB : Aside0 (Below w.heap.size w w2) := ⟨below_grown HB.out hgrow (fun q hq => own_base HO.out q hq)⟩
              have HO2 : Aside0 (w2.ownsRow w.heap.size 3 1 (.slice (some ⟨g', 0, none⟩) (k + 1) cap) (k + 1) (nums .i64 (ws ++ [N]))) := ⟨by have h := hown; simpa [nums] using h⟩
              clear HO HN hown hgrow hat hlt2 hxo cX0 cX1 cX2 fX
              obtain ⟨cX0, cX1, cX2, fX⟩ := HX.out.c3
              refine hK.out _ _ (by trivial) (fun hHeld => ?_)
              clear hK K
              try simp only [Act.put, List.setIfInBounds_toArray]
              refine Rg.tk (fuel := 1) 6 ?_
              refine wpAnyH_ready (fuel := 0) (rs := [7]) (by kernel_rfl) (by simp) ?_
              refine AllReadyH.cons rfl (fun K hK => ?_) ?_
              · go_simp
                refine hK.out _ _ (by trivial) (fun hHeld => ?_)
                clear hK K
                try simp only [Act.put]
                refine wpAnyH_done (by kernel_rfl) ?_ _
                refine NoPanic.normal ?_
                go_wp2_with fail
                go_roundw
                case rel => exact ⟨k + 1, ws ++ [N], a', b', .slice (some ⟨g', 0, none⟩) (k + 1) cap, by go_num, by omega, HW2, HA2, ⟨iss⟩, ⟨blk⟩, ⟨Blk.set' HX (by rfl)⟩, ⟨own_setCell (p := ⟨w.heap.size + 1 + 1, 0, none⟩) HO2.out (own_ne HO2.out HX.out (by decide)) _⟩, ⟨bel⟩⟩
                case measure => simp [intOf]; omega
              exact AllReadyH.nil
            exact AllReadyH.nil
          exact AllReadyH.nil
        exact AllReadyH.nil
      refine AllReadyH.cons rfl (fun K hK => ?_) ?_
      · go_simp
        refine (int_calls (w.heap.size + 1) s a b w _ hz HA.out iss bel).mono ?_
        rintro e w1 ⟨rfl, hi', hb, hk'⟩
        replace HR : Aside0 (Blk w1 (w.heap.size) 48 #[.slice none 0 0, .int .i64 0, .int .i64 0]) := ⟨Blk.kept blk hk' far⟩
        have hxo := own_ne HO.out HX.out (by decide)
        have hgo : v.ownBlock ≠ some (w.heap.size + 1) := fun e => own_ne HO.out HI.out.1 (by decide) e.symm
        replace HX : Aside0 (Blk w1 (w.heap.size + 1 + 1) 48 #[v, .int .i64 0, .int .i64 0]) := ⟨Blk.kept blk hk' far⟩
        replace HO : Aside0 (w1.ownsRow w.heap.size 3 1 v k (nums .i64 ws)) := ⟨KeepBut.own hk' HO.out hgo (by cases v.ownBlock <;> simp)⟩
        replace HI := Aside0.mk hi'
        replace HB := Aside0.mk hb
        have hsz := hk'.1
        clear hi' hb hk' hgo
        have HQ := Aside0.mk (inR_range s a b)
        have HW2 := Aside0.mk (wds_step HW.out)
        have HA2 := Aside0.mk (inR_in (b := b) HA.out)
        clear HW HA
        generalize (inR s a b).1 = N at *
        generalize (inR s a b).2.1 = a' at *
        generalize (inR s a b).2.2 = b' at *
        obtain ⟨cX0, cX1, cX2, fX⟩ := HX.out.c3
        go_wp2_with fail
        refine hK.out _ _ (by trivial) (fun hHeld => ?_)
        clear hK K
        try simp only [Act.put, List.setIfInBounds_toArray, List.set_cons_zero, List.set_cons_succ]
        refine wpAnyH_ready (fuel := 4) (rs := [1, 4]) (by kernel_rfl) (by simp) ?_
        refine AllReadyH.cons rfl (fun K hK => ?_) ?_
        · obtain ⟨cX0, cX1, cX2, fX⟩ := HX.out.c3
          go_simp
          clear cX0 cX1 cX2 fX
          refine hK.out _ _ (by trivial) (fun hHeld => ?_)
          clear hK K
          try simp only [Act.put, List.setIfInBounds_toArray, List.set_cons_zero, List.set_cons_succ]
          refine wpAnyH_ready (fuel := 3) (rs := [4]) (by kernel_rfl) (by simp) ?_
          refine AllReadyH.cons rfl (fun K hK => ?_) ?_
          · go_simp
            replace HR := Aside0.mk (HR.out.alloc (.cells #[.int .i64 N] 3))
            replace HX := Aside0.mk (HX.out.alloc (.cells #[.int .i64 N] 3))
            replace HO := Aside0.mk (HO.out.alloc (.cells #[.int .i64 N] 3))
            replace HI := Aside0.mk (HI.out.alloc (.cells #[.int .i64 N] 3))
            replace HB := Aside0.mk (below_alloc HB.out (.cells #[.int .i64 N] 3))
            have hnews := World.news_of_block (heap_alloc_new w1 (.cells #[.int .i64 N] 3))
            have HN := Aside0.mk hnews
            clear hnews cX0 cX1 cX2 fX
            obtain ⟨cX0, cX1, cX2, fX⟩ := HX.out.c3
            refine hK.out _ _ (by trivial) (fun hHeld => ?_)
            clear hK K
            try simp only [Act.put, List.setIfInBounds_toArray, List.set_cons_zero, List.set_cons_succ]
            refine wpAnyH_ready (fuel := 2) (rs := [5]) (by kernel_rfl) (by simp) ?_
            refine AllReadyH.cons rfl (fun K hK => ?_) ?_
            · refine step_append_lies _ (by rfl) _ _ 30 (by rfl) w.heap.size 3 i0 (.int .i64 0) 1 8 Try.underlying30 hi hz0 hz1 hz2 rfl (by decide) v k (nums .i64 ws) (by rfl) HO.out ⟨w1.heap.size, 0, none⟩ 1 1 [.int .i64 N] (by rfl) rfl HN.out (by simp [Value.oneCell']) (by decide) (by unfold maxLen; omega) (by omega) HB.out.size (w1.heap.size + 1) (by simp) ?_
              intro g' cap w2 hown hgrow hat hlt2
              replace HR : Aside0 (Blk w2 (w.heap.size) 48 #[.slice none 0 0, .int .i64 0, .int .i64 0]) := ⟨Blk.grown HR.out hgrow (own_ne HO.out HR.out (by decide))⟩
              replace HX : Aside0 (Blk w2 (w.heap.size + 1 + 1) 48 #[v, .int .i64 0, .int .i64 0]) := ⟨Blk.grown HX.out hgrow hxo⟩
              replace HI : Aside0 (IsS115 w w2 (w.heap.size + 1) s a' b') := ⟨HI.out.grown hgrow (own_ne HO.out HI.out.1 (by decide))⟩
              replace HB : Aside0 (Below w.heap.size w w2) := ⟨below_grown HB.out hgrow (fun q hq => own_base HO.out q hq)⟩
              have HO2 : Aside0 (w2.ownsRow w.heap.size 3 1 (.slice (some ⟨g', 0, none⟩) (k + 1) cap) (k + 1) (nums .i64 (ws ++ [N]))) := ⟨by have h := hown; simpa [nums] using h⟩
              clear HO HN hown hgrow hat hlt2 hxo cX0 cX1 cX2 fX
              obtain ⟨cX0, cX1, cX2, fX⟩ := HX.out.c3
              refine hK.out _ _ (by trivial) (fun hHeld => ?_)
              clear hK K
              try simp only [Act.put, List.setIfInBounds_toArray]
              refine Rg.tk (fuel := 1) 6 ?_
              refine wpAnyH_ready (fuel := 0) (rs := [7]) (by kernel_rfl) (by simp) ?_
              refine AllReadyH.cons rfl (fun K hK => ?_) ?_
              · go_simp
                refine hK.out _ _ (by trivial) (fun hHeld => ?_)
                clear hK K
                try simp only [Act.put]
                refine wpAnyH_done (by kernel_rfl) ?_ _
                refine NoPanic.normal ?_
                go_wp2_with fail
                go_roundw
                case rel => exact ⟨k + 1, ws ++ [N], a', b', .slice (some ⟨g', 0, none⟩) (k + 1) cap, by go_num, by omega, HW2, HA2, ⟨iss⟩, ⟨blk⟩, ⟨Blk.set' HX (by rfl)⟩, ⟨own_setCell (p := ⟨w.heap.size + 1 + 1, 0, none⟩) HO2.out (own_ne HO2.out HX.out (by decide)) _⟩, ⟨bel⟩⟩
                case measure => simp [intOf]; omega
              exact AllReadyH.nil
            exact AllReadyH.nil
          exact AllReadyH.nil
        refine AllReadyH.cons rfl (fun K hK => ?_) ?_
        · go_simp
          replace HR := Aside0.mk (HR.out.alloc (.cells #[.int .i64 N] 3))
          replace HX := Aside0.mk (HX.out.alloc (.cells #[.int .i64 N] 3))
          replace HO := Aside0.mk (HO.out.alloc (.cells #[.int .i64 N] 3))
          replace HI := Aside0.mk (HI.out.alloc (.cells #[.int .i64 N] 3))
          replace HB := Aside0.mk (below_alloc HB.out (.cells #[.int .i64 N] 3))
          have hnews := World.news_of_block (heap_alloc_new w1 (.cells #[.int .i64 N] 3))
          have HN := Aside0.mk hnews
          clear hnews cX0 cX1 cX2 fX
          obtain ⟨cX0, cX1, cX2, fX⟩ := HX.out.c3
          refine hK.out _ _ (by trivial) (fun hHeld => ?_)
          clear hK K
          try simp only [Act.put, List.setIfInBounds_toArray, List.set_cons_zero, List.set_cons_succ]
          refine wpAnyH_ready (fuel := 3) (rs := [1]) (by kernel_rfl) (by simp) ?_
          refine AllReadyH.cons rfl (fun K hK => ?_) ?_
          · obtain ⟨cX0, cX1, cX2, fX⟩ := HX.out.c3
            go_simp
            clear cX0 cX1 cX2 fX
            refine hK.out _ _ (by trivial) (fun hHeld => ?_)
            clear hK K
            try simp only [Act.put, List.setIfInBounds_toArray, List.set_cons_zero, List.set_cons_succ]
            refine wpAnyH_ready (fuel := 2) (rs := [5]) (by kernel_rfl) (by simp) ?_
            refine AllReadyH.cons rfl (fun K hK => ?_) ?_
            · refine step_append_lies _ (by rfl) _ _ 30 (by rfl) w.heap.size 3 i0 (.int .i64 0) 1 8 Try.underlying30 hi hz0 hz1 hz2 rfl (by decide) v k (nums .i64 ws) (by rfl) HO.out ⟨w1.heap.size, 0, none⟩ 1 1 [.int .i64 N] (by rfl) rfl HN.out (by simp [Value.oneCell']) (by decide) (by unfold maxLen; omega) (by omega) HB.out.size (w1.heap.size + 1) (by simp) ?_
              intro g' cap w2 hown hgrow hat hlt2
              replace HR : Aside0 (Blk w2 (w.heap.size) 48 #[.slice none 0 0, .int .i64 0, .int .i64 0]) := ⟨Blk.grown HR.out hgrow (own_ne HO.out HR.out (by decide))⟩
              replace HX : Aside0 (Blk w2 (w.heap.size + 1 + 1) 48 #[v, .int .i64 0, .int .i64 0]) := ⟨Blk.grown HX.out hgrow hxo⟩
              replace HI : Aside0 (IsS115 w w2 (w.heap.size + 1) s a' b') := ⟨HI.out.grown hgrow (own_ne HO.out HI.out.1 (by decide))⟩
              replace HB : Aside0 (Below w.heap.size w w2) := ⟨below_grown HB.out hgrow (fun q hq => own_base HO.out q hq)⟩
              have HO2 : Aside0 (w2.ownsRow w.heap.size 3 1 (.slice (some ⟨g', 0, none⟩) (k + 1) cap) (k + 1) (nums .i64 (ws ++ [N]))) := ⟨by have h := hown; simpa [nums] using h⟩
              clear HO HN hown hgrow hat hlt2 hxo cX0 cX1 cX2 fX
              obtain ⟨cX0, cX1, cX2, fX⟩ := HX.out.c3
              refine hK.out _ _ (by trivial) (fun hHeld => ?_)
              clear hK K
              try simp only [Act.put, List.setIfInBounds_toArray]
              refine Rg.tk (fuel := 1) 6 ?_
              refine wpAnyH_ready (fuel := 0) (rs := [7]) (by kernel_rfl) (by simp) ?_
              refine AllReadyH.cons rfl (fun K hK => ?_) ?_
              · go_simp
                refine hK.out _ _ (by trivial) (fun hHeld => ?_)
                clear hK K
                try simp only [Act.put]
                refine wpAnyH_done (by kernel_rfl) ?_ _
                refine NoPanic.normal ?_
                go_wp2_with fail
                go_roundw
                case rel => exact ⟨k + 1, ws ++ [N], a', b', .slice (some ⟨g', 0, none⟩) (k + 1) cap, by go_num, by omega, HW2, HA2, ⟨iss⟩, ⟨blk⟩, ⟨Blk.set' HX (by rfl)⟩, ⟨own_setCell (p := ⟨w.heap.size + 1 + 1, 0, none⟩) HO2.out (own_ne HO2.out HX.out (by decide)) _⟩, ⟨bel⟩⟩
                case measure => simp [intOf]; omega
              exact AllReadyH.nil
            exact AllReadyH.nil
          exact AllReadyH.nil
        exact AllReadyH.nil
      exact AllReadyH.nil
    · obtain rfl : k = n := by omega
      have hWS : ws = WS ∧ a = aW ∧ b = bW := by have h := HW.out.symm.trans HW0.out; simpa using h
      obtain ⟨rfl, rfl, rfl⟩ := hWS
      have HA' := Aside0.mk HA.out
      clear HW0 HW HA HA0 hn
      have HOx := own_ne HO.out HX.out (by decide)
      rcases HCC.out with ⟨h8, rfl, hE, rfl, rfl, rfl, rfl⟩ | ⟨h8, hS, rfl, hE, rfl, rfl, rfl, rfl⟩ | ⟨h8, hS, rfl, hE, rfl, rfl, rfl, rfl⟩ | ⟨h8, hS, rfl, hE, rfl, rfl, rfl, rfl⟩
      · have h8' : decide ((k : Int) ≤ 8) = false := decide_eq_false (by omega)
        clear h8
        go_wp2_with fail
        have hgo : v.ownBlock ≠ some (w.heap.size + 1) := fun e => own_ne HO.out HI.out.1 (by decide) e.symm
        refine (CS.out (w.heap.size + 1) w _ iss bel).mono ?_
        rintro e w2 ⟨rfl, hi', hb, hk'⟩
        replace HR : Aside0 (Blk w2 (w.heap.size) 48 #[.slice none 0 0, .int .i64 0, .int .i64 0]) := ⟨Blk.kept blk hk' far⟩
        replace HX : Aside0 (Blk w2 (w.heap.size + 1 + 1) 48 #[v, .int .i64 0, .int .i64 0]) := ⟨Blk.kept blk hk' far⟩
        replace HO : Aside0 (w2.ownsRow w.heap.size 3 1 v k (nums .i64 ws)) := ⟨KeepBut.own hk' HO.out hgo (by cases v.ownBlock <;> simp)⟩
        replace HI := Aside0.mk hi'
        replace HB := Aside0.mk hb
        clear hi' hb hk' hgo
        go_wp2_with fail
        have hgo : v.ownBlock ≠ some (w.heap.size + 1) := fun e => own_ne HO.out HI.out.1 (by decide) e.symm
        refine (CD.out (w.heap.size + 1) w _ iss bel).mono ?_
        rintro e w3 ⟨rfl, hi', hb, hk'⟩
        replace HR : Aside0 (Blk w3 (w.heap.size) 48 #[.slice none 0 0, .int .i64 0, .int .i64 0]) := ⟨Blk.kept blk hk' far⟩
        replace HX : Aside0 (Blk w3 (w.heap.size + 1 + 1) 48 #[v, .int .i64 0, .int .i64 0]) := ⟨Blk.kept blk hk' far⟩
        replace HO : Aside0 (w3.ownsRow w.heap.size 3 1 v k (nums .i64 ws)) := ⟨KeepBut.own hk' HO.out hgo (by cases v.ownBlock <;> simp)⟩
        replace HI := Aside0.mk hi'
        replace HB := Aside0.mk hb
        clear hi' hb hk' hgo
        obtain ⟨cX0, cX1, cX2, fX⟩ := HX.out.c3
        have HOy := own_ne HO.out HX.out (by decide)
        go_wp2_with fail
        clear cX0 cX1 cX2 fX
        replace HX : Aside0 (Blk ((w3.setCell ⟨w.heap.size + 1 + 1, 1, none⟩ (.int .i64 S)).setCell ⟨w.heap.size + 1 + 1, 2, none⟩ (.int .i64 D)) (w.heap.size + 1 + 1) 48 #[v, .int .i64 S, .int .i64 D]) := ⟨(HX.out.set_ 1 (.int .i64 S)).set_ 2 (.int .i64 D)⟩
        replace HR : Aside0 (Blk ((w3.setCell ⟨w.heap.size + 1 + 1, 1, none⟩ (.int .i64 S)).setCell ⟨w.heap.size + 1 + 1, 2, none⟩ (.int .i64 D)) (w.heap.size) 48 #[.slice none 0 0, .int .i64 0, .int .i64 0]) := ⟨blk⟩
        replace HI : Aside0 (IsS115 w ((w3.setCell ⟨w.heap.size + 1 + 1, 1, none⟩ (.int .i64 S)).setCell ⟨w.heap.size + 1 + 1, 2, none⟩ (.int .i64 D)) (w.heap.size + 1) s a2 b2) := ⟨iss⟩
        replace HB : Aside0 (Below w.heap.size w ((w3.setCell ⟨w.heap.size + 1 + 1, 1, none⟩ (.int .i64 S)).setCell ⟨w.heap.size + 1 + 1, 2, none⟩ (.int .i64 D))) := ⟨bel⟩
        replace HO : Aside0 (World.ownsRow ((w3.setCell ⟨w.heap.size + 1 + 1, 1, none⟩ (.int .i64 S)).setCell ⟨w.heap.size + 1 + 1, 2, none⟩ (.int .i64 D)) w.heap.size 3 1 v k (nums .i64 ws)) := ⟨own_setCell (p := ⟨w.heap.size + 1 + 1, 2, none⟩) (own_setCell (p := ⟨w.heap.size + 1 + 1, 1, none⟩) HO.out HOy _) HOy _⟩
        have hgo : v.ownBlock ≠ some (w.heap.size + 1) := fun e => own_ne HO.out HI.out.1 (by decide) e.symm
        refine (CF.out (w.heap.size + 1) w _ iss bel).mono ?_
        rintro e w4 ⟨rfl, hi', hb, hk'⟩
        replace HR : Aside0 (Blk w4 (w.heap.size) 48 #[.slice none 0 0, .int .i64 0, .int .i64 0]) := ⟨Blk.kept blk hk' far⟩
        replace HX : Aside0 (Blk w4 (w.heap.size + 1 + 1) 48 #[v, .int .i64 S, .int .i64 D]) := ⟨Blk.kept blk hk' far⟩
        replace HO : Aside0 (w4.ownsRow w.heap.size 3 1 v k (nums .i64 ws)) := ⟨KeepBut.own hk' HO.out hgo (by cases v.ownBlock <;> simp)⟩
        replace HI := Aside0.mk hi'
        replace HB := Aside0.mk hb
        clear hi' hb hk' hgo
        obtain ⟨cX0, cX1, cX2, fX⟩ := HX.out.c3
        obtain ⟨cR0, cR1, cR2, fR⟩ := HR.out.c3
        have HOr := own_ne HO.out HR.out (by decide)
        go_wp2_with fail
        have hr3 := Try.results43
        exact bodyPost_ret (v := .tuple #[.agg #[.slice none 0 0, .int .i64 0, .int .i64 0], .int .i64 E]) (by simp [results, Try.results43, go_sem, *]) rfl ⟨.slice none 0 0, rfl, own_nil _ _ _ _, bel⟩
      · have h8' : decide ((k : Int) ≤ 8) = true := decide_eq_true (by omega)
        clear h8
        have CC1 := Aside0.mk (fun w => count_calls S w)
        rw [hS] at CC1
        clear hS
        go_wp2_with fail
        have hgo : v.ownBlock ≠ some (w.heap.size + 1) := fun e => own_ne HO.out HI.out.1 (by decide) e.symm
        refine (CS.out (w.heap.size + 1) w _ iss bel).mono ?_
        rintro e w2 ⟨rfl, hi', hb, hk'⟩
        replace HR : Aside0 (Blk w2 (w.heap.size) 48 #[.slice none 0 0, .int .i64 0, .int .i64 0]) := ⟨Blk.kept blk hk' far⟩
        replace HX : Aside0 (Blk w2 (w.heap.size + 1 + 1) 48 #[v, .int .i64 0, .int .i64 0]) := ⟨Blk.kept blk hk' far⟩
        replace HO : Aside0 (w2.ownsRow w.heap.size 3 1 v k (nums .i64 ws)) := ⟨KeepBut.own hk' HO.out hgo (by cases v.ownBlock <;> simp)⟩
        replace HI := Aside0.mk hi'
        replace HB := Aside0.mk hb
        clear hi' hb hk' hgo
        go_wp2_with fail
        have hgo : v.ownBlock ≠ some (w.heap.size + 1) := fun e => own_ne HO.out HI.out.1 (by decide) e.symm
        refine (CD.out (w.heap.size + 1) w _ iss bel).mono ?_
        rintro e w3 ⟨rfl, hi', hb, hk'⟩
        replace HR : Aside0 (Blk w3 (w.heap.size) 48 #[.slice none 0 0, .int .i64 0, .int .i64 0]) := ⟨Blk.kept blk hk' far⟩
        replace HX : Aside0 (Blk w3 (w.heap.size + 1 + 1) 48 #[v, .int .i64 0, .int .i64 0]) := ⟨Blk.kept blk hk' far⟩
        replace HO : Aside0 (w3.ownsRow w.heap.size 3 1 v k (nums .i64 ws)) := ⟨KeepBut.own hk' HO.out hgo (by cases v.ownBlock <;> simp)⟩
        replace HI := Aside0.mk hi'
        replace HB := Aside0.mk hb
        clear hi' hb hk' hgo
        obtain ⟨cX0, cX1, cX2, fX⟩ := HX.out.c3
        have HOy := own_ne HO.out HX.out (by decide)
        go_wp2_with fail
        clear cX0 cX1 cX2 fX
        replace HX : Aside0 (Blk ((w3.setCell ⟨w.heap.size + 1 + 1, 1, none⟩ (.int .i64 S)).setCell ⟨w.heap.size + 1 + 1, 2, none⟩ (.int .i64 D)) (w.heap.size + 1 + 1) 48 #[v, .int .i64 S, .int .i64 D]) := ⟨(HX.out.set_ 1 (.int .i64 S)).set_ 2 (.int .i64 D)⟩
        replace HR : Aside0 (Blk ((w3.setCell ⟨w.heap.size + 1 + 1, 1, none⟩ (.int .i64 S)).setCell ⟨w.heap.size + 1 + 1, 2, none⟩ (.int .i64 D)) (w.heap.size) 48 #[.slice none 0 0, .int .i64 0, .int .i64 0]) := ⟨blk⟩
        replace HI : Aside0 (IsS115 w ((w3.setCell ⟨w.heap.size + 1 + 1, 1, none⟩ (.int .i64 S)).setCell ⟨w.heap.size + 1 + 1, 2, none⟩ (.int .i64 D)) (w.heap.size + 1) s a2 b2) := ⟨iss⟩
        replace HB : Aside0 (Below w.heap.size w ((w3.setCell ⟨w.heap.size + 1 + 1, 1, none⟩ (.int .i64 S)).setCell ⟨w.heap.size + 1 + 1, 2, none⟩ (.int .i64 D))) := ⟨bel⟩
        replace HO : Aside0 (World.ownsRow ((w3.setCell ⟨w.heap.size + 1 + 1, 1, none⟩ (.int .i64 S)).setCell ⟨w.heap.size + 1 + 1, 2, none⟩ (.int .i64 D)) w.heap.size 3 1 v k (nums .i64 ws)) := ⟨own_setCell (p := ⟨w.heap.size + 1 + 1, 2, none⟩) (own_setCell (p := ⟨w.heap.size + 1 + 1, 1, none⟩) HO.out HOy _) HOy _⟩
        refine (CC1.out _).mono ?_
        rintro e w4 ⟨rfl, hk'⟩
        replace HR : Aside0 (Blk w4 (w.heap.size) 48 #[.slice none 0 0, .int .i64 0, .int .i64 0]) := ⟨Blk.step blk hk'⟩
        replace HX : Aside0 (Blk w4 (w.heap.size + 1 + 1) 48 #[v, .int .i64 S, .int .i64 D]) := ⟨Blk.step blk hk'⟩
        replace HO : Aside0 (w4.ownsRow w.heap.size 3 1 v k (nums .i64 ws)) := ⟨pw_own_below HO.out hk'⟩
        replace HI := Aside0.mk (IsS115.below iss hk')
        replace HB := Aside0.mk (below_step bel hk')
        clear hk'
        obtain ⟨cX0, cX1, cX2, fX⟩ := HX.out.c3
        go_wp2_with fail
        clear cX0 cX1 cX2 fX
        have hgo : v.ownBlock ≠ some (w.heap.size + 1) := fun e => own_ne HO.out HI.out.1 (by decide) e.symm
        refine (CF.out (w.heap.size + 1) w _ iss bel).mono ?_
        rintro e w5 ⟨rfl, hi', hb, hk'⟩
        replace HR : Aside0 (Blk w5 (w.heap.size) 48 #[.slice none 0 0, .int .i64 0, .int .i64 0]) := ⟨Blk.kept blk hk' far⟩
        replace HX : Aside0 (Blk w5 (w.heap.size + 1 + 1) 48 #[v, .int .i64 S, .int .i64 D]) := ⟨Blk.kept blk hk' far⟩
        replace HO : Aside0 (w5.ownsRow w.heap.size 3 1 v k (nums .i64 ws)) := ⟨KeepBut.own hk' HO.out hgo (by cases v.ownBlock <;> simp)⟩
        replace HI := Aside0.mk hi'
        replace HB := Aside0.mk hb
        clear hi' hb hk' hgo
        obtain ⟨cX0, cX1, cX2, fX⟩ := HX.out.c3
        obtain ⟨cR0, cR1, cR2, fR⟩ := HR.out.c3
        have HOr := own_ne HO.out HR.out (by decide)
        go_wp2_with fail
        have hr3 := Try.results43
        exact bodyPost_ret (v := .tuple #[.agg #[.slice none 0 0, .int .i64 0, .int .i64 0], .int .i64 E]) (by simp [results, Try.results43, go_sem, *]) rfl ⟨.slice none 0 0, rfl, own_nil _ _ _ _, bel⟩
      · have h8' : decide ((k : Int) ≤ 8) = true := decide_eq_true (by omega)
        clear h8
        have CC1 := Aside0.mk (fun w => count_calls S w)
        rw [hS] at CC1
        clear hS
        have CC2 := Aside0.mk (fun w => count_calls D w)
        go_wp2_with fail
        have hgo : v.ownBlock ≠ some (w.heap.size + 1) := fun e => own_ne HO.out HI.out.1 (by decide) e.symm
        refine (CS.out (w.heap.size + 1) w _ iss bel).mono ?_
        rintro e w2 ⟨rfl, hi', hb, hk'⟩
        replace HR : Aside0 (Blk w2 (w.heap.size) 48 #[.slice none 0 0, .int .i64 0, .int .i64 0]) := ⟨Blk.kept blk hk' far⟩
        replace HX : Aside0 (Blk w2 (w.heap.size + 1 + 1) 48 #[v, .int .i64 0, .int .i64 0]) := ⟨Blk.kept blk hk' far⟩
        replace HO : Aside0 (w2.ownsRow w.heap.size 3 1 v k (nums .i64 ws)) := ⟨KeepBut.own hk' HO.out hgo (by cases v.ownBlock <;> simp)⟩
        replace HI := Aside0.mk hi'
        replace HB := Aside0.mk hb
        clear hi' hb hk' hgo
        go_wp2_with fail
        have hgo : v.ownBlock ≠ some (w.heap.size + 1) := fun e => own_ne HO.out HI.out.1 (by decide) e.symm
        refine (CD.out (w.heap.size + 1) w _ iss bel).mono ?_
        rintro e w3 ⟨rfl, hi', hb, hk'⟩
        replace HR : Aside0 (Blk w3 (w.heap.size) 48 #[.slice none 0 0, .int .i64 0, .int .i64 0]) := ⟨Blk.kept blk hk' far⟩
        replace HX : Aside0 (Blk w3 (w.heap.size + 1 + 1) 48 #[v, .int .i64 0, .int .i64 0]) := ⟨Blk.kept blk hk' far⟩
        replace HO : Aside0 (w3.ownsRow w.heap.size 3 1 v k (nums .i64 ws)) := ⟨KeepBut.own hk' HO.out hgo (by cases v.ownBlock <;> simp)⟩
        replace HI := Aside0.mk hi'
        replace HB := Aside0.mk hb
        clear hi' hb hk' hgo
        obtain ⟨cX0, cX1, cX2, fX⟩ := HX.out.c3
        have HOy := own_ne HO.out HX.out (by decide)
        go_wp2_with fail
        clear cX0 cX1 cX2 fX
        replace HX : Aside0 (Blk ((w3.setCell ⟨w.heap.size + 1 + 1, 1, none⟩ (.int .i64 S)).setCell ⟨w.heap.size + 1 + 1, 2, none⟩ (.int .i64 D)) (w.heap.size + 1 + 1) 48 #[v, .int .i64 S, .int .i64 D]) := ⟨(HX.out.set_ 1 (.int .i64 S)).set_ 2 (.int .i64 D)⟩
        replace HR : Aside0 (Blk ((w3.setCell ⟨w.heap.size + 1 + 1, 1, none⟩ (.int .i64 S)).setCell ⟨w.heap.size + 1 + 1, 2, none⟩ (.int .i64 D)) (w.heap.size) 48 #[.slice none 0 0, .int .i64 0, .int .i64 0]) := ⟨blk⟩
        replace HI : Aside0 (IsS115 w ((w3.setCell ⟨w.heap.size + 1 + 1, 1, none⟩ (.int .i64 S)).setCell ⟨w.heap.size + 1 + 1, 2, none⟩ (.int .i64 D)) (w.heap.size + 1) s a2 b2) := ⟨iss⟩
        replace HB : Aside0 (Below w.heap.size w ((w3.setCell ⟨w.heap.size + 1 + 1, 1, none⟩ (.int .i64 S)).setCell ⟨w.heap.size + 1 + 1, 2, none⟩ (.int .i64 D))) := ⟨bel⟩
        replace HO : Aside0 (World.ownsRow ((w3.setCell ⟨w.heap.size + 1 + 1, 1, none⟩ (.int .i64 S)).setCell ⟨w.heap.size + 1 + 1, 2, none⟩ (.int .i64 D)) w.heap.size 3 1 v k (nums .i64 ws)) := ⟨own_setCell (p := ⟨w.heap.size + 1 + 1, 2, none⟩) (own_setCell (p := ⟨w.heap.size + 1 + 1, 1, none⟩) HO.out HOy _) HOy _⟩
        refine (CC1.out _).mono ?_
        rintro e w4 ⟨rfl, hk'⟩
        replace HR : Aside0 (Blk w4 (w.heap.size) 48 #[.slice none 0 0, .int .i64 0, .int .i64 0]) := ⟨Blk.step blk hk'⟩
        replace HX : Aside0 (Blk w4 (w.heap.size + 1 + 1) 48 #[v, .int .i64 S, .int .i64 D]) := ⟨Blk.step blk hk'⟩
        replace HO : Aside0 (w4.ownsRow w.heap.size 3 1 v k (nums .i64 ws)) := ⟨pw_own_below HO.out hk'⟩
        replace HI := Aside0.mk (IsS115.below iss hk')
        replace HB := Aside0.mk (below_step bel hk')
        clear hk'
        obtain ⟨cX0, cX1, cX2, fX⟩ := HX.out.c3
        go_wp2_with fail
        clear cX0 cX1 cX2 fX
        refine (CC2.out _).mono ?_
        rintro e w5 ⟨rfl, hk'⟩
        replace HR : Aside0 (Blk w5 (w.heap.size) 48 #[.slice none 0 0, .int .i64 0, .int .i64 0]) := ⟨Blk.step blk hk'⟩
        replace HX : Aside0 (Blk w5 (w.heap.size + 1 + 1) 48 #[v, .int .i64 S, .int .i64 D]) := ⟨Blk.step blk hk'⟩
        replace HO : Aside0 (w5.ownsRow w.heap.size 3 1 v k (nums .i64 ws)) := ⟨pw_own_below HO.out hk'⟩
        replace HI := Aside0.mk (IsS115.below iss hk')
        replace HB := Aside0.mk (below_step bel hk')
        clear hk'
        obtain ⟨cX0, cX1, cX2, fX⟩ := HX.out.c3
        go_wp2_with fail
        clear cX0 cX1 cX2 fX
        have hgo : v.ownBlock ≠ some (w.heap.size + 1) := fun e => own_ne HO.out HI.out.1 (by decide) e.symm
        refine (CF.out (w.heap.size + 1) w _ iss bel).mono ?_
        rintro e w6 ⟨rfl, hi', hb, hk'⟩
        replace HR : Aside0 (Blk w6 (w.heap.size) 48 #[.slice none 0 0, .int .i64 0, .int .i64 0]) := ⟨Blk.kept blk hk' far⟩
        replace HX : Aside0 (Blk w6 (w.heap.size + 1 + 1) 48 #[v, .int .i64 S, .int .i64 D]) := ⟨Blk.kept blk hk' far⟩
        replace HO : Aside0 (w6.ownsRow w.heap.size 3 1 v k (nums .i64 ws)) := ⟨KeepBut.own hk' HO.out hgo (by cases v.ownBlock <;> simp)⟩
        replace HI := Aside0.mk hi'
        replace HB := Aside0.mk hb
        clear hi' hb hk' hgo
        obtain ⟨cX0, cX1, cX2, fX⟩ := HX.out.c3
        obtain ⟨cR0, cR1, cR2, fR⟩ := HR.out.c3
        have HOr := own_ne HO.out HR.out (by decide)
        go_wp2_with fail
        have hr3 := Try.results43
        exact bodyPost_ret (v := .tuple #[.agg #[.slice none 0 0, .int .i64 0, .int .i64 0], .int .i64 E]) (by simp [results, Try.results43, go_sem, *]) rfl ⟨.slice none 0 0, rfl, own_nil _ _ _ _, bel⟩
      · have h8' : decide ((k : Int) ≤ 8) = true := decide_eq_true (by omega)
        clear h8
        have CC1 := Aside0.mk (fun w => count_calls S w)
        rw [hS] at CC1
        clear hS
        have CC2 := Aside0.mk (fun w => count_calls D w)
        obtain ⟨hE1, hE2⟩ := hE
        obtain ⟨As, cs, rfl⟩ := own_slice HO.out
        go_wp2_with fail
        have hgo : (Value.slice As k cs).ownBlock ≠ some (w.heap.size + 1) := fun e => own_ne HO.out HI.out.1 (by decide) e.symm
        refine (CS.out (w.heap.size + 1) w _ iss bel).mono ?_
        rintro e w2 ⟨rfl, hi', hb, hk'⟩
        replace HR : Aside0 (Blk w2 (w.heap.size) 48 #[.slice none 0 0, .int .i64 0, .int .i64 0]) := ⟨Blk.kept blk hk' far⟩
        replace HX : Aside0 (Blk w2 (w.heap.size + 1 + 1) 48 #[.slice As k cs, .int .i64 0, .int .i64 0]) := ⟨Blk.kept blk hk' far⟩
        replace HO : Aside0 (w2.ownsRow w.heap.size 3 1 (.slice As k cs) k (nums .i64 ws)) := ⟨KeepBut.own hk' HO.out hgo (by cases (Value.slice As k cs).ownBlock <;> simp)⟩
        replace HI := Aside0.mk hi'
        replace HB := Aside0.mk hb
        clear hi' hb hk' hgo
        go_wp2_with fail
        have hgo : (Value.slice As k cs).ownBlock ≠ some (w.heap.size + 1) := fun e => own_ne HO.out HI.out.1 (by decide) e.symm
        refine (CD.out (w.heap.size + 1) w _ iss bel).mono ?_
        rintro e w3 ⟨rfl, hi', hb, hk'⟩
        replace HR : Aside0 (Blk w3 (w.heap.size) 48 #[.slice none 0 0, .int .i64 0, .int .i64 0]) := ⟨Blk.kept blk hk' far⟩
        replace HX : Aside0 (Blk w3 (w.heap.size + 1 + 1) 48 #[.slice As k cs, .int .i64 0, .int .i64 0]) := ⟨Blk.kept blk hk' far⟩
        replace HO : Aside0 (w3.ownsRow w.heap.size 3 1 (.slice As k cs) k (nums .i64 ws)) := ⟨KeepBut.own hk' HO.out hgo (by cases (Value.slice As k cs).ownBlock <;> simp)⟩
        replace HI := Aside0.mk hi'
        replace HB := Aside0.mk hb
        clear hi' hb hk' hgo
        obtain ⟨cX0, cX1, cX2, fX⟩ := HX.out.c3
        have HOy := own_ne HO.out HX.out (by decide)
        go_wp2_with fail
        clear cX0 cX1 cX2 fX
        replace HX : Aside0 (Blk ((w3.setCell ⟨w.heap.size + 1 + 1, 1, none⟩ (.int .i64 S)).setCell ⟨w.heap.size + 1 + 1, 2, none⟩ (.int .i64 D)) (w.heap.size + 1 + 1) 48 #[.slice As k cs, .int .i64 S, .int .i64 D]) := ⟨(HX.out.set_ 1 (.int .i64 S)).set_ 2 (.int .i64 D)⟩
        replace HR : Aside0 (Blk ((w3.setCell ⟨w.heap.size + 1 + 1, 1, none⟩ (.int .i64 S)).setCell ⟨w.heap.size + 1 + 1, 2, none⟩ (.int .i64 D)) (w.heap.size) 48 #[.slice none 0 0, .int .i64 0, .int .i64 0]) := ⟨blk⟩
        replace HI : Aside0 (IsS115 w ((w3.setCell ⟨w.heap.size + 1 + 1, 1, none⟩ (.int .i64 S)).setCell ⟨w.heap.size + 1 + 1, 2, none⟩ (.int .i64 D)) (w.heap.size + 1) s a2 b2) := ⟨iss⟩
        replace HB : Aside0 (Below w.heap.size w ((w3.setCell ⟨w.heap.size + 1 + 1, 1, none⟩ (.int .i64 S)).setCell ⟨w.heap.size + 1 + 1, 2, none⟩ (.int .i64 D))) := ⟨bel⟩
        replace HO : Aside0 (World.ownsRow ((w3.setCell ⟨w.heap.size + 1 + 1, 1, none⟩ (.int .i64 S)).setCell ⟨w.heap.size + 1 + 1, 2, none⟩ (.int .i64 D)) w.heap.size 3 1 (.slice As k cs) k (nums .i64 ws)) := ⟨own_setCell (p := ⟨w.heap.size + 1 + 1, 2, none⟩) (own_setCell (p := ⟨w.heap.size + 1 + 1, 1, none⟩) HO.out HOy _) HOy _⟩
        refine (CC1.out _).mono ?_
        rintro e w4 ⟨rfl, hk'⟩
        replace HR : Aside0 (Blk w4 (w.heap.size) 48 #[.slice none 0 0, .int .i64 0, .int .i64 0]) := ⟨Blk.step blk hk'⟩
        replace HX : Aside0 (Blk w4 (w.heap.size + 1 + 1) 48 #[.slice As k cs, .int .i64 S, .int .i64 D]) := ⟨Blk.step blk hk'⟩
        replace HO : Aside0 (w4.ownsRow w.heap.size 3 1 (.slice As k cs) k (nums .i64 ws)) := ⟨pw_own_below HO.out hk'⟩
        replace HI := Aside0.mk (IsS115.below iss hk')
        replace HB := Aside0.mk (below_step bel hk')
        clear hk'
        obtain ⟨cX0, cX1, cX2, fX⟩ := HX.out.c3
        go_wp2_with fail
        clear cX0 cX1 cX2 fX
        refine (CC2.out _).mono ?_
        rintro e w5 ⟨rfl, hk'⟩
        replace HR : Aside0 (Blk w5 (w.heap.size) 48 #[.slice none 0 0, .int .i64 0, .int .i64 0]) := ⟨Blk.step blk hk'⟩
        replace HX : Aside0 (Blk w5 (w.heap.size + 1 + 1) 48 #[.slice As k cs, .int .i64 S, .int .i64 D]) := ⟨Blk.step blk hk'⟩
        replace HO : Aside0 (w5.ownsRow w.heap.size 3 1 (.slice As k cs) k (nums .i64 ws)) := ⟨pw_own_below HO.out hk'⟩
        replace HI := Aside0.mk (IsS115.below iss hk')
        replace HB := Aside0.mk (below_step bel hk')
        clear hk'
        obtain ⟨cX0, cX1, cX2, fX⟩ := HX.out.c3
        go_wp2_with fail
        clear cX0 cX1 cX2 fX
        have hgo : (Value.slice As k cs).ownBlock ≠ some (w.heap.size + 1) := fun e => own_ne HO.out HI.out.1 (by decide) e.symm
        refine (CF.out (w.heap.size + 1) w _ iss bel).mono ?_
        rintro e w6 ⟨rfl, hi', hb, hk'⟩
        replace HR : Aside0 (Blk w6 (w.heap.size) 48 #[.slice none 0 0, .int .i64 0, .int .i64 0]) := ⟨Blk.kept blk hk' far⟩
        replace HX : Aside0 (Blk w6 (w.heap.size + 1 + 1) 48 #[.slice As k cs, .int .i64 S, .int .i64 D]) := ⟨Blk.kept blk hk' far⟩
        replace HO : Aside0 (w6.ownsRow w.heap.size 3 1 (.slice As k cs) k (nums .i64 ws)) := ⟨KeepBut.own hk' HO.out hgo (by cases (Value.slice As k cs).ownBlock <;> simp)⟩
        replace HI := Aside0.mk hi'
        replace HB := Aside0.mk hb
        clear hi' hb hk' hgo
        obtain ⟨cX0, cX1, cX2, fX⟩ := HX.out.c3
        obtain ⟨cR0, cR1, cR2, fR⟩ := HR.out.c3
        have HOr := own_ne HO.out HR.out (by decide)
        go_wp2_with fail
        have hr3 := Try.results43
        refine bodyPost_ret (v := .tuple #[.agg #[.slice As k cs, .int .i64 S, .int .i64 D], .int .i64 0]) (by simp [results, Try.results43, go_sem, *]) rfl ⟨.slice As k cs, rfl, ?_, bel⟩
        have hl : ws.length = k := by have h := HO.out.1; simpa [nums] using h
        rw [hl]
        exact own_setCell (p := ⟨w.heap.size, 2, none⟩) (own_setCell (p := ⟨w.heap.size, 1, none⟩) (own_setCell (p := ⟨w.heap.size, 0, none⟩) HO.out HOr _) HOr _) HOr _

end Go.Proofs.Ytlbjcdfognofgaa.RecM

namespace Go.Proofs.Ytlbjcdfognofgaa.RecN
open Go.RowKit Go.Proofs.YtlbjcdfognofgaaW.PrintWords Go.Proofs.YtlbjcdfognofgaaW.PrintLast Go.Proofs.YtlbjcdfognofgaaW.PrintMore Go.Proofs.Ytlbjcdfognofgaa.Be Go.Proofs.Ytlbjcdfognofgaa.Fl Go.Proofs.Ytlbjcdfognofgaa.StampA Go.Proofs.Ytlbjcdfognofgaa.StampB Go.Proofs.Ytlbjcdfognofgaa.StampC Go.Proofs.Ytlbjcdfognofgaa.StampD Go.Proofs.Ytlbjcdfognofgaa.StampK Go.Proofs.Ytlbjcdfognofgaa.SRec Go.Proofs.Ytlbjcdfognofgaa.StampQ Go.Proofs.Ytlbjcdfognofgaa.StampR Go.Proofs.Ytlbjcdfognofgaa.Wk Go.Proofs.Ytlbjcdfognofgaa.RecA Go.Proofs.Ytlbjcdfognofgaa.RecB Go.Proofs.Ytlbjcdfognofgaa.RecC Go.Proofs.Ytlbjcdfognofgaa.RecD Go.Proofs.Ytlbjcdfognofgaa.RecE Go.Proofs.Ytlbjcdfognofgaa.RecF Go.Proofs.Ytlbjcdfognofgaa.PRecStates Go.Proofs.Ytlbjcdfognofgaa.RecM Go.Proofs.Ytlbjcdfognofgaa.Brow
attribute [local go_sem ↓] Go.wp_at_zero Go.wp_at_succ
attribute [local go_sem] run_store_float
set_option linter.unusedVariables false


theorem info5 : (Try.prog.info? 5).map (fun i => (i.zero, i.size, i.bytes)) = some (some (.int .u8 0), 1, 1) := by kernel_rfl
theorem uty101 : Try.prog.underlying 101 = some (.slice 5) := Try.underlying101


set_option maxRecDepth 100000 in
set_option maxHeartbeats 1000000 in
theorem put42_big (A : Option Addr) (n c : Nat) (S D : Int) (w : World) (h : 8 < n) :
    Calls Try.prog 42 #[.agg #[.slice A n c, .int .i64 S, .int .i64 D]] w fun e w' => e = .returned (.tuple #[.string ⟨#[]⟩, .int .i64 2]) ∧ Below w.heap.size w w' := by
  have hu2 := Try.underlying48
  have HB := Aside0.mk (below_alloc (Below.refl w.heap.size w) (.cells #[.slice A n c, .int .i64 S, .int .i64 D] 48))
  have HX := Aside0.mk (Blk.new w 48 #[.slice A n c, .int .i64 S, .int .i64 D])
  go_enter Try.func42, Try.ntmps42
  go_wp2_with fail
  go_ret2
  exact ⟨rfl, bel⟩


set_option maxRecDepth 100000 in
set_option maxHeartbeats 1000000 in
theorem put42_s (A : Option Addr) (n c : Nat) (S D : Int) (w : World) (h : n ≤ 8) (hS : cntB S = false) :
    Calls Try.prog 42 #[.agg #[.slice A n c, .int .i64 S, .int .i64 D]] w fun e w' => e = .returned (.tuple #[.string ⟨#[]⟩, .int .i64 2]) ∧ Below w.heap.size w w' := by
  have hu2 := Try.underlying48
  have CS := Aside0.mk (fun w => count_calls S w)
  rw [hS] at CS
  clear hS
  have HB := Aside0.mk (below_alloc (Below.refl w.heap.size w) (.cells #[.slice A n c, .int .i64 S, .int .i64 D] 48))
  have HX := Aside0.mk (Blk.new w 48 #[.slice A n c, .int .i64 S, .int .i64 D])
  go_enter Try.func42, Try.ntmps42
  go_wp2_with fail
  refine (CS.out _).mono ?_
  rintro e w1 ⟨rfl, hk⟩
  replace HX : Aside0 (Blk w1 (w.heap.size) 48 #[.slice A n c, .int .i64 S, .int .i64 D]) := ⟨Blk.step blk hk⟩
  replace HB := Aside0.mk (below_step bel hk)
  have hsw1 := hk.size
  try simp at hsw1
  clear hk
  obtain ⟨cX0, cX1, cX2, fX⟩ := HX.out.c3
  go_wp2_with fail
  go_ret2
  exact ⟨rfl, bel⟩


set_option maxRecDepth 100000 in
set_option maxHeartbeats 1000000 in
theorem put42_d (A : Option Addr) (n c : Nat) (S D : Int) (w : World) (h : n ≤ 8) (hS : cntB S = true) (hD : cntB D = false) :
    Calls Try.prog 42 #[.agg #[.slice A n c, .int .i64 S, .int .i64 D]] w fun e w' => e = .returned (.tuple #[.string ⟨#[]⟩, .int .i64 2]) ∧ Below w.heap.size w w' := by
  have hu2 := Try.underlying48
  have CS := Aside0.mk (fun w => count_calls S w)
  rw [hS] at CS
  clear hS
  have CD := Aside0.mk (fun w => count_calls D w)
  rw [hD] at CD
  clear hD
  have HB := Aside0.mk (below_alloc (Below.refl w.heap.size w) (.cells #[.slice A n c, .int .i64 S, .int .i64 D] 48))
  have HX := Aside0.mk (Blk.new w 48 #[.slice A n c, .int .i64 S, .int .i64 D])
  go_enter Try.func42, Try.ntmps42
  go_wp2_with fail
  refine (CS.out _).mono ?_
  rintro e w1 ⟨rfl, hk⟩
  replace HX : Aside0 (Blk w1 (w.heap.size) 48 #[.slice A n c, .int .i64 S, .int .i64 D]) := ⟨Blk.step blk hk⟩
  replace HB := Aside0.mk (below_step bel hk)
  have hsw1 := hk.size
  try simp at hsw1
  clear hk
  obtain ⟨cX0, cX1, cX2, fX⟩ := HX.out.c3
  go_wp2_with fail
  clear cX0 cX1 cX2 fX
  refine (CD.out _).mono ?_
  rintro e w2 ⟨rfl, hk⟩
  replace HX : Aside0 (Blk w2 (w.heap.size) 48 #[.slice A n c, .int .i64 S, .int .i64 D]) := ⟨Blk.step blk hk⟩
  replace HB := Aside0.mk (below_step bel hk)
  have hsw2 := hk.size
  try simp at hsw2
  clear hk
  obtain ⟨cX0, cX1, cX2, fX⟩ := HX.out.c3
  go_wp2_with fail
  go_ret2
  exact ⟨rfl, bel⟩


set_option maxRecDepth 100000 in
set_option maxHeartbeats 4000000 in
theorem put42_some (b off c : Nat) (x : List Int) (S D : Int) (w : World) (hb : b < w.heap.size) (hcell : ∀ k, k < x.length → w.cell? ⟨b, off + k, none⟩ = some (.int .i64 (x.getD k 0))) (hx : ∀ n ∈ x, -9223372036854775808 ≤ n ∧ n < 9223372036854775808) (hl : x.length ≤ 8) (hS : cntB S = true) (hD : cntB D = true) (rS : -9223372036854775808 ≤ S ∧ S < 9223372036854775808) (rD : -9223372036854775808 ≤ D ∧ D < 9223372036854775808) :
    Calls Try.prog 42 #[.agg #[.slice (some ⟨b, off, none⟩) x.length c, .int .i64 S, .int .i64 D]] w fun e w' => e = .returned (.tuple #[.string (strOfNums ([(x.length : Int)] ++ lay8 x) ++ strOfNums (be8 (S + 9223372036854775808)) ++ strOfNums (be8 (D + 9223372036854775808))), .int .i64 0]) ∧ Below w.heap.size w w' := by
  have hu2 := Try.underlying48
  have CS := Aside0.mk (fun w => count_calls S w)
  rw [hS] at CS
  clear hS
  have CD := Aside0.mk (fun w => count_calls D w)
  rw [hD] at CD
  clear hD
  have I1 := Aside0.mk (fun w => I_calls S rS w)
  have I2 := Aside0.mk (fun w => I_calls D rD w)
  clear rS rD
  have C1 := Aside0.mk (fun w => one_calls (x.length : Int) (by omega) w)
  have Z0 := Aside0.mk (show (strOfNums [(x.length : Int)]).size ≤ maxLen by rw [size_strOfNums]; unfold maxLen; simp)
  have hr1 : ∀ q ∈ [(x.length : Int)], 0 ≤ q ∧ q ≤ 255 := by intro q hq; simp only [List.mem_singleton] at hq; omega
  have HR1' := Aside0.mk (bn_strOfNums [(x.length : Int)] hr1)
  clear hr1
  have HC := Aside0.mk hcell
  have HXX := Aside0.mk hx
  clear hcell hx
  have HB := Aside0.mk (below_alloc (Below.refl w.heap.size w) (.cells #[.slice (some ⟨b, off, none⟩) x.length c, .int .i64 S, .int .i64 D] 48))
  have HX := Aside0.mk (Blk.new w 48 #[.slice (some ⟨b, off, none⟩) x.length c, .int .i64 S, .int .i64 D])
  go_enter Try.func42, Try.ntmps42
  go_wp2_with fail
  have HBV := Aside0.mk (Below.refl (w.heap.size + 1) (w.alloc (.cells #[.slice (some ⟨b, off, none⟩) x.length c, .int .i64 S, .int .i64 D] 48)))
  refine (CS.out _).mono ?_
  rintro e w1 ⟨rfl, hk⟩
  replace HX : Aside0 (Blk w1 (w.heap.size) 48 #[.slice (some ⟨b, off, none⟩) x.length c, .int .i64 S, .int .i64 D]) := ⟨Blk.step blk hk⟩
  replace HBV : Aside0 (Below (w.heap.size + 1) (w.alloc (.cells #[.slice (some ⟨b, off, none⟩) x.length c, .int .i64 S, .int .i64 D] 48)) w1) := ⟨HBV.out.trans (hk.mono (by first | omega | (simp; done) | (simp; omega)))⟩
  replace HB := Aside0.mk (below_step bel hk)
  have hsw1 := hk.size
  try simp at hsw1
  clear hk
  obtain ⟨cX0, cX1, cX2, fX⟩ := HX.out.c3
  go_wp2_with fail
  clear cX0 cX1 cX2 fX
  refine (CD.out _).mono ?_
  rintro e w2 ⟨rfl, hk⟩
  replace HX : Aside0 (Blk w2 (w.heap.size) 48 #[.slice (some ⟨b, off, none⟩) x.length c, .int .i64 S, .int .i64 D]) := ⟨Blk.step blk hk⟩
  replace HBV : Aside0 (Below (w.heap.size + 1) (w.alloc (.cells #[.slice (some ⟨b, off, none⟩) x.length c, .int .i64 S, .int .i64 D] 48)) w2) := ⟨HBV.out.trans (hk.mono (by first | omega | (simp; done) | (simp; omega)))⟩
  replace HB := Aside0.mk (below_step bel hk)
  have hsw2 := hk.size
  try simp at hsw2
  clear hk
  obtain ⟨cX0, cX1, cX2, fX⟩ := HX.out.c3
  go_wp2_with fail
  clear cX0 cX1 cX2 fX
  refine (C1.out _).mono ?_
  rintro e w3 ⟨rfl, hk⟩
  replace HX : Aside0 (Blk w3 (w.heap.size) 48 #[.slice (some ⟨b, off, none⟩) x.length c, .int .i64 S, .int .i64 D]) := ⟨Blk.step blk hk⟩
  replace HBV : Aside0 (Below (w.heap.size + 1) (w.alloc (.cells #[.slice (some ⟨b, off, none⟩) x.length c, .int .i64 S, .int .i64 D] 48)) w3) := ⟨HBV.out.trans (hk.mono (by first | omega | (simp; done) | (simp; omega)))⟩
  replace HB := Aside0.mk (below_step bel hk)
  have hsw3 := hk.size
  try simp at hsw3
  clear hk
  obtain ⟨cX0, cX1, cX2, fX⟩ := HX.out.c3
  clear cX0 cX1 cX2 fX
  obtain ⟨v, w4, hconv, hR, hb2⟩ := made (P := Try.prog) 9 101 5 Try.underlying9 Try.underlying101 Try.underlying5 (strOfNums [(x.length : Int)]) w3 Z0.out
  have HR := Aside0.mk (Row.lower hR (show w.heap.size + 1 ≤ w3.heap.size by omega))
  have HBW : Aside0 (Below (w.heap.size + 1) (w.alloc (.cells #[.slice (some ⟨b, off, none⟩) x.length c, .int .i64 S, .int .i64 D] 48)) w4) := ⟨HBV.out.trans (hb2.mono (by omega))⟩
  replace HX : Aside0 (Blk w4 (w.heap.size) 48 #[.slice (some ⟨b, off, none⟩) x.length c, .int .i64 S, .int .i64 D]) := ⟨Blk.step HX.out hb2⟩
  clear hR hb2
  obtain ⟨cX0, cX1, cX2, fX⟩ := HX.out.c3
  rw [HR1'.out] at HR
  go_wp2_with fail
  clear cX0 cX1 cX2 fX hconv
  have hW0 : Below (w.heap.size + 1) (w.alloc (.cells #[.slice (some ⟨b, off, none⟩) x.length c, .int .i64 S, .int .i64 D] 48)) w4 := HBW.out
  replace HR := Aside0.mk (show Row w4 (w.heap.size + 1) 5 v ([(x.length : Int)] ++ lay8 (x.take 0)) from by have h := HR.out; simpa [lay8] using h)
  clear HB HX
  have HB := Aside0.mk hW0
  clear hW0 HBW
  go_loopw [4, 31] (fun v4 i wr => ∃ k : Nat, k ≤ x.length ∧ i = .int .i64 k ∧ Aside0 (Row wr (w.heap.size + 1) 5 v4 ([(x.length : Int)] ++ lay8 (x.take k))) ∧ Aside0 (Below (w.heap.size + 1) (w.alloc (.cells #[.slice (some ⟨b, off, none⟩) x.length c, .int .i64 S, .int .i64 D] 48)) wr)) (fun _ i _ => x.length - (intOf i).toNat)
  case atStart => exact ⟨0, Nat.zero_le _, rfl, HR, HB⟩
  case round =>
    clear HR HB
    (try clear hsw1 hsw2 hsw3)
    obtain ⟨k, hk, rfl, HR, HB⟩ := hrel
    by_cases hlt : k < x.length
    · have hc0 : wr.cell? ⟨b, off + k, none⟩ = some (.int .i64 (x.getD k 0)) := (World.cell?_of_block (HB.out.block b (by omega))).trans ((World.cell?_alloc_lt w _ ⟨b, off + k, none⟩ hb).trans (HC.out k hlt))
      have hm : x.getD k 0 ∈ x := by rw [List.getD_eq_getElem?_getD, List.getElem?_eq_getElem hlt]; exact List.getElem_mem hlt
      have hi := Aside0.mk (HXX.out _ hm)
      have hs : Aside0 (lay8 (x.take (k + 1)) = lay8 (x.take k) ++ be8 (x.getD k 0 + 9223372036854775808)) := ⟨by
        rw [List.take_succ_eq_append_getElem hlt, lay8_append, lay8_one, List.getD_eq_getElem?_getD, List.getElem?_eq_getElem hlt]; rfl⟩
      have hq : Aside0 (([(x.length : Int)] ++ lay8 (x.take k)).length + (strOfNums (be8 (x.getD k 0 + 9223372036854775808))).size ≤ 140737488355328) := ⟨by
        rw [List.length_append, lay8_length, List.length_take, size_strOfNums]; simp only [List.length_cons, List.length_nil, be8_length]; omega⟩
      have hy : Aside0 (bn (strOfNums (be8 (x.getD k 0 + 9223372036854775808))) = be8 (x.getD k 0 + 9223372036854775808)) := ⟨bn_strOfNums _ (be8_range _)⟩
      clear hm
      generalize hg : x.getD k 0 = y at *
      clear hg
      go_wp2_with fail
      refine (I_calls y hi.out _).mono ?_
      rintro e w5 ⟨rfl, hk'⟩
      replace HR := Aside0.mk (HR.out.below hk')
      replace HB : Aside0 (Below (w.heap.size + 1) (w.alloc (.cells #[.slice (some ⟨b, off, none⟩) x.length c, .int .i64 S, .int .i64 D] 48)) w5) := ⟨HB.out.trans (hk'.mono (by have h := HB.out.size; simp at h; omega))⟩
      clear hk' hc0
      have HZ := Aside0.mk (show w.heap.size + 1 ≤ w5.heap.size by have h := HB.out.size; simpa using h)
      go_wp2_with (at_builtin; refine Brow.wpList_append (w0 := (w.alloc (.cells #[.slice (some ⟨b, off, none⟩) x.length c, .int .i64 S, .int .i64 D] 48))) (w.heap.size + 1) rfl (.tmp 35) (.tmp 37) 101 9 5 rfl Try.underlying101 Try.underlying9 info5 _ _ _ rfl rfl HR.out HB.out hq.out HZ.out ?_; intro v' w6 n1 nb; rw [hy.out] at n1; have HR1 := Aside0.mk n1; have HB1 := Aside0.mk nb; clear HB HR n1 nb HZ; have HB := HB1; have HR := HR1; clear HB1 HR1)
      go_roundw
      case rel => exact ⟨k + 1, by omega, by go_num, ⟨by rw [hs.out, ← List.append_assoc]; exact HR.out⟩, HB⟩
      case measure => simp [intOf]; omega
    · obtain rfl : k = x.length := by omega
      replace HR := Aside0.mk (show Row wr (w.heap.size + 1) 5 _ ([(x.length : Int)] ++ lay8 x) from by have h := HR.out; rwa [List.take_length] at h)
      clear HC HXX
      have HX : Aside0 (Blk wr (w.heap.size) 48 #[.slice (some ⟨b, off, none⟩) x.length c, .int .i64 S, .int .i64 D]) := ⟨(Blk.new w 48 #[.slice (some ⟨b, off, none⟩) x.length c, .int .i64 S, .int .i64 D]).below HB.out (by omega)⟩
      have HB' : Aside0 (Below w.heap.size w wr) := ⟨(below_alloc (Below.refl w.heap.size w) (.cells #[.slice (some ⟨b, off, none⟩) x.length c, .int .i64 S, .int .i64 D] 48)).trans (HB.out.mono (by omega))⟩
      obtain ⟨cX0, cX1, cX2, fX⟩ := HX.out.c3
      have s1 := Aside0.mk (z8 (S + 9223372036854775808))
      have s2 := Aside0.mk (z8 (D + 9223372036854775808))
      have hsz : (strOfNums ([(x.length : Int)] ++ lay8 x)).size ≤ 100 := by rw [size_strOfNums]; simp [lay8_length]; omega
      have t0 : ¬ 9223372036854775807 < (strOfNums ([(x.length : Int)] ++ lay8 x)).size + (strOfNums (be8 (S + 9223372036854775808))).size := by have := s1.out; omega
      have t1 : ¬ 9223372036854775807 < (strOfNums ([(x.length : Int)] ++ lay8 x)).size + (strOfNums (be8 (S + 9223372036854775808))).size + (strOfNums (be8 (D + 9223372036854775808))).size := by have := s1.out; have := s2.out; omega
      clear hsz s1 s2
      have HV := Aside0.mk (fun (W : World) (h : Below wr.heap.size wr W) => told (P := Try.prog) (src := 101) (e := 5) (dst := 9) Try.underlying101 Try.underlying5 Try.underlying9 (HR.out.below h))
      generalize hF : strOfNums ([(x.length : Int)] ++ lay8 x) = F at *
      generalize hG1 : strOfNums (be8 (S + 9223372036854775808)) = G1 at *
      generalize hG2 : strOfNums (be8 (D + 9223372036854775808)) = G2 at *
      have HF := Aside0.mk hF
      have HG1 := Aside0.mk hG1
      have HG2 := Aside0.mk hG2
      clear hF hG1 hG2
      have hv0 := HV.out wr (Below.refl _ _)
      have HD := Aside0.mk (Below.refl wr.heap.size wr)
      clear HB HR
      go_wp2_with fail
      refine wp_region_noPanic ?_
      refine wp_region_held_drew (S := (fun w' => w'.cell? ⟨w.heap.size, 1, none⟩ = some (.int .i64 S) ∧ w'.cell? ⟨w.heap.size, 2, none⟩ = some (.int .i64 D) ∧ (convert 101 9 u4).run Try.prog w' = .ok (.string F) w')) (by kernel_rfl) ⟨HX.out.cell 1, HX.out.cell 2, HV.out _ bel⟩ (fun hHeld => ?_)
      change wpAnyH _ _ _ _ _ 12 _ _ _
      refine Rg.tk (fuel := 11) 0 ?_
      refine Rg.tk (fuel := 10) 1 ?_
      refine Rg.tk (fuel := 9) 2 ?_
      refine Rg.tk (fuel := 8) 3 ?_
      refine Rg.tk (fuel := 7) 6 ?_
      refine Rg.tk (fuel := 6) 7 ?_
      refine wpAnyH_ready (fuel := 5) (rs := [4]) (by kernel_rfl) (by simp) ?_
      refine AllReadyH.cons rfl (fun K hK => ?_) ?_
      · go_simp
        refine (I1.out _).mono ?_
        rintro e w7 ⟨rfl, hk'⟩
        replace HX : Aside0 (Blk w7 (w.heap.size) 48 #[.slice (some ⟨b, off, none⟩) x.length c, .int .i64 S, .int .i64 D]) := ⟨Blk.step blk hk'⟩
        have HD1 := Aside0.mk (below_step (show Below wr.heap.size wr _ from bel) hk')
        clear HD
        have HD := HD1
        clear HD1 hk'
        go_wp2_with fail
        refine hK.out _ _ ⟨HX.out.cell 1, HX.out.cell 2, HV.out _ HD.out⟩ (fun hHeld => ?_)
        clear hK K
        try simp only [Act.put, List.setIfInBounds_toArray, List.set_cons_zero, List.set_cons_succ]
        refine Rg.tk (fuel := 4) 5 ?_
        refine wpAnyH_ready (fuel := 3) (rs := [8]) (by kernel_rfl) (by simp) ?_
        refine AllReadyH.cons rfl (fun K hK => ?_) ?_
        · go_simp
          refine (I2.out _).mono ?_
          rintro e w8 ⟨rfl, hk'⟩
          replace HX : Aside0 (Blk w8 (w.heap.size) 48 #[.slice (some ⟨b, off, none⟩) x.length c, .int .i64 S, .int .i64 D]) := ⟨Blk.step blk hk'⟩
          have HD1 := Aside0.mk (below_step (show Below wr.heap.size wr _ from bel) hk')
          clear HD
          have HD := HD1
          clear HD1 hk'
          go_wp2_with fail
          refine hK.out _ _ ⟨HX.out.cell 1, HX.out.cell 2, HV.out _ HD.out⟩ (fun hHeld => ?_)
          clear hK K
          try simp only [Act.put, List.setIfInBounds_toArray, List.set_cons_zero, List.set_cons_succ]
          refine Rg.tk (fuel := 2) 9 ?_
          refine Rg.tk (fuel := 1) 10 ?_
          refine Rg.tk (fuel := 0) 11 ?_
          refine wpAnyH_done (by kernel_rfl) ?_ _
          refine NoPanic.normal ?_
          go_wp2_with fail
          go_ret2
          refine ⟨?_, HB'.out.trans (HD.out.mono HB'.out.size)⟩
          rw [← HF.out, ← HG1.out, ← HG2.out]
          rfl
        exact AllReadyH.nil
      exact AllReadyH.nil


set_option maxRecDepth 100000 in
set_option maxHeartbeats 4000000 in
theorem put42_none (A : Option Addr) (c : Nat) (S D : Int) (w : World)  (hS : cntB S = true) (hD : cntB D = true) (rS : -9223372036854775808 ≤ S ∧ S < 9223372036854775808) (rD : -9223372036854775808 ≤ D ∧ D < 9223372036854775808) :
    Calls Try.prog 42 #[.agg #[.slice A 0 c, .int .i64 S, .int .i64 D]] w fun e w' => e = .returned (.tuple #[.string (strOfNums ([(0 : Int)]) ++ strOfNums (be8 (S + 9223372036854775808)) ++ strOfNums (be8 (D + 9223372036854775808))), .int .i64 0]) ∧ Below w.heap.size w w' := by
  have hu2 := Try.underlying48
  have CS := Aside0.mk (fun w => count_calls S w)
  rw [hS] at CS
  clear hS
  have CD := Aside0.mk (fun w => count_calls D w)
  rw [hD] at CD
  clear hD
  have I1 := Aside0.mk (fun w => I_calls S rS w)
  have I2 := Aside0.mk (fun w => I_calls D rD w)
  clear rS rD
  have C1 := Aside0.mk (fun w => one_calls (0 : Int) (by omega) w)
  have Z0 := Aside0.mk (show (strOfNums [(0 : Int)]).size ≤ maxLen by rw [size_strOfNums]; unfold maxLen; simp)
  have hr1 : ∀ q ∈ [(0 : Int)], 0 ≤ q ∧ q ≤ 255 := by intro q hq; simp only [List.mem_singleton] at hq; omega
  have HR1' := Aside0.mk (bn_strOfNums [(0 : Int)] hr1)
  clear hr1
  have HB := Aside0.mk (below_alloc (Below.refl w.heap.size w) (.cells #[.slice A 0 c, .int .i64 S, .int .i64 D] 48))
  have HX := Aside0.mk (Blk.new w 48 #[.slice A 0 c, .int .i64 S, .int .i64 D])
  go_enter Try.func42, Try.ntmps42
  go_wp2_with fail
  have HBV := Aside0.mk (Below.refl (w.heap.size + 1) (w.alloc (.cells #[.slice A 0 c, .int .i64 S, .int .i64 D] 48)))
  refine (CS.out _).mono ?_
  rintro e w1 ⟨rfl, hk⟩
  replace HX : Aside0 (Blk w1 (w.heap.size) 48 #[.slice A 0 c, .int .i64 S, .int .i64 D]) := ⟨Blk.step blk hk⟩
  replace HBV : Aside0 (Below (w.heap.size + 1) (w.alloc (.cells #[.slice A 0 c, .int .i64 S, .int .i64 D] 48)) w1) := ⟨HBV.out.trans (hk.mono (by first | omega | (simp; done) | (simp; omega)))⟩
  replace HB := Aside0.mk (below_step bel hk)
  have hsw1 := hk.size
  try simp at hsw1
  clear hk
  obtain ⟨cX0, cX1, cX2, fX⟩ := HX.out.c3
  go_wp2_with fail
  clear cX0 cX1 cX2 fX
  refine (CD.out _).mono ?_
  rintro e w2 ⟨rfl, hk⟩
  replace HX : Aside0 (Blk w2 (w.heap.size) 48 #[.slice A 0 c, .int .i64 S, .int .i64 D]) := ⟨Blk.step blk hk⟩
  replace HBV : Aside0 (Below (w.heap.size + 1) (w.alloc (.cells #[.slice A 0 c, .int .i64 S, .int .i64 D] 48)) w2) := ⟨HBV.out.trans (hk.mono (by first | omega | (simp; done) | (simp; omega)))⟩
  replace HB := Aside0.mk (below_step bel hk)
  have hsw2 := hk.size
  try simp at hsw2
  clear hk
  obtain ⟨cX0, cX1, cX2, fX⟩ := HX.out.c3
  go_wp2_with fail
  clear cX0 cX1 cX2 fX
  refine (C1.out _).mono ?_
  rintro e w3 ⟨rfl, hk⟩
  replace HX : Aside0 (Blk w3 (w.heap.size) 48 #[.slice A 0 c, .int .i64 S, .int .i64 D]) := ⟨Blk.step blk hk⟩
  replace HBV : Aside0 (Below (w.heap.size + 1) (w.alloc (.cells #[.slice A 0 c, .int .i64 S, .int .i64 D] 48)) w3) := ⟨HBV.out.trans (hk.mono (by first | omega | (simp; done) | (simp; omega)))⟩
  replace HB := Aside0.mk (below_step bel hk)
  have hsw3 := hk.size
  try simp at hsw3
  clear hk
  obtain ⟨cX0, cX1, cX2, fX⟩ := HX.out.c3
  clear cX0 cX1 cX2 fX
  obtain ⟨v, w4, hconv, hR, hb2⟩ := made (P := Try.prog) 9 101 5 Try.underlying9 Try.underlying101 Try.underlying5 (strOfNums [(0 : Int)]) w3 Z0.out
  have HR := Aside0.mk (Row.lower hR (show w.heap.size + 1 ≤ w3.heap.size by omega))
  have HBW : Aside0 (Below (w.heap.size + 1) (w.alloc (.cells #[.slice A 0 c, .int .i64 S, .int .i64 D] 48)) w4) := ⟨HBV.out.trans (hb2.mono (by omega))⟩
  replace HX : Aside0 (Blk w4 (w.heap.size) 48 #[.slice A 0 c, .int .i64 S, .int .i64 D]) := ⟨Blk.step HX.out hb2⟩
  clear hR hb2
  obtain ⟨cX0, cX1, cX2, fX⟩ := HX.out.c3
  rw [HR1'.out] at HR
  go_wp2_with fail
  clear cX0 cX1 cX2 fX hconv
  have hW0 : Below (w.heap.size + 1) (w.alloc (.cells #[.slice A 0 c, .int .i64 S, .int .i64 D] 48)) w4 := HBW.out
  replace HR := Aside0.mk (show Row w4 (w.heap.size + 1) 5 v [(0 : Int)] from by have h := HR.out; exact h)
  clear HB HX
  have HB := Aside0.mk hW0
  clear hW0 HBW
  go_loopw [4, 31] (fun v4 i wr => i = .int .i64 0 ∧ Aside0 (Row wr (w.heap.size + 1) 5 v4 [(0 : Int)]) ∧ Aside0 (Below (w.heap.size + 1) (w.alloc (.cells #[.slice A 0 c, .int .i64 S, .int .i64 D] 48)) wr)) (fun _ i _ => (intOf i).toNat)
  case atStart => exact ⟨rfl, HR, HB⟩
  case round =>
    clear HR HB
    (try clear hsw1 hsw2 hsw3)
    obtain ⟨rfl, HR, HB⟩ := hrel
    have HX : Aside0 (Blk wr (w.heap.size) 48 #[.slice A 0 c, .int .i64 S, .int .i64 D]) := ⟨(Blk.new w 48 #[.slice A 0 c, .int .i64 S, .int .i64 D]).below HB.out (by omega)⟩
    have HB' : Aside0 (Below w.heap.size w wr) := ⟨(below_alloc (Below.refl w.heap.size w) (.cells #[.slice A 0 c, .int .i64 S, .int .i64 D] 48)).trans (HB.out.mono (by omega))⟩
    obtain ⟨cX0, cX1, cX2, fX⟩ := HX.out.c3
    have s1 := Aside0.mk (z8 (S + 9223372036854775808))
    have s2 := Aside0.mk (z8 (D + 9223372036854775808))
    have hsz : (strOfNums ([(0 : Int)])).size ≤ 100 := by rw [size_strOfNums]; simp
    have t0 : ¬ 9223372036854775807 < (strOfNums ([(0 : Int)])).size + (strOfNums (be8 (S + 9223372036854775808))).size := by have := s1.out; omega
    have t1 : ¬ 9223372036854775807 < (strOfNums ([(0 : Int)])).size + (strOfNums (be8 (S + 9223372036854775808))).size + (strOfNums (be8 (D + 9223372036854775808))).size := by have := s1.out; have := s2.out; omega
    clear hsz s1 s2
    have HV := Aside0.mk (fun (W : World) (h : Below wr.heap.size wr W) => told (P := Try.prog) (src := 101) (e := 5) (dst := 9) Try.underlying101 Try.underlying5 Try.underlying9 (HR.out.below h))
    generalize hF : strOfNums ([(0 : Int)]) = F at *
    generalize hG1 : strOfNums (be8 (S + 9223372036854775808)) = G1 at *
    generalize hG2 : strOfNums (be8 (D + 9223372036854775808)) = G2 at *
    have HF := Aside0.mk hF
    have HG1 := Aside0.mk hG1
    have HG2 := Aside0.mk hG2
    clear hF hG1 hG2
    have hv0 := HV.out wr (Below.refl _ _)
    have HD := Aside0.mk (Below.refl wr.heap.size wr)
    clear HB HR
    go_wp2_with fail
    refine wp_region_noPanic ?_
    refine wp_region_held_drew (S := (fun w' => w'.cell? ⟨w.heap.size, 1, none⟩ = some (.int .i64 S) ∧ w'.cell? ⟨w.heap.size, 2, none⟩ = some (.int .i64 D) ∧ (convert 101 9 u4).run Try.prog w' = .ok (.string F) w')) (by kernel_rfl) ⟨HX.out.cell 1, HX.out.cell 2, HV.out _ bel⟩ (fun hHeld => ?_)
    change wpAnyH _ _ _ _ _ 12 _ _ _
    refine Rg.tk (fuel := 11) 0 ?_
    refine Rg.tk (fuel := 10) 1 ?_
    refine Rg.tk (fuel := 9) 2 ?_
    refine Rg.tk (fuel := 8) 3 ?_
    refine Rg.tk (fuel := 7) 6 ?_
    refine Rg.tk (fuel := 6) 7 ?_
    refine wpAnyH_ready (fuel := 5) (rs := [4]) (by kernel_rfl) (by simp) ?_
    refine AllReadyH.cons rfl (fun K hK => ?_) ?_
    · go_simp
      refine (I1.out _).mono ?_
      rintro e w7 ⟨rfl, hk'⟩
      replace HX : Aside0 (Blk w7 (w.heap.size) 48 #[.slice A 0 c, .int .i64 S, .int .i64 D]) := ⟨Blk.step blk hk'⟩
      have HD1 := Aside0.mk (below_step (show Below wr.heap.size wr _ from bel) hk')
      clear HD
      have HD := HD1
      clear HD1 hk'
      go_wp2_with fail
      refine hK.out _ _ ⟨HX.out.cell 1, HX.out.cell 2, HV.out _ HD.out⟩ (fun hHeld => ?_)
      clear hK K
      try simp only [Act.put, List.setIfInBounds_toArray, List.set_cons_zero, List.set_cons_succ]
      refine Rg.tk (fuel := 4) 5 ?_
      refine wpAnyH_ready (fuel := 3) (rs := [8]) (by kernel_rfl) (by simp) ?_
      refine AllReadyH.cons rfl (fun K hK => ?_) ?_
      · go_simp
        refine (I2.out _).mono ?_
        rintro e w8 ⟨rfl, hk'⟩
        replace HX : Aside0 (Blk w8 (w.heap.size) 48 #[.slice A 0 c, .int .i64 S, .int .i64 D]) := ⟨Blk.step blk hk'⟩
        have HD1 := Aside0.mk (below_step (show Below wr.heap.size wr _ from bel) hk')
        clear HD
        have HD := HD1
        clear HD1 hk'
        go_wp2_with fail
        refine hK.out _ _ ⟨HX.out.cell 1, HX.out.cell 2, HV.out _ HD.out⟩ (fun hHeld => ?_)
        clear hK K
        try simp only [Act.put, List.setIfInBounds_toArray, List.set_cons_zero, List.set_cons_succ]
        refine Rg.tk (fuel := 2) 9 ?_
        refine Rg.tk (fuel := 1) 10 ?_
        refine Rg.tk (fuel := 0) 11 ?_
        refine wpAnyH_done (by kernel_rfl) ?_ _
        refine NoPanic.normal ?_
        go_wp2_with fail
        go_ret2
        refine ⟨?_, HB'.out.trans (HD.out.mono HB'.out.size)⟩
        rw [← HF.out, ← HG1.out, ← HG2.out]
        rfl
      exact AllReadyH.nil
    exact AllReadyH.nil

end Go.Proofs.Ytlbjcdfognofgaa.RecN

namespace Go.Proofs.Ytlbjcdfognofgaa.RecP
open Go.RowKit Go.Proofs.YtlbjcdfognofgaaW.PrintWords Go.Proofs.YtlbjcdfognofgaaW.PrintLast Go.Proofs.YtlbjcdfognofgaaW.PrintMore Go.Proofs.Ytlbjcdfognofgaa.Be Go.Proofs.Ytlbjcdfognofgaa.Fl Go.Proofs.Ytlbjcdfognofgaa.StampA Go.Proofs.Ytlbjcdfognofgaa.StampB Go.Proofs.Ytlbjcdfognofgaa.StampC Go.Proofs.Ytlbjcdfognofgaa.StampD Go.Proofs.Ytlbjcdfognofgaa.StampK Go.Proofs.Ytlbjcdfognofgaa.SRec Go.Proofs.Ytlbjcdfognofgaa.StampQ Go.Proofs.Ytlbjcdfognofgaa.StampR Go.Proofs.Ytlbjcdfognofgaa.Wk Go.Proofs.Ytlbjcdfognofgaa.RecA Go.Proofs.Ytlbjcdfognofgaa.RecB Go.Proofs.Ytlbjcdfognofgaa.RecC Go.Proofs.Ytlbjcdfognofgaa.RecD Go.Proofs.Ytlbjcdfognofgaa.RecE Go.Proofs.Ytlbjcdfognofgaa.RecF Go.Proofs.Ytlbjcdfognofgaa.PRecStates Go.Proofs.Ytlbjcdfognofgaa.RecM Go.Proofs.Ytlbjcdfognofgaa.RecN
attribute [local go_sem ↓] Go.wp_at_zero Go.wp_at_succ
attribute [local go_sem] run_store_float
set_option linter.unusedVariables false

theorem tmR_ok {s : ByteArray} {a : Int} (b : Bool) (h : a + 8 ≤ s.size) : tmR s a b = (tmV (nm s a 8), a + 8, b) := by rw [tmR, if_neg (by omega)]
theorem byR_ok {s : ByteArray} {a : Int} (b : Bool) (h : a < s.size) : byR s a b = (bt s a, a + 1, b) := by rw [byR, if_neg (by omega)]
theorem inR_ok {s : ByteArray} {a : Int} (b : Bool) (h : a + 8 ≤ s.size) : inR s a b = (nm s a 8 - 9223372036854775808, a + 8, b) := by rw [inR, if_neg (by omega)]
theorem tmR_no {s : ByteArray} {a : Int} (b : Bool) (h : (s.size : Int) < a + 8) : tmR s a b = (0, a, true) := by rw [tmR, if_pos (by omega)]
theorem byR_no {s : ByteArray} {a : Int} (b : Bool) (h : (s.size : Int) ≤ a) : byR s a b = (0, a, true) := by rw [byR, if_pos h]
theorem inR_no {s : ByteArray} {a : Int} (b : Bool) (h : (s.size : Int) < a + 8) : inR s a b = (0, a, true) := by rw [inR, if_pos (by omega)]
theorem byR_true (s : ByteArray) (a : Int) : (byR s a true).2.2 = true := by unfold byR; split <;> rfl
theorem inR_true (s : ByteArray) (a : Int) : (inR s a true).2.2 = true := by unfold inR; split <;> rfl
theorem tmR_true (s : ByteArray) (a : Int) : (tmR s a true).2.2 = true := by unfold tmR; split <;> rfl
theorem byR_of {s : ByteArray} {a : Int} {b : Bool} (h : b = true) : (byR s a b).2.2 = true := by subst h; exact byR_true s a
theorem inR_of {s : ByteArray} {a : Int} {b : Bool} (h : b = true) : (inR s a b).2.2 = true := by subst h; exact inR_true s a
theorem tmR_of {s : ByteArray} {a : Int} {b : Bool} (h : b = true) : (tmR s a b).2.2 = true := by subst h; exact tmR_true s a


theorem enR_short {s : ByteArray} {a : Int} {b ok : Bool} (h : b = true) : enR s a b ok = 5 := if_pos h
theorem enR_long {s : ByteArray} {a : Int} {ok : Bool} (h : a < s.size) : enR s a false ok = 6 := by rw [enR, if_neg (by decide), if_pos h]
theorem enR_end {s : ByteArray} {a : Int} {ok : Bool} (h : (s.size : Int) ≤ a) : enR s a false ok = if ok = true then 0 else 6 := by rw [enR, if_neg (by decide), if_neg (by omega)]



theorem wds_ok {s : ByteArray} {a : Int} (b : Bool) : ∀ (k : Nat), a + 8 * (k : Int) ≤ s.size → wds s a b k = (nums8 s a k, a + 8 * (k : Int), b)
  | 0, _ => by rw [wds]; simp [nums8]
  | k + 1, h => by
    rw [wds_step (wds_ok b k (by omega)), inR_ok b (by omega), nums8_succ]
    refine Prod.ext rfl (Prod.ext ?_ rfl)
    show a + 8 * (k : Int) + 8 = a + 8 * ((k + 1 : Nat) : Int)
    omega
theorem wds_no {s : ByteArray} {a : Int} (b : Bool) : ∀ (k : Nat), a ≤ s.size → (s.size : Int) < a + 8 * (k : Int) → (wds s a b k).2.2 = true
  | 0, h0, h => by omega
  | k + 1, h0, h => by
    rw [wds]
    by_cases h1 : (s.size : Int) < a + 8 * (k : Int)
    · exact inR_of (wds_no b k h0 h1)
    · show (inR s (wds s a b k).2.1 (wds s a b k).2.2).2.2 = true
      rw [wds_ok b k (by omega), inR_no _ (by show (s.size : Int) < a + 8 * (k : Int) + 8; omega)]

/-- Whether a state may be. -/
def okS (n : Nat) (S D : Int) : Bool := decide (n ≤ 8) && (cntB S && cntB D)
/-- What a text is, read as a state. -/
def gst (s : ByteArray) : List Int × Int × Int × Int :=
  if (s.size : Int) = 0 then ([], 0, 0, 5) else if (s.size : Int) < 17 + 8 * bt s 0 then ([], 0, 0, 5) else if 17 + 8 * bt s 0 < (s.size : Int) then ([], 0, 0, 6)
  else if okS (bt s 0).toNat (nm s (1 + 8 * bt s 0) 8 - 9223372036854775808) (nm s (9 + 8 * bt s 0) 8 - 9223372036854775808) = true then (nums8 s 1 (bt s 0).toNat, nm s (1 + 8 * bt s 0) 8 - 9223372036854775808, nm s (9 + 8 * bt s 0) 8 - 9223372036854775808, 0) else ([], 0, 0, 6)

/-- The same, as the program goes about it. -/
def gstC (s : ByteArray) : List Int × Int × Int × Int :=
  let a := byR s 0 false
  let W := wds s a.2.1 a.2.2 a.1.toNat
  let S := inR s W.2.1 W.2.2
  let D := inR s S.2.1 S.2.2
  let E := enR s D.2.1 D.2.2 (okS a.1.toNat S.1 D.1)
  if E = 0 then (W.1, S.1, D.1, 0) else ([], 0, 0, E)

theorem gst_eq (s : ByteArray) : gstC s = gst s := by
  have hb := bt_range s 0
  unfold gstC gst
  simp only
  by_cases h0 : (s.size : Int) = 0
  · rw [if_pos h0, byR_no false (by omega)]
    simp only [Int.toNat_zero, wds]
    rw [enR_short (inR_of (inR_true _ _)), if_neg (by decide)]
  rw [if_neg h0, byR_ok false (by omega)]
  simp only
  have hn : ((bt s 0).toNat : Int) = bt s 0 := by omega
  by_cases h1 : (s.size : Int) < 17 + 8 * bt s 0
  · rw [if_pos h1]
    have hf : (inR s (inR s (wds s (0 + 1) false (bt s 0).toNat).2.1 (wds s (0 + 1) false (bt s 0).toNat).2.2).2.1 (inR s (wds s (0 + 1) false (bt s 0).toNat).2.1 (wds s (0 + 1) false (bt s 0).toNat).2.2).2.2).2.2 = true := by
      by_cases h2 : (s.size : Int) < 0 + 1 + 8 * ((bt s 0).toNat : Int)
      · exact inR_of (inR_of (wds_no false _ (by omega) h2))
      rw [wds_ok false _ (by omega)]
      dsimp only
      by_cases h3 : (s.size : Int) < 0 + 1 + 8 * ((bt s 0).toNat : Int) + 8
      · rw [inR_no false h3]; exact inR_true _ _
      rw [inR_ok false (by omega)]
      dsimp only
      rw [inR_no false (by omega)]
    rw [enR_short hf, if_neg (by decide)]
  rw [if_neg h1, wds_ok false _ (by omega)]
  dsimp only
  rw [inR_ok false (by omega)]
  dsimp only
  rw [inR_ok false (by omega)]
  dsimp only
  rw [hn, show (0 : Int) + 1 + 8 * bt s 0 = 1 + 8 * bt s 0 by omega, show 1 + 8 * bt s 0 + 8 = 9 + 8 * bt s 0 by omega, show 9 + 8 * bt s 0 + 8 = 17 + 8 * bt s 0 by omega, show (0 : Int) + 1 = 1 from rfl]
  by_cases h2 : 17 + 8 * bt s 0 < (s.size : Int)
  · rw [if_pos h2, enR_long h2, if_neg (by decide)]
  rw [if_neg h2, enR_end (by omega)]
  by_cases hr : okS (bt s 0).toNat (nm s (1 + 8 * bt s 0) 8 - 9223372036854775808) (nm s (9 + 8 * bt s 0) 8 - 9223372036854775808) = true
  · rw [if_pos hr, if_pos rfl, if_pos hr]
  · rw [if_neg hr, if_neg (by decide), if_neg hr]

theorem enR_bad (s : ByteArray) (a : Int) (b : Bool) : 1 ≤ enR s a b false := by
  unfold enR; repeat' split
  all_goals first | omega | contradiction
theorem enR_or (s : ByteArray) (a : Int) (b ok : Bool) : enR s a b ok = 0 ∨ 1 ≤ enR s a b ok := by
  unfold enR; repeat' split
  all_goals omega

theorem get43_calls (s : ByteArray) (hz : s.size ≤ 140737488351232) (w : World) : Calls Try.prog 43 #[.string s] w (GP w (gst s).1 (gst s).2.1 (gst s).2.2.1 (gst s).2.2.2) := by
  rw [← gst_eq]
  have hr := byR_range s 0 false
  have hi := byR_in (s := s) (a := 0) (b := false) (by omega)
  obtain ⟨n, hn⟩ : ∃ n : Nat, (byR s 0 false).1 = n := ⟨_, (Int.toNat_of_nonneg hr.1).symm⟩
  have hwi : ∀ k, 0 ≤ (wds s (byR s 0 false).2.1 (byR s 0 false).2.2 k).2.1 ∧ (wds s (byR s 0 false).2.1 (byR s 0 false).2.2 k).2.1 ≤ s.size := by
    intro k
    induction k with
    | zero => exact hi
    | succ k ih => rw [wds]; exact inR_in ih
  have hw := hwi n
  unfold gstC
  simp only [hn, Int.toNat_natCast]
  obtain ⟨W, hW⟩ : ∃ W, wds s (byR s 0 false).2.1 (byR s 0 false).2.2 n = W := ⟨_, rfl⟩
  rw [hW] at hw
  simp only [hW]
  have hs := inR_in (b := W.2.2) hw
  refine get43_walk s n (byR s 0 false).2.1 W.2.1 (inR s W.2.1 W.2.2).2.1 (inR s (inR s W.2.1 W.2.2).2.1 (inR s W.2.1 W.2.2).2.2).2.1 (inR s W.2.1 W.2.2).1 (inR s (inR s W.2.1 W.2.2).2.1 (inR s W.2.1 W.2.2).2.2).1
    (enR s (inR s (inR s W.2.1 W.2.2).2.1 (inR s W.2.1 W.2.2).2.2).2.1 (inR s (inR s W.2.1 W.2.2).2.1 (inR s W.2.1 W.2.2).2.2).2.2 (okS n (inR s W.2.1 W.2.2).1 (inR s (inR s W.2.1 W.2.2).2.1 (inR s W.2.1 W.2.2).2.2).1))
    (byR s 0 false).2.2 W.2.2 (inR s W.2.1 W.2.2).2.2 (inR s (inR s W.2.1 W.2.2).2.1 (inR s W.2.1 W.2.2).2.2).2.2 (okS n (inR s W.2.1 W.2.2).1 (inR s (inR s W.2.1 W.2.2).2.1 (inR s W.2.1 W.2.2).2.2).1) W.1 w hz (by omega) hi hW
    ⟨fun g w0 w hI hB => hn ▸ byte_calls g s 0 false w0 w hz (by omega) hI hB⟩ ⟨fun g w0 w hI hB => int_calls g s _ _ w0 w hz hw hI hB⟩ ⟨fun g w0 w hI hB => int_calls g s _ _ w0 w hz hs hI hB⟩ ⟨fun g w0 w hI hB => end_calls g s _ _ _ w0 w hI hB⟩ _ _ _ _ ?_
  generalize (inR s W.2.1 W.2.2).1 = S
  generalize (inR s (inR s W.2.1 W.2.2).2.1 (inR s W.2.1 W.2.2).2.2) = d
  clear hs hw hwi hi hr hW hn
  by_cases h8 : 8 < n
  · have ho : okS n S d.1 = false := by rw [okS, decide_eq_false (by omega)]; rfl
    rw [ho]
    have he := enR_bad s d.2.1 d.2.2
    rw [if_neg (by omega)]
    exact Or.inl ⟨h8, rfl, he, rfl, rfl, rfl, rfl⟩
  · by_cases hS : cntB S = true
    · have ho : okS n S d.1 = cntB d.1 := by rw [okS, decide_eq_true (by omega), hS]; rfl
      rw [ho]
      rcases enR_or s d.2.1 d.2.2 (cntB d.1) with he | he
      · rw [if_pos he]
        exact Or.inr (Or.inr (Or.inr ⟨by omega, hS, rfl, by omega, rfl, rfl, rfl, rfl⟩))
      · rw [if_neg (by omega)]
        exact Or.inr (Or.inr (Or.inl ⟨by omega, hS, rfl, he, rfl, rfl, rfl, rfl⟩))
    · have hS' : cntB S = false := by simpa using hS
      have ho : okS n S d.1 = false := by rw [okS, hS']; simp
      rw [ho]
      have he := enR_bad s d.2.1 d.2.2
      rw [if_neg (by omega)]
      exact Or.inr (Or.inl ⟨by omega, hS', rfl, he, rfl, rfl, rfl, rfl⟩)

/-! ### The reference -/
theorem rdI_ok (s : ByteArray) (a : Int) (h0 : 0 ≤ a) (h : a + 8 ≤ s.size) : rdI s a = (nm s a 8 - 9223372036854775808, a + 8, 0) := by rw [rdI, if_neg (by omega), if_neg (by omega)]

/-- What a state is laid as. -/
def pst (x : List Int) (S D : Int) : ByteArray := strOfNums ([(x.length : Int)] ++ lay8 x) ++ strOfNums (be8 (S + 9223372036854775808)) ++ strOfNums (be8 (D + 9223372036854775808))

theorem cnt_in {S : Int} (h : cntB S = true) : -9223372036854775808 ≤ S ∧ S < 9223372036854775808 := by
  simp only [cntB, Bool.and_eq_true, decide_eq_true_eq] at h; omega

/-! ### As contracts -/
theorem put42_no (A : Option Addr) (n c : Nat) (S D : Int) (w : World) (h : okS n S D = false) :
    Calls Try.prog 42 #[.agg #[.slice A n c, .int .i64 S, .int .i64 D]] w fun e w' => e = .returned (.tuple #[.string ⟨#[]⟩, .int .i64 2]) ∧ Below w.heap.size w w' := by
  by_cases h8 : 8 < n
  · exact put42_big A n c S D w h8
  by_cases hS : cntB S = true
  · refine put42_d A n c S D w (by omega) hS ?_
    rw [okS, decide_eq_true (by omega), hS] at h
    simpa using h
  · exact put42_s A n c S D w (by omega) (by simpa using hS)

theorem put42_ok (A : Option Addr) (c : Nat) (x : List Int) (S D : Int) (w : World) (h : okS x.length S D = true) (hr : Kd.C (Kd.int .i64) w A x.length x) (hx : ∀ n ∈ x, -9223372036854775808 ≤ n ∧ n < 9223372036854775808) :
    Calls Try.prog 42 #[.agg #[.slice A x.length c, .int .i64 S, .int .i64 D]] w fun e w' => e = .returned (.tuple #[.string (pst x S D), .int .i64 0]) ∧ Below w.heap.size w w' := by
  simp only [okS, Bool.and_eq_true, decide_eq_true_eq] at h
  obtain ⟨h8, hS, hD⟩ := h
  by_cases h0 : x.length = 0
  · obtain rfl : x = [] := List.length_eq_zero_iff.1 h0
    exact put42_none A c S D w hS hD (cnt_in hS) (cnt_in hD)
  · obtain ⟨ad, rfl, _⟩ := Kd.at_int hr 0 (by omega) (by omega)
    have hc : ∀ k, k < x.length → w.cell? (ad.add k) = some (.int .i64 (x.getD k 0)) := by
      intro k hk
      obtain ⟨ad', e, h1⟩ := Kd.at_int hr (k : Int) (by omega) (by omega)
      injection e with e
      subst e
      simpa [rd] using h1
    obtain ⟨b, off, spot⟩ := ad
    have h0' := hc 0 (by omega)
    have hspot : spot = none := by simpa [Addr.add] using World.cell?_spot h0'
    subst hspot
    have hc' : ∀ k, k < x.length → w.cell? ⟨b, off + k, none⟩ = some (.int .i64 (x.getD k 0)) := fun k hk => by
      by_cases h0 : k = 0
      · subst h0; simpa [Addr.add] using hc 0 hk
      · simpa [Addr.add, h0] using hc k hk
    exact put42_some b off c x S D w (World.block_lt_of_cell? w _ (hc' 0 (by omega))) hc' hx h8 hS hD (cnt_in hS) (cnt_in hD)

theorem gst_len (s : ByteArray) : (gst s).1.length ≤ 8 := by
  unfold gst
  repeat' split
  all_goals first | exact Nat.zero_le _ | skip
  rename_i h
  simp only [okS, Bool.and_eq_true, decide_eq_true_eq] at h
  rw [nums8_length]
  exact h.1

/-- What GetState gives, as a row that is read. -/
theorem get43_reads (s : ByteArray) (hz : s.size ≤ 140737488351232) (w : World) :
    Calls Try.prog 43 #[.string s] w fun e w' => ∃ (A : Option Addr) (c : Nat), e = .returned (.tuple #[.agg #[.slice A (gst s).1.length c, .int .i64 (gst s).2.1, .int .i64 (gst s).2.2.1], .int .i64 (gst s).2.2.2]) ∧ ((gst s).1.length ≤ c ∧ Kd.C (Kd.int .i64) w' A (gst s).1.length (gst s).1) ∧ Below w.heap.size w w' := by
  refine (get43_calls s hz w).mono ?_
  rintro e w' ⟨v, rfl, ho, hb⟩
  have hR : Kd.R (Kd.int .i64) 3 w' w.heap.size (fun _ => True) v (gst s).1 := Kd.R_of_own (by exact ho) (fun _ _ => trivial)
  obtain ⟨A, c, rfl, hc, hC⟩ := Kd.R_reads hR
  exact ⟨A, c, rfl, ⟨hc, hC⟩, hb⟩
end Go.Proofs.Ytlbjcdfognofgaa.RecP
