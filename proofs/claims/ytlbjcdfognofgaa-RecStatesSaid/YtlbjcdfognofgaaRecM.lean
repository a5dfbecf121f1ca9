/- A state that is read. -/
import Derived.Test.YtlbjcdfognofgaaRecF
import Derived.Test.YtlbjcdfognofgaaRg
import Derived.Deep.DrawnRows
import Derived.Deep.RegionHeld3
import Derived.Deep.AppendLies
import Derived.Laws.OwnMore
import Derived.Deep.LoopGhost
namespace Go.Proofs.Ytlbjcdfognofgaa.RecM
open Go.RowKit Go.Proofs.YtlbjcdfognofgaaW.PrintWords Go.Proofs.YtlbjcdfognofgaaW.PrintLast Go.Proofs.YtlbjcdfognofgaaW.PrintMore Go.Proofs.Ytlbjcdfognofgaa.Be Go.Proofs.Ytlbjcdfognofgaa.Fl Go.Proofs.Ytlbjcdfognofgaa.StampA Go.Proofs.Ytlbjcdfognofgaa.StampB Go.Proofs.Ytlbjcdfognofgaa.StampC Go.Proofs.Ytlbjcdfognofgaa.StampD Go.Proofs.Ytlbjcdfognofgaa.StampK Go.Proofs.Ytlbjcdfognofgaa.SRec Go.Proofs.Ytlbjcdfognofgaa.StampQ Go.Proofs.Ytlbjcdfognofgaa.StampR Go.Proofs.Ytlbjcdfognofgaa.Wk Go.Proofs.Ytlbjcdfognofgaa.RecA Go.Proofs.Ytlbjcdfognofgaa.RecB Go.Proofs.Ytlbjcdfognofgaa.RecC Go.Proofs.Ytlbjcdfognofgaa.RecD Go.Proofs.Ytlbjcdfognofgaa.RecE Go.Proofs.Ytlbjcdfognofgaa.RecF Go.Proofs.Ytlbjcdfognofgaa.PRecStates
attribute [local go_sem ↓] Go.wp_at_zero Go.wp_at_succ
attribute [local go_sem] run_store_float
set_option linter.unusedVariables false


theorem Blk.grown {w w' : World} {g : Nat} {t : TypeId} {cs : Array Value} {row : Option Nat} (h : Blk w g t cs) (hb : w.grownBy w' row) (hg : some g ≠ row) : Blk w' g t cs := (hb.block g h.lt hg).trans h
theorem below_grown {w W w2 : World} {row : Option Nat} (h : Below w.heap.size w W) (hg : W.grownBy w2 row) (hr : ∀ k, row = some k → w.heap.size ≤ k) : Below w.heap.size w w2 :=
  ⟨hg.os.trans h.os, hg.tape.trans h.tape, hg.output.trans h.output, Nat.le_trans h.size hg.size, fun i hi => (hg.block i (Nat.lt_of_lt_of_le hi h.size) (fun e => by have := hr i e.symm; omega)).trans (h.block i hi)⟩

/-- So many numbers, one behind the other. -/
def wds (s : ByteArray) (a : Int) (b : Bool) : Nat → List Int × Int × Bool
  | 0 => ([], a, b)
  | k + 1 => ((wds s a b k).1 ++ [(inR s (wds s a b k).2.1 (wds s a b k).2.2).1], (inR s (wds s a b k).2.1 (wds s a b k).2.2).2.1, (inR s (wds s a b k).2.1 (wds s a b k).2.2).2.2)
theorem wds_step {s : ByteArray} {a a' : Int} {b b' : Bool} {k : Nat} {ws : List Int} (h : wds s a b k = (ws, a', b')) : wds s a b (k + 1) = (ws ++ [(inR s a' b').1], (inR s a' b').2.1, (inR s a' b').2.2) := by
  rw [wds, h]

def cntB (a : Int) : Bool := decide (0 ≤ a) && decide (a ≤ 1099511627776)
theorem count_calls (a : Int) (w : World) : Calls Try.prog 92 #[.int .i64 a] w fun e w' => e = .returned (.bool (cntB a)) ∧ Below w.heap.size w w' := by
  refine (rec_count.calls a (cntB a) w ?_).mono fun e w' h => ⟨h.1, h.2.below⟩
  rw [rec_count.f, cntB]
  by_cases h : 0 ≤ a
  · rw [if_pos h, decide_eq_true h, Bool.true_and]
  · rw [if_neg h, decide_eq_false h, Bool.false_and]

/-- What the walk of GetState ends in. -/
def GP (w : World) (r1 : List Int) (r2 r3 r4 : Int) (e : Ending) (w' : World) : Prop :=
  ∃ v, e = .returned (.tuple #[.agg #[v, .int .i64 r2, .int .i64 r3], .int .i64 r4]) ∧ w'.ownsRow w.heap.size 3 1 v r1.length (nums .i64 r1) ∧ Below w.heap.size w w'

theorem Try.info3 : (Try.prog.info? 3).map (fun i => (i.zero, i.size, i.bytes)) = some (some (.int .i64 0), 1, 8) := by kernel_rfl


set_option maxRecDepth 100000 in
set_option maxHeartbeats 8000000 in
theorem get43_walk (s : ByteArray) (n : Nat) (a0 aW a1 a2 S D E : Int) (b0 bW b1 b2 ok : Bool) (WS : List Int) (w : World) (hz : s.size ≤ 140737488351232) (hn : n ≤ 255) (ha0 : 0 ≤ a0 ∧ a0 ≤ s.size) (hW : wds s a0 b0 n = (WS, aW, bW))
    (CB : Aside0 (∀ g w0 w, IsS115 w0 w g s 0 false → Below w0.heap.size w0 w → Calls Try.prog 94 #[.pointer (some ⟨g, 0, none⟩)] w fun e w' => e = .returned (.int .i64 (n : Int)) ∧ IsS115 w0 w' g s a0 b0 ∧ Below w0.heap.size w0 w' ∧ KeepBut w w' g none))
    (CS : Aside0 (∀ g w0 w, IsS115 w0 w g s aW bW → Below w0.heap.size w0 w → Calls Try.prog 95 #[.pointer (some ⟨g, 0, none⟩)] w fun e w' => e = .returned (.int .i64 S) ∧ IsS115 w0 w' g s a1 b1 ∧ Below w0.heap.size w0 w' ∧ KeepBut w w' g none))
    (CD : Aside0 (∀ g w0 w, IsS115 w0 w g s a1 b1 → Below w0.heap.size w0 w → Calls Try.prog 95 #[.pointer (some ⟨g, 0, none⟩)] w fun e w' => e = .returned (.int .i64 D) ∧ IsS115 w0 w' g s a2 b2 ∧ Below w0.heap.size w0 w' ∧ KeepBut w w' g none))
    (CF : Aside0 (∀ g w0 w, IsS115 w0 w g s a2 b2 → Below w0.heap.size w0 w → Calls Try.prog 96 #[.pointer (some ⟨g, 0, none⟩), .bool ok] w fun e w' => e = .returned (.int .i64 E) ∧ IsS115 w0 w' g s a2 b2 ∧ Below w0.heap.size w0 w' ∧ KeepBut w w' g none))
    (r1 : List Int) (r2 r3 r4 : Int) (hc : (8 < n ∧ ok = false ∧ 1 ≤ E ∧ r1 = [] ∧ r2 = 0 ∧ r3 = 0 ∧ E = r4) ∨ (n ≤ 8 ∧ cntB S = false ∧ ok = false ∧ 1 ≤ E ∧ r1 = [] ∧ r2 = 0 ∧ r3 = 0 ∧ E = r4) ∨ (n ≤ 8 ∧ cntB S = true ∧ ok = cntB D ∧ 1 ≤ E ∧ r1 = [] ∧ r2 = 0 ∧ r3 = 0 ∧ E = r4) ∨ (n ≤ 8 ∧ cntB S = true ∧ ok = cntB D ∧ (E ≤ 0 ∧ 0 ≤ E) ∧ WS = r1 ∧ S = r2 ∧ D = r3 ∧ r4 = 0)) :
    Calls Try.prog 43 #[.string s] w (GP w r1 r2 r3 r4) := by
  have hu2 := Try.underlying48
  obtain ⟨i0, hi, hz0, hz1, hz2⟩ := info_parts Try.info3
  have HW0 := Aside0.mk hW
  have HCC := Aside0.mk hc
  have HA0 := Aside0.mk ha0
  clear hW hc ha0
  have hgr : ¬ w.heap.size + 1 = w.heap.size := by omega
  have hrg : ¬ w.heap.size = w.heap.size + 1 := by omega
  have hgx : ¬ w.heap.size + 1 = w.heap.size + 1 + 1 := by omega
  have hrx : ¬ w.heap.size = w.heap.size + 1 + 1 := by omega
  have hxr : ¬ w.heap.size + 1 + 1 = w.heap.size := by omega
  have hxv : w.heap.size ≤ w.heap.size + 1 + 1 := by omega
  have hvv := Nat.le_refl w.heap.size
  have hB1 := below_alloc (Below.refl w.heap.size w) (.cells #[.slice none 0 0, .int .i64 0, .int .i64 0] 48)
  have HB := Aside0.mk (below_alloc (below_alloc hB1 (.cells #[.string s, .int .i64 0, .bool false] 115)) (.cells #[.slice none 0 0, .int .i64 0, .int .i64 0] 48))
  have HI : Aside0 (IsS115 w (((w.alloc (.cells #[.slice none 0 0, .int .i64 0, .int .i64 0] 48)).alloc (.cells #[.string s, .int .i64 0, .bool false] 115)).alloc (.cells #[.slice none 0 0, .int .i64 0, .int .i64 0] 48)) (w.heap.size + 1) s 0 false) := ⟨by have h := (IsS115.new w (w.alloc (.cells #[.slice none 0 0, .int .i64 0, .int .i64 0] 48)) s 0 false hB1).alloc (.cells #[.slice none 0 0, .int .i64 0, .int .i64 0] 48); simpa using h⟩
  have HR : Aside0 (Blk (((w.alloc (.cells #[.slice none 0 0, .int .i64 0, .int .i64 0] 48)).alloc (.cells #[.string s, .int .i64 0, .bool false] 115)).alloc (.cells #[.slice none 0 0, .int .i64 0, .int .i64 0] 48)) (w.heap.size) 48 #[.slice none 0 0, .int .i64 0, .int .i64 0]) := ⟨((Blk.new w 48 #[.slice none 0 0, .int .i64 0, .int .i64 0]).alloc (.cells #[.string s, .int .i64 0, .bool false] 115)).alloc (.cells #[.slice none 0 0, .int .i64 0, .int .i64 0] 48)⟩
  have HX : Aside0 (Blk (((w.alloc (.cells #[.slice none 0 0, .int .i64 0, .int .i64 0] 48)).alloc (.cells #[.string s, .int .i64 0, .bool false] 115)).alloc (.cells #[.slice none 0 0, .int .i64 0, .int .i64 0] 48)) (w.heap.size + 1 + 1) 48 #[.slice none 0 0, .int .i64 0, .int .i64 0]) := ⟨by have h := Blk.new ((w.alloc (.cells #[.slice none 0 0, .int .i64 0, .int .i64 0] 48)).alloc (.cells #[.string s, .int .i64 0, .bool false] 115)) 48 #[.slice none 0 0, .int .i64 0, .int .i64 0]; simpa using h⟩
  clear hB1
  go_enter Try.func43, Try.ntmps43
  go_wp2_with fail
  refine (CB.out (w.heap.size + 1) w _ iss bel).mono ?_
  rintro e w1 ⟨rfl, hi, hb, hk⟩
  replace HR : Aside0 (Blk w1 (w.heap.size) 48 #[.slice none 0 0, .int .i64 0, .int .i64 0]) := ⟨Blk.kept blk hk far⟩
  replace HX : Aside0 (Blk w1 (w.heap.size + 1 + 1) 48 #[.slice none 0 0, .int .i64 0, .int .i64 0]) := ⟨Blk.kept blk hk far⟩
  replace HI := Aside0.mk hi
  replace HB := Aside0.mk hb
  have hsw1 := hk.1
  try simp at hsw1
  clear hk hi hb
  obtain ⟨cR0, cR1, cR2, fR⟩ := HR.out.c3
  obtain ⟨cX0, cX1, cX2, fX⟩ := HX.out.c3
  clear cR0 cR1 cR2 fR cX0 cX1 cX2 fX
  go_wp2_with fail
  go_loopw [15] (fun i wr => ∃ (k : Nat) (ws : List Int) (a : Int) (b : Bool) (v : Value), i = .int .i64 k ∧ k ≤ n ∧ Aside0 (wds s a0 b0 k = (ws, a, b)) ∧ Aside0 (0 ≤ a ∧ a ≤ s.size) ∧ Aside0 (IsS115 w wr (w.heap.size + 1) s a b) ∧ Aside0 (Blk wr (w.heap.size) 48 #[.slice none 0 0, .int .i64 0, .int .i64 0]) ∧ Aside0 (Blk wr (w.heap.size + 1 + 1) 48 #[v, .int .i64 0, .int .i64 0]) ∧ Aside0 (wr.ownsRow w.heap.size 3 1 v k (nums .i64 ws)) ∧ Aside0 (Below w.heap.size w wr)) (fun i _ => n - (intOf i).toNat)
  case atStart => exact ⟨0, [], a0, b0, .slice none 0 0, rfl, Nat.zero_le _, ⟨rfl⟩, HA0, HI, HR, HX, ⟨own_nil _ _ _ _⟩, HB⟩
  case round =>
    clear HI HR HX HB hsw1
    obtain ⟨k, ws, a, b, v, rfl, hk, HW, HA, HI, HR, HX, HO, HB⟩ := hrel
    by_cases hlt : k < n
    · go_wp2_with fail
      refine wp_region_noPanic ?_
      refine wp_region_held_drew (S := (fun w' => True)) (by kernel_rfl) (by trivial) (fun hHeld => ?_)
      change wpAnyH _ _ _ _ _ 8 _ _ _
      refine Rg.tk (fuel := 7) 0 ?_
      refine Rg.tk (fuel := 6) 2 ?_
      refine wpAnyH_ready (fuel := 5) (rs := [1, 3]) (by kernel_rfl) (by simp) ?_
      refine AllReadyH.cons rfl (fun K hK => ?_) ?_
      · obtain ⟨cX0, cX1, cX2, fX⟩ := HX.out.c3
        go_simp
        clear cX0 cX1 cX2 fX
        refine hK.out _ _ (by trivial) (fun hHeld => ?_)
        clear hK K
        try simp only [Act.put, List.setIfInBounds_toArray, List.set_cons_zero, List.set_cons_succ]
        refine wpAnyH_ready (fuel := 4) (rs := [3]) (by kernel_rfl) (by simp) ?_
        refine AllReadyH.cons rfl (fun K hK => ?_) ?_
        · go_simp
          refine (int_calls (w.heap.size + 1) s a b w _ hz HA.out iss bel).mono ?_
          rintro e w1 ⟨rfl, hi', hb, hk'⟩
          replace HR : Aside0 (Blk w1 (w.heap.size) 48 #[.slice none 0 0, .int .i64 0, .int .i64 0]) := ⟨Blk.kept blk hk' far⟩
          have hxo := own_ne HO.out HX.out (by decide)
          have hgo : v.ownBlock ≠ some (w.heap.size + 1) := fun e => own_ne HO.out HI.out.1 (by decide) e.symm
          replace HX : Aside0 (Blk w1 (w.heap.size + 1 + 1) 48 #[v, .int .i64 0, .int .i64 0]) := ⟨Blk.kept blk hk' far⟩
          replace HO : Aside0 (w1.ownsRow w.heap.size 3 1 v k (nums .i64 ws)) := ⟨KeepBut.own hk' HO.out hgo (by cases v.ownBlock <;> simp)⟩
          replace HI := Aside0.mk hi'
          replace HB := Aside0.mk hb
          have hsz := hk'.1
          clear hi' hb hk' hgo
          have HQ := Aside0.mk (inR_range s a b)
          have HW2 := Aside0.mk (wds_step HW.out)
          have HA2 := Aside0.mk (inR_in (b := b) HA.out)
          clear HW HA
          generalize (inR s a b).1 = N at *
          generalize (inR s a b).2.1 = a' at *
          generalize (inR s a b).2.2 = b' at *
          obtain ⟨cX0, cX1, cX2, fX⟩ := HX.out.c3
          go_wp2_with fail
          refine hK.out _ _ (by trivial) (fun hHeld => ?_)
          clear hK K
          try simp only [Act.put, List.setIfInBounds_toArray, List.set_cons_zero, List.set_cons_succ]
          refine wpAnyH_ready (fuel := 3) (rs := [4]) (by kernel_rfl) (by simp) ?_
          refine AllReadyH.cons rfl (fun K hK => ?_) ?_
          · go_simp
            replace HR := Aside0.mk (HR.out.alloc (.cells #[.int .i64 N] 3))
            replace HX := Aside0.mk (HX.out.alloc (.cells #[.int .i64 N] 3))
            replace HO := Aside0.mk (HO.out.alloc (.cells #[.int .i64 N] 3))
            replace HI := Aside0.mk (HI.out.alloc (.cells #[.int .i64 N] 3))
            replace HB := Aside0.mk (below_alloc HB.out (.cells #[.int .i64 N] 3))
            have hnews := World.news_of_block (heap_alloc_new w1 (.cells #[.int .i64 N] 3))
            have HN := Aside0.mk hnews
            clear hnews cX0 cX1 cX2 fX
            obtain ⟨cX0, cX1, cX2, fX⟩ := HX.out.c3
            refine hK.out _ _ (by trivial) (fun hHeld => ?_)
            clear hK K
            try simp only [Act.put, List.setIfInBounds_toArray, List.set_cons_zero, List.set_cons_succ]
            refine wpAnyH_ready (fuel := 2) (rs := [5]) (by kernel_rfl) (by simp) ?_
            refine AllReadyH.cons rfl (fun K hK => ?_) ?_
            · refine step_append_lies _ (by rfl) _ _ 30 (by rfl) w.heap.size 3 i0 (.int .i64 0) 1 8 Try.underlying30 hi hz0 hz1 hz2 rfl (by decide) v k (nums .i64 ws) (by rfl) HO.out ⟨w1.heap.size, 0, none⟩ 1 1 [.int .i64 N] (by rfl) rfl HN.out (by simp [Value.oneCell']) (by decide) (by unfold maxLen; omega) (by omega) HB.out.size (w1.heap.size + 1) (by simp) ?_
              intro g' cap w2 hown hgrow hat hlt2
              replace HR : Aside0 (Blk w2 (w.heap.size) 48 #[.slice none 0 0, .int .i64 0, .int .i64 0]) := ⟨Blk.grown HR.out hgrow (own_ne HO.out HR.out (by decide))⟩
              replace HX : Aside0 (Blk w2 (w.heap.size + 1 + 1) 48 #[v, .int .i64 0, .int .i64 0]) := ⟨Blk.grown HX.out hgrow hxo⟩
              replace HI : Aside0 (IsS115 w w2 (w.heap.size + 1) s a' b') := ⟨HI.out.grown hgrow (own_ne HO.out HI.out.1 (by decide))⟩
              replace HB : Aside0 (Below w.heap.size w w2) := ⟨below_grown HB.out hgrow (fun q hq => own_base HO.out q hq)⟩
              have HO2 : Aside0 (w2.ownsRow w.heap.size 3 1 (.slice (some ⟨g', 0, none⟩) (k + 1) cap) (k + 1) (nums .i64 (ws ++ [N]))) := ⟨by have h := hown; simpa [nums] using h⟩
              clear HO HN hown hgrow hat hlt2 hxo cX0 cX1 cX2 fX
              obtain ⟨cX0, cX1, cX2, fX⟩ := HX.out.c3
              refine hK.out _ _ (by trivial) (fun hHeld => ?_)
              clear hK K
              try simp only [Act.put, List.setIfInBounds_toArray]
              refine Rg.tk (fuel := 1) 6 ?_
              refine wpAnyH_ready (fuel := 0) (rs := [7]) (by kernel_rfl) (by simp) ?_
              refine AllReadyH.cons rfl (fun K hK => ?_) ?_
              · go_simp
                refine hK.out _ _ (by trivial) (fun hHeld => ?_)
                clear hK K
                try simp only [Act.put]
                refine wpAnyH_done (by kernel_rfl) ?_ _
                refine NoPanic.normal ?_
                go_wp2_with fail
                go_roundw
                case rel => exact ⟨k + 1, ws ++ [N], a', b', .slice (some ⟨g', 0, none⟩) (k + 1) cap, by go_num, by omega, HW2, HA2, ⟨iss⟩, ⟨blk⟩, ⟨Blk.set' HX (by rfl)⟩, ⟨own_setCell (p := ⟨w.heap.size + 1 + 1, 0, none⟩) HO2.out (own_ne HO2.out HX.out (by decide)) _⟩, ⟨bel⟩⟩
                case measure => simp [intOf]; omega
              exact AllReadyH.nil
            exact AllReadyH.nil
          exact AllReadyH.nil
        exact AllReadyH.nil
      refine AllReadyH.cons rfl (fun K hK => ?_) ?_
      · go_simp
        refine (int_calls (w.heap.size + 1) s a b w _ hz HA.out iss bel).mono ?_
        rintro e w1 ⟨rfl, hi', hb, hk'⟩
        replace HR : Aside0 (Blk w1 (w.heap.size) 48 #[.slice none 0 0, .int .i64 0, .int .i64 0]) := ⟨Blk.kept blk hk' far⟩
        have hxo := own_ne HO.out HX.out (by decide)
        have hgo : v.ownBlock ≠ some (w.heap.size + 1) := fun e => own_ne HO.out HI.out.1 (by decide) e.symm
        replace HX : Aside0 (Blk w1 (w.heap.size + 1 + 1) 48 #[v, .int .i64 0, .int .i64 0]) := ⟨Blk.kept blk hk' far⟩
        replace HO : Aside0 (w1.ownsRow w.heap.size 3 1 v k (nums .i64 ws)) := ⟨KeepBut.own hk' HO.out hgo (by cases v.ownBlock <;> simp)⟩
        replace HI := Aside0.mk hi'
        replace HB := Aside0.mk hb
        have hsz := hk'.1
        clear hi' hb hk' hgo
        have HQ := Aside0.mk (inR_range s a b)
        have HW2 := Aside0.mk (wds_step HW.out)
        have HA2 := Aside0.mk (inR_in (b := b) HA.out)
        clear HW HA
        generalize (inR s a b).1 = N at *
        generalize (inR s a b).2.1 = a' at *
        generalize (inR s a b).2.2 = b' at *
        obtain ⟨cX0, cX1, cX2, fX⟩ := HX.out.c3
        go_wp2_with fail
        refine hK.out _ _ (by trivial) (fun hHeld => ?_)
        clear hK K
        try simp only [Act.put, List.setIfInBounds_toArray, List.set_cons_zero, List.set_cons_succ]
        refine wpAnyH_ready (fuel := 4) (rs := [1, 4]) (by kernel_rfl) (by simp) ?_
        refine AllReadyH.cons rfl (fun K hK => ?_) ?_
        · obtain ⟨cX0, cX1, cX2, fX⟩ := HX.out.c3
          go_simp
          clear cX0 cX1 cX2 fX
          refine hK.out _ _ (by trivial) (fun hHeld => ?_)
          clear hK K
          try simp only [Act.put, List.setIfInBounds_toArray, List.set_cons_zero, List.set_cons_succ]
          refine wpAnyH_ready (fuel := 3) (rs := [4]) (by kernel_rfl) (by simp) ?_
          refine AllReadyH.cons rfl (fun K hK => ?_) ?_
          · go_simp
            replace HR := Aside0.mk (HR.out.alloc (.cells #[.int .i64 N] 3))
            replace HX := Aside0.mk (HX.out.alloc (.cells #[.int .i64 N] 3))
            replace HO := Aside0.mk (HO.out.alloc (.cells #[.int .i64 N] 3))
            replace HI := Aside0.mk (HI.out.alloc (.cells #[.int .i64 N] 3))
            replace HB := Aside0.mk (below_alloc HB.out (.cells #[.int .i64 N] 3))
            have hnews := World.news_of_block (heap_alloc_new w1 (.cells #[.int .i64 N] 3))
            have HN := Aside0.mk hnews
            clear hnews cX0 cX1 cX2 fX
            obtain ⟨cX0, cX1, cX2, fX⟩ := HX.out.c3
            refine hK.out _ _ (by trivial) (fun hHeld => ?_)
            clear hK K
            try simp only [Act.put, List.setIfInBounds_toArray, List.set_cons_zero, List.set_cons_succ]
            refine wpAnyH_ready (fuel := 2) (rs := [5]) (by kernel_rfl) (by simp) ?_
            refine AllReadyH.cons rfl (fun K hK => ?_) ?_
            · refine step_append_lies _ (by rfl) _ _ 30 (by rfl) w.heap.size 3 i0 (.int .i64 0) 1 8 Try.underlying30 hi hz0 hz1 hz2 rfl (by decide) v k (nums .i64 ws) (by rfl) HO.out ⟨w1.heap.size, 0, none⟩ 1 1 [.int .i64 N] (by rfl) rfl HN.out (by simp [Value.oneCell']) (by decide) (by unfold maxLen; omega) (by omega) HB.out.size (w1.heap.size + 1) (by simp) ?_
              intro g' cap w2 hown hgrow hat hlt2
              replace HR : Aside0 (Blk w2 (w.heap.size) 48 #[.slice none 0 0, .int .i64 0, .int .i64 0]) := ⟨Blk.grown HR.out hgrow (own_ne HO.out HR.out (by decide))⟩
              replace HX : Aside0 (Blk w2 (w.heap.size + 1 + 1) 48 #[v, .int .i64 0, .int .i64 0]) := ⟨Blk.grown HX.out hgrow hxo⟩
              replace HI : Aside0 (IsS115 w w2 (w.heap.size + 1) s a' b') := ⟨HI.out.grown hgrow (own_ne HO.out HI.out.1 (by decide))⟩
              replace HB : Aside0 (Below w.heap.size w w2) := ⟨below_grown HB.out hgrow (fun q hq => own_base HO.out q hq)⟩
              have HO2 : Aside0 (w2.ownsRow w.heap.size 3 1 (.slice (some ⟨g', 0, none⟩) (k + 1) cap) (k + 1) (nums .i64 (ws ++ [N]))) := ⟨by have h := hown; simpa [nums] using h⟩
              clear HO HN hown hgrow hat hlt2 hxo cX0 cX1 cX2 fX
              obtain ⟨cX0, cX1, cX2, fX⟩ := HX.out.c3
              refine hK.out _ _ (by trivial) (fun hHeld => ?_)
              clear hK K
              try simp only [Act.put, List.setIfInBounds_toArray]
              refine Rg.tk (fuel := 1) 6 ?_
              refine wpAnyH_ready (fuel := 0) (rs := [7]) (by kernel_rfl) (by simp) ?_
              refine AllReadyH.cons rfl (fun K hK => ?_) ?_
              · go_simp
                refine hK.out _ _ (by trivial) (fun hHeld => ?_)
                clear hK K
                try simp only [Act.put]
                refine wpAnyH_done (by kernel_rfl) ?_ _
                refine NoPanic.normal ?_
                go_wp2_with fail
                go_roundw
                case rel => exact ⟨k + 1, ws ++ [N], a', b', .slice (some ⟨g', 0, none⟩) (k + 1) cap, by go_num, by omega, HW2, HA2, ⟨iss⟩, ⟨blk⟩, ⟨Blk.set' HX (by rfl)⟩, ⟨own_setCell (p := ⟨w.heap.size + 1 + 1, 0, none⟩) HO2.out (own_ne HO2.out HX.out (by decide)) _⟩, ⟨bel⟩⟩
                case measure => simp [intOf]; omega
              exact AllReadyH.nil
            exact AllReadyH.nil
          exact AllReadyH.nil
        refine AllReadyH.cons rfl (fun K hK => ?_) ?_
        · go_simp
          replace HR := Aside0.mk (HR.out.alloc (.cells #[.int .i64 N] 3))
          replace HX := Aside0.mk (HX.out.alloc (.cells #[.int .i64 N] 3))
          replace HO := Aside0.mk (HO.out.alloc (.cells #[.int .i64 N] 3))
          replace HI := Aside0.mk (HI.out.alloc (.cells #[.int .i64 N] 3))
          replace HB := Aside0.mk (below_alloc HB.out (.cells #[.int .i64 N] 3))
          have hnews := World.news_of_block (heap_alloc_new w1 (.cells #[.int .i64 N] 3))
          have HN := Aside0.mk hnews
          clear hnews cX0 cX1 cX2 fX
          obtain ⟨cX0, cX1, cX2, fX⟩ := HX.out.c3
          refine hK.out _ _ (by trivial) (fun hHeld => ?_)
          clear hK K
          try simp only [Act.put, List.setIfInBounds_toArray, List.set_cons_zero, List.set_cons_succ]
          refine wpAnyH_ready (fuel := 3) (rs := [1]) (by kernel_rfl) (by simp) ?_
          refine AllReadyH.cons rfl (fun K hK => ?_) ?_
          · obtain ⟨cX0, cX1, cX2, fX⟩ := HX.out.c3
            go_simp
            clear cX0 cX1 cX2 fX
            refine hK.out _ _ (by trivial) (fun hHeld => ?_)
            clear hK K
            try simp only [Act.put, List.setIfInBounds_toArray, List.set_cons_zero, List.set_cons_succ]
            refine wpAnyH_ready (fuel := 2) (rs := [5]) (by kernel_rfl) (by simp) ?_
            refine AllReadyH.cons rfl (fun K hK => ?_) ?_
            · refine step_append_lies _ (by rfl) _ _ 30 (by rfl) w.heap.size 3 i0 (.int .i64 0) 1 8 Try.underlying30 hi hz0 hz1 hz2 rfl (by decide) v k (nums .i64 ws) (by rfl) HO.out ⟨w1.heap.size, 0, none⟩ 1 1 [.int .i64 N] (by rfl) rfl HN.out (by simp [Value.oneCell']) (by decide) (by unfold maxLen; omega) (by omega) HB.out.size (w1.heap.size + 1) (by simp) ?_
              intro g' cap w2 hown hgrow hat hlt2
              replace HR : Aside0 (Blk w2 (w.heap.size) 48 #[.slice none 0 0, .int .i64 0, .int .i64 0]) := ⟨Blk.grown HR.out hgrow (own_ne HO.out HR.out (by decide))⟩
              replace HX : Aside0 (Blk w2 (w.heap.size + 1 + 1) 48 #[v, .int .i64 0, .int .i64 0]) := ⟨Blk.grown HX.out hgrow hxo⟩
              replace HI : Aside0 (IsS115 w w2 (w.heap.size + 1) s a' b') := ⟨HI.out.grown hgrow (own_ne HO.out HI.out.1 (by decide))⟩
              replace HB : Aside0 (Below w.heap.size w w2) := ⟨below_grown HB.out hgrow (fun q hq => own_base HO.out q hq)⟩
              have HO2 : Aside0 (w2.ownsRow w.heap.size 3 1 (.slice (some ⟨g', 0, none⟩) (k + 1) cap) (k + 1) (nums .i64 (ws ++ [N]))) := ⟨by have h := hown; simpa [nums] using h⟩
              clear HO HN hown hgrow hat hlt2 hxo cX0 cX1 cX2 fX
              obtain ⟨cX0, cX1, cX2, fX⟩ := HX.out.c3
              refine hK.out _ _ (by trivial) (fun hHeld => ?_)
              clear hK K
              try simp only [Act.put, List.setIfInBounds_toArray]
              refine Rg.tk (fuel := 1) 6 ?_
              refine wpAnyH_ready (fuel := 0) (rs := [7]) (by kernel_rfl) (by simp) ?_
              refine AllReadyH.cons rfl (fun K hK => ?_) ?_
              · go_simp
                refine hK.out _ _ (by trivial) (fun hHeld => ?_)
                clear hK K
                try simp only [Act.put]
                refine wpAnyH_done (by kernel_rfl) ?_ _
                refine NoPanic.normal ?_
                go_wp2_with fail
                go_roundw
                case rel => exact ⟨k + 1, ws ++ [N], a', b', .slice (some ⟨g', 0, none⟩) (k + 1) cap, by go_num, by omega, HW2, HA2, ⟨iss⟩, ⟨blk⟩, ⟨Blk.set' HX (by rfl)⟩, ⟨own_setCell (p := ⟨w.heap.size + 1 + 1, 0, none⟩) HO2.out (own_ne HO2.out HX.out (by decide)) _⟩, ⟨bel⟩⟩
                case measure => simp [intOf]; omega
              exact AllReadyH.nil
            exact AllReadyH.nil
          exact AllReadyH.nil
        exact AllReadyH.nil
      exact AllReadyH.nil
    · obtain rfl : k = n := by omega
      have hWS : ws = WS ∧ a = aW ∧ b = bW := by have h := HW.out.symm.trans HW0.out; simpa using h
      obtain ⟨rfl, rfl, rfl⟩ := hWS
      have HA' := Aside0.mk HA.out
      clear HW0 HW HA HA0 hn
      have HOx := own_ne HO.out HX.out (by decide)
      rcases HCC.out with ⟨h8, rfl, hE, rfl, rfl, rfl, rfl⟩ | ⟨h8, hS, rfl, hE, rfl, rfl, rfl, rfl⟩ | ⟨h8, hS, rfl, hE, rfl, rfl, rfl, rfl⟩ | ⟨h8, hS, rfl, hE, rfl, rfl, rfl, rfl⟩
      · have h8' : decide ((k : Int) ≤ 8) = false := decide_eq_false (by omega)
        clear h8
        go_wp2_with fail
        have hgo : v.ownBlock ≠ some (w.heap.size + 1) := fun e => own_ne HO.out HI.out.1 (by decide) e.symm
        refine (CS.out (w.heap.size + 1) w _ iss bel).mono ?_
        rintro e w2 ⟨rfl, hi', hb, hk'⟩
        replace HR : Aside0 (Blk w2 (w.heap.size) 48 #[.slice none 0 0, .int .i64 0, .int .i64 0]) := ⟨Blk.kept blk hk' far⟩
        replace HX : Aside0 (Blk w2 (w.heap.size + 1 + 1) 48 #[v, .int .i64 0, .int .i64 0]) := ⟨Blk.kept blk hk' far⟩
        replace HO : Aside0 (w2.ownsRow w.heap.size 3 1 v k (nums .i64 ws)) := ⟨KeepBut.own hk' HO.out hgo (by cases v.ownBlock <;> simp)⟩
        replace HI := Aside0.mk hi'
        replace HB := Aside0.mk hb
        clear hi' hb hk' hgo
        go_wp2_with fail
        have hgo : v.ownBlock ≠ some (w.heap.size + 1) := fun e => own_ne HO.out HI.out.1 (by decide) e.symm
        refine (CD.out (w.heap.size + 1) w _ iss bel).mono ?_
        rintro e w3 ⟨rfl, hi', hb, hk'⟩
        replace HR : Aside0 (Blk w3 (w.heap.size) 48 #[.slice none 0 0, .int .i64 0, .int .i64 0]) := ⟨Blk.kept blk hk' far⟩
        replace HX : Aside0 (Blk w3 (w.heap.size + 1 + 1) 48 #[v, .int .i64 0, .int .i64 0]) := ⟨Blk.kept blk hk' far⟩
        replace HO : Aside0 (w3.ownsRow w.heap.size 3 1 v k (nums .i64 ws)) := ⟨KeepBut.own hk' HO.out hgo (by cases v.ownBlock <;> simp)⟩
        replace HI := Aside0.mk hi'
        replace HB := Aside0.mk hb
        clear hi' hb hk' hgo
        obtain ⟨cX0, cX1, cX2, fX⟩ := HX.out.c3
        have HOy := own_ne HO.out HX.out (by decide)
        go_wp2_with fail
        clear cX0 cX1 cX2 fX
        replace HX : Aside0 (Blk ((w3.setCell ⟨w.heap.size + 1 + 1, 1, none⟩ (.int .i64 S)).setCell ⟨w.heap.size + 1 + 1, 2, none⟩ (.int .i64 D)) (w.heap.size + 1 + 1) 48 #[v, .int .i64 S, .int .i64 D]) := ⟨(HX.out.set_ 1 (.int .i64 S)).set_ 2 (.int .i64 D)⟩
        replace HR : Aside0 (Blk ((w3.setCell ⟨w.heap.size + 1 + 1, 1, none⟩ (.int .i64 S)).setCell ⟨w.heap.size + 1 + 1, 2, none⟩ (.int .i64 D)) (w.heap.size) 48 #[.slice none 0 0, .int .i64 0, .int .i64 0]) := ⟨blk⟩
        replace HI : Aside0 (IsS115 w ((w3.setCell ⟨w.heap.size + 1 + 1, 1, none⟩ (.int .i64 S)).setCell ⟨w.heap.size + 1 + 1, 2, none⟩ (.int .i64 D)) (w.heap.size + 1) s a2 b2) := ⟨iss⟩
        replace HB : Aside0 (Below w.heap.size w ((w3.setCell ⟨w.heap.size + 1 + 1, 1, none⟩ (.int .i64 S)).setCell ⟨w.heap.size + 1 + 1, 2, none⟩ (.int .i64 D))) := ⟨bel⟩
        replace HO : Aside0 (World.ownsRow ((w3.setCell ⟨w.heap.size + 1 + 1, 1, none⟩ (.int .i64 S)).setCell ⟨w.heap.size + 1 + 1, 2, none⟩ (.int .i64 D)) w.heap.size 3 1 v k (nums .i64 ws)) := ⟨own_setCell (p := ⟨w.heap.size + 1 + 1, 2, none⟩) (own_setCell (p := ⟨w.heap.size + 1 + 1, 1, none⟩) HO.out HOy _) HOy _⟩
        have hgo : v.ownBlock ≠ some (w.heap.size + 1) := fun e => own_ne HO.out HI.out.1 (by decide) e.symm
        refine (CF.out (w.heap.size + 1) w _ iss bel).mono ?_
        rintro e w4 ⟨rfl, hi', hb, hk'⟩
        replace HR : Aside0 (Blk w4 (w.heap.size) 48 #[.slice none 0 0, .int .i64 0, .int .i64 0]) := ⟨Blk.kept blk hk' far⟩
        replace HX : Aside0 (Blk w4 (w.heap.size + 1 + 1) 48 #[v, .int .i64 S, .int .i64 D]) := ⟨Blk.kept blk hk' far⟩
        replace HO : Aside0 (w4.ownsRow w.heap.size 3 1 v k (nums .i64 ws)) := ⟨KeepBut.own hk' HO.out hgo (by cases v.ownBlock <;> simp)⟩
        replace HI := Aside0.mk hi'
        replace HB := Aside0.mk hb
        clear hi' hb hk' hgo
        obtain ⟨cX0, cX1, cX2, fX⟩ := HX.out.c3
        obtain ⟨cR0, cR1, cR2, fR⟩ := HR.out.c3
        have HOr := own_ne HO.out HR.out (by decide)
        go_wp2_with fail
        have hr3 := Try.results43
        exact bodyPost_ret (v := .tuple #[.agg #[.slice none 0 0, .int .i64 0, .int .i64 0], .int .i64 E]) (by simp [results, Try.results43, go_sem, *]) rfl ⟨.slice none 0 0, rfl, own_nil _ _ _ _, bel⟩
      · have h8' : decide ((k : Int) ≤ 8) = true := decide_eq_true (by omega)
        clear h8
        have CC1 := Aside0.mk (fun w => count_calls S w)
        rw [hS] at CC1
        clear hS
        go_wp2_with fail
        have hgo : v.ownBlock ≠ some (w.heap.size + 1) := fun e => own_ne HO.out HI.out.1 (by decide) e.symm
        refine (CS.out (w.heap.size + 1) w _ iss bel).mono ?_
        rintro e w2 ⟨rfl, hi', hb, hk'⟩
        replace HR : Aside0 (Blk w2 (w.heap.size) 48 #[.slice none 0 0, .int .i64 0, .int .i64 0]) := ⟨Blk.kept blk hk' far⟩
        replace HX : Aside0 (Blk w2 (w.heap.size + 1 + 1) 48 #[v, .int .i64 0, .int .i64 0]) := ⟨Blk.kept blk hk' far⟩
        replace HO : Aside0 (w2.ownsRow w.heap.size 3 1 v k (nums .i64 ws)) := ⟨KeepBut.own hk' HO.out hgo (by cases v.ownBlock <;> simp)⟩
        replace HI := Aside0.mk hi'
        replace HB := Aside0.mk hb
        clear hi' hb hk' hgo
        go_wp2_with fail
        have hgo : v.ownBlock ≠ some (w.heap.size + 1) := fun e => own_ne HO.out HI.out.1 (by decide) e.symm
        refine (CD.out (w.heap.size + 1) w _ iss bel).mono ?_
        rintro e w3 ⟨rfl, hi', hb, hk'⟩
        replace HR : Aside0 (Blk w3 (w.heap.size) 48 #[.slice none 0 0, .int .i64 0, .int .i64 0]) := ⟨Blk.kept blk hk' far⟩
        replace HX : Aside0 (Blk w3 (w.heap.size + 1 + 1) 48 #[v, .int .i64 0, .int .i64 0]) := ⟨Blk.kept blk hk' far⟩
        replace HO : Aside0 (w3.ownsRow w.heap.size 3 1 v k (nums .i64 ws)) := ⟨KeepBut.own hk' HO.out hgo (by cases v.ownBlock <;> simp)⟩
        replace HI := Aside0.mk hi'
        replace HB := Aside0.mk hb
        clear hi' hb hk' hgo
        obtain ⟨cX0, cX1, cX2, fX⟩ := HX.out.c3
        have HOy := own_ne HO.out HX.out (by decide)
        go_wp2_with fail
        clear cX0 cX1 cX2 fX
        replace HX : Aside0 (Blk ((w3.setCell ⟨w.heap.size + 1 + 1, 1, none⟩ (.int .i64 S)).setCell ⟨w.heap.size + 1 + 1, 2, none⟩ (.int .i64 D)) (w.heap.size + 1 + 1) 48 #[v, .int .i64 S, .int .i64 D]) := ⟨(HX.out.set_ 1 (.int .i64 S)).set_ 2 (.int .i64 D)⟩
        replace HR : Aside0 (Blk ((w3.setCell ⟨w.heap.size + 1 + 1, 1, none⟩ (.int .i64 S)).setCell ⟨w.heap.size + 1 + 1, 2, none⟩ (.int .i64 D)) (w.heap.size) 48 #[.slice none 0 0, .int .i64 0, .int .i64 0]) := ⟨blk⟩
        replace HI : Aside0 (IsS115 w ((w3.setCell ⟨w.heap.size + 1 + 1, 1, none⟩ (.int .i64 S)).setCell ⟨w.heap.size + 1 + 1, 2, none⟩ (.int .i64 D)) (w.heap.size + 1) s a2 b2) := ⟨iss⟩
        replace HB : Aside0 (Below w.heap.size w ((w3.setCell ⟨w.heap.size + 1 + 1, 1, none⟩ (.int .i64 S)).setCell ⟨w.heap.size + 1 + 1, 2, none⟩ (.int .i64 D))) := ⟨bel⟩
        replace HO : Aside0 (World.ownsRow ((w3.setCell ⟨w.heap.size + 1 + 1, 1, none⟩ (.int .i64 S)).setCell ⟨w.heap.size + 1 + 1, 2, none⟩ (.int .i64 D)) w.heap.size 3 1 v k (nums .i64 ws)) := ⟨own_setCell (p := ⟨w.heap.size + 1 + 1, 2, none⟩) (own_setCell (p := ⟨w.heap.size + 1 + 1, 1, none⟩) HO.out HOy _) HOy _⟩
        refine (CC1.out _).mono ?_
        rintro e w4 ⟨rfl, hk'⟩
        replace HR : Aside0 (Blk w4 (w.heap.size) 48 #[.slice none 0 0, .int .i64 0, .int .i64 0]) := ⟨Blk.step blk hk'⟩
        replace HX : Aside0 (Blk w4 (w.heap.size + 1 + 1) 48 #[v, .int .i64 S, .int .i64 D]) := ⟨Blk.step blk hk'⟩
        replace HO : Aside0 (w4.ownsRow w.heap.size 3 1 v k (nums .i64 ws)) := ⟨pw_own_below HO.out hk'⟩
        replace HI := Aside0.mk (IsS115.below iss hk')
        replace HB := Aside0.mk (below_step bel hk')
        clear hk'
        obtain ⟨cX0, cX1, cX2, fX⟩ := HX.out.c3
        go_wp2_with fail
        clear cX0 cX1 cX2 fX
        have hgo : v.ownBlock ≠ some (w.heap.size + 1) := fun e => own_ne HO.out HI.out.1 (by decide) e.symm
        refine (CF.out (w.heap.size + 1) w _ iss bel).mono ?_
        rintro e w5 ⟨rfl, hi', hb, hk'⟩
        replace HR : Aside0 (Blk w5 (w.heap.size) 48 #[.slice none 0 0, .int .i64 0, .int .i64 0]) := ⟨Blk.kept blk hk' far⟩
        replace HX : Aside0 (Blk w5 (w.heap.size + 1 + 1) 48 #[v, .int .i64 S, .int .i64 D]) := ⟨Blk.kept blk hk' far⟩
        replace HO : Aside0 (w5.ownsRow w.heap.size 3 1 v k (nums .i64 ws)) := ⟨KeepBut.own hk' HO.out hgo (by cases v.ownBlock <;> simp)⟩
        replace HI := Aside0.mk hi'
        replace HB := Aside0.mk hb
        clear hi' hb hk' hgo
        obtain ⟨cX0, cX1, cX2, fX⟩ := HX.out.c3
        obtain ⟨cR0, cR1, cR2, fR⟩ := HR.out.c3
        have HOr := own_ne HO.out HR.out (by decide)
        go_wp2_with fail
        have hr3 := Try.results43
        exact bodyPost_ret (v := .tuple #[.agg #[.slice none 0 0, .int .i64 0, .int .i64 0], .int .i64 E]) (by simp [results, Try.results43, go_sem, *]) rfl ⟨.slice none 0 0, rfl, own_nil _ _ _ _, bel⟩
      · have h8' : decide ((k : Int) ≤ 8) = true := decide_eq_true (by omega)
        clear h8
        have CC1 := Aside0.mk (fun w => count_calls S w)
        rw [hS] at CC1
        clear hS
        have CC2 := Aside0.mk (fun w => count_calls D w)
        go_wp2_with fail
        have hgo : v.ownBlock ≠ some (w.heap.size + 1) := fun e => own_ne HO.out HI.out.1 (by decide) e.symm
        refine (CS.out (w.heap.size + 1) w _ iss bel).mono ?_
        rintro e w2 ⟨rfl, hi', hb, hk'⟩
        replace HR : Aside0 (Blk w2 (w.heap.size) 48 #[.slice none 0 0, .int .i64 0, .int .i64 0]) := ⟨Blk.kept blk hk' far⟩
        replace HX : Aside0 (Blk w2 (w.heap.size + 1 + 1) 48 #[v, .int .i64 0, .int .i64 0]) := ⟨Blk.kept blk hk' far⟩
        replace HO : Aside0 (w2.ownsRow w.heap.size 3 1 v k (nums .i64 ws)) := ⟨KeepBut.own hk' HO.out hgo (by cases v.ownBlock <;> simp)⟩
        replace HI := Aside0.mk hi'
        replace HB := Aside0.mk hb
        clear hi' hb hk' hgo
        go_wp2_with fail
        have hgo : v.ownBlock ≠ some (w.heap.size + 1) := fun e => own_ne HO.out HI.out.1 (by decide) e.symm
        refine (CD.out (w.heap.size + 1) w _ iss bel).mono ?_
        rintro e w3 ⟨rfl, hi', hb, hk'⟩
        replace HR : Aside0 (Blk w3 (w.heap.size) 48 #[.slice none 0 0, .int .i64 0, .int .i64 0]) := ⟨Blk.kept blk hk' far⟩
        replace HX : Aside0 (Blk w3 (w.heap.size + 1 + 1) 48 #[v, .int .i64 0, .int .i64 0]) := ⟨Blk.kept blk hk' far⟩
        replace HO : Aside0 (w3.ownsRow w.heap.size 3 1 v k (nums .i64 ws)) := ⟨KeepBut.own hk' HO.out hgo (by cases v.ownBlock <;> simp)⟩
        replace HI := Aside0.mk hi'
        replace HB := Aside0.mk hb
        clear hi' hb hk' hgo
        obtain ⟨cX0, cX1, cX2, fX⟩ := HX.out.c3
        have HOy := own_ne HO.out HX.out (by decide)
        go_wp2_with fail
        clear cX0 cX1 cX2 fX
        replace HX : Aside0 (Blk ((w3.setCell ⟨w.heap.size + 1 + 1, 1, none⟩ (.int .i64 S)).setCell ⟨w.heap.size + 1 + 1, 2, none⟩ (.int .i64 D)) (w.heap.size + 1 + 1) 48 #[v, .int .i64 S, .int .i64 D]) := ⟨(HX.out.set_ 1 (.int .i64 S)).set_ 2 (.int .i64 D)⟩
        replace HR : Aside0 (Blk ((w3.setCell ⟨w.heap.size + 1 + 1, 1, none⟩ (.int .i64 S)).setCell ⟨w.heap.size + 1 + 1, 2, none⟩ (.int .i64 D)) (w.heap.size) 48 #[.slice none 0 0, .int .i64 0, .int .i64 0]) := ⟨blk⟩
        replace HI : Aside0 (IsS115 w ((w3.setCell ⟨w.heap.size + 1 + 1, 1, none⟩ (.int .i64 S)).setCell ⟨w.heap.size + 1 + 1, 2, none⟩ (.int .i64 D)) (w.heap.size + 1) s a2 b2) := ⟨iss⟩
        replace HB : Aside0 (Below w.heap.size w ((w3.setCell ⟨w.heap.size + 1 + 1, 1, none⟩ (.int .i64 S)).setCell ⟨w.heap.size + 1 + 1, 2, none⟩ (.int .i64 D))) := ⟨bel⟩
        replace HO : Aside0 (World.ownsRow ((w3.setCell ⟨w.heap.size + 1 + 1, 1, none⟩ (.int .i64 S)).setCell ⟨w.heap.size + 1 + 1, 2, none⟩ (.int .i64 D)) w.heap.size 3 1 v k (nums .i64 ws)) := ⟨own_setCell (p := ⟨w.heap.size + 1 + 1, 2, none⟩) (own_setCell (p := ⟨w.heap.size + 1 + 1, 1, none⟩) HO.out HOy _) HOy _⟩
        refine (CC1.out _).mono ?_
        rintro e w4 ⟨rfl, hk'⟩
        replace HR : Aside0 (Blk w4 (w.heap.size) 48 #[.slice none 0 0, .int .i64 0, .int .i64 0]) := ⟨Blk.step blk hk'⟩
        replace HX : Aside0 (Blk w4 (w.heap.size + 1 + 1) 48 #[v, .int .i64 S, .int .i64 D]) := ⟨Blk.step blk hk'⟩
        replace HO : Aside0 (w4.ownsRow w.heap.size 3 1 v k (nums .i64 ws)) := ⟨pw_own_below HO.out hk'⟩
        replace HI := Aside0.mk (IsS115.below iss hk')
        replace HB := Aside0.mk (below_step bel hk')
        clear hk'
        obtain ⟨cX0, cX1, cX2, fX⟩ := HX.out.c3
        go_wp2_with fail
        clear cX0 cX1 cX2 fX
        refine (CC2.out _).mono ?_
        rintro e w5 ⟨rfl, hk'⟩
        replace HR : Aside0 (Blk w5 (w.heap.size) 48 #[.slice none 0 0, .int .i64 0, .int .i64 0]) := ⟨Blk.step blk hk'⟩
        replace HX : Aside0 (Blk w5 (w.heap.size + 1 + 1) 48 #[v, .int .i64 S, .int .i64 D]) := ⟨Blk.step blk hk'⟩
        replace HO : Aside0 (w5.ownsRow w.heap.size 3 1 v k (nums .i64 ws)) := ⟨pw_own_below HO.out hk'⟩
        replace HI := Aside0.mk (IsS115.below iss hk')
        replace HB := Aside0.mk (below_step bel hk')
        clear hk'
        obtain ⟨cX0, cX1, cX2, fX⟩ := HX.out.c3
        go_wp2_with fail
        clear cX0 cX1 cX2 fX
        have hgo : v.ownBlock ≠ some (w.heap.size + 1) := fun e => own_ne HO.out HI.out.1 (by decide) e.symm
        refine (CF.out (w.heap.size + 1) w _ iss bel).mono ?_
        rintro e w6 ⟨rfl, hi', hb, hk'⟩
        replace HR : Aside0 (Blk w6 (w.heap.size) 48 #[.slice none 0 0, .int .i64 0, .int .i64 0]) := ⟨Blk.kept blk hk' far⟩
        replace HX : Aside0 (Blk w6 (w.heap.size + 1 + 1) 48 #[v, .int .i64 S, .int .i64 D]) := ⟨Blk.kept blk hk' far⟩
        replace HO : Aside0 (w6.ownsRow w.heap.size 3 1 v k (nums .i64 ws)) := ⟨KeepBut.own hk' HO.out hgo (by cases v.ownBlock <;> simp)⟩
        replace HI := Aside0.mk hi'
        replace HB := Aside0.mk hb
        clear hi' hb hk' hgo
        obtain ⟨cX0, cX1, cX2, fX⟩ := HX.out.c3
        obtain ⟨cR0, cR1, cR2, fR⟩ := HR.out.c3
        have HOr := own_ne HO.out HR.out (by decide)
        go_wp2_with fail
        have hr3 := Try.results43
        exact bodyPost_ret (v := .tuple #[.agg #[.slice none 0 0, .int .i64 0, .int .i64 0], .int .i64 E]) (by simp [results, Try.results43, go_sem, *]) rfl ⟨.slice none 0 0, rfl, own_nil _ _ _ _, bel⟩
      · have h8' : decide ((k : Int) ≤ 8) = true := decide_eq_true (by omega)
        clear h8
        have CC1 := Aside0.mk (fun w => count_calls S w)
        rw [hS] at CC1
        clear hS
        have CC2 := Aside0.mk (fun w => count_calls D w)
        obtain ⟨hE1, hE2⟩ := hE
        obtain ⟨As, cs, rfl⟩ := own_slice HO.out
        go_wp2_with fail
        have hgo : (Value.slice As k cs).ownBlock ≠ some (w.heap.size + 1) := fun e => own_ne HO.out HI.out.1 (by decide) e.symm
        refine (CS.out (w.heap.size + 1) w _ iss bel).mono ?_
        rintro e w2 ⟨rfl, hi', hb, hk'⟩
        replace HR : Aside0 (Blk w2 (w.heap.size) 48 #[.slice none 0 0, .int .i64 0, .int .i64 0]) := ⟨Blk.kept blk hk' far⟩
        replace HX : Aside0 (Blk w2 (w.heap.size + 1 + 1) 48 #[.slice As k cs, .int .i64 0, .int .i64 0]) := ⟨Blk.kept blk hk' far⟩
        replace HO : Aside0 (w2.ownsRow w.heap.size 3 1 (.slice As k cs) k (nums .i64 ws)) := ⟨KeepBut.own hk' HO.out hgo (by cases (Value.slice As k cs).ownBlock <;> simp)⟩
        replace HI := Aside0.mk hi'
        replace HB := Aside0.mk hb
        clear hi' hb hk' hgo
        go_wp2_with fail
        have hgo : (Value.slice As k cs).ownBlock ≠ some (w.heap.size + 1) := fun e => own_ne HO.out HI.out.1 (by decide) e.symm
        refine (CD.out (w.heap.size + 1) w _ iss bel).mono ?_
        rintro e w3 ⟨rfl, hi', hb, hk'⟩
        replace HR : Aside0 (Blk w3 (w.heap.size) 48 #[.slice none 0 0, .int .i64 0, .int .i64 0]) := ⟨Blk.kept blk hk' far⟩
        replace HX : Aside0 (Blk w3 (w.heap.size + 1 + 1) 48 #[.slice As k cs, .int .i64 0, .int .i64 0]) := ⟨Blk.kept blk hk' far⟩
        replace HO : Aside0 (w3.ownsRow w.heap.size 3 1 (.slice As k cs) k (nums .i64 ws)) := ⟨KeepBut.own hk' HO.out hgo (by cases (Value.slice As k cs).ownBlock <;> simp)⟩
        replace HI := Aside0.mk hi'
        replace HB := Aside0.mk hb
        clear hi' hb hk' hgo
        obtain ⟨cX0, cX1, cX2, fX⟩ := HX.out.c3
        have HOy := own_ne HO.out HX.out (by decide)
        go_wp2_with fail
        clear cX0 cX1 cX2 fX
        replace HX : Aside0 (Blk ((w3.setCell ⟨w.heap.size + 1 + 1, 1, none⟩ (.int .i64 S)).setCell ⟨w.heap.size + 1 + 1, 2, none⟩ (.int .i64 D)) (w.heap.size + 1 + 1) 48 #[.slice As k cs, .int .i64 S, .int .i64 D]) := ⟨(HX.out.set_ 1 (.int .i64 S)).set_ 2 (.int .i64 D)⟩
        replace HR : Aside0 (Blk ((w3.setCell ⟨w.heap.size + 1 + 1, 1, none⟩ (.int .i64 S)).setCell ⟨w.heap.size + 1 + 1, 2, none⟩ (.int .i64 D)) (w.heap.size) 48 #[.slice none 0 0, .int .i64 0, .int .i64 0]) := ⟨blk⟩
        replace HI : Aside0 (IsS115 w ((w3.setCell ⟨w.heap.size + 1 + 1, 1, none⟩ (.int .i64 S)).setCell ⟨w.heap.size + 1 + 1, 2, none⟩ (.int .i64 D)) (w.heap.size + 1) s a2 b2) := ⟨iss⟩
        replace HB : Aside0 (Below w.heap.size w ((w3.setCell ⟨w.heap.size + 1 + 1, 1, none⟩ (.int .i64 S)).setCell ⟨w.heap.size + 1 + 1, 2, none⟩ (.int .i64 D))) := ⟨bel⟩
        replace HO : Aside0 (World.ownsRow ((w3.setCell ⟨w.heap.size + 1 + 1, 1, none⟩ (.int .i64 S)).setCell ⟨w.heap.size + 1 + 1, 2, none⟩ (.int .i64 D)) w.heap.size 3 1 (.slice As k cs) k (nums .i64 ws)) := ⟨own_setCell (p := ⟨w.heap.size + 1 + 1, 2, none⟩) (own_setCell (p := ⟨w.heap.size + 1 + 1, 1, none⟩) HO.out HOy _) HOy _⟩
        refine (CC1.out _).mono ?_
        rintro e w4 ⟨rfl, hk'⟩
        replace HR : Aside0 (Blk w4 (w.heap.size) 48 #[.slice none 0 0, .int .i64 0, .int .i64 0]) := ⟨Blk.step blk hk'⟩
        replace HX : Aside0 (Blk w4 (w.heap.size + 1 + 1) 48 #[.slice As k cs, .int .i64 S, .int .i64 D]) := ⟨Blk.step blk hk'⟩
        replace HO : Aside0 (w4.ownsRow w.heap.size 3 1 (.slice As k cs) k (nums .i64 ws)) := ⟨pw_own_below HO.out hk'⟩
        replace HI := Aside0.mk (IsS115.below iss hk')
        replace HB := Aside0.mk (below_step bel hk')
        clear hk'
        obtain ⟨cX0, cX1, cX2, fX⟩ := HX.out.c3
        go_wp2_with fail
        clear cX0 cX1 cX2 fX
        refine (CC2.out _).mono ?_
        rintro e w5 ⟨rfl, hk'⟩
        replace HR : Aside0 (Blk w5 (w.heap.size) 48 #[.slice none 0 0, .int .i64 0, .int .i64 0]) := ⟨Blk.step blk hk'⟩
        replace HX : Aside0 (Blk w5 (w.heap.size + 1 + 1) 48 #[.slice As k cs, .int .i64 S, .int .i64 D]) := ⟨Blk.step blk hk'⟩
        replace HO : Aside0 (w5.ownsRow w.heap.size 3 1 (.slice As k cs) k (nums .i64 ws)) := ⟨pw_own_below HO.out hk'⟩
        replace HI := Aside0.mk (IsS115.below iss hk')
        replace HB := Aside0.mk (below_step bel hk')
        clear hk'
        obtain ⟨cX0, cX1, cX2, fX⟩ := HX.out.c3
        go_wp2_with fail
        clear cX0 cX1 cX2 fX
        have hgo : (Value.slice As k cs).ownBlock ≠ some (w.heap.size + 1) := fun e => own_ne HO.out HI.out.1 (by decide) e.symm
        refine (CF.out (w.heap.size + 1) w _ iss bel).mono ?_
        rintro e w6 ⟨rfl, hi', hb, hk'⟩
        replace HR : Aside0 (Blk w6 (w.heap.size) 48 #[.slice none 0 0, .int .i64 0, .int .i64 0]) := ⟨Blk.kept blk hk' far⟩
        replace HX : Aside0 (Blk w6 (w.heap.size + 1 + 1) 48 #[.slice As k cs, .int .i64 S, .int .i64 D]) := ⟨Blk.kept blk hk' far⟩
        replace HO : Aside0 (w6.ownsRow w.heap.size 3 1 (.slice As k cs) k (nums .i64 ws)) := ⟨KeepBut.own hk' HO.out hgo (by cases (Value.slice As k cs).ownBlock <;> simp)⟩
        replace HI := Aside0.mk hi'
        replace HB := Aside0.mk hb
        clear hi' hb hk' hgo
        obtain ⟨cX0, cX1, cX2, fX⟩ := HX.out.c3
        obtain ⟨cR0, cR1, cR2, fR⟩ := HR.out.c3
        have HOr := own_ne HO.out HR.out (by decide)
        go_wp2_with fail
        have hr3 := Try.results43
        refine bodyPost_ret (v := .tuple #[.agg #[.slice As k cs, .int .i64 S, .int .i64 D], .int .i64 0]) (by simp [results, Try.results43, go_sem, *]) rfl ⟨.slice As k cs, rfl, ?_, bel⟩
        have hl : ws.length = k := by have h := HO.out.1; simpa [nums] using h
        rw [hl]
        exact own_setCell (p := ⟨w.heap.size, 2, none⟩) (own_setCell (p := ⟨w.heap.size, 1, none⟩) (own_setCell (p := ⟨w.heap.size, 0, none⟩) HO.out HOr _) HOr _) HOr _

end Go.Proofs.Ytlbjcdfognofgaa.RecM
