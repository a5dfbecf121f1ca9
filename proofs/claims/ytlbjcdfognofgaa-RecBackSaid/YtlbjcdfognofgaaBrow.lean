/- A row of bytes that the call itself makes out of a text ('[]byte(s)'), and texts appended to it: laws for the walk, over any program. -/
import Derived.Test.YtlbjcdfognofgaaBe
import Derived.Lib.AppendStr
import Derived.Lib.ConvBytes
import Derived.Deep.AppendSrc
namespace Go.Proofs.Ytlbjcdfognofgaa.Brow
open Go.RowKit Go.Proofs.YtlbjcdfognofgaaW.PrintWords Go.Proofs.YtlbjcdfognofgaaW.PrintLast Go.Proofs.YtlbjcdfognofgaaW.PrintMore Go.Proofs.Ytlbjcdfognofgaa.Be

/-- The slice owns the bytes xs: they stand at the head of a block from base on, of which no cell up to the capacity is frozen. -/
def Row (w : World) (base : Nat) (e : TypeId) (v : Value) (xs : List Int) : Prop :=
  ∃ (g cap : Nat) (cur : Array Value) (fr : Nat × Nat), v = .slice (some ⟨g, 0, none⟩) xs.length cap ∧ base ≤ g ∧ w.heap[g]? = some (.cells cur e fr) ∧ (cap ≤ fr.1 ∨ fr.2 = 0) ∧
    xs.length ≤ cap ∧ cap ≤ maxLen ∧ cur.size = cap ∧ cur.toList.take xs.length = nums .u8 xs

theorem Row.slice {w : World} {base : Nat} {e : TypeId} {v : Value} {xs : List Int} (h : Row w base e v xs) : ∃ g cap, v = .slice (some ⟨g, 0, none⟩) xs.length cap ∧ base ≤ g := by
  obtain ⟨g, cap, _, _, rfl, hb, _⟩ := h
  exact ⟨g, cap, rfl, hb⟩

theorem Row.cell {w : World} {base g n cap : Nat} {e : TypeId} {xs : List Int} (h : Row w base e (.slice (some ⟨g, 0, none⟩) n cap) xs) (j : Nat) (hj : j < xs.length) : w.cell? ⟨g, j, none⟩ = some (.int .u8 (xs.getD j 0)) := by
  obtain ⟨g', cap', cur, fr, hv, hb, hh, hf, hl, hm, hz, ht⟩ := h
  simp only [Value.slice.injEq, Option.some.injEq, Addr.mk.injEq, and_true] at hv
  obtain ⟨rfl, _, rfl⟩ := hv
  have e1 : (cur.toList.take xs.length)[j]? = some (.int .u8 (xs.getD j 0)) := by
    rw [ht, nums, List.getElem?_map, List.getElem?_eq_getElem hj, List.getD_eq_getElem?_getD, List.getElem?_eq_getElem hj]; rfl
  rw [List.getElem?_take, if_pos hj] at e1
  simpa [World.cell?, hh] using e1

theorem Row.below {w w1 : World} {base : Nat} {e : TypeId} {v : Value} {xs : List Int} (h : Row w base e v xs) (hb : Below w.heap.size w w1) : Row w1 base e v xs := by
  obtain ⟨g, cap, cur, fr, hv, hg, hh, r⟩ := h
  have : g < w.heap.size := (Array.getElem?_eq_some_iff.1 hh).1
  exact ⟨g, cap, cur, fr, hv, hg, (hb.block g this).trans hh, r⟩

theorem Row.lower {w : World} {base base' : Nat} {e : TypeId} {v : Value} {xs : List Int} (h : Row w base e v xs) (hb : base' ≤ base) : Row w base' e v xs := by
  obtain ⟨g, cap, cur, fr, hv, hg, r⟩ := h
  exact ⟨g, cap, cur, fr, hv, by omega, r⟩

theorem cur_of (w : World) (e : TypeId) (s : ByteArray) : (Lib.bytesCells w e s).toList.take (bn s).length = nums .u8 (bn s) ∧ (Lib.bytesCells w e s).size = grownCap w s.size 0 e := by
  have hge := grownCap_ge w s.size 0 e
  constructor
  · rw [bn_length]
    simp only [Lib.bytesCells, Array.toList_append, Array.toList_map]
    rw [List.take_left' (by rw [List.length_map]; rfl), nums, bn, List.map_map]
    rfl
  · simp only [Lib.bytesCells, Array.size_append, Array.size_map, Array.size_replicate]
    have : s.data.size = s.size := rfl
    omega

/-- '[]byte(s)'. -/
theorem made {P : Program} (src dst e : TypeId) {u : TypeDesc} (hs : P.underlying src = some u) (hd : P.underlying dst = some (.slice e)) (he : P.underlying e = some (.int .u8)) (s : ByteArray) (w : World) (hl : s.size ≤ maxLen) :
    ∃ v w1, (convert src dst (.string s)).run P w = .ok v w1 ∧ Row w1 w.heap.size e v (bn s) ∧ Below w.heap.size w w1 := by
  refine ⟨_, _, Lib.run_convert_string_bytes w src dst e s hs hd he, ?_, bytes_below (Below.refl _ _) (Nat.le_refl _) e s⟩
  obtain ⟨h1, h2⟩ := cur_of w e s
  refine ⟨w.heap.size, grownCap w s.size 0 e, _, _, by rw [bn_length], Nat.le_refl _, Lib.bytesWorld_at_new w e s, .inl (by rw [h2]; exact Nat.le_refl _), by rw [bn_length]; exact grownCap_ge w s.size 0 e, grownCap_le_maxLen w s.size 0 e hl, h2, h1⟩

/-- 'string(b)'. -/
theorem told {P : Program} {src e dst : TypeId} (hs : P.underlying src = some (.slice e)) (he : P.underlying e = some (.int .u8)) (hd : P.underlying dst = some .string) {w : World} {base : Nat} {v : Value} {xs : List Int} (h : Row w base e v xs) :
    (convert src dst v).run P w = .ok (.string (strOfNums xs)) w := by
  obtain ⟨g, cap, rfl, _⟩ := h.slice
  exact run_convert_bytes_arg w src e hs he g 0 xs.length cap xs rfl (fun i hi => by rw [Nat.zero_add]; exact h.cell i hi) dst hd

/-- Cells laid over a block's own, one behind the other. -/
def over (cur : Array Value) (o : Nat) : List Value → Array Value
  | [] => cur
  | v :: r => over (cur.setIfInBounds o v) (o + 1) r

theorem over_size : ∀ (vs : List Value) (cur : Array Value) (o : Nat), (over cur o vs).size = cur.size
  | [], _, _ => rfl
  | v :: r, cur, o => by rw [over, over_size r, Array.size_setIfInBounds]

theorem over_take : ∀ (vs : List Value) (cur : Array Value) (o : Nat), o + vs.length ≤ cur.size → (over cur o vs).toList.take (o + vs.length) = cur.toList.take o ++ vs
  | [], cur, o, _ => by simp [over]
  | v :: r, cur, o, h => by
    simp only [List.length_cons] at h
    have ho : o < cur.toList.length := by rw [Array.length_toList]; omega
    have ih := over_take r (cur.setIfInBounds o v) (o + 1) (by rw [Array.size_setIfInBounds]; omega)
    rw [over, List.length_cons, show o + (r.length + 1) = o + 1 + r.length by omega, ih, Array.toList_setIfInBounds, List.take_succ_eq_append_getElem (by rw [List.length_set]; exact ho), List.getElem_set_self, List.take_set_of_le (Nat.le_refl _)]
    simp

theorem heap_setCells (g : Nat) (e : TypeId) (fr : Nat × Nat) : ∀ (vs : List Value) (o : Nat) (w : World) (cur : Array Value), w.heap[g]? = some (.cells cur e fr) → (w.setCells g o vs).heap[g]? = some (.cells (over cur o vs) e fr)
  | [], _, _, _, h => h
  | v :: r, o, w, cur, h => by
    rw [World.setCells, over]
    refine heap_setCells g e fr r (o + 1) _ _ ?_
    simp only [World.setCell, Array.getElem?_modify, if_true, h, Option.map_some]
    rfl

theorem heap_setCells_ne (g : Nat) : ∀ (vs : List Value) (o : Nat) (w : World) (k : Nat), k ≠ g → (w.setCells g o vs).heap[k]? = w.heap[k]?
  | [], _, _, _, _ => rfl
  | v :: r, o, w, k, h => by
    rw [World.setCells, heap_setCells_ne g r (o + 1) _ k h]
    exact Below.heap_setCell w ⟨g, o, none⟩ v k h

theorem size_setCells (g : Nat) : ∀ (vs : List Value) (o : Nat) (w : World), (w.setCells g o vs).heap.size = w.heap.size ∧ (w.setCells g o vs).os = w.os ∧ (w.setCells g o vs).tape = w.tape ∧ (w.setCells g o vs).output = w.output
  | [], _, _ => ⟨rfl, rfl, rfl, rfl⟩
  | v :: r, o, w => by
    obtain ⟨h1, h2, h3, h4⟩ := size_setCells g r (o + 1) (w.setCell ⟨g, o, none⟩ v)
    rw [World.setCells]
    exact ⟨by rw [h1]; simp [World.setCell], h2, h3, h4⟩

theorem byteCells_bn (s : ByteArray) : byteCells s = nums .u8 (bn s) := by
  simp [byteCells, nums, bn, Function.comp_def]

section
variable {P : Program}

/-- The law: a text's bytes appended to a row that the call owns. -/
theorem run_append (w : World) (base : Nat) (t u ty e : TypeId) (i : TypeInfo) (ht : P.underlying t = some (.slice e)) (hu : P.underlying u = some .string) (hi : P.info? e = some i) (hz : i.zero = some (.int .u8 0))
    (hsize : i.size = 1) (hby : i.bytes = 1) (v : Value) (xs : List Int) (h : Row w base e v xs) (s : ByteArray) (hbytes : xs.length + s.size ≤ 140737488355328) (hbase : base ≤ w.heap.size) :
    ∃ v' w', (Builtin.append_ #[t, u] ty #[v, .string s]).run P w = .ok v' w' ∧ Row w' base e v' (xs ++ bn s) ∧ Below base w w' := by
  obtain ⟨g, cap, cur, fr, rfl, hg, hh, hf, hl, hm, hzc, htk⟩ := h
  have hS : Src P i.size u (.string s) s.size (byteCells s) w := by rw [hsize]; exact Src.ofString w hu s
  have hlen : (xs ++ bn s).length = xs.length + s.size := by rw [List.length_append, bn_length]
  by_cases hroom : xs.length + s.size ≤ cap
  · have hbl : (byteCells s).length = s.size := byteCells_length s
    have hcell : ∀ j, j < (byteCells s).length → (w.cell? ⟨g, 0 + xs.length * i.size + j, none⟩).isSome = true := by
      intro j hj
      rw [hbl] at hj
      simp only [World.cell?, hh, hsize]
      simp
      omega
    have hfz : ∀ j, j < (byteCells s).length → w.frozen? ⟨g, 0 + xs.length * i.size + j, none⟩ = false := by
      intro j hj
      rw [hbl] at hj
      simp only [World.frozen?, hh, hsize]
      simp
      omega
    have hr := run_append_room_src (P := P) w t u ty e i ht hi g 0 xs.length cap (.string s) s.size (byteCells s) hS hroom hcell hfz
    obtain ⟨q1, q2, q3, q4⟩ := size_setCells g (byteCells s) (0 + xs.length * i.size) w
    refine ⟨_, _, hr, ⟨g, cap, _, fr, by rw [hlen], hg, heap_setCells g e fr _ _ w cur hh, hf, by rw [hlen]; exact hroom, hm, by rw [over_size]; exact hzc, ?_⟩, ⟨q2, q3, q4, by rw [q1]; exact Nat.le_refl _, fun k hk => heap_setCells_ne g _ _ w k (by omega)⟩⟩
    have ho := over_take (byteCells s) cur (0 + xs.length * i.size) (by rw [hbl, hsize]; omega)
    rw [hbl, hsize, Nat.mul_one, Nat.zero_add] at ho
    rw [hsize, Nat.mul_one, Nat.zero_add, hlen, ho, htk, byteCells_bn, nums_append]
  · have hold : (Builtin.firstCells i.size xs.length (.slice (some ⟨g, 0, none⟩) xs.length cap)).run P w.drew = .ok (nums .u8 xs).toArray w.drew := by
      refine run_firstCells_some (P := P) w.drew i.size xs.length ⟨g, 0, none⟩ xs.length cap (nums .u8 xs) (by rw [nums_length, hsize, Nat.mul_one]) ?_
      intro j y hj
      rw [add_plain]
      have hjl : j < xs.length := by have := (List.getElem?_eq_some_iff.1 hj).1; rwa [nums_length] at this
      have hc := Row.cell (xs := xs) (w := w) (base := base) (e := e) (g := g) (n := xs.length) (cap := cap) ⟨g, cap, cur, fr, rfl, hg, hh, hf, hl, hm, hzc, htk⟩ j hjl
      have e2 : (nums .u8 xs)[j]? = some (.int .u8 (xs.getD j 0)) := by
        rw [nums, List.getElem?_map, List.getElem?_eq_getElem hjl, List.getD_eq_getElem?_getD, List.getElem?_eq_getElem hjl]; rfl
      rw [e2] at hj
      rw [← hj]
      exact hc
    have hr := run_append_grow_src (P := P) w t u ty e i (.int .u8 0) ht hi hz (some ⟨g, 0, none⟩) xs.length cap (nums .u8 xs) hold (.string s) s.size (byteCells s) hS (by omega) (by omega) (by rw [hby]; exact growslice_fits (by omega) (by omega))
    have hge := grownCap_ge w (xs.length + s.size) cap e
    have hcm : grownCap w (xs.length + s.size) cap e ≤ maxLen := grownCap_le_maxLen w (xs.length + s.size) cap e (by unfold maxLen; omega)
    refine ⟨_, _, hr, ⟨w.heap.size, _, _, (0, 0), by rw [hlen], hbase, heap_alloc_new w.drew _, .inr rfl, by rw [hlen]; exact hge, hcm, ?_, ?_⟩, ⟨rfl, rfl, rfl, by simp, fun k hk => heap_alloc_old w.drew _ (by show k < w.heap.size; omega)⟩⟩
    · have hz1 : (Value.int IntKind.u8 0).cells.size = 1 := rfl
      simp only [Array.size_append, List.size_toArray, size_zeroCells, hz1, List.length_append, nums_length, byteCells_length]
      omega
    · simp only [Array.toList_append]
      rw [hlen, List.take_left' (by rw [List.length_append, nums_length, byteCells_length]), byteCells_bn, nums_append]

/-- The operation, for the walk. -/
theorem wpList_append {ops : Array Oper} {rest : List Oper} {o : Oper} {a : Act} {Q : Exit → Act → World → Prop} {w0 w : World} (base : Nat) (hgd : o.guard = none) (sl x : Operand) (t u e : TypeId)
    (ho : o.op = .call { callee := .builtin .append, args := #[sl, x], argTypes := #[t, u] }) (ht : P.underlying t = some (.slice e)) (hu : P.underlying u = some .string)
    (hinfo : (P.info? e).map (fun i => (i.zero, i.size, i.bytes)) = some (some (.int .u8 0), 1, 1))
    (v : Value) (xs : List Int) (s : ByteArray) (hs : a.eval sl = v) (hx : a.eval x = .string s) (h : Row w base e v xs) (hB : Below base w0 w) (hbytes : xs.length + s.size ≤ 140737488355328) (hbase : base ≤ w.heap.size)
    (hn : ∀ v' w', Row w' base e v' (xs ++ bn s) → Below base w0 w' → wpList P ops Q rest (a.put o.dst v') w') : wpList P ops Q (o :: rest) a w := by
  obtain ⟨i0, hi, hzz⟩ := Option.map_eq_some_iff.1 hinfo
  simp only [Prod.mk.injEq] at hzz
  obtain ⟨hz0, hz1, hz2⟩ := hzz
  refine wpList_plain hgd fun K hK => ?_
  obtain ⟨v', w', hr, h2, h3⟩ := run_append (P := P) w base t u o.type e i0 ht hu hi hz0 hz1 hz2 v xs h s hbytes hbase
  unfold Oper.wp execOp
  simp only [ho, resolve, invoke, builtin, Sem.run_bind, Sem.run_pure, Result.andThen_ok, List.map_toArray, List.map_cons, List.map_nil, hs, hx, hr]
  exact hK _ _ (hn v' w' h2 (hB.trans h3))
end

end Go.Proofs.Ytlbjcdfognofgaa.Brow
