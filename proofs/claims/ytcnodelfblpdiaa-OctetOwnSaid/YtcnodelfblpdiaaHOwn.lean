/- Rows of bytes of the call's own behind a slice of slices: what octet's answers are, and that a byte turned over keeps them. Conditions: each theorem's own. -/
import Derived.Test.YtcnodelfblpdiaaHCat2
namespace Go.Proofs.Ytcnodelfblpdiaa.HOwn
open Go.RowKit Go.Proofs.YtcnodelfblpdiaaW.PrintWords Go.Proofs.YtcnodelfblpdiaaW.PrintLast Go.Proofs.YtcnodelfblpdiaaW.PrintMore Go.Proofs.Ytcnodelfblpdiaa.HExt
set_option linter.unusedVariables false
set_option linter.unusedSimpArgs false
/-- A slice of n bytes of the call's own (blocks from b0 on). -/
def Own1 (b0 : Nat) (w : World) (v : Value) (n : Nat) : Prop :=
  (v = .slice none 0 0 ∧ n = 0) ∨ ∃ (g cap : Nat) (cur : Array Value), v = .slice (some ⟨g, 0, none⟩) n cap ∧ b0 ≤ g ∧ w.heap[g]? = some (.cells cur 5 (0, 0)) ∧ n ≤ cap ∧ cap ≤ maxLen ∧ ∀ j, j < n → ∃ z, cur[j]? = some (.int .u8 z)
theorem Own1.of_R {b0 base : Nat} {w : World} {v : Value} {ok : Nat → Prop} {xs : List Int} (h : Kd.R (Kd.int .u8) 5 w base ok v xs) (hb : b0 ≤ base) : Own1 b0 w v xs.length := by
  have ho := Kd.own_of_R (enc := Value.int .u8) (h1 := fun _ => rfl) h
  obtain ⟨_, ⟨e, en⟩ | ⟨g, cap, cur, e, hg, hh, hn, hc, hs, ht⟩⟩ := ho
  · exact .inl ⟨e, en⟩
  · refine .inr ⟨g, cap, cur, e, Nat.le_trans hb hg, hh, hn, hc, fun j hj => ⟨xs.getD j 0, ?_⟩⟩
    have h2 := congrArg (fun l => l[j]?) ht
    simp only [Nat.mul_one, List.getElem?_take, if_pos hj] at h2
    rw [encs_get (d := 0) xs j hj] at h2
    simpa using h2
theorem Own1.below {b0 : Nat} {w w' : World} {v : Value} {n : Nat} (h : Own1 b0 w v n) (hb : Below w.heap.size w w') : Own1 b0 w' v n := by
  obtain e | ⟨g, cap, cur, e, hg, hh, hn, hc, hz⟩ := h
  · exact .inl e
  · exact .inr ⟨g, cap, cur, e, hg, (hb.block g (blk_lt hh)).trans hh, hn, hc, hz⟩
theorem Own1.grown {b0 g3 : Nat} {w w' : World} {v : Value} {n : Nat} {cs : Array Value} (h : Own1 b0 w v n) (h3 : w.heap[g3]? = some (.cells cs 29 (0, 0))) (hb : w.grownBy w' (some g3)) : Own1 b0 w' v n := by
  obtain e | ⟨g, cap, cur, e, hg, hh, hn, hc, hz⟩ := h
  · exact .inl e
  · refine .inr ⟨g, cap, cur, e, hg, blk_grown hh hb ?_, hn, hc, hz⟩
    intro e2
    injection e2 with e2
    exact blk_ne hh h3 (by decide) e2
theorem Own1.drew {b0 : Nat} {w : World} {v : Value} {n : Nat} (h : Own1 b0 w v n) : Own1 b0 w.drew v n := h
theorem Own1.set {b0 : Nat} {w : World} {v : Value} {n : Nat} (h : Own1 b0 w v n) (g' j : Nat) (z : Int) : Own1 b0 (w.setCell ⟨g', j, none⟩ (.int .u8 z)) v n := by
  obtain e | ⟨g, cap, cur, e, hg, hh, hn, hc, hz⟩ := h
  · exact .inl e
  · by_cases hgg : g = g'
    · subst hgg
      refine .inr ⟨g, cap, _, e, hg, blk_set hh j _, hn, hc, fun i hi => ?_⟩
      obtain ⟨x, hx⟩ := hz i hi
      rw [Array.getElem?_setIfInBounds]
      by_cases hij : j = i
      · subst hij
        have := (Array.getElem?_eq_some_iff.1 hx).1
        rw [if_pos rfl, if_pos this]
        exact ⟨z, rfl⟩
      · rw [if_neg hij]
        exact ⟨x, hx⟩
    · exact .inr ⟨g, cap, cur, e, hg, blk_far hh hgg _, hn, hc, hz⟩
/-- A slice's three parts as a value. -/
def sl (t : Option Addr × Nat × Nat) : Value := .slice t.1 t.2.1 t.2.2
abbrev KS : Kd (Option Addr × Nat × Nat) := Kd.scalar sl (fun _ => rfl)
/-- The slice of slices: block g holds the rows of ts, each of the call's own. -/
def St (w0 : World) (g : Nat) (ts : List (Option Addr × Nat × Nat)) (w : World) : Prop :=
  (∃ cs, w.heap[g]? = some (.cells cs 29 (0, 0)) ∧ ∀ (i : Nat) (t : Option Addr × Nat × Nat), ts[i]? = some t → cs[i]? = some (sl t)) ∧ (∀ t, t ∈ ts → Own1 w0.heap.size w (sl t) t.2.1) ∧ Below w0.heap.size w0 w
theorem St.cell {w0 w : World} {g : Nat} {ts : List (Option Addr × Nat × Nat)} (h : St w0 g ts w) {i : Nat} {t : Option Addr × Nat × Nat} (ht : ts[i]? = some t) : w.cell? ⟨g, i, none⟩ = some (sl t) := by
  obtain ⟨⟨cs, hh, hc⟩, _⟩ := h
  rw [blk_cell hh]
  exact hc i t ht
theorem St.row {w0 w : World} {g : Nat} {ts : List (Option Addr × Nat × Nat)} (h : St w0 g ts w) {i : Nat} {t : Option Addr × Nat × Nat} (ht : ts[i]? = some t) : Own1 w0.heap.size w (sl t) t.2.1 := h.2.1 t (List.mem_of_getElem? ht)
theorem St.drew {w0 w : World} {g : Nat} {ts : List (Option Addr × Nat × Nat)} (h : St w0 g ts w) : St w0 g ts w.drew := ⟨h.1, h.2.1, below_drew h.2.2⟩
theorem St.set {w0 w : World} {g : Nat} {ts : List (Option Addr × Nat × Nat)} (h : St w0 g ts w) {g' j : Nat} {cur : Array Value} (h0 : w0.heap.size ≤ g') (h5 : w.heap[g']? = some (.cells cur 5 (0, 0))) (z : Int) : St w0 g ts (w.setCell ⟨g', j, none⟩ (.int .u8 z)) := by
  obtain ⟨⟨cs, hh, hc⟩, hr, hb⟩ := h
  refine ⟨⟨cs, blk_far hh (blk_ne hh h5 (by decide)) _, hc⟩, fun t ht => (hr t ht).set _ _ _, ?_⟩
  refine ⟨?_, ?_, ?_, ?_, ?_⟩
  · exact hb.os
  · exact hb.tape
  · exact hb.output
  · have := hb.size
    simpa [World.setCell] using this
  · intro i hi
    rw [Below.heap_setCell _ _ _ _ (by show i ≠ g'; omega)]
    exact hb.block i hi
/-- One byte of a row: where it lies, and that it may be written. -/
theorem St.byte {w0 w : World} {g : Nat} {ts : List (Option Addr × Nat × Nat)} (h : St w0 g ts w) {i j : Nat} {A : Option Addr} {n c : Nat} (ht : ts[i]? = some (A, n, c)) (hj : j < n) :
    ∃ g', A = some ⟨g', 0, none⟩ ∧ (∃ z, w.cell? ⟨g', j, none⟩ = some (.int .u8 z)) ∧ w.frozen? ⟨g', j, none⟩ = false ∧ w0.heap.size ≤ g' ∧ n ≤ maxLen ∧ ∃ cur, w.heap[g']? = some (.cells cur 5 (0, 0)) := by
  obtain ⟨e, en⟩ | ⟨g', cap, cur, e, hg, hh, hn, hc, hz⟩ := h.row ht
  · simp only at en; omega
  · simp only [sl, Value.slice.injEq] at e
    obtain ⟨z, hx⟩ := hz j hj
    exact ⟨g', e.1, ⟨z, (blk_cell hh j).trans hx⟩, blk_frozen hh j, hg, Nat.le_trans hn hc, cur, hh⟩
theorem St.of_R {w0 w : World} {base : Nat} {ok : Nat → Prop} {v : Value} {ts : List (Option Addr × Nat × Nat)} (h : Kd.R KS 29 w base ok v ts) (hp : 0 < ts.length) (hr : ∀ t, t ∈ ts → Own1 w0.heap.size w (sl t) t.2.1) (hb : Below w0.heap.size w0 w) {n : Nat} (hn0 : ts.length = n) : ∃ g c, v = .slice (some ⟨g, 0, none⟩) n c ∧ St w0 g ts w := by
  subst hn0
  have ho := Kd.own_of_R (enc := sl) (h1 := fun _ => rfl) h
  obtain ⟨_, ⟨e, en⟩ | ⟨g, cap, cur, e, hg, hh, hn, hc, hs, ht⟩⟩ := ho
  · omega
  · refine ⟨g, cap, e, ⟨cur, hh, fun i t hi => ?_⟩, hr, hb⟩
    have hl := (List.getElem?_eq_some_iff.1 hi).1
    have h2 := congrArg (fun l => l[i]?) ht
    have h3 : (encs sl ts)[i]? = some (sl t) := by simp [encs, hi]
    simp only [Nat.mul_one, List.getElem?_take, if_pos hl] at h2
    rw [h3] at h2
    first | simpa using h2 | exact h2
theorem St.cellA {w0 w : World} {g : Nat} {ad : Addr} {ts : List (Option Addr × Nat × Nat)} (ha : ad = ⟨g, 0, none⟩) (h : St w0 g ts w) {i : Nat} {A : Option Addr} {n c : Nat} (ht : ts[i]? = some (A, n, c)) : w.cell? (ad.add i) = some (.slice A n c) := by
  rw [ha, add_plain]
  exact h.cell ht
theorem St.setA {w0 w : World} {g : Nat} {ts : List (Option Addr × Nat × Nat)} (h : St w0 g ts w) {g' j : Nat} {ad : Addr} (ha : ad = ⟨g', 0, none⟩) {cur : Array Value} (h0 : w0.heap.size ≤ g') (h5 : w.heap[g']? = some (.cells cur 5 (0, 0))) (z : Int) : St w0 g ts (w.setCell (ad.add j) (.int .u8 z)) := by
  rw [ha, add_plain]
  exact h.set h0 h5 z
theorem St.byteA {w0 w : World} {g : Nat} {ts : List (Option Addr × Nat × Nat)} (h : St w0 g ts w) {i j : Nat} {A : Option Addr} {n c : Nat} (ht : ts[i]? = some (A, n, c)) (hj : j < n) :
    ∃ ad, A = some ad ∧ n ≤ maxLen ∧ (∃ z, w.cell? (ad.add j) = some (.int .u8 z)) ∧ w.frozen? (ad.add j) = false ∧ ∀ z, St w0 g ts (w.setCell (ad.add j) (.int .u8 z)) := by
  obtain ⟨g', e, ⟨z, hz⟩, hf, h0, hn, cur, h5⟩ := h.byte ht hj
  refine ⟨⟨g', 0, none⟩, e, hn, ⟨z, ?_⟩, ?_, fun z => h.setA rfl h0 h5 z⟩
  · rw [add_plain]; exact hz
  · rw [add_plain]; exact hf
/-- A slice of slices as it is built. -/
theorem KS_lit {w : World} {g : Nat} {base : Nat} (ts : List (Option Addr × Nat × Nat)) (hl : ts.length ≤ 100) (h : w.heap[g]? = some (.cells (ts.map sl).toArray 29 (0, 0))) (hb : base ≤ g) : Kd.R KS 29 w base (fun _ => True) (.slice (some ⟨g, 0, none⟩) ts.length ts.length) ts := by
  refine Kd.R_of_own (enc := sl) (h1 := fun _ => rfl) ⟨by simp [encs], .inr ⟨g, ts.length, _, rfl, hb, h, Nat.le_refl _, by simp only [maxLen]; omega, by simp, ?_⟩⟩ (fun _ _ => trivial)
  simp only [encs, Nat.mul_one]
  rw [List.take_of_length_le (by simp)]
theorem KS_reads {w : World} {g : Nat} (ts : List (Option Addr × Nat × Nat)) (h : w.heap[g]? = some (.cells (ts.map sl).toArray 29 (0, 0))) (hl : ts.length ≤ 100) : Kd.C KS w (some ⟨g, 0, none⟩) ts.length ts := by
  have := KS_lit (base := 0) ts hl h (Nat.zero_le _)
  have h2 := Kd.R_reads' this
  exact h2.2.2
end Go.Proofs.Ytcnodelfblpdiaa.HOwn
