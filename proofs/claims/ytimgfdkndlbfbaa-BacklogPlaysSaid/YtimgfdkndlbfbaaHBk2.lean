/- backlog.without at int, slices.Contains, slices.Clone, slices.Delete over slices of the call's own. Conditions: each theorem's own. -/
import Derived.Test.YtimgfdkndlbfbaaHBk
import Derived.Test.YtimgfdkndlbfbaaShelf
namespace Go.Proofs.Ytimgfdkndlbfbaa.HBk
open Go.RowKit Go.Proofs.YtimgfdkndlbfbaaW.PrintWords Go.Proofs.YtimgfdkndlbfbaaW.PrintLast Go.Proofs.YtimgfdkndlbfbaaW.PrintMore Go.Proofs.Ytimgfdkndlbfbaa.HExt
set_option linter.unusedVariables false
set_option linter.unusedSimpArgs false
theorem blk_setCells (g : Nat) (t : TypeId) : ∀ (vs : List Value) (o : Nat) (w : World) (cs : Array Value), w.heap[g]? = some (.cells cs t (0, 0)) → o + vs.length ≤ cs.size →
    ∃ cs', (w.setCells g o vs).heap[g]? = some (.cells cs' t (0, 0)) ∧ cs'.size = cs.size ∧ (∀ j, j < o → cs'[j]? = cs[j]?) ∧ ∀ j, j < vs.length → cs'[o + j]? = vs[j]?
  | [], o, w, cs, h, _ => ⟨cs, h, rfl, fun _ _ => rfl, fun j hj => absurd hj (Nat.not_lt_zero _)⟩
  | v :: r, o, w, cs, h, hl => by
    simp only [List.length_cons] at hl
    obtain ⟨cs', h1, h2, h3, h4⟩ := blk_setCells g t r (o + 1) (w.setCell ⟨g, o, none⟩ v) _ (blk_set h o v) (by simp; omega)
    refine ⟨cs', h1, by simpa using h2, fun j hj => ?_, fun j hj => ?_⟩
    · rw [h3 j (by omega), Array.getElem?_setIfInBounds, if_neg (by omega)]
    · cases j with
      | zero =>
        rw [Nat.add_zero, h3 o (by omega), Array.getElem?_setIfInBounds, if_pos rfl, if_pos (by omega)]
        rfl
      | succ j =>
        rw [show o + (j + 1) = o + 1 + j by omega, h4 j (by simpa using hj)]
        rfl
theorem grown_setCell (w : World) (g o : Nat) (v : Value) : w.grownBy (w.setCell ⟨g, o, none⟩ v) (some g) := ⟨rfl, rfl, rfl, by simp [World.setCell], fun k hk hne => Below.heap_setCell w _ _ k (fun e => hne (by rw [e]))⟩
theorem grown_trans {w w1 w2 : World} {r : Option Nat} (h1 : w.grownBy w1 r) (h2 : w1.grownBy w2 r) : w.grownBy w2 r := ⟨h2.os.trans h1.os, h2.tape.trans h1.tape, h2.output.trans h1.output, Nat.le_trans h1.size h2.size, fun k hk hne => (h2.block k (Nat.lt_of_lt_of_le hk h1.size) hne).trans (h1.block k hk hne)⟩
theorem grown_setCells (g : Nat) : ∀ (vs : List Value) (o : Nat) (w : World), w.grownBy (w.setCells g o vs) (some g)
  | [], _, w => ⟨rfl, rfl, rfl, Nat.le_refl _, fun _ _ _ => rfl⟩
  | v :: r, o, w => grown_trans (grown_setCell w g o v) (grown_setCells g r (o + 1) _)
/-- One number taken out, in place. -/
theorem delete_calls {b0 : Nat} {w : World} {A : Option Addr} {n c : Nat} {xs : List Int} (h : Sl b0 w (.slice A n c) xs) (i : Nat) (hi : i < xs.length) :
    Calls Try.prog 100 #[.slice A n c, .int .i64 (i : Int), .int .i64 ((i : Int) + 1)] w fun e w' => ∃ v', e = .returned v' ∧ Sl b0 w' v' (xs.eraseIdx i) ∧ w.grownBy w' (Value.slice A n c).ownBlock ∧ v'.ownBlock = (Value.slice A n c).ownBlock := by
  obtain ⟨e, e2⟩ | ⟨g, o, cap, cur, e, hg, hh, hn, hm, hs, hj⟩ := h
  · subst e2
    exact absurd hi (Nat.not_lt_zero _)
  · simp only [Value.slice.injEq] at e
    obtain ⟨rfl, rfl, rfl⟩ := e
    have hc := Try.slices_Delete_int_cells g o xs.length c i (i + 1) xs w (Nat.le_refl _) hn (by unfold maxLen at hm; omega) (by omega) (by omega) (fun j hjl => (blk_cell hh _).trans (hj j hjl)) (fun j _ => blk_frozen hh _)
    rw [List.take_length] at hc
    refine Calls.mono hc ?_
    rintro e w' ⟨rfl, q, rfl⟩
    obtain ⟨cs', h1, h2, h3, h4⟩ := blk_setCells g 3 ((xs.take i ++ xs.drop (i + 1) ++ List.replicate (i + 1 - i) 0).map (Value.int .i64)) o (w.drewN q) cur hh (by simp; omega)
    have hle : (xs.eraseIdx i).length = xs.length - 1 := by rw [List.length_eraseIdx, if_pos hi]
    have hev : xs.eraseIdx i = xs.take i ++ xs.drop (i + 1) := List.eraseIdx_eq_take_drop_succ xs i
    refine ⟨_, rfl, .inr ⟨g, o, c, cs', ?_, hg, h1, by omega, hm, by omega, fun j hjl => ?_⟩, ?_, rfl⟩
    · rw [hle, show i + 1 - i = 1 by omega]
    · rw [h4 j (by simp; omega), List.getElem?_map, hev]
      have hl2 : j < (xs.take i ++ xs.drop (i + 1)).length := by rw [← hev]; exact hjl
      rw [List.getElem?_append_left hl2, List.getD_eq_getElem?_getD, List.getElem?_eq_getElem hl2]
      rfl
    · show w.grownBy _ (some g)
      exact grown_trans (w1 := w.drewN q) ⟨rfl, rfl, rfl, Nat.le_refl _, fun _ _ _ => rfl⟩ (grown_setCells g _ _ (w.drewN q))
theorem ix_mem {xs : List Int} {x : Int} (h : x ∈ xs) : ix xs x = (xs.idxOf x : Int) ∧ xs.idxOf x < xs.length := ⟨if_pos h, List.idxOf_lt_length_of_mem h⟩
theorem contains_calls {b0 : Nat} {w : World} {v : Value} {xs : List Int} (h : Sl b0 w v xs) (x : Int) : Calls Try.prog 80 #[v, .int .i64 x] w fun e w' => e = .returned (.bool (decide (x ∈ xs))) ∧ w = w' := by
  obtain ⟨A, c, rfl, hc, hm⟩ := h.shape
  have HC := Aside0.mk (index_calls A c xs xs.length rfl x w hm h.reads)
  have hd : decide (0 ≤ ix xs x) = decide (x ∈ xs) := by
    by_cases hx : x ∈ xs
    · rw [(ix_mem hx).1, decide_eq_true hx]; exact decide_eq_true (by omega)
    · rw [decide_eq_false hx]; unfold ix; rw [if_neg hx]; rfl
  have HD := Aside0.mk hd
  clear h hd hc hm
  go_enter Try.func80, Try.ntmps80
  go_wp2_with (go_at_call 99; refine HC.out.mono ?_; rintro e w2 ⟨rfl, rfl⟩)
  go_ret
  exact ⟨by rw [← HD.out]; rfl, rfl⟩
theorem Sl.low {b0 : Nat} {w : World} {v : Value} {xs : List Int} (h : Sl b0 w v xs) : ∀ k, v.ownBlock = some k → b0 ≤ k ∧ k < w.heap.size := by
  obtain ⟨rfl, -⟩ | ⟨g, o, cap, cur, rfl, hg, hh, hr⟩ := h
  · intro k hk; cases hk
  · intro k hk
    have : g = k := by simpa [Value.ownBlock] using hk
    subst this
    exact ⟨hg, blk_lt hh⟩
theorem clone_calls {b0 : Nat} {w : World} {v : Value} {xs : List Int} (h : Sl b0 w v xs) (hl : xs.length ≤ 100000) : Calls Try.prog 83 #[v] w fun e w' => ∃ v', e = .returned v' ∧ Sl w.heap.size w' v' xs ∧ Below w.heap.size w w' := by
  obtain ⟨A, c, rfl, hc, hm⟩ := h.shape
  refine (HCloneI.calls A c xs w h.reads hc (by omega)).mono ?_
  rintro e w' ⟨v', rfl, hR, hB⟩
  exact ⟨v', rfl, Sl.of_R hR (Nat.le_refl _), hB⟩
/-- x taken out, where it stands first. -/
def rem (xs : List Int) (x : Int) : List Int := xs.eraseIdx (xs.idxOf x)
theorem without_out {b0 : Nat} {w : World} {v : Value} {xs : List Int} (h : Sl b0 w v xs) (x : Int) (hx : x ∉ xs) : Calls Try.prog 82 #[v, .int .i64 x] w fun e w' => e = .returned (.tuple #[v, .bool false]) ∧ w = w' := by
  obtain ⟨A, c, rfl, hc, hm⟩ := h.shape
  have hi := index_calls A c xs xs.length rfl x w hm h.reads
  rw [show ix xs x = -1 from if_neg hx] at hi
  have HC := Aside0.mk hi
  clear h hc hm hi hx
  go_enter Try.func82, Try.ntmps82
  go_wp2_with (go_at_call 99; refine HC.out.mono ?_; rintro e w2 ⟨rfl, rfl⟩)
  go_ret2
  exact ⟨rfl, rfl⟩
theorem without_in {b0 : Nat} {w : World} {v : Value} {xs : List Int} (h : Sl b0 w v xs) (hl : xs.length ≤ 100000) (x : Int) (hx : x ∈ xs) : Calls Try.prog 82 #[v, .int .i64 x] w fun e w' => ∃ v', e = .returned (.tuple #[v', .bool true]) ∧ Sl w.heap.size w' v' (rem xs x) ∧ Below w.heap.size w w' := by
  obtain ⟨A, c, rfl, hc, hm⟩ := h.shape
  obtain ⟨K, hK⟩ : ∃ K, xs.idxOf x = K := ⟨_, rfl⟩
  have hm2 := ix_mem hx
  rw [hK] at hm2
  have hi := index_calls A c xs xs.length rfl x w hm h.reads
  rw [hm2.1] at hi
  have c0 : decide ((K : Int) < 0) = false := decide_eq_false (by omega)
  have e0 : IntKind.i64.wrap ((K : Int) + 1) = (K : Int) + 1 := wid _ (by omega) (by omega)
  have HC := Aside0.mk hi
  have HL := Aside0.mk (clone_calls h hl)
  have HK := Aside0.mk (And.intro hK hm2.2)
  clear h hc hm hi hx hm2 hK hl
  go_enter Try.func82, Try.ntmps82
  go_wp2_with (first | (go_at_call 99; refine HC.out.mono ?_; rintro e w2 ⟨rfl, rfl⟩) | (go_at_call 83; refine HL.out.mono ?_; rintro e w3 ⟨v3, rfl, hS, hB⟩; obtain ⟨A3, c3, rfl, -, -⟩ := hS.shape; have HS := Aside0.mk hS; have HB := Aside0.mk hB; clear hS hB HL) | (go_at_call 100; refine (delete_calls HS.out K HK.out.2).mono ?_; rintro e w4 ⟨v4, rfl, hS, hG, hO⟩; have HB4 := Aside0.mk (pw_below_grown HB.out _ HB.out.size hG (fun k hk => (HS.out.low k hk).1)); have HS4 := Aside0.mk hS; clear hS hG hO))
  go_ret2
  exact ⟨_, rfl, by unfold rem; rw [HK.out.1]; exact HS4.out, HB4.out⟩
end Go.Proofs.Ytimgfdkndlbfbaa.HBk
