/- backlog's Ready and Drop, and all at nil. Conditions: each theorem's own. -/
import Derived.Test.YtimgfdkndlbfbaaHBk4
namespace Go.Proofs.Ytimgfdkndlbfbaa.HBk
open Go.RowKit Go.Proofs.YtimgfdkndlbfbaaW.PrintWords Go.Proofs.YtimgfdkndlbfbaaW.PrintLast Go.Proofs.YtimgfdkndlbfbaaW.PrintMore Go.Proofs.Ytimgfdkndlbfbaa.HExt
set_option linter.unusedVariables false
set_option linter.unusedSimpArgs false
/-- x taken out, if it is there. -/
def out (xs : List Int) (x : Int) : List Int := if x ∈ xs then rem xs x else xs
theorem out_len (xs : List Int) (x : Int) : (out xs x).length ≤ xs.length := by
  unfold out rem
  split
  · rw [List.length_eraseIdx]; split <;> omega
  · exact Nat.le_refl _
theorem without_any {b0 : Nat} {w : World} {v : Value} {xs : List Int} (h : Sl b0 w v xs) (hb : b0 ≤ w.heap.size) (hl : xs.length ≤ 100000) (x : Int) (t : Bool) (ht : decide (x ∈ xs) = t) : Calls Try.prog 82 #[v, .int .i64 x] w fun e w' => ∃ v', e = .returned (.tuple #[v', .bool t]) ∧ Sl b0 w' v' (out xs x) ∧ Below w.heap.size w w' ∧ ∀ k, v'.ownBlock = some k → v.ownBlock = some k ∨ w.heap.size ≤ k := by
  subst ht
  by_cases hx : x ∈ xs
  · refine (without_in h hl x hx).mono ?_
    rintro e w' ⟨v', rfl, hS, hB⟩
    exact ⟨v', by rw [decide_eq_true hx], by unfold out; rw [if_pos hx]; exact hS.mono hb, hB, fun k hk => .inr (hS.low k hk).1⟩
  · refine (without_out h x hx).mono ?_
    rintro e w' ⟨rfl, rfl⟩
    exact ⟨v, by rw [decide_eq_false hx], by unfold out; rw [if_neg hx]; exact h, Below.refl _ _, fun k hk => .inl hk⟩
theorem log_cell3 {b : Nat} {w : World} {s : LS} {vh vr : Value} (h : w.heap[b]? = some (.cells (HBk.cells s vh vr) 155 (0, 0))) : w.cell? ⟨b, 2, none⟩ = some vh ∧ w.cell? ⟨b, 3, none⟩ = some vr ∧ w.frozen? ⟨b, 2, none⟩ = false ∧ w.frozen? ⟨b, 3, none⟩ = false := ⟨(log_cell h).1, (log_cell h).2.1, blk_frozen h _, blk_frozen h _⟩
/-- half turned to v (behind calls that made memory). -/
theorem Lg.set_half {b0 b : Nat} {w w1 : World} {s : LS} {vh vr v : Value} {hs' : List Int} (h : Lg b0 w b s vh vr) (hb : Below w.heap.size w w1) (hS : Sl b0 w1 v hs') (hv : ∀ k, v.ownBlock = some k → vh.ownBlock = some k ∨ w.heap.size ≤ k) : Lg b0 (w1.setCell ⟨b, 2, none⟩ v) b { s with h := hs' } v vr := by
  have hbk := blk_below h.blk hb
  refine ⟨blk_put hbk 2 _ rfl, h.lo, hS.put hbk (by decide), (h.rs.below hb).put hbk (by decide), fun k hk hk2 => ?_⟩
  rcases hv k hk with e | e
  · exact h.ap k e hk2
  · have := (h.rs.low k hk2).2; omega
theorem Lg.set_ready {b0 b : Nat} {w w1 : World} {s : LS} {vh vr v : Value} {rs' : List Int} (h : Lg b0 w b s vh vr) (hb : Below w.heap.size w w1) (hS : Sl b0 w1 v rs') (hv : ∀ k, v.ownBlock = some k → vr.ownBlock = some k ∨ w.heap.size ≤ k) : Lg b0 (w1.setCell ⟨b, 3, none⟩ v) b { s with r := rs' } vh v := by
  have hbk := blk_below h.blk hb
  refine ⟨blk_put hbk 3 _ rfl, h.lo, (h.hs.below hb).put hbk (by decide), hS.put hbk (by decide), fun k hk hk2 => ?_⟩
  rcases hv k hk2 with e | e
  · exact h.ap k hk e
  · have := (h.hs.low k hk).2; omega
theorem Mv.trans {w w1 w2 : World} {b : Nat} {vh vr vh1 vr1 vh2 vr2 : Value} (h : Mv w w1 b vh vr vh1 vr1) (h2 : Mv w1 w2 b vh1 vr1 vh2 vr2) : Mv w w2 b vh vr vh2 vr2 := by
  refine ⟨h2.os.trans h.os, h2.tape.trans h.tape, h2.output.trans h.output, Nat.le_trans h.size h2.size, fun k k1 k2 k3 k4 => (h2.old k (Nat.lt_of_lt_of_le k1 h.size) k2 (fun e => ?_) (fun e => ?_)).trans (h.old k k1 k2 k3 k4), fun k hk => ?_, fun k hk => ?_⟩
  · rcases h.h k e with e | e
    · exact k3 e
    · omega
  · rcases h.r k e with e | e
    · exact k4 e
    · omega
  · rcases h2.h k hk with e | e
    · exact h.h k e
    · exact .inr (Nat.le_trans h.size e)
  · rcases h2.r k hk with e | e
    · exact h.r k e
    · exact .inr (Nat.le_trans h.size e)
set_option maxRecDepth 100000 in
set_option maxHeartbeats 2000000 in
theorem drop_calls {b0 b : Nat} {w : World} {s : LS} {vh vr : Value} (h : Lg b0 w b s vh vr) (hb0 : b0 ≤ w.heap.size) (x : Int) (hl : s.h.length ≤ 1000) (hl2 : s.r.length ≤ 1000) :
    Calls Try.prog 35 #[.pointer (some ⟨b, 0, none⟩), .int .i64 x] w fun e w' => e = .returned (.bool (decide (x ∈ s.h) || decide (x ∈ s.r))) ∧ ∃ vh' vr', Lg b0 w' b { s with h := out s.h x, r := out s.r x } vh' vr' ∧ Mv w w' b vh vr vh' vr' := by
  obtain ⟨-, -, h2, h3, -, -, -⟩ := h.cells
  have f2 := h.free 2
  obtain ⟨A1, c1, A2, c2, rfl, rfl⟩ := h.shapes
  obtain ⟨t1, ht1⟩ : ∃ t, decide (x ∈ s.h) = t := ⟨_, rfl⟩
  obtain ⟨t2, ht2⟩ : ∃ t, decide (x ∈ s.r) = t := ⟨_, rfl⟩
  rw [ht1, ht2]
  have H1 := Aside0.mk (without_any h.hs hb0 (by omega) x t1 ht1)
  have H := Aside0.mk h
  have HL := Aside0.mk (And.intro hb0 (And.intro hl2 ht2))
  clear h hb0 hl hl2 ht1 ht2
  go_enter Try.func35, Try.ntmps35
  go_upto_region 5 with (go_at_call 82; refine H1.out.mono ?_; rintro e w1 ⟨v1, rfl, hS, hB, hv⟩; obtain ⟨A3, c3, rfl, -, -⟩ := hS.shape; have HS1 := Aside0.mk (And.intro hS (And.intro hB hv)); generalize (out s.h x).length = n1 at HS1 ⊢; have k2 := (log_cell3 (blk_below H.out.blk HS1.out.2.1)).2.2.1; have k1 := (log_cell3 (blk_below H.out.blk HS1.out.2.1)).1; clear hS hB hv h2 h3 f2)
  have L1 := Aside0.mk (H.out.set_half HS1.out.2.1 HS1.out.1 HS1.out.2.2)
  have M1 := Aside0.mk ((((Mv.refl w b (.slice A1 s.h.length c1) (.slice A2 s.r.length c2)).below HS1.out.2.1).put (i := 2) (u := .slice A3 n1 c3)).half HS1.out.2.2)
  clear HS1 k2 k1
  generalize w1.setCell ⟨b, 2, none⟩ (.slice A3 n1 c3) = w2 at L1 M1 ⊢
  have H2 := Aside0.mk (without_any L1.out.rs (Nat.le_trans HL.out.1 M1.out.size) (by have := HL.out.2.1; show s.r.length ≤ _; omega) x t2 HL.out.2.2)
  obtain ⟨h2, h3, f2, f3⟩ := log_cell3 L1.out.blk
  have fin : ∀ w3 v4, Sl b0 w3 v4 (out s.r x) → Below w2.heap.size w2 w3 → (∀ k, v4.ownBlock = some k → (Value.slice A2 s.r.length c2).ownBlock = some k ∨ w2.heap.size ≤ k) → ∃ vh' vr', Lg b0 (w3.setCell ⟨b, 3, none⟩ v4) b { s with h := out s.h x, r := out s.r x } vh' vr' ∧ Mv w (w3.setCell ⟨b, 3, none⟩ v4) b (.slice A1 s.h.length c1) (.slice A2 s.r.length c2) vh' vr' := fun w3 v4 hS hB hv =>
    ⟨_, _, L1.out.set_ready hB hS hv, M1.out.trans ((((Mv.refl w2 b _ _).below hB).put (i := 3) (u := v4)).ready hv)⟩
  have FN := Aside0.mk fin
  clear fin
  cases t1 with
  | true =>
    go_wp2_with (go_at_call 82; refine H2.out.mono ?_; rintro e w3 ⟨v4, rfl, hS, hB, hv⟩; obtain ⟨A4, c4, rfl, -, -⟩ := hS.shape; have HS2 := Aside0.mk (And.intro hS (And.intro hB hv)); generalize (out s.r x).length = n2 at HS2 ⊢; have k3 := (log_cell3 (blk_below L1.out.blk HS2.out.2.1)).2.2.2; have k2 := (log_cell3 (blk_below L1.out.blk HS2.out.2.1)).2.1; clear hS hB hv h2 h3 f2 f3)
    go_ret
    exact ⟨rfl, FN.out _ _ HS2.out.1 HS2.out.2.1 HS2.out.2.2⟩
  | false =>
    go_wp2_with (go_at_call 82; refine H2.out.mono ?_; rintro e w3 ⟨v4, rfl, hS, hB, hv⟩; obtain ⟨A4, c4, rfl, -, -⟩ := hS.shape; have HS2 := Aside0.mk (And.intro hS (And.intro hB hv)); generalize (out s.r x).length = n2 at HS2 ⊢; have k3 := (log_cell3 (blk_below L1.out.blk HS2.out.2.1)).2.2.2; have k2 := (log_cell3 (blk_below L1.out.blk HS2.out.2.1)).2.1; clear hS hB hv h2 h3 f2 f3)
    go_ret
    exact ⟨rfl, FN.out _ _ HS2.out.1 HS2.out.2.1 HS2.out.2.2⟩
theorem ready_none {b0 b : Nat} {w : World} {s : LS} {vh vr : Value} (h : Lg b0 w b s vh vr) (x : Int) (hx : x ∉ s.h) : Calls Try.prog 33 #[.pointer (some ⟨b, 0, none⟩), .int .i64 x] w fun e w' => e = .returned (.int .i64 6) ∧ w = w' := by
  obtain ⟨-, -, h2, h3, -, -, -⟩ := h.cells
  have H1 := Aside0.mk (without_out h.hs x hx)
  clear h hx
  go_enter Try.func33, Try.ntmps33
  go_wp2_with (go_at_call 82; refine H1.out.mono ?_; rintro e w1 ⟨rfl, rfl⟩)
  go_ret
  exact ⟨rfl, rfl⟩
set_option maxRecDepth 100000 in
set_option maxHeartbeats 2000000 in
theorem ready_some {b0 b : Nat} {w : World} {s : LS} {vh vr : Value} (h : Lg b0 w b s vh vr) (hb0 : b0 ≤ w.heap.size) (x : Int) (hx : x ∈ s.h) (hl : s.h.length ≤ 1000) (hl2 : s.r.length ≤ 1000) :
    Calls Try.prog 33 #[.pointer (some ⟨b, 0, none⟩), .int .i64 x] w fun e w' => e = .returned (.int .i64 0) ∧ ∃ vh' vr', Lg b0 w' b { s with h := out s.h x, r := s.r ++ [x] } vh' vr' ∧ Mv w w' b vh vr vh' vr' := by
  obtain ⟨-, -, h2, h3, -, -, -⟩ := h.cells
  have f2 := h.free 2
  obtain ⟨A1, c1, A2, c2, rfl, rfl⟩ := h.shapes
  have H1 := Aside0.mk (without_any h.hs hb0 (by omega) x true (decide_eq_true hx))
  have H := Aside0.mk h
  have HL := Aside0.mk (And.intro hb0 hl2)
  clear h hb0 hl hl2 hx
  go_enter Try.func33, Try.ntmps33
  go_upto_region 7 with (go_at_call 82; refine H1.out.mono ?_; rintro e w1 ⟨v1, rfl, hS, hB, hv⟩; obtain ⟨A3, c3, rfl, -, -⟩ := hS.shape; have HS1 := Aside0.mk (And.intro hS (And.intro hB hv)); generalize (out s.h x).length = n1 at HS1 ⊢; have k2 := (log_cell3 (blk_below H.out.blk HS1.out.2.1)).2.2.1; have k1 := (log_cell3 (blk_below H.out.blk HS1.out.2.1)).1; clear hS hB hv h2 h3 f2)
  have L1 := Aside0.mk (H.out.set_half HS1.out.2.1 HS1.out.1 HS1.out.2.2)
  have M1 := Aside0.mk ((((Mv.refl w b (.slice A1 s.h.length c1) (.slice A2 s.r.length c2)).below HS1.out.2.1).put (i := 2) (u := .slice A3 n1 c3)).half HS1.out.2.2)
  clear HS1 k2 k1
  generalize w1.setCell ⟨b, 2, none⟩ (.slice A3 n1 c3) = w2 at L1 M1 ⊢
  obtain ⟨h2, h3, f2, f3⟩ := log_cell3 L1.out.blk
  go_wp2_with (((with_reducible refine gate_builtin (b := .append) (xs := #[.tmp 28, .tmp 30]) rfl ?_); refine append1_step rfl (.tmp 28) (.tmp 30) rfl w2.heap.size x rfl rfl (L1.out.rs.below (below_alloc (Below.refl _ w2) _)) ?aa ?al ((blk_cell (blk_new w2 _) 0).trans rfl) ?_; (case aa => exact Nat.le_trans (Nat.le_trans HL.out.1 M1.out.size) (below_alloc (Below.refl w2.heap.size w2) _).size); (case al => have := HL.out.2; show s.r.length ≤ _; omega); intro v3 w3 hS hG hO; obtain ⟨A4, c4, rfl, -, -⟩ := hS.shape; generalize (s.r ++ [x]).length = n3 at hS hO ⊢; have HK := Aside0.mk (L1.out.kept_h _ hG); obtain ⟨-, g3, -, k3⟩ := log_cell3 HK.out.1; have M3 := Aside0.mk ((M1.out.trans ((Mv.refl w2 b (.slice A3 n1 c3) (.slice A2 s.r.length c2)).below (below_alloc (Below.refl w2.heap.size w2) _))).trans ((Mv.refl _ b (.slice A3 n1 c3) (.slice A2 s.r.length c2)).grown hG (fun k hk => .inr (.inl hk)))); have HS := Aside0.mk hS; have HO := Aside0.mk (And.intro hO (And.intro M1.out.size (below_alloc (Below.refl w2.heap.size w2) (.cells #[.int .i64 x] 3)).size)); clear hS hG hO h2 h3 f2 f3))
  go_ret
  have hbk := HK.out.1
  have hp : ∀ k, (Value.slice A4 n3 c4).ownBlock = some k → (Value.slice A2 s.r.length c2).ownBlock = some k ∨ w2.heap.size ≤ k := fun k hk => by
    rcases HO.out.1 with e | ⟨k', e, hle⟩
    · exact .inl (e ▸ hk)
    · rw [e] at hk
      injection hk with hk
      subst hk
      exact .inr (Nat.le_trans HO.out.2.2 hle)
  refine ⟨rfl, _, _, ⟨blk_put hbk 3 _ rfl, L1.out.lo, HK.out.2.put hbk (by decide), HS.out.put hbk (by decide), fun k hk hk2 => ?_⟩, (M3.out.put).ready fun k hk => ?_⟩
  · rcases hp k hk2 with e | e
    · exact L1.out.ap k hk e
    · have := (L1.out.hs.low k hk).2; omega
  · rcases hp k hk with e | e
    · exact .inl e
    · exact .inr (Nat.le_trans HO.out.2.1 e)
/-! At nil. -/
theorem nil_add (x : Int) (w : World) : Calls Try.prog 31 #[.pointer none, .int .i64 x] w fun e w' => e = .returned (.int .i64 7) ∧ w = w' := by
  go_enter Try.func31, Try.ntmps31
  go_wp2
  go_ret
  exact ⟨rfl, rfl⟩
theorem nil_ready (x : Int) (w : World) : Calls Try.prog 33 #[.pointer none, .int .i64 x] w fun e w' => e = .returned (.int .i64 7) ∧ w = w' := by
  go_enter Try.func33, Try.ntmps33
  go_wp2
  go_ret
  exact ⟨rfl, rfl⟩
theorem nil_drop (x : Int) (w : World) : Calls Try.prog 35 #[.pointer none, .int .i64 x] w fun e w' => e = .returned (.bool false) ∧ w = w' := by
  go_enter Try.func35, Try.ntmps35
  go_wp2
  go_ret
  exact ⟨rfl, rfl⟩
theorem nil_take (w : World) : Calls Try.prog 37 #[.pointer none] w fun e w' => e = .returned (.tuple #[.int .i64 0, .bool false]) ∧ w = w' := by
  go_enter Try.func37, Try.ntmps37
  go_wp2
  go_ret2
  exact ⟨rfl, rfl⟩
theorem nil_counts (w : World) : Calls Try.prog 39 #[.pointer none] w fun e w' => e = .returned (.tuple #[.int .i64 0, .int .i64 0, .int .i64 0]) ∧ w = w' := by
  go_enter Try.func39, Try.ntmps39
  go_wp2
  go_ret3
  exact ⟨rfl, rfl⟩
theorem nil_half (w : World) : Calls Try.prog 41 #[.pointer none] w fun e w' => e = .returned (.slice none 0 0) ∧ w = w' := by
  go_enter Try.func41, Try.ntmps41
  go_wp2
  go_ret
  exact ⟨rfl, rfl⟩
theorem nil_waiting (w : World) : Calls Try.prog 43 #[.pointer none] w fun e w' => e = .returned (.slice none 0 0) ∧ w = w' := by
  go_enter Try.func43, Try.ntmps43
  go_wp2
  go_ret
  exact ⟨rfl, rfl⟩
theorem code_calls (n : Int) (w : World) : Calls Try.prog 30 #[.int .i64 n] w fun e w' => e = .returned (.int .i64 n) ∧ w = w' := by
  go_enter Try.func30, Try.ntmps30
  go_wp2
  go_ret
  exact ⟨rfl, rfl⟩
end Go.Proofs.Ytimgfdkndlbfbaa.HBk
