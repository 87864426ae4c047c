/- backlog's functions, by hand: New, Counts, Half, Waiting, Take, Add, Ready, Drop. Conditions: each theorem's own. -/
import Derived.Test.YtimgfdkndlbfbaaHBk2
import Derived.Lib.MinMax
namespace Go.Proofs.Ytimgfdkndlbfbaa.HBk
open Go.RowKit Go.Proofs.YtimgfdkndlbfbaaW.PrintWords Go.Proofs.YtimgfdkndlbfbaaW.PrintLast Go.Proofs.YtimgfdkndlbfbaaW.PrintMore Go.Proofs.Ytimgfdkndlbfbaa.HExt
set_option linter.unusedVariables false
set_option linter.unusedSimpArgs false
/-- What a log holds. -/
structure LS where
  m0 : Int
  m1 : Int
  h : List Int
  r : List Int
  ad : Int
  tk : Int
  rf : Int
def cells (s : LS) (vh vr : Value) : Array Value := #[.int .i64 s.m0, .int .i64 s.m1, vh, vr, .int .i64 s.ad, .int .i64 s.tk, .int .i64 s.rf]
/-- A log at block b; its slices vh, vr lie in blocks of their own. -/
structure Lg (b0 : Nat) (w : World) (b : Nat) (s : LS) (vh vr : Value) : Prop where
  blk : w.heap[b]? = some (.cells (cells s vh vr) 155 (0, 0))
  lo : b0 ≤ b
  hs : Sl b0 w vh s.h
  rs : Sl b0 w vr s.r
  ap : ∀ k, vh.ownBlock = some k → vr.ownBlock ≠ some k
/-- From w to w' only the log at b turned. -/
structure Mv (w w' : World) (b : Nat) (vh vr vh' vr' : Value) : Prop where
  os : w'.os = w.os
  tape : w'.tape = w.tape
  output : w'.output = w.output
  size : w.heap.size ≤ w'.heap.size
  old : ∀ k, k < w.heap.size → k ≠ b → vh.ownBlock ≠ some k → vr.ownBlock ≠ some k → w'.heap[k]? = w.heap[k]?
  h : ∀ k, vh'.ownBlock = some k → vh.ownBlock = some k ∨ w.heap.size ≤ k
  r : ∀ k, vr'.ownBlock = some k → vr.ownBlock = some k ∨ w.heap.size ≤ k
theorem Mv.refl (w : World) (b : Nat) (vh vr : Value) : Mv w w b vh vr vh vr := ⟨rfl, rfl, rfl, Nat.le_refl _, fun _ _ _ _ _ => rfl, fun _ h => .inl h, fun _ h => .inl h⟩
theorem Mv.drewN (w : World) (m : Nat) (b : Nat) (vh vr : Value) : Mv w (w.drewN m) b vh vr vh vr := ⟨rfl, rfl, rfl, Nat.le_refl _, fun _ _ _ _ _ => rfl, fun _ h => .inl h, fun _ h => .inl h⟩
theorem Lg.drewN {b0 b : Nat} {w : World} {s : LS} {vh vr : Value} (h : Lg b0 w b s vh vr) (m : Nat) : Lg b0 (w.drewN m) b s vh vr := ⟨h.blk, h.lo, h.hs, h.rs, h.ap⟩
theorem Lg.below {b0 b : Nat} {w w' : World} {s : LS} {vh vr : Value} (h : Lg b0 w b s vh vr) (hb : Below w.heap.size w w') : Lg b0 w' b s vh vr := ⟨blk_below h.blk hb, h.lo, h.hs.below hb, h.rs.below hb, h.ap⟩
theorem Lg.shapes {b0 b : Nat} {w : World} {s : LS} {vh vr : Value} (h : Lg b0 w b s vh vr) : ∃ A1 c1 A2 c2, vh = .slice A1 s.h.length c1 ∧ vr = .slice A2 s.r.length c2 := by
  obtain ⟨A1, c1, e1, _⟩ := h.hs.shape
  obtain ⟨A2, c2, e2, _⟩ := h.rs.shape
  exact ⟨A1, c1, A2, c2, e1, e2⟩
theorem Lg.cells {b0 b : Nat} {w : World} {s : LS} {vh vr : Value} (h : Lg b0 w b s vh vr) : w.cell? ⟨b, 0, none⟩ = some (.int .i64 s.m0) ∧ w.cell? ⟨b, 1, none⟩ = some (.int .i64 s.m1) ∧ w.cell? ⟨b, 2, none⟩ = some vh ∧ w.cell? ⟨b, 3, none⟩ = some vr ∧ w.cell? ⟨b, 4, none⟩ = some (.int .i64 s.ad) ∧ w.cell? ⟨b, 5, none⟩ = some (.int .i64 s.tk) ∧ w.cell? ⟨b, 6, none⟩ = some (.int .i64 s.rf) :=
  ⟨(blk_cell h.blk 0).trans rfl, (blk_cell h.blk 1).trans rfl, (blk_cell h.blk 2).trans rfl, (blk_cell h.blk 3).trans rfl, (blk_cell h.blk 4).trans rfl, (blk_cell h.blk 5).trans rfl, (blk_cell h.blk 6).trans rfl⟩
theorem Lg.free {b0 b : Nat} {w : World} {s : LS} {vh vr : Value} (h : Lg b0 w b s vh vr) (i : Nat) : w.frozen? ⟨b, i, none⟩ = false := blk_frozen h.blk i
theorem counts_calls {b0 b : Nat} {w : World} {s : LS} {vh vr : Value} (h : Lg b0 w b s vh vr) : Calls Try.prog 39 #[.pointer (some ⟨b, 0, none⟩)] w fun e w' => e = .returned (.tuple #[.int .i64 s.ad, .int .i64 s.tk, .int .i64 s.rf]) ∧ ∃ m, w' = w.drewN m := by
  obtain ⟨h0, h1, h2, h3, h4, h5, h6⟩ := h.cells
  clear h
  go_enter Try.func39, Try.ntmps39
  go_wp2
  go_quiet (fail)
  go_wp2
  go_ret3
  exact ⟨rfl, _, rfl⟩
theorem half_calls {b0 b : Nat} {w : World} {s : LS} {vh vr : Value} (h : Lg b0 w b s vh vr) (hl : s.h.length ≤ 100000) : Calls Try.prog 41 #[.pointer (some ⟨b, 0, none⟩)] w fun e w' => ∃ v, e = .returned v ∧ Sl w.heap.size w' v s.h ∧ Below w.heap.size w w' := by
  obtain ⟨h0, h1, h2, h3, h4, h5, h6⟩ := h.cells
  have HC := Aside0.mk (clone_calls h.hs hl)
  clear h hl
  go_enter Try.func41, Try.ntmps41
  go_wp2_with (go_at_call 83; refine HC.out.mono ?_; rintro e w2 ⟨v2, rfl, hS, hB⟩; have HS := Aside0.mk hS; have HB := Aside0.mk hB; clear hS hB)
  go_ret
  exact ⟨_, rfl, HS.out, HB.out⟩
theorem waiting_calls {b0 b : Nat} {w : World} {s : LS} {vh vr : Value} (h : Lg b0 w b s vh vr) (hl : s.r.length ≤ 100000) : Calls Try.prog 43 #[.pointer (some ⟨b, 0, none⟩)] w fun e w' => ∃ v, e = .returned v ∧ Sl w.heap.size w' v s.r ∧ Below w.heap.size w w' := by
  obtain ⟨h0, h1, h2, h3, h4, h5, h6⟩ := h.cells
  have HC := Aside0.mk (clone_calls h.rs hl)
  clear h hl
  go_enter Try.func43, Try.ntmps43
  go_wp2_with (go_at_call 83; refine HC.out.mono ?_; rintro e w2 ⟨v2, rfl, hS, hB⟩; have HS := Aside0.mk hS; have HB := Aside0.mk hB; clear hS hB)
  go_ret
  exact ⟨_, rfl, HS.out, HB.out⟩
theorem take_none {b0 b : Nat} {w : World} {s : LS} {vh vr : Value} (h : Lg b0 w b s vh vr) (hr : s.r = []) : Calls Try.prog 37 #[.pointer (some ⟨b, 0, none⟩)] w fun e w' => e = .returned (.tuple #[.int .i64 0, .bool false]) ∧ w = w' := by
  obtain ⟨h0, h1, h2, h3, h4, h5, h6⟩ := h.cells
  obtain ⟨A1, c1, A2, c2, rfl, rfl⟩ := h.shapes
  rw [hr] at h3
  clear h hr
  go_enter Try.func37, Try.ntmps37
  go_wp2
  go_ret2
  exact ⟨rfl, rfl⟩
theorem new_good (m0 m1 : Int) (w : World) (h0 : 1 ≤ m0) (h1 : 1 ≤ m1) (h2 : m0 ≤ 128) (h3 : m1 ≤ 128) : Calls Try.prog 29 #[.int .i64 m0, .int .i64 m1] w fun e w' => ∃ b, e = .returned (.tuple #[.pointer (some ⟨b, 0, none⟩), .int .i64 0]) ∧ Lg w.heap.size w' b ⟨m0, m1, [], [], 0, 0, 0⟩ (.slice none 0 0) (.slice none 0 0) ∧ Below w.heap.size w w' := by
  obtain ⟨mn, hmn⟩ : ∃ mn, min m0 m1 = mn := ⟨_, rfl⟩
  obtain ⟨mx, hmx⟩ : ∃ mx, max m0 m1 = mx := ⟨_, rfl⟩
  have c0 : decide (mn < 1) = false := decide_eq_false (by omega)
  have c1 : decide (128 < mx) = false := decide_eq_false (by omega)
  clear h0 h1 h2 h3
  go_enter Try.func29, Try.ntmps29
  go_wp2
  go_ret2
  exact ⟨_, rfl, ⟨blk_new _ _, Nat.le_refl _, Sl.nil _ _, Sl.nil _ _, fun k hk => by cases hk⟩, (Below.refl _ _).alloc (Nat.le_refl _) _⟩
end Go.Proofs.Ytimgfdkndlbfbaa.HBk
