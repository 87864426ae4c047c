/- pool's reference: rows of buffers (number, size), read and appended. Conditions: each theorem's own. -/
import Derived.Test.YtfmfpofbefgbgaaHPoolA
import Derived.Laws.OwnMore
namespace Go.Proofs.Ytfmfpofbefgbgaa.HPoolR
open Go.RowKit Go.Proofs.YtfmfpofbefgbgaaW.PrintWords Go.Proofs.YtfmfpofbefgbgaaW.PrintLast Go.Proofs.YtfmfpofbefgbgaaW.PrintMore Go.Proofs.Ytfmfpofbefgbgaa.HPoolS Go.Proofs.Ytfmfpofbefgbgaa.HPool Go.Proofs.Ytfmfpofbefgbgaa.PPoolL Go.Proofs.Ytfmfpofbefgbgaa.HReg
set_option linter.unusedVariables false
set_option linter.unusedSimpArgs false
set_option linter.unusedSectionVars false
theorem info105 : (Try.prog.info? 105).map (fun i => (i.zero.map (·.cells.size), i.size, i.bytes)) = some (some 2, 2, 16) := by kernel_rfl
/-- A row of buffers that is read: its block stays. -/
def Rb (w : World) (v : Value) (l : List Bu) : Prop :=
  (v = .slice none 0 0 ∧ l = []) ∨ ∃ (g o cap : Nat) (cur : Array Value), v = .slice (some ⟨g, o, none⟩) l.length cap ∧ w.heap[g]? = some (.cells cur 105 (0, 0)) ∧ l.length ≤ cap ∧ cap ≤ maxLen ∧ ∀ j, j < l.length → cur[o + j * 2]? = some (.int .i64 (l.getD j (0, 0)).1) ∧ cur[o + j * 2 + 1]? = some (.int .i64 (l.getD j (0, 0)).2)
section
variable {b0 : Nat} {w w' : World} {v : Value} {l : List Bu}
theorem Rb.nil (w : World) : Rb w (.slice none 0 0) [] := .inl ⟨rfl, rfl⟩
theorem Rb.shape (h : Rb w v l) : ∃ A c, v = .slice A l.length c ∧ l.length ≤ c ∧ l.length ≤ maxLen := by
  obtain ⟨rfl, rfl⟩ | ⟨g, o, cap, cur, rfl, hh, h1, h2, -⟩ := h
  · exact ⟨none, 0, rfl, Nat.le_refl _, by decide⟩
  · exact ⟨_, _, rfl, h1, Nat.le_trans h1 h2⟩
theorem Rb.one (h : Rb w v l) : v.oneCell' = true := by
  obtain ⟨A, c, rfl, -⟩ := h.shape
  rfl
theorem Rb.keep (h : Rb w v l) (hk : ∀ (k : Nat) (cs : Array Value), w.heap[k]? = some (.cells cs 105 (0, 0)) → w'.heap[k]? = w.heap[k]?) : Rb w' v l := by
  obtain e | ⟨g, o, cap, cur, e, hh, hr⟩ := h
  · exact .inl e
  · exact .inr ⟨g, o, cap, cur, e, (hk g cur hh).trans hh, hr⟩
theorem Rb.below (h : Rb w v l) (hb : Below w.heap.size w w') : Rb w' v l := h.keep fun k cs hc => hb.block k (blk_lt hc)
theorem Rb.kq (h : Rb w v l) (hb : Kq w w') : Rb w' v l := h.keep fun k cs hc => (hb.old k cs 105 hc (by decide) (by decide)).trans hc.symm
theorem Rb.get {A : Option Addr} {n c : Nat} (h : Rb w (.slice A n c) l) {j : Nat} (hj : j < l.length) : ∃ ad, A = some ad ∧ w.cell? (ad.add (j * 2)) = some (.int .i64 (l.getD j (0, 0)).1) ∧ w.cell? ⟨(ad.add (j * 2)).block, (ad.add (j * 2)).off + 1, none⟩ = some (.int .i64 (l.getD j (0, 0)).2) := by
  obtain ⟨e, rfl⟩ | ⟨g, o, cap, cur, e, hh, hn, hc, hj2⟩ := h
  · exact absurd hj (Nat.not_lt_zero _)
  · injection e with e1 e2 e3
    subst e1
    obtain ⟨f0, f1⟩ := hj2 j hj
    refine ⟨_, rfl, ?_, ?_⟩
    · rw [Addr.add_lit, blk_cell hh, f0]
    · rw [Addr.add_lit]
      show w.cell? ⟨g, o + j * 2 + 1, none⟩ = _
      rw [blk_cell hh, f1]
/-- Cut from its k-th on, and up to it. -/
theorem Rb.from (h : Rb w v l) (k : Nat) (hk : k ≤ l.length) : ∃ v', (∀ (kk : IntKind) (W : World), (Instr.slice 89 v (some (.int kk (k : Int))) none none).run Try.prog W = .ok v' W) ∧ Rb w v' (l.drop k) := by
  cases hi : Try.prog.info? 105 with
  | none => have := info105; rw [hi] at this; cases this
  | some i =>
    have hz := info105
    rw [hi] at hz
    simp only [Option.map_some, Option.some.injEq, Prod.mk.injEq] at hz
    obtain ⟨A, c, rfl, hle, hm⟩ := h.shape
    refine ⟨_, fun kk W => by have := cut_from (P := Try.prog) 89 105 kk Try.underlying89 hi 2 hz.2.1 A l.length c (k : Int) (by omega) (by omega) W; rw [Int.toNat_natCast] at this; exact this, ?_⟩
    obtain ⟨e, rfl⟩ | ⟨g, o, cap, cur, e, hh, hn, hc, hj⟩ := h
    · injection e with e1 e2 e3
      subst e1; subst e3
      obtain rfl : k = 0 := Nat.le_zero.1 hk
      exact .inl ⟨rfl, rfl⟩
    · injection e with e1 e2 e3
      subst e1; subst e3
      have hd : (l.drop k).length = l.length - k := List.length_drop
      by_cases hck : c = k
      · have hl0 : l.drop k = [] := List.eq_nil_of_length_eq_zero (by omega)
        rw [if_pos hck]
        refine .inr ⟨g, o, c - k, cur, by rw [hd], hh, by omega, by omega, fun j hj2 => ?_⟩
        rw [hl0] at hj2
        exact absurd hj2 (Nat.not_lt_zero _)
      · rw [if_neg hck]
        refine .inr ⟨g, o + k * 2, c - k, cur, by rw [hd, Option.map_some, Addr.add_lit], hh, by omega, by omega, fun j hj2 => ?_⟩
        have := hj (k + j) (by omega)
        rw [show o + k * 2 + j * 2 = o + (k + j) * 2 by omega]
        rw [show (l.drop k).getD j (0, 0) = l.getD (k + j) (0, 0) by rw [List.getD_eq_getElem?_getD, List.getD_eq_getElem?_getD, List.getElem?_drop]]
        exact this
theorem Rb.upto (h : Rb w v l) (k : Nat) (hk : k ≤ l.length) : ∃ v', (∀ (kk : IntKind) (W : World), (Instr.slice 89 v none (some (.int kk (k : Int))) none).run Try.prog W = .ok v' W) ∧ Rb w v' (l.take k) := by
  cases hi : Try.prog.info? 105 with
  | none => have := info105; rw [hi] at this; cases this
  | some i =>
    obtain ⟨A, c, rfl, hle, hm⟩ := h.shape
    refine ⟨_, fun kk W => by have := cut_to (P := Try.prog) 89 105 kk Try.underlying89 hi A l.length c (k : Int) (by omega) (by omega) hle W; rw [Int.toNat_natCast] at this; exact this, ?_⟩
    have hd : (l.take k).length = k := by rw [List.length_take]; omega
    obtain ⟨e, rfl⟩ | ⟨g, o, cap, cur, e, hh, hn, hc, hj⟩ := h
    · injection e with e1 e2 e3
      subst e1; subst e3
      obtain rfl : k = 0 := Nat.le_zero.1 hk
      exact .inl ⟨rfl, rfl⟩
    · injection e with e1 e2 e3
      subst e1; subst e3
      refine .inr ⟨g, o, c, cur, by rw [hd], hh, by omega, hc, fun j hj2 => ?_⟩
      have := hj j (by omega)
      rw [show (l.take k).getD j (0, 0) = l.getD j (0, 0) by rw [List.getD_eq_getElem?_getD, List.getD_eq_getElem?_getD, List.getElem?_take, if_pos (by omega)]]
      exact this
/-- A row of the call's own. -/
def Ob (b0 : Nat) (w : World) (v : Value) (l : List Bu) : Prop := w.ownsRow b0 105 2 v l.length (flat l)
theorem Ob.lit (w : World) : Ob w.heap.size (w.alloc (.cells #[] 105)) (.slice (some ⟨w.heap.size, 0, none⟩) 0 0) [] := ⟨rfl, .inr ⟨_, 0, #[], rfl, Nat.le_refl _, blk_new w _, Nat.le_refl _, Nat.zero_le _, rfl, rfl⟩⟩
theorem Ob.reads (h : Ob b0 w v l) : Rb w v l := by
  obtain ⟨-, ⟨e, h0⟩ | ⟨g, cap, cur, e, hb, hh, hn, hc, hs, ht⟩⟩ := h
  · exact .inl ⟨e, List.eq_nil_of_length_eq_zero h0⟩
  · have hg : ∀ i, i < l.length * 2 → cur[i]? = (flat l)[i]? := fun i hi => by
      rw [← ht, List.getElem?_take, if_pos hi]
      simp
    refine .inr ⟨g, 0, cap, cur, e, hh, hn, hc, fun j hj => ?_⟩
    obtain ⟨f0, f1⟩ := flat_get l j hj
    rw [Nat.zero_add]
    exact ⟨(hg _ (by omega)).trans f0, (hg _ (by omega)).trans f1⟩
theorem Ob.mono {b1 : Nat} (h : Ob b0 w v l) (hb : b1 ≤ b0) : Ob b1 w v l := by
  obtain ⟨h1, h2 | ⟨g, cap, cur, e, hg, hr⟩⟩ := h
  · exact ⟨h1, .inl h2⟩
  · exact ⟨h1, .inr ⟨g, cap, cur, e, Nat.le_trans hb hg, hr⟩⟩
theorem Ob.low (h : Ob b0 w v l) : ∀ k, v.ownBlock = some k → b0 ≤ k := by
  obtain ⟨-, ⟨rfl, -⟩ | ⟨g, cap, cur, rfl, hb, hh, -⟩⟩ := h
  · intro k hk; cases hk
  · intro k hk
    have : g = k := by simpa [Value.ownBlock] using hk
    omega
theorem Ob.keep (h : Ob b0 w v l) (hk : ∀ k cs, v.ownBlock = some k → w.heap[k]? = some (.cells cs 105 (0, 0)) → w'.heap[k]? = w.heap[k]?) : Ob b0 w' v l := own_move h (fun k hk2 => by
  obtain ⟨cs, hc⟩ := own_typed h k hk2
  exact hk k cs hk2 hc)
theorem Ob.below (h : Ob b0 w v l) (hb : Below w.heap.size w w') : Ob b0 w' v l := h.keep fun k cs _ hc => hb.block k (blk_lt hc)
theorem Ob.shape (h : Ob b0 w v l) : ∃ A c, v = .slice A l.length c := by
  obtain ⟨-, ⟨rfl, h0⟩ | ⟨g, cap, cur, rfl, -⟩⟩ := h
  · exact ⟨none, 0, by rw [h0]⟩
  · exact ⟨_, _, rfl⟩
theorem flat_app (l m : List Bu) : flat (l ++ m) = flat l ++ flat m := by unfold flat; rw [List.flatMap_append]
/-- A row behind a row of the call's own. -/
theorem Ob.append {vx : Value} {m : List Bu} (h : Ob b0 w v l) (hx : Rb w vx m) (hb : b0 ≤ w.heap.size) (hl : l.length + m.length ≤ 100000) (ty : TypeId) :
    ∃ v' w', (Builtin.append_ #[89, 89] ty #[v, vx]).run Try.prog w = .ok v' w' ∧ Ob b0 w' v' (l ++ m) ∧ w.grownBy w' v.ownBlock := by
  cases hi : Try.prog.info? 105 with
  | none => have := info105; rw [hi] at this; cases this
  | some i =>
    have hz := info105
    rw [hi] at hz
    simp only [Option.map_some, Option.some.injEq, Prod.mk.injEq] at hz
    obtain ⟨hz0, hz1, hz2⟩ := hz
    obtain ⟨z, hz3, hz4⟩ := Option.map_eq_some_iff.1 hz0
    have fin : ∀ v' w', w'.ownsRow b0 105 2 v' (l.length + m.length) (flat l ++ flat m) → Ob b0 w' v' (l ++ m) := fun v' w' ho => by
      show w'.ownsRow b0 105 2 v' (l ++ m).length (flat (l ++ m))
      rw [flat_app, List.length_append]
      exact ho
    obtain ⟨rfl, rfl⟩ | ⟨g, o, cap, cur, rfl, hh, hn, hc, hj⟩ := hx
    · exact ⟨v, w, run_append_owned_none (P := Try.prog) (w := w) b0 89 ty 105 i 2 Try.underlying89 hi v l.length (flat l) h, by rw [List.append_nil]; exact h, grown_refl _ _⟩
    · obtain ⟨v', w', hr, ho, hg, -⟩ := run_append_own (P := Try.prog) w b0 89 ty 105 i z 2 16 Try.underlying89 hi hz3 hz1 hz2 hz4 (by decide) v l.length (flat l) h ⟨g, o, none⟩ m.length cap (flat m) (flat_len m)
        (fun j u hu => by
          have hjl : j < m.length * 2 := by have := (List.getElem?_eq_some_iff.1 hu).1; rw [flat_len] at this; exact this
          obtain ⟨f0, f1⟩ := flat_get m (j / 2) (by omega)
          obtain ⟨g0, g1⟩ := hj (j / 2) (by omega)
          rw [Addr.add_lit, blk_cell hh]
          rcases Nat.mod_two_eq_zero_or_one j with e | e
          · have e2 : j = j / 2 * 2 := by omega
            rw [e2] at hu ⊢
            rw [f0] at hu
            rw [g0, ← hu]
          · have e2 : j = j / 2 * 2 + 1 := by omega
            rw [e2] at hu ⊢
            rw [f1] at hu
            rw [← Nat.add_assoc, g1, ← hu])
        (fun u hu => by
          unfold flat at hu
          obtain ⟨p, -, hp⟩ := List.mem_flatMap.1 hu
          rcases List.mem_cons.1 hp with e | e
          · rw [e]; rfl
          · rw [List.mem_singleton.1 e]; rfl) (by simp only [maxLen]; omega) (by omega) hb
      exact ⟨v', w', hr, fin _ _ ho, hg⟩
end
end Go.Proofs.Ytfmfpofbefgbgaa.HPoolR
