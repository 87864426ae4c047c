/- Slices of whole numbers (type 102) of the call's own, cut at the front or not: HBk's Sl for r4. Conditions: each theorem's own. -/
import Derived.Test.YtfmfpofbefgbgaaHExt

import Derived.ArgAppend
import Derived.WalkSpells
import Derived.WalkLawsBesides
import Derived.Outline
import Derived.StillTailTactics
namespace Go.Proofs.Ytfmfpofbefgbgaa.HSl
open Go.RowKit Go.Proofs.YtfmfpofbefgbgaaW.PrintWords Go.Proofs.YtfmfpofbefgbgaaW.PrintLast Go.Proofs.YtfmfpofbefgbgaaW.PrintMore Go.Proofs.Ytfmfpofbefgbgaa.HExt
set_option linter.unusedVariables false
set_option linter.unusedSimpArgs false
theorem wid (n : Int) (h0 : -4611686018427387904 ≤ n) (h1 : n ≤ 4611686018427387904) : IntKind.i64.wrap n = n := by simp [IntKind.wrap, IntKind.bits, IntKind.signed]; omega
def num : Value → Nat
  | .int _ n => n.toNat
  | _ => 0
theorem info3 : (Try.prog.info? 3).map (fun i => (i.zero, i.size, i.bytes)) = some (some (.int .i64 0), 1, 8) := by kernel_rfl
/-- A slice of whole numbers in a block from b0 on; it may begin behind the block's first cell. -/
def Sl (b0 : Nat) (w : World) (v : Value) (xs : List Int) : Prop :=
  (v = .slice none 0 0 ∧ xs = []) ∨ ∃ (g o cap : Nat) (cur : Array Value), v = .slice (some ⟨g, o, none⟩) xs.length cap ∧ b0 ≤ g ∧ w.heap[g]? = some (.cells cur 3 (0, 0)) ∧ xs.length ≤ cap ∧ cap ≤ maxLen ∧ o + cap ≤ cur.size ∧ ∀ j, j < xs.length → cur[o + j]? = some (.int .i64 (xs.getD j 0))
theorem Sl.nil (b0 : Nat) (w : World) : Sl b0 w (.slice none 0 0) [] := .inl ⟨rfl, rfl⟩
theorem Sl.shape {b0 : Nat} {w : World} {v : Value} {xs : List Int} (h : Sl b0 w v xs) : ∃ A c, v = .slice A xs.length c ∧ xs.length ≤ c ∧ xs.length ≤ maxLen := by
  obtain ⟨e, e2⟩ | ⟨g, o, cap, cur, e, hg, hh, hn, hm, hs, hj⟩ := h
  · subst e2
    exact ⟨none, 0, e, Nat.le_refl _, by decide⟩
  · exact ⟨_, cap, e, hn, Nat.le_trans hn hm⟩
theorem Sl.reads {b0 : Nat} {w : World} {A : Option Addr} {n c : Nat} {xs : List Int} (h : Sl b0 w (.slice A n c) xs) : Kd.C (Kd.int .i64) w A xs.length xs := by
  obtain ⟨e, e2⟩ | ⟨g, o, cap, cur, e, hg, hh, hn, hm, hs, hj⟩ := h
  · subst e2
    injection e with e
    subst e
    exact Kd.C_nil _ _
  · injection e with e
    subst e
    refine Kd.C_of_reads (d := (0 : Int)) (h1 := fun _ => rfl) ⟨rfl, Nat.le_trans hn hm, fun _ => ⟨_, rfl, fun j hjl => ?_⟩⟩
    rw [Addr.add_lit]
    exact (blk_cell hh _).trans (hj j hjl)
theorem Sl.keep {b0 : Nat} {w w' : World} {v : Value} {xs : List Int} (h : Sl b0 w v xs) (hk : ∀ k, v.ownBlock = some k → k < w.heap.size → w'.heap[k]? = w.heap[k]?) : Sl b0 w' v xs := by
  obtain e | ⟨g, o, cap, cur, e, hg, hh, hr⟩ := h
  · exact .inl e
  · exact .inr ⟨g, o, cap, cur, e, hg, (hk g (by rw [e]; rfl) (blk_lt hh)).trans hh, hr⟩
theorem Sl.below {b0 : Nat} {w w' : World} {v : Value} {xs : List Int} (h : Sl b0 w v xs) (hb : Below w.heap.size w w') : Sl b0 w' v xs := h.keep fun k _ hk => hb.block k hk
theorem Sl.grown {b0 : Nat} {w w' : World} {v : Value} {xs : List Int} {o : Option Nat} (h : Sl b0 w v xs) (hb : w.grownBy w' o) (hne : ∀ k, v.ownBlock = some k → some k ≠ o) : Sl b0 w' v xs := h.keep fun k hv hk => hb.block k hk (hne k hv)
theorem Sl.put {b0 g i : Nat} {w : World} {v u : Value} {xs : List Int} {t : TypeId} {cs : Array Value} (h : Sl b0 w v xs) (hg : w.heap[g]? = some (.cells cs t (0, 0))) (ht : t ≠ 3) : Sl b0 (w.setCell ⟨g, i, none⟩ u) v xs := by
  obtain e | ⟨g', o, cap, cur, e, hg', hh, hr⟩ := h
  · exact .inl e
  · exact .inr ⟨g', o, cap, cur, e, hg', blk_far hh (blk_ne hh hg (Ne.symm ht)) _, hr⟩
theorem Sl.mono {b0 b1 : Nat} {w : World} {v : Value} {xs : List Int} (h : Sl b0 w v xs) (hb : b1 ≤ b0) : Sl b1 w v xs := by
  obtain e | ⟨g, o, cap, cur, e, hg, hr⟩ := h
  · exact .inl e
  · exact .inr ⟨g, o, cap, cur, e, Nat.le_trans hb hg, hr⟩
theorem Sl.of_R {b0 base : Nat} {w : World} {v : Value} {ok : Nat → Prop} {xs : List Int} (h : Kd.R (Kd.int .i64) 3 w base ok v xs) (hb : b0 ≤ base) : Sl b0 w v xs := by
  have ho := Kd.own_of_R (enc := Value.int .i64) (h1 := fun _ => rfl) h
  obtain ⟨_, ⟨e, en⟩ | ⟨g, cap, cur, e, hg, hh, hn, hc, hs, ht⟩⟩ := ho
  · exact .inl ⟨e, List.eq_nil_of_length_eq_zero en⟩
  · refine .inr ⟨g, 0, cap, cur, e, Nat.le_trans hb hg, hh, hn, hc, by omega, fun j hj => ?_⟩
    have h2 := congrArg (fun l => l[j]?) ht
    simp only [Nat.mul_one, List.getElem?_take, if_pos hj] at h2
    rw [encs_get (d := 0) xs j hj] at h2
    rw [Nat.zero_add]
    simpa using h2
/-- Cut behind its first number. -/
theorem Sl.tail {b0 : Nat} {w : World} {A : Option Addr} {n c : Nat} {x : Int} {xs : List Int} (h : Sl b0 w (.slice A n c) (x :: xs)) : ∃ v, (∀ W : World, (Instr.slice 102 (.slice A n c) (some (.int .i64 1)) none none).run Try.prog W = .ok v W) ∧ Sl b0 w v xs ∧ (∀ k, v.ownBlock = some k → (Value.slice A n c).ownBlock = some k) := by
  obtain ⟨e, e2⟩ | ⟨g, o, cap, cur, e, hg, hh, hn, hm, hs, hj⟩ := h
  · cases e2
  · simp only [List.length_cons] at hn hj
    simp only [Value.slice.injEq, List.length_cons] at e
    obtain ⟨rfl, rfl, rfl⟩ := e
    obtain ⟨i, hi, hz0, hz1, hz2⟩ := info_parts info3
    refine ⟨_, cut_from (P := Try.prog) 102 3 .i64 Try.underlying102 hi 1 hz1 (some ⟨g, o, none⟩) (xs.length + 1) c 1 (by omega) (by omega), ?_, ?_⟩
    · show Sl b0 w (.slice (if c = 1 then _ else _) (xs.length + 1 - 1) (c - 1)) xs
      rw [Nat.add_sub_cancel]
      by_cases h1 : c = 1
      · rw [if_pos h1]
        have : xs = [] := List.eq_nil_of_length_eq_zero (by omega)
        subst this
        exact .inr ⟨g, o, c - 1, cur, rfl, hg, hh, Nat.zero_le _, by omega, by omega, fun j h => absurd h (Nat.not_lt_zero _)⟩
      · rw [if_neg h1]
        refine .inr ⟨g, o + 1, c - 1, cur, ?_, hg, hh, by omega, by omega, by omega, fun j hjl => ?_⟩
        · rw [Option.map_some, Nat.mul_one]
          congr 1
        · have := hj (j + 1) (by omega)
          rw [show o + 1 + j = o + (j + 1) by omega]
          simpa using this
    · intro k hk
      split at hk
      · exact hk
      · rw [Option.map_some] at hk
        unfold Addr.add at hk
        split at hk <;> simpa [Value.ownBlock] using hk
/-- One more number behind it. -/
theorem Sl.append1 {b0 : Nat} {w : World} {v : Value} {xs : List Int} (h : Sl b0 w v xs) (hb : b0 ≤ w.heap.size) (hl : xs.length ≤ 100000) (g1 : Nat) (x : Int) (hx : w.cell? ⟨g1, 0, none⟩ = some (.int .i64 x)) (ty : TypeId) :
    ∃ v' w', (Builtin.append_ #[102, 102] ty #[v, .slice (some ⟨g1, 0, none⟩) 1 1]).run Try.prog w = .ok v' w' ∧ Sl b0 w' v' (xs ++ [x]) ∧ w.grownBy w' v.ownBlock ∧ (v'.ownBlock = v.ownBlock ∨ ∃ k, v'.ownBlock = some k ∧ w.heap.size ≤ k) := by
  obtain ⟨i, hi, hz0, hz1, hz2⟩ := info_parts info3
  have hnews : ∀ j u, ([Value.int .i64 x] : List Value)[j]? = some u → w.cell? ((⟨g1, 0, none⟩ : Addr).add j) = some u := by
    intro j u hj
    match j, hj with
    | 0, hj => rw [add_plain, hx]; simpa using hj
  have hsl : ∀ (base n : Nat) (v' : Value) (w' : World), w'.ownsRow base 3 1 v' n (encs (Value.int .i64) (xs ++ [x])) → n = (xs ++ [x]).length → b0 ≤ base → Sl b0 w' v' (xs ++ [x]) := fun base n v' w' ho hn hle => by
    subst hn
    exact Sl.of_R (Kd.R_of_own (enc := Value.int .i64) (h1 := fun _ => rfl) ho (ok := fun _ => True) (fun _ _ => trivial)) hle
  obtain ⟨rfl, rfl⟩ | ⟨g, o, cap, cur, rfl, hg, hh, hn, hm, hs, hj⟩ := h
  · have hr := run_append_nil (P := Try.prog) w 102 ty 3 i (.int .i64 0) Try.underlying102 hi hz0 ⟨g1, 0, none⟩ 1 1 [.int .i64 x] (by rw [hz1]; rfl) hnews (by omega) (by omega) (by rw [hz2]; omega)
    have hge := grownCap_ge w 1 0 3
    have hcm : grownCap w 1 0 3 ≤ maxLen := grownCap_le_maxLen w 1 0 3 (by simp only [maxLen]; omega)
    refine ⟨_, _, hr, ?_, ⟨rfl, rfl, rfl, by simp, fun k hk _ => heap_alloc_old w.drew _ hk⟩, .inr ⟨w.heap.size, rfl, Nat.le_refl _⟩⟩
    refine .inr ⟨w.heap.size, 0, _, _, rfl, hb, heap_alloc_new w.drew _, hge, hcm, ?_, fun j hjl => ?_⟩
    · have hs : (Value.int IntKind.i64 0).cells.size = 1 := rfl
      rw [Array.size_append, size_zeroCells, hs]
      simp
      omega
    · match j, hjl with
      | 0, _ => rw [Nat.zero_add, Array.getElem?_append_left (by simp)]; rfl
  · by_cases hroom : xs.length + 1 ≤ cap
    · have hlt : o + xs.length < cur.size := by omega
      have hr := run_append_room_cells (P := Try.prog) w 102 ty 3 i Try.underlying102 hi g o xs.length cap ⟨g1, 0, none⟩ 1 1 [.int .i64 x] (by rw [hz1]; rfl) hnews (fun u hu => by rw [List.mem_singleton.1 hu]; rfl) hroom
        (fun j hj => by
          obtain rfl : j = 0 := by simpa using hj
          rw [blk_cell hh, hz1]
          simp [hlt]) (fun j hj => blk_frozen hh _)
      refine ⟨_, _, hr, ?_, ?_, .inl rfl⟩
      · show Sl b0 (w.setCell ⟨g, o + xs.length * i.size, none⟩ (.int .i64 x)) _ _
        rw [hz1, Nat.mul_one]
        refine .inr ⟨g, o, cap, _, by rw [List.length_append]; rfl, hg, blk_set hh _ _, by simpa using hroom, hm, by simpa using hs, fun j hjl => ?_⟩
        rw [Array.getElem?_setIfInBounds]
        by_cases e : j = xs.length
        · subst e
          rw [if_pos rfl, if_pos hlt]
          simp
        · rw [if_neg (by omega), hj j (by simp at hjl; omega)]
          have : j < xs.length := by simp at hjl; omega
          simp [List.getD_eq_getElem?_getD, List.getElem?_append_left this]
      · show w.grownBy (w.setCell ⟨g, o + xs.length * i.size, none⟩ (.int .i64 x)) (some g)
        exact ⟨rfl, rfl, rfl, by simp [World.setCell], fun k hk hne => Below.heap_setCell w _ _ k (fun e => hne (by rw [e]))⟩
    · have hc : xs.length = cap := by omega
      obtain ⟨v', w', hr, ho, hg'⟩ := run_append_arg_grows (P := Try.prog) w 102 ty 3 i (.int .i64 0) 1 8 Try.underlying102 hi hz0 hz1 hz2 rfl (by omega) ⟨g, o, none⟩ xs.length cap (encs (Value.int .i64) xs) (by simp [encs])
        (fun j u hu => by
          have hjl : j < xs.length := by have := (List.getElem?_eq_some_iff.1 hu).1; simpa [encs] using this
          rw [encs_get (d := 0) xs j hjl] at hu
          rw [Addr.add_lit, blk_cell hh, hj j hjl]
          exact hu) ⟨g1, 0, none⟩ 1 1 [.int .i64 x] rfl hnews (by omega) (by simp only [maxLen]; omega) (by omega)
      rw [show encs (Value.int IntKind.i64) xs ++ [Value.int IntKind.i64 x] = encs (Value.int .i64) (xs ++ [x]) by simp [encs]] at ho
      have hsl' := hsl _ _ _ _ ho (by simp) hb
      refine ⟨v', w', hr, hsl', ⟨hg'.os, hg'.tape, hg'.output, hg'.size, fun k hk _ => hg'.block k hk (by simp)⟩, .inr ?_⟩
      obtain ⟨_, ⟨e, en⟩ | ⟨g', cap', cur', e, hge, _⟩⟩ := ho
      · omega
      · exact ⟨g', by rw [e]; rfl, hge⟩
end Go.Proofs.Ytfmfpofbefgbgaa.HSl
