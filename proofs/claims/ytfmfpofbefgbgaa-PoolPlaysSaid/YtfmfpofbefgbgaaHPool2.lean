/- pool: what a pool answers where of() tells an error; New. Conditions: each theorem's own. -/
import Derived.Test.YtfmfpofbefgbgaaHPool
namespace Go.Proofs.Ytfmfpofbefgbgaa.HPool
open Go.RowKit Go.Proofs.YtfmfpofbefgbgaaW.PrintWords Go.Proofs.YtfmfpofbefgbgaaW.PrintLast Go.Proofs.YtfmfpofbefgbgaaW.PrintMore Go.Proofs.Ytfmfpofbefgbgaa.HMap Go.Proofs.Ytfmfpofbefgbgaa.HSl Go.Maps Go.ChangeMaps Go.MapKept
set_option linter.unusedVariables false
set_option linter.unusedSimpArgs false
set_option linter.unusedSectionVars false
theorem code_calls (n : Int) (w : World) : Calls Try.prog 32 #[.int .i64 n] w fun e w' => e = .returned (.int .i64 n) ∧ w = w' := by
  go_enter Try.func32, Try.ntmps32
  go_wp2
  go_ret
  exact ⟨rfl, rfl⟩
theorem take_bad {p : Value} {n cd : Int} (hof : ∀ w, Calls Try.prog 65 #[p, .int .i64 n] w fun e w' => e = .returned (.tuple #[.pointer none, .int .i64 cd]) ∧ w = w') (hc : cd ≠ 0) (w : World) : Calls Try.prog 31 #[p, .int .i64 n] w fun e w' => e = .returned (.tuple #[.int .i64 0, .int .i64 0, .int .i64 cd]) ∧ w = w' := by
  have c1 : (cd != 0) = true := bne_iff_ne.2 hc
  have HC := Aside0.mk hof
  clear hc hof
  go_enter Try.func31, Try.ntmps31
  go_wp2_with (go_at_call 65; refine (HC.out _).mono ?_; rintro e w1 ⟨rfl, rfl⟩)
  go_ret3
  exact ⟨rfl, rfl⟩
theorem give_bad {p : Value} {n cd : Int} (hof : ∀ w, Calls Try.prog 65 #[p, .int .i64 n] w fun e w' => e = .returned (.tuple #[.pointer none, .int .i64 cd]) ∧ w = w') (hc : cd ≠ 0) (x : Int) (w : World) : Calls Try.prog 33 #[p, .int .i64 n, .int .i64 x] w fun e w' => e = .returned (.int .i64 cd) ∧ w = w' := by
  have c1 : (cd != 0) = true := bne_iff_ne.2 hc
  have HC := Aside0.mk hof
  clear hc hof
  go_enter Try.func33, Try.ntmps33
  go_wp2_with (go_at_call 65; refine (HC.out _).mono ?_; rintro e w1 ⟨rfl, rfl⟩)
  go_ret
  exact ⟨rfl, rfl⟩
theorem remove_bad {p : Value} {n cd : Int} (hof : ∀ w, Calls Try.prog 65 #[p, .int .i64 n] w fun e w' => e = .returned (.tuple #[.pointer none, .int .i64 cd]) ∧ w = w') (hc : cd ≠ 0) (x : Int) (w : World) : Calls Try.prog 34 #[p, .int .i64 n, .int .i64 x] w fun e w' => e = .returned (.tuple #[.int .i64 0, .int .i64 cd]) ∧ w = w' := by
  have c1 : (cd != 0) = true := bne_iff_ne.2 hc
  have HC := Aside0.mk hof
  clear hc hof
  go_enter Try.func34, Try.ntmps34
  go_wp2_with (go_at_call 65; refine (HC.out _).mono ?_; rintro e w1 ⟨rfl, rfl⟩)
  go_ret2
  exact ⟨rfl, rfl⟩
theorem state_bad {p : Value} {n cd : Int} (hof : ∀ w, Calls Try.prog 65 #[p, .int .i64 n] w fun e w' => e = .returned (.tuple #[.pointer none, .int .i64 cd]) ∧ w = w') (hc : cd ≠ 0) (x : Int) (w : World) : Calls Try.prog 55 #[p, .int .i64 n, .int .i64 x] w fun e w' => e = .returned (.int .i64 0) ∧ w = w' := by
  have c1 : (cd != 0) = true := bne_iff_ne.2 hc
  have HC := Aside0.mk hof
  clear hc hof
  go_enter Try.func55, Try.ntmps55
  go_wp2_with (go_at_call 65; refine (HC.out _).mono ?_; rintro e w1 ⟨rfl, rfl⟩)
  go_ret
  exact ⟨rfl, rfl⟩
theorem free_bad {p : Value} {n cd : Int} (hof : ∀ w, Calls Try.prog 65 #[p, .int .i64 n] w fun e w' => e = .returned (.tuple #[.pointer none, .int .i64 cd]) ∧ w = w') (hc : cd ≠ 0) (w : World) : Calls Try.prog 57 #[p, .int .i64 n] w fun e w' => e = .returned (.slice none 0 0) ∧ w = w' := by
  have c1 : (cd != 0) = true := bne_iff_ne.2 hc
  have HC := Aside0.mk hof
  clear hc hof
  go_enter Try.func57, Try.ntmps57
  go_wp2_with (go_at_call 65; refine (HC.out _).mono ?_; rintro e w1 ⟨rfl, rfl⟩)
  go_ret
  exact ⟨rfl, rfl⟩
theorem out_bad {p : Value} {n cd : Int} (hof : ∀ w, Calls Try.prog 65 #[p, .int .i64 n] w fun e w' => e = .returned (.tuple #[.pointer none, .int .i64 cd]) ∧ w = w') (hc : cd ≠ 0) (w : World) : Calls Try.prog 58 #[p, .int .i64 n] w fun e w' => e = .returned (.int .i64 0) ∧ w = w' := by
  have c1 : (cd != 0) = true := bne_iff_ne.2 hc
  have HC := Aside0.mk hof
  clear hc hof
  go_enter Try.func58, Try.ntmps58
  go_wp2_with (go_at_call 65; refine (HC.out _).mono ?_; rintro e w1 ⟨rfl, rfl⟩)
  go_ret
  exact ⟨rfl, rfl⟩
theorem provide_bad {p : Value} {n cd : Int} (hof : ∀ w, Calls Try.prog 65 #[p, .int .i64 n] w fun e w' => e = .returned (.tuple #[.pointer none, .int .i64 cd]) ∧ w = w') (hc : cd ≠ 0) (x y z : Int) (w : World) : Calls Try.prog 30 #[p, .int .i64 n, .int .i64 x, .int .i64 y, .int .i64 z] w fun e w' => e = .returned (.int .i64 cd) ∧ w = w' := by
  have c1 : (cd != 0) = true := bne_iff_ne.2 hc
  have HC := Aside0.mk hof
  clear hc hof
  go_enter Try.func30, Try.ntmps30
  go_wp2_with (go_at_call 65; refine (HC.out _).mono ?_; rintro e w1 ⟨rfl, rfl⟩)
  go_ret
  exact ⟨rfl, rfl⟩
/-- New: i groups have their map. -/
structure Nw (w0 w : World) (g0 i : Nat) : Prop where
  blk : ∃ cells : Array Value, w.heap[g0]? = some (.cells cells 121 (0, 0)) ∧ cells.size = 32 ∧ (∀ j, j < i → cells[2 * j]? = some (.map (some (g0 + 1 + j)))) ∧ ∀ j, j < 16 → cells[2 * j + 1]? = some (.slice none 0 0)
  M : ∀ j, j < i → Mf kI vB w (g0 + 1 + j) (fun _ => none) 0
  sz : w.heap.size = g0 + 1 + i
  bl : Below w0.heap.size w0 w
  lo : w0.heap.size ≤ g0
theorem sz_alloc (w : World) (o : Obj) : (w.alloc o).heap.size = w.heap.size + 1 := by simp [World.alloc_eq]
theorem sz_set (w : World) (p : Addr) (v : Value) : (w.setCell p v).heap.size = w.heap.size := by simp [World.setCell]
theorem Nw.step {w0 w : World} {g0 i : Nat} (h : Nw w0 w g0 i) (hi : i < 16) : Nw w0 ((w.alloc (.map #[] 0)).setCell ⟨g0, 2 * i, none⟩ (.map (some w.heap.size))) g0 (i + 1) := by
  obtain ⟨cells, h1, h2, h3, h4⟩ := h.blk
  have hB := below_alloc (Below.refl w.heap.size w) (.map #[] 0)
  have h5 := blk_below h1 hB
  have hs := h.sz
  refine ⟨⟨cells.setIfInBounds (2 * i) (.map (some w.heap.size)), blk_set h5 (2 * i) _, by rw [Array.size_setIfInBounds, h2], fun j hj => ?_, fun j hj => ?_⟩, fun j hj => ?_, ?_, ⟨?_, ?_, ?_, ?_, ?_⟩, h.lo⟩
  · rw [Array.getElem?_setIfInBounds]
    by_cases e : j = i
    · subst e; rw [if_pos rfl, if_pos (by omega), hs]
    · rw [if_neg (by omega)]; exact h3 j (by omega)
  · rw [Array.getElem?_setIfInBounds, if_neg (by omega)]; exact h4 j hj
  · refine Mf.put ?_ h5
    by_cases e : j = i
    · subst e
      have := Mf.made kI vB w
      rw [hs] at this
      exact this
    · exact (h.M j (by omega)).below hB
  · rw [sz_set, sz_alloc]; omega
  · exact h.bl.os
  · exact h.bl.tape
  · exact h.bl.output
  · have := h.bl.size; rw [sz_set, sz_alloc]; omega
  · intro k hk
    have hl := h.lo
    refine (Below.heap_setCell _ _ _ k (by show k ≠ g0; omega)).trans ?_
    exact (hB.block k (by have := h.bl.size; omega)).trans (h.bl.block k hk)
theorem Nw.pb {w0 w : World} {g0 : Nat} (h : Nw w0 w g0 16) : Pb w0.heap.size w g0 (fun j => g0 + 1 + j) (fun _ => .slice none 0 0) (fun _ => ⟨fun _ => none, 0, []⟩) := by
  obtain ⟨cells, h1, h2, h3, h4⟩ := h.blk
  have hl := h.lo
  exact ⟨⟨cells, h1, h2, fun i hi => ⟨h3 i hi, h4 i hi⟩⟩, ⟨hl, fun i hi => by omega⟩, h.M, fun i hi => Sl.nil _ _, fun i j _ _ hn => by omega, fun i j _ _ _ k hk => by simp [Value.ownBlock] at hk⟩
set_option maxRecDepth 100000 in
set_option maxHeartbeats 16000000 in
theorem new_calls (w : World) : Calls Try.prog 29 #[] w fun e w' => ∃ g0, e = .returned (.pointer (some ⟨g0, 0, none⟩)) ∧ Nw w w' g0 16 := by
  have HZ : Aside0 (∀ cells : Array Value, cells = (List.replicate 16 [Value.map none, Value.slice none 0 0]).flatten.toArray → Nw w (w.alloc (.cells cells 121)) w.heap.size 0) := by
    refine ⟨fun cells hc => ⟨⟨cells, blk_new w _, by rw [hc]; rfl, fun j hj => absurd hj (Nat.not_lt_zero _), fun j hj => ?_⟩, fun j hj => absurd hj (Nat.not_lt_zero _), by rw [sz_alloc], below_alloc (Below.refl _ _) _, Nat.le_refl _⟩⟩
    rw [hc]
    have : ∀ j, j < 16 → ((List.replicate 16 [Value.map none, Value.slice none 0 0]).flatten.toArray)[2 * j + 1]? = some (Value.slice none 0 0) := by
      intro j hj
      rcases j with _ | _ | _ | _ | _ | _ | _ | _ | _ | _ | _ | _ | _ | _ | _ | _ | j <;> first | rfl | omega
    exact this j hj
  have hmm := @run_makeMap Try.prog
  go_enter Try.func29, Try.ntmps29
  go_upto_region 2 with (fail)
  obtain ⟨g0, hg0⟩ : ∃ g0, g0 = w.heap.size := ⟨_, rfl⟩
  have HN := Aside0.mk (HZ.out _ rfl)
  simp only [List.replicate, List.flatten_cons, List.flatten_nil, List.cons_append, List.nil_append] at HN
  rw [← hg0] at HN ⊢
  clear HZ hg0
  generalize w.alloc _ = w1 at HN ⊢
  go_wp2
  have HH : Aside0 (0 ≤ 16 ∧ Nw w w1 g0 0) := ⟨Nat.zero_le _, HN.out⟩
  clear HN
  go_loopw [5] (fun i wr => ∃ k : Nat, i = .int .i64 k ∧ Aside0 (k ≤ 16 ∧ Nw w wr g0 k)) (fun i _ => 16 - num i)
  case atStart => exact ⟨0, rfl, HH⟩
  case round =>
    clear HH
    obtain ⟨k, rfl, ⟨hk, hN⟩⟩ := hrel
    by_cases hlt : k < 16
    · have b0 : decide ((k : Int) < 16) = true := decide_eq_true (by omega)
      have b2 : ((k : Int) < 16) = True := eq_true (by omega)
      have b3 : (0 ≤ (k : Int)) = True := eq_true (by omega)
      have e1 : IntKind.i64.wrap ((k : Int) + 1) = (k : Int) + 1 := wid _ (by omega) (by omega)
      have d6 : k * 2 = 2 * k := Nat.mul_comm _ _
      obtain ⟨cells, h1, h2, -, -⟩ := hN.blk
      have h5 := blk_below h1 (below_alloc (Below.refl wr.heap.size wr) (.map #[] 0))
      have f0 := blk_frozen h5 (2 * k)
      obtain ⟨v, hv⟩ : ∃ v, cells[2 * k]? = some v := ⟨_, Array.getElem?_eq_getElem (by omega)⟩
      have c0 := (blk_cell h5 (2 * k)).trans hv
      have HN := Aside0.mk hN
      have HK := Aside0.mk hlt
      clear hk hlt hN h1 h2 h5 hv
      go_wp2
      go_roundw
      case rel => exact ⟨k + 1, by go_num, ⟨HK.out, HN.out.step HK.out⟩⟩
      case measure => simp only [num]; have := HK.out; omega
    · have b0 : decide ((k : Int) < 16) = false := decide_eq_false (by omega)
      have hk16 : k = 16 := by omega
      subst hk16
      have HN := Aside0.mk hN
      clear hk hlt hN
      go_wp2
      go_ret
      exact ⟨g0, rfl, HN.out⟩
end Go.Proofs.Ytfmfpofbefgbgaa.HPool
