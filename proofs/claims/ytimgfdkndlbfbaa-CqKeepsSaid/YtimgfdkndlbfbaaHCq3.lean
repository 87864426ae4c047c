/- cq: New, slices.Clone of completions, what nil rings answer. Conditions: each theorem's own. -/
import Derived.Test.YtimgfdkndlbfbaaHCq2
import Derived.Laws.MakeOwn
namespace Go.Proofs.Ytimgfdkndlbfbaa.HCq
open Go.RowKit Go.Proofs.YtimgfdkndlbfbaaW.PrintWords Go.Proofs.YtimgfdkndlbfbaaW.PrintLast Go.Proofs.YtimgfdkndlbfbaaW.PrintMore Go.Proofs.Ytimgfdkndlbfbaa.PCq Go.Proofs.Ytimgfdkndlbfbaa.HRng Go.Proofs.Ytimgfdkndlbfbaa.HReg
set_option linter.unusedVariables false
set_option linter.unusedSimpArgs false
set_option linter.unusedSectionVars false
theorem full43 : (Try.prog.info? 43).map (fun i => (i.zero, i.size, i.bytes)) = some (some (.agg #[.int .u64 0, .int .i64 0, .int .u8 0, .int .i64 0, .slice none 0 0]), 5, 56) := by kernel_rfl
theorem full37 : (Try.prog.info? 37).map (fun i => (i.zero, i.size, i.bytes)) = some (some (.agg #[.int .u8 0, .int .u8 0, .int .i64 0, .int .u32 0, .int .u16 0, .int .i64 0, .int .i64 0, .int .i64 0, .int .u64 0, .int .u64 0, .slice none 0 0]), 11, 88) := by kernel_rfl
theorem N_empty {w : World} {g base : Nat} {ok : Nat → Prop} (hg : w.heap[g]? = some (.cells #[] 43 (0, 0))) (hb : base ≤ g) (hok : ok g) : Kd.N k43 43 w base ok (.slice (some ⟨g, 0, none⟩) 0 0) [] :=
  Kd.R_N ⟨fun k hk => by have : g = k := by simpa [Value.ownBlock] using hk
                         subst this; exact hok, [], ⟨by simp, .inr ⟨g, 0, #[], rfl, hb, hg, Nat.le_refl _, by decide, by simp, by simp⟩⟩, Reps.none _ _⟩
theorem elder_ne {w : World} {okp : Nat → Prop} : ∀ k, (okp k ∧ k < w.heap.size) → ((okp k ∧ k < w.heap.size) ∨ w.heap.size ≤ k) ∧ some k ≠ (Value.slice (some ⟨w.heap.size, 0, none⟩) 0 0).ownBlock := fun k hk => ⟨.inl hk, fun e => by
  have : w.heap.size = k := by simpa [Value.ownBlock] using e.symm
  have := hk.2
  omega⟩
set_option maxRecDepth 100000 in
set_option maxHeartbeats 8000000 in
theorem clone43 (A : Option Addr) (n c : Nat) (xs : List S43) (okp : Nat → Prop) (w : World) (hF : Kd.F k43 w okp A n xs) (hc : n ≤ c) (hl : n ≤ 1000000) :
    Calls Try.prog 98 #[.slice A n c] w fun e w' => ∃ v : Value, e = .returned v ∧ Kd.N k43 43 w' w.heap.size (fun k => (okp k ∧ k < w.heap.size) ∨ w.heap.size ≤ k) v xs ∧ Below w.heap.size w w' := by
  have HF := Aside0.mk (Kd.F_bound hF)
  have HL := Aside0.mk hl
  have hnil := fun (w : World) (n c : Nat) => Lib.run_eql_slice_nil (P := Try.prog) w 30 43 A n c 0 0 Try.underlying30
  cases A with
  | none =>
    have h0 : n = 0 := by
      rcases Nat.eq_zero_or_pos n with h | h
      · exact h
      · obtain ⟨ad, e, _⟩ := (Kd.F_now hF).2.2 h
        cases e
    have hx : xs = [] := List.eq_nil_of_length_eq_zero ((Kd.F_len hF).trans h0)
    subst h0
    subst hx
    clear hF hc hl HF HL
    go_enter Try.func98, Try.ntmps98
    go_wp2
    go_ret
    exact ⟨_, rfl, Kd.N_nil _ _ _ _ _, Below.refl _ _⟩
  | some ad =>
    have HB := Aside0.mk (below_alloc (Below.refl w.heap.size w) (.cells #[] 43))
    have HN := Aside0.mk (N_empty (base := w.heap.size) (ok := fun k => (okp k ∧ k < w.heap.size) ∨ w.heap.size ≤ k) (blk_new w (.cells #[] 43)) (Nat.le_refl _) (.inr (Nat.le_refl _)))
    clear hF hc hl
    go_enter Try.func98, Try.ntmps98
    go_wp2_with (((with_reducible refine gate_builtin (b := .append) (xs := #[.tmp 5, .tmp 6]) rfl ?_); at_builtin; refine Kd.N_append_rows k43 (w0 := w) w.heap.size rfl (.tmp 5) (.tmp 6) 30 43 (.agg #[.int .u64 0, .int .i64 0, .int .u8 0, .int .i64 0, .slice none 0 0]) 56 rfl Try.underlying30 full43 rfl (by decide) (by decide) _ [] xs _ n _ (fun k => (okp k ∧ k < w.heap.size) ∨ w.heap.size ≤ k) (fun k => okp k ∧ k < w.heap.size) rfl rfl HN.out (Kd.F_below HF.out HB.out) elder_ne (fun k hk => .inr (Nat.le_trans HB.out.size hk)) HB.out HB.out.size (by have := HL.out; simp; omega) ?_; intro v1 w1 hN1 hB1 hG1 hA1; have HN1 := Aside0.mk hN1; have HB1 := Aside0.mk hB1; clear hN1 hB1 hG1 hA1))
    go_ret
    exact ⟨v1, rfl, by have := HN1.out; simpa only [List.nil_append] using this, HB1.out⟩
theorem Rng.empty {α : Type} {d : Kd α} {e : Nat} {w : World} {ok : Nat → Prop} {g E : Nat} {cur : Array Value} (hg : w.heap[g]? = some (.cells cur e (0, 0))) (hs : cur.size = E * d.sz) (hE : 0 < E) : Rng d e w ok g E 0 [] :=
  ⟨cur, [], hg, hs, rfl, Nat.zero_le _, hE, fun j c h => by simp at h, fun j x c h => by simp at h⟩
set_option maxRecDepth 100000 in
set_option maxHeartbeats 8000000 in
theorem new_bad (a b : Int) (w : World) (h : a < 1 ∨ b < 1 ∨ 1024 < a ∨ 1024 < b) : Calls Try.prog 13 #[.int .i64 a, .int .i64 b] w fun e w' => e = .returned (.tuple #[.pointer none, .int .i64 1]) ∧ Below w.heap.size w w' := by
  have e1 : ∀ W : World, (Builtin.min_ #[3, 3] 3 #[.int .i64 a, .int .i64 b]).run Try.prog W = .ok (.int .i64 (if a < b then a else b)) W := by
    intro W
    rw [run_min_int2]
    all_goals (congr 2 <;> ((repeat' split) <;> omega))
  have e2 : ∀ W : World, (Builtin.max_ #[3, 3] 3 #[.int .i64 a, .int .i64 b]).run Try.prog W = .ok (.int .i64 (if a < b then b else a)) W := by
    intro W
    rw [run_max_int2]
    all_goals (congr 2 <;> ((repeat' split) <;> omega))
  obtain ⟨mn, hmn⟩ : ∃ m, (if a < b then a else b) = m := ⟨_, rfl⟩
  obtain ⟨mx, hmx⟩ : ∃ m, (if a < b then b else a) = m := ⟨_, rfl⟩
  rw [hmn] at e1
  rw [hmx] at e2
  by_cases hm : mn < 1
  · have d1 : decide (mn < 1) = true := decide_eq_true hm
    clear h hmn hmx hm
    go_enter Try.func13, Try.ntmps13
    go_wp2
    go_ret2
    exact ⟨rfl, Below.refl _ _⟩
  · have d1 : decide (mn < 1) = false := decide_eq_false hm
    have d2 : decide (1024 < mx) = true := decide_eq_true (by (repeat' split at hmn) <;> (repeat' split at hmx) <;> omega)
    clear h hmn hmx hm
    go_enter Try.func13, Try.ntmps13
    go_wp2
    go_ret2
    exact ⟨rfl, Below.refl _ _⟩
set_option maxRecDepth 100000 in
set_option maxHeartbeats 8000000 in
theorem new_ok (E D : Nat) (hE : 1 ≤ E ∧ E ≤ 1024) (hD : 1 ≤ D ∧ D ≤ 1024) (w : World) : Calls Try.prog 13 #[.int .i64 E, .int .i64 D] w fun e w' => ∃ rb eb db : Nat, e = .returned (.tuple #[.pointer (some ⟨rb, 0, none⟩), .int .i64 0]) ∧ Cq (fun _ => False) w.heap.size w' rb eb db (.slice none 0 0) ⟨E, D, 0, 0, [], [], [], 0, 0, 0, 0⟩ ∧ Below w.heap.size w w' := by
  have e1 : ∀ W : World, (Builtin.min_ #[3, 3] 3 #[.int .i64 (E : Int), .int .i64 (D : Int)]).run Try.prog W = .ok (.int .i64 (if (E : Int) < D then (E : Int) else D)) W := by
    intro W
    rw [run_min_int2]
    all_goals (congr 2 <;> ((repeat' split) <;> omega))
  have e2 : ∀ W : World, (Builtin.max_ #[3, 3] 3 #[.int .i64 (E : Int), .int .i64 (D : Int)]).run Try.prog W = .ok (.int .i64 (if (E : Int) < D then (D : Int) else E)) W := by
    intro W
    rw [run_max_int2]
    all_goals (congr 2 <;> ((repeat' split) <;> omega))
  obtain ⟨mn, hmn⟩ : ∃ m, (if (E : Int) < D then (E : Int) else D) = m := ⟨_, rfl⟩
  obtain ⟨mx, hmx⟩ : ∃ m, (if (E : Int) < D then (D : Int) else E) = m := ⟨_, rfl⟩
  rw [hmn] at e1
  rw [hmx] at e2
  have d1 : decide (mn < 1) = false := decide_eq_false (by split at hmn <;> omega)
  have d2 : decide (1024 < mx) = false := decide_eq_false (by split at hmx <;> omega)
  have HE := Aside0.mk (And.intro hE hD)
  clear hmn hmx hE hD
  go_enter Try.func13, Try.ntmps13
  obtain ⟨i37, hi37, iz37, is37, ib37⟩ := info_parts full37
  obtain ⟨i43, hi43, iz43, is43, ib43⟩ := info_parts full43
  have HI37 := Aside0.mk (And.intro hi37 (And.intro iz37 (And.intro is37 ib37)))
  have HI43 := Aside0.mk (And.intro hi43 (And.intro iz43 (And.intro is43 ib43)))
  clear hi37 iz37 is37 ib37 hi43 iz43 is43 ib43
  go_upto_region 4 with (fail)
  clear e1 e2 d1 d2
  obtain ⟨rb, hrb⟩ : ∃ rb, rb = w.heap.size := ⟨_, rfl⟩
  have HRE := Aside0.mk hrb
  have HB := Aside0.mk (below_alloc (Below.refl w.heap.size w) (.cells #[.slice none 0 0, .int .i64 0, .int .i64 0, .slice none 0 0, .int .i64 0, .int .i64 0, .slice none 0 0, .int .i64 0, .int .i64 0, .int .i64 0, .int .i64 0] 147))
  have HG := Aside0.mk (blk_new w (.cells #[.slice none 0 0, .int .i64 0, .int .i64 0, .slice none 0 0, .int .i64 0, .int .i64 0, .slice none 0 0, .int .i64 0, .int .i64 0, .int .i64 0, .int .i64 0] 147))
  rw [← hrb] at HG ⊢
  clear hrb
  generalize w.alloc (.cells #[.slice none 0 0, .int .i64 0, .int .i64 0, .slice none 0 0, .int .i64 0, .int .i64 0, .slice none 0 0, .int .i64 0, .int .i64 0, .int .i64 0, .int .i64 0] 147) = w1 at HB HG ⊢
  have HRB1 := Aside0.mk (blk_lt HG.out)
  have r0 := (blk_cell HG.out 0).trans rfl
  have fz := blk_frozen HG.out 0
  go_upto_region 5 with ((with_reducible refine wpList_make_full (P := Try.prog) _ rfl (.tmp 20) (.tmp 20) 38 rfl w1.heap.size 37 i37 (.agg #[.int .u8 0, .int .u8 0, .int .i64 0, .int .u32 0, .int .u16 0, .int .i64 0, .int .i64 0, .int .i64 0, .int .u64 0, .int .u64 0, .slice none 0 0]) 11 Try.underlying38 HI37.out.1 HI37.out.2.1 HI37.out.2.2.1 .i64 .i64 (E : Int) (E : Int) E rfl rfl rfl rfl ?h2 ?h3 (Nat.le_refl _) ?_); (case h2 => rw [HI37.out.2.2.2]; have := HE.out; omega); (case h3 => have := HE.out; simp only [maxLen]; omega); intro w2 hO hGr; obtain ⟨eb, heb⟩ : ∃ eb, eb = w1.heap.size := ⟨_, rfl⟩; rw [← heb] at hO ⊢; have HEB := Aside0.mk heb; clear heb; have HO := Aside0.mk hO; have HB1 := Aside0.mk (show Below w1.heap.size w1 w2 from ⟨hGr.os, hGr.tape, hGr.output, hGr.size, fun k hk => hGr.block k hk (by simp)⟩); clear hO hGr r0 fz; replace HG := Aside0.mk (blk_below HG.out HB1.out); replace HB := Aside0.mk (below_step HB.out HB1.out); clear HB1; have r0 := (blk_cell HG.out 0).trans rfl; have fz := blk_frozen HG.out 0)
  have HEO2 : Aside0 (w.heap.size ≤ eb) := ⟨by have h1_ := HEB.out; have h2_ := HRB1.out; have h3_ := HRE.out; omega⟩
  have HEO : Aside0 (w1.heap.size ≤ eb ∧ eb ≠ rb) := ⟨by have h1_ := HEB.out; have h2_ := blk_lt HG.out; have h3_ := HRB1.out; omega⟩
  replace HG := Aside0.mk (blk_set HG.out 0 (.slice (some ⟨eb, 0, none⟩) E E))
  replace HB := Aside0.mk (HB.out.setCell (p := ⟨rb, 0, none⟩) (by have h_ := HRE.out; show w.heap.size ≤ rb; omega) (.slice (some ⟨eb, 0, none⟩) E E))
  obtain ⟨hl1, ⟨he, -⟩ | ⟨g1, cap1, cur1, he, hb1, hh1, -, -, hs1, -⟩⟩ := HO.out
  · cases he
  injection he with he1 he2 he3
  injection he1 with he1
  injection he1 with he1 _ _
  subst he1
  subst he3
  have HC1 := Aside0.mk (And.intro (blk_far hh1 (p := ⟨rb, 0, none⟩) HEO.out.2 (.slice (some ⟨eb, 0, none⟩) E E)) hs1)
  clear hh1 hs1 hb1 he2 hl1 r0 fz HO
  generalize w2.setCell ⟨rb, 0, none⟩ (.slice (some ⟨eb, 0, none⟩) E E) = w3 at HG HB HC1 ⊢
  have r3 := (blk_cell HG.out 3).trans rfl
  have fz := blk_frozen HG.out 3
  have HLT := Aside0.mk (blk_lt HG.out)
  have HC3 := Aside0.mk (blk_lt HC1.out.1)
  have HB3_ := Aside0.mk HB.out.size
  go_upto_region 6 with ((with_reducible refine wpList_make_full (P := Try.prog) _ rfl (.tmp 26) (.tmp 26) 30 rfl w3.heap.size 43 i43 (.agg #[.int .u64 0, .int .i64 0, .int .u8 0, .int .i64 0, .slice none 0 0]) 5 Try.underlying30 HI43.out.1 HI43.out.2.1 HI43.out.2.2.1 .i64 .i64 (D : Int) (D : Int) D rfl rfl rfl rfl ?h2 ?h3 (Nat.le_refl _) ?_); (case h2 => rw [HI43.out.2.2.2]; have := HE.out; omega); (case h3 => have := HE.out; simp only [maxLen]; omega); intro w4 hO hGr; obtain ⟨db, hdb⟩ : ∃ db, db = w3.heap.size := ⟨_, rfl⟩; rw [← hdb] at hO ⊢; have HDB := Aside0.mk hdb; clear hdb; have HO := Aside0.mk hO; have HB3 := Aside0.mk (show Below w3.heap.size w3 w4 from ⟨hGr.os, hGr.tape, hGr.output, hGr.size, fun k hk => hGr.block k hk (by simp)⟩); clear hO hGr r3 fz; replace HG := Aside0.mk (blk_below HG.out HB3.out); replace HB := Aside0.mk (below_step HB.out HB3.out); replace HC1 := Aside0.mk (And.intro (blk_below HC1.out.1 HB3.out) HC1.out.2); clear HB3; have r3 := (blk_cell HG.out 3).trans rfl; have fz := blk_frozen HG.out 3)
  have HDO : Aside0 (db ≠ rb ∧ db ≠ eb ∧ w.heap.size ≤ db) := ⟨by have h1_ := HDB.out; have h2_ := HLT.out; have h3_ := HC3.out; have h4_ := HB3_.out; omega⟩
  replace HG := Aside0.mk (blk_set HG.out 3 (.slice (some ⟨db, 0, none⟩) D D))
  replace HB := Aside0.mk (HB.out.setCell (p := ⟨rb, 3, none⟩) (by have h_ := HRE.out; show w.heap.size ≤ rb; omega) (.slice (some ⟨db, 0, none⟩) D D))
  obtain ⟨hl1, ⟨he, -⟩ | ⟨g1, cap1, cur2, he, hb1, hh1, -, -, hs1, -⟩⟩ := HO.out
  · cases he
  injection he with he1 he2 he3
  injection he1 with he1
  injection he1 with he1 _ _
  subst he1
  subst he3
  have HC2 := Aside0.mk (And.intro (blk_far hh1 (p := ⟨rb, 3, none⟩) HDO.out.1 (.slice (some ⟨db, 0, none⟩) D D)) hs1)
  replace HC1 := Aside0.mk (And.intro (blk_far HC1.out.1 (p := ⟨rb, 3, none⟩) HEO.out.2 (.slice (some ⟨db, 0, none⟩) D D)) HC1.out.2)
  clear hh1 hs1 hb1 he2 hl1 r3 fz HO
  generalize w4.setCell ⟨rb, 3, none⟩ (.slice (some ⟨db, 0, none⟩) D D) = w5 at HG HB HC1 HC2 ⊢
  go_wp2
  go_ret2
  have hE := HE.out
  have hrb := HRE.out
  refine ⟨rb, rfl, ⟨eb, db, ⟨?_, Rng.empty HC1.out.1 HC1.out.2 (Nat.lt_of_lt_of_le Nat.zero_lt_one hE.1.1), Rng.empty HC2.out.1 HC2.out.2 (Nat.lt_of_lt_of_le Nat.zero_lt_one hE.2.1), Kd.N_nil _ _ _ _ _, hE.1.2, hE.2.2, ⟨by omega, by have := HEO2.out; omega, HDO.out.2.2⟩, fun k hk => hk.elim⟩⟩, HB.out⟩
  exact HG.out

/-! nil rings -/
set_option maxRecDepth 100000 in
set_option maxHeartbeats 8000000 in
theorem nil15 (v : Value) (w : World) : Calls Try.prog 15 #[.pointer none, v] w fun e w' => e = .returned (.int .i64 0) ∧ w = w' := by
  go_enter Try.func15, Try.ntmps15
  go_wp2
  go_ret
  exact ⟨rfl, rfl⟩
set_option maxRecDepth 100000 in
set_option maxHeartbeats 8000000 in
theorem nil18 (v : Value) (w : World) : Calls Try.prog 18 #[.pointer none, v] w fun e w' => e = .returned (.slice none 0 0) ∧ w = w' := by
  go_enter Try.func18, Try.ntmps18
  go_wp2
  go_ret
  exact ⟨rfl, rfl⟩
set_option maxRecDepth 100000 in
set_option maxHeartbeats 8000000 in
theorem nil26 (w : World) : Calls Try.prog 26 #[.pointer none] w fun e w' => e = .returned (.tuple #[.int .i64 0, .int .i64 0, .int .i64 0]) ∧ w = w' := by
  go_enter Try.func26, Try.ntmps26
  go_wp2
  go_ret3
  exact ⟨rfl, rfl⟩
set_option maxRecDepth 100000 in
set_option maxHeartbeats 8000000 in
theorem nil27 (w : World) : Calls Try.prog 27 #[.pointer none] w fun e w' => e = .returned (.tuple #[.int .i64 0, .int .i64 0, .int .i64 0, .int .i64 0]) ∧ w = w' := by
  go_enter Try.func27, Try.ntmps27
  go_wp2
  (try simp only [Exit.inBlock, Exit.then])
  refine bodyPost_ret (results_tmp4 rfl _ _ _) rfl ?_
  exact ⟨rfl, rfl⟩
end Go.Proofs.Ytimgfdkndlbfbaa.HCq
