/- pool's reference: Provide of a group; each act, told of lists. Conditions: each theorem's own. -/
import Derived.Test.YtfmfpofbefgbgaaHPoolR5
namespace Go.Proofs.Ytfmfpofbefgbgaa.HPoolR
open Go.RowKit Go.Proofs.YtfmfpofbefgbgaaW.PrintWords Go.Proofs.YtfmfpofbefgbgaaW.PrintLast Go.Proofs.YtfmfpofbefgbgaaW.PrintMore Go.Proofs.Ytfmfpofbefgbgaa.HPoolS Go.Proofs.Ytfmfpofbefgbgaa.HPool Go.Proofs.Ytfmfpofbefgbgaa.PPoolL Go.Proofs.Ytfmfpofbefgbgaa.HReg Go.Proofs.Ytfmfpofbefgbgaa.HSl
set_option linter.unusedVariables false
set_option linter.unusedSimpArgs false
set_option linter.unusedSectionVars false
def RProvEnd (w : World) (cells : Array Value) (r : RS) (i : Nat) (f z : Int) (c : Nat) (e : Ending) (w' : World) : Prop :=
  (e = .returned (.tuple #[.agg cells, .int .i64 140]) ∧ (∃ j : Nat, j < c ∧ (has (r i).1 (f + j) || has (r i).2 (f + j)) = true) ∧ Below w.heap.size w w') ∨
  (e = .returned (.tuple #[.agg cells, .int .i64 5]) ∧ (∀ j : Nat, j < c → (has (r i).1 (f + j) || has (r i).2 (f + j)) = false) ∧ 1024 < (r i).1.length + (r i).2.length + c ∧ Below w.heap.size w w') ∨
  ∃ cells', e = .returned (.tuple #[.agg cells', .int .i64 0]) ∧ (∀ j : Nat, j < c → (has (r i).1 (f + j) || has (r i).2 (f + j)) = false) ∧ (r i).1.length + (r i).2.length + c ≤ 1024 ∧ Rf w' cells' (at_ r i ((r i).1 ++ fresh f z c, (r i).2)) ∧ Below w.heap.size w w'
theorem fresh_succ (f z : Int) (k : Nat) : fresh f z (k + 1) = fresh f z k ++ [(f + (k : Int), z)] := by
  unfold fresh
  rw [List.range_succ, List.map_append]
  rfl
theorem fresh_len (f z : Int) (k : Nat) : (fresh f z k).length = k := by simp [fresh]
set_option maxRecDepth 100000 in
set_option maxHeartbeats 4000000 in
theorem rprovide_any (cells : Array Value) (r : RS) (w : World) (h : Rf w cells r) (i : Nat) (hi : i < 16) (hl : (r i).1.length + (r i).2.length ≤ 1024) (f z : Int) (c : Nat) (hc : 1 ≤ c ∧ c ≤ 1024) (hf : 0 ≤ f ∧ f ≤ 65536 - c) (hz : 1 ≤ z ∧ z ≤ 65536) : Calls Try.prog 51 #[.agg cells, .int .i64 i, .int .i64 f, .int .i64 c, .int .i64 z] w (RProvEnd w cells r i f z c) := by
  have d1 : decide ((i : Int) < 0) = false := decide_eq_false (by omega)
  have d2 : decide (15 < (i : Int)) = false := decide_eq_false (by omega)
  have d3 : decide ((i : Int) < 16) = true := decide_eq_true (by omega)
  have d4 : decide (i < 16) = true := decide_eq_true hi
  have d5 : (i < 16) = True := eq_true hi
  have d6 : i * 2 = 2 * i := Nat.mul_comm _ _
  have d7 : ((i : Int) < 16) = True := eq_true (by omega)
  have d8 : (0 ≤ (i : Int)) = True := eq_true (by omega)
  have e1 : decide ((c : Int) < 1) = false := decide_eq_false (by omega)
  have e2 : decide (1024 < (c : Int)) = false := decide_eq_false (by omega)
  have wr2 : wrap64 (65536 - (c : Int)) = 65536 - c := by unfold wrap64; omega
  have wr1 : IntKind.i64.wrap (65536 - (c : Int)) = 65536 - c := wid _ (by omega) (by omega)
  have e3 : decide (f < 0) = false := decide_eq_false (by omega)
  have e4 : decide (65536 - (c : Int) < f) = false := decide_eq_false (by omega)
  have e5 : decide (z < 1) = false := decide_eq_false (by omega)
  have e6 : decide (65536 < z) = false := decide_eq_false (by omega)
  have HR := Aside0.mk h
  have HI := Aside0.mk (And.intro hi (And.intro hl (And.intro hc (And.intro hf hz))))
  clear h hi hl hc hf hz
  go_enter Try.func51, Try.ntmps51
  go_upto_region 1 with (fail)
  obtain ⟨hb1, hb2, hB⟩ := boxed w (.cells cells 93) (.cells #[.slice none 0 0, .slice none 0 0, .slice none 0 0, .slice none 0 0, .slice none 0 0, .slice none 0 0, .slice none 0 0, .slice none 0 0, .slice none 0 0, .slice none 0 0, .slice none 0 0, .slice none 0 0, .slice none 0 0, .slice none 0 0, .slice none 0 0, .slice none 0 0, .slice none 0 0, .slice none 0 0, .slice none 0 0, .slice none 0 0, .slice none 0 0, .slice none 0 0, .slice none 0 0, .slice none 0 0, .slice none 0 0, .slice none 0 0, .slice none 0 0, .slice none 0 0, .slice none 0 0, .slice none 0 0, .slice none 0 0, .slice none 0 0] 93)
  generalize (w.alloc (.cells cells 93)).alloc (.cells #[.slice none 0 0, .slice none 0 0, .slice none 0 0, .slice none 0 0, .slice none 0 0, .slice none 0 0, .slice none 0 0, .slice none 0 0, .slice none 0 0, .slice none 0 0, .slice none 0 0, .slice none 0 0, .slice none 0 0, .slice none 0 0, .slice none 0 0, .slice none 0 0, .slice none 0 0, .slice none 0 0, .slice none 0 0, .slice none 0 0, .slice none 0 0, .slice none 0 0, .slice none 0 0, .slice none 0 0, .slice none 0 0, .slice none 0 0, .slice none 0 0, .slice none 0 0, .slice none 0 0, .slice none 0 0, .slice none 0 0, .slice none 0 0] 93) = w1 at hb1 hb2 hB ⊢
  have HB := Aside0.mk hB
  have HG1 := Aside0.mk hb1
  have HG2 := Aside0.mk hb2
  obtain ⟨gr, hgr⟩ : ∃ gr, gr = w.heap.size + 1 := ⟨_, rfl⟩
  obtain ⟨gb, hgb⟩ : ∃ gb, gb = w.heap.size := ⟨_, rfl⟩
  have HGE := Aside0.mk (And.intro hgb hgr)
  rw [← hgr] at HG2 ⊢
  rw [← hgb] at HG1 ⊢
  clear hgr hgb hB hb1 hb2
  replace HR := Aside0.mk (HR.out.below HB.out)
  obtain ⟨vO, eO, hO⟩ := HR.out.O i HI.out.1
  obtain ⟨vF, eF, hF⟩ := HR.out.F i HI.out.1
  obtain ⟨A1, cO, rfl, -, -⟩ := hO.shape
  obtain ⟨A2, cF, rfl, -, -⟩ := hF.shape
  have HO := Aside0.mk hO
  have HF := Aside0.mk hF
  clear hO hF
  generalize hN : (r i).2.length = N at eO HO
  generalize hM : (r i).1.length = M at eF HF
  have HNM := Aside0.mk (And.intro hN hM)
  clear hN hM
  have hcO := (blk_cell HG1.out (2 * i + 1)).trans eO
  have hcF := (blk_cell HG1.out (2 * i)).trans eF
  have hlt := blk_lt HG1.out
  clear eO
  go_upto_region 3 with (fail)
  go_wp2
  clear e1 e2 wr2 wr1 e3 e4 e5 e6
  go_loop [12] (fun o => ∃ k : Nat, o = .int .i64 k ∧ Aside0 (k ≤ c ∧ ∀ j : Nat, j < k → (has (r i).1 (f + j) || has (r i).2 (f + j)) = false)) (fun o => c - num o)
  case atStart => exact ⟨0, rfl, ⟨Nat.zero_le _, fun j h => absurd h (Nat.not_lt_zero _)⟩⟩
  case round =>
    obtain ⟨k, rfl, ⟨hk, hb⟩⟩ := hrel
    by_cases hkc : k < c
    · have c0 : decide ((k : Int) < (c : Int)) = true := decide_eq_true (by omega)
      have c1 : decide (k < c) = true := decide_eq_true hkc
      have c2 : (k < c) = True := eq_true hkc
      have c3 : ((k : Int) < (c : Int)) = True := eq_true (by omega)
      have hI := HI.out
      have w1_ : IntKind.i64.wrap ((k : Int) + 1) = (k : Int) + 1 := wid _ (by omega) (by omega)
      have w2_ : IntKind.i64.wrap (f + (k : Int)) = f + (k : Int) := wid _ (by omega) (by omega)
      have p1 : decide (0 ≤ plc (r i).1 (f + (k : Int))) = has (r i).1 (f + (k : Int)) := plc_geq _ _
      have p2 : decide (0 ≤ plc (r i).2 (f + (k : Int))) = has (r i).2 (f + (k : Int)) := plc_geq _ _
      have HC1 := Aside0.mk (place_calls A2 _ cF _ HNM.out.2 (by have := HNM.out; omega) (f + (k : Int)) _ HF.out)
      have HC2 := Aside0.mk (place_calls A1 _ cO _ HNM.out.1 (by have := HNM.out; omega) (f + (k : Int)) _ HO.out)
      generalize plc (r i).1 (f + (k : Int)) = q1 at p1 HC1
      generalize plc (r i).2 (f + (k : Int)) = q2 at p2 HC2
      obtain ⟨t1, ht1⟩ : ∃ t, has (r i).1 (f + (k : Int)) = t := ⟨_, rfl⟩
      obtain ⟨t2, ht2⟩ : ∃ t, has (r i).2 (f + (k : Int)) = t := ⟨_, rfl⟩
      rw [ht1] at p1
      rw [ht2] at p2
      have HK := Aside0.mk (And.intro hkc (And.intro hb (And.intro ht1 ht2)))
      clear hk hb hkc hI ht1 ht2
      cases t1
      · cases t2
        · go_wp2_with (first | (go_at_call 78; have hh := HC1.out; with_reducible refine hh.mono ?_; clear hh; rintro e w9 ⟨rfl, rfl⟩) | (go_at_call 78; have hh := HC2.out; with_reducible refine hh.mono ?_; clear hh; rintro e w9 ⟨rfl, rfl⟩))
          go_round
          case rel => exact ⟨k + 1, by go_num, ⟨HK.out.1, fun j hj => (by
            by_cases e : j = k
            · subst e; rw [HK.out.2.2.1, HK.out.2.2.2]; rfl
            · exact HK.out.2.1 j (by omega))⟩⟩
          case measure => simp only [num]; have := HK.out.1; omega
        · go_upto_region 7 with (first | (go_at_call 78; have hh := HC1.out; with_reducible refine hh.mono ?_; clear hh; rintro e w9 ⟨rfl, rfl⟩) | (go_at_call 78; have hh := HC2.out; with_reducible refine hh.mono ?_; clear hh; rintro e w9 ⟨rfl, rfl⟩))
          go_wp2_with (first | ((with_reducible refine wpList_load_row rfl 93 (.tmp 5) rfl gb rfl 93 cells (0, 0) _ HG1.out Try.underlying93 rfl ?hi ?_); (case hi => rw [info93, HR.out.sz])) | ((with_reducible refine store_step rfl (.tmp 10) (.tmp 73) rfl rfl gr cells rfl rfl _ HG2.out HR.out.sz rfl HR.out.one ?_)))
          refine bodyPost_ret (results_ct rfl _ _ gr 93 cells (0, 0) _ rfl (setRow_heap w1 gr _ cells 93 (0, 0) HG2.out) Try.underlying93 rfl (by rw [info93, HR.out.sz])) rfl ?_
          exact (.inl ⟨rfl, ⟨k, HK.out.1, by rw [HK.out.2.2.1, HK.out.2.2.2]; rfl⟩, row_below HB.out (by have := HGE.out; omega) _⟩)
      · go_upto_region 7 with (go_at_call 78; have hh := HC1.out; with_reducible refine hh.mono ?_; clear hh; rintro e w9 ⟨rfl, rfl⟩)
        go_wp2_with (first | ((with_reducible refine wpList_load_row rfl 93 (.tmp 5) rfl gb rfl 93 cells (0, 0) _ HG1.out Try.underlying93 rfl ?hi ?_); (case hi => rw [info93, HR.out.sz])) | ((with_reducible refine store_step rfl (.tmp 10) (.tmp 73) rfl rfl gr cells rfl rfl _ HG2.out HR.out.sz rfl HR.out.one ?_)))
        refine bodyPost_ret (results_ct rfl _ _ gr 93 cells (0, 0) _ rfl (setRow_heap w1 gr _ cells 93 (0, 0) HG2.out) Try.underlying93 rfl (by rw [info93, HR.out.sz])) rfl ?_
        exact (.inl ⟨rfl, ⟨k, HK.out.1, by rw [HK.out.2.2.1]; rfl⟩, row_below HB.out (by have := HGE.out; omega) _⟩)
    · have c0 : decide ((k : Int) < (c : Int)) = false := decide_eq_false (by omega)
      have c1 : decide (k < c) = false := decide_eq_false hkc
      obtain rfl : k = c := by omega
      have HNO := Aside0.mk hb
      clear hk hb hkc
      have hI := HI.out
      have hnm := HNM.out
      have wa : IntKind.i64.wrap ((M : Int) + (N : Int)) = (M : Int) + (N : Int) := wid _ (by omega) (by omega)
      have wb : IntKind.i64.wrap ((M : Int) + (N : Int) + (k : Int)) = (M : Int) + (N : Int) + (k : Int) := wid _ (by omega) (by omega)
      by_cases hful : 1024 < M + N + k
      · have b2 : decide (1024 < (M : Int) + (N : Int) + (k : Int)) = true := decide_eq_true (by omega)
        have HFU := Aside0.mk (show 1024 < (r i).1.length + (r i).2.length + k by omega)
        clear hful hI hnm
        go_upto_region 8 with (fail)
        go_quiet (fail)
        replace HG1 := Aside0.mk (show (w1.drewN nq).heap[gb]? = _ from HG1.out)
        replace HG2 := Aside0.mk (show (w1.drewN nq).heap[gr]? = _ from HG2.out)
        replace HB := Aside0.mk (pw_below_drewN HB.out nq)
        clear hcO hcF hlt
        generalize w1.drewN nq = w2 at HG1 HG2 HB ⊢
        go_wp2_with (first | ((with_reducible refine wpList_load_row rfl 93 (.tmp 5) rfl gb rfl 93 cells (0, 0) _ HG1.out Try.underlying93 rfl ?hi ?_); (case hi => rw [info93, HR.out.sz])) | ((with_reducible refine store_step rfl (.tmp 10) (.tmp 88) rfl rfl gr cells rfl rfl _ HG2.out HR.out.sz rfl HR.out.one ?_)))
        refine bodyPost_ret (results_ct rfl _ _ gr 93 cells (0, 0) _ rfl (setRow_heap w2 gr _ cells 93 (0, 0) HG2.out) Try.underlying93 rfl (by rw [info93, HR.out.sz])) rfl ?_
        exact (.inr (.inl ⟨rfl, HNO.out, HFU.out, row_below HB.out (by have := HGE.out; omega) _⟩))
      · have b2 : decide (1024 < (M : Int) + (N : Int) + (k : Int)) = false := decide_eq_false (by omega)
        have HFU := Aside0.mk (show (r i).1.length + (r i).2.length + k ≤ 1024 by omega)
        clear hful hI hnm
        go_upto_region 8 with (fail)
        go_quiet (fail)
        replace HR := Aside0.mk (HR.out.below (pw_below_drewN (Below.refl w1.heap.size w1) nq))
        replace HF := Aside0.mk (HF.out.below (pw_below_drewN (Below.refl w1.heap.size w1) nq))
        replace HG1 := Aside0.mk (show (w1.drewN nq).heap[gb]? = _ from HG1.out)
        replace HG2 := Aside0.mk (show (w1.drewN nq).heap[gr]? = _ from HG2.out)
        replace HB := Aside0.mk (pw_below_drewN HB.out nq)
        clear hcO hcF hlt HO
        generalize w1.drewN nq = w2 at HG1 HG2 HB HR HF ⊢
        have hcF := (blk_cell HG1.out (2 * i)).trans eF
        have hlt := blk_lt HG1.out
        go_upto_region 11 with ((with_reducible refine gate_builtin (b := .append) (xs := #[.tmp 89, .tmp 93]) rfl ?_); refine appR_step rfl (.tmp 89) (.tmp 93) rfl rfl rfl (Ob.lit w2) (HF.out.below (below_alloc (Below.refl _ w2) _)) (below_alloc (Below.refl w2.heap.size w2) _).size ?al ?_; (case al => have := HFU.out; simp only [List.length_nil]; omega); intro v6 w6 hO6 hG6; obtain ⟨A6, c6, rfl⟩ := hO6.shape; have HB6 := Aside0.mk (pw_below_grown (below_alloc (Below.refl w2.heap.size w2) (.cells #[] 105)) _ (below_alloc (Below.refl w2.heap.size w2) (.cells #[] 105)).size hG6 (fun k hk => (Ob.lit w2).low k hk)); have HO6 := Aside0.mk hO6; generalize hN6 : (([] : List Bu) ++ (r i).1).length = N6 at hO6 ⊢; have HN6 := Aside0.mk hN6; clear hO6 hG6 hN6 hcF hlt)
        go_wp2
        clear c0 c1 wa wb b2
        have HH : Aside0 (0 ≤ k ∧ Below w2.heap.size w2 w6 ∧ Ob w2.heap.size w6 (.slice A6 N6 c6) ((r i).1 ++ fresh f z 0) ∧ N6 = ((r i).1 ++ fresh f z 0).length) := ⟨Nat.zero_le _, HB6.out, by
          have := HO6.out
          rw [HN6.out] at this
          simpa [fresh] using this, by
          have := HN6.out
          simp [fresh] at this ⊢
          omega⟩
        clear HB6 HO6 HN6
        go_loopw [13, 14] (fun lv jv wq => ∃ (q : Nat) (B : Option Addr) (rr cb : Nat), jv = .int .i64 q ∧ lv = .slice B rr cb ∧ Aside0 (q ≤ k ∧ Below w2.heap.size w2 wq ∧ Ob w2.heap.size wq (.slice B rr cb) ((r i).1 ++ fresh f z q) ∧ rr = ((r i).1 ++ fresh f z q).length)) (fun _ jv _ => k - num jv)
        case atStart => exact ⟨0, A6, N6, c6, rfl, rfl, HH⟩
        case round =>
          clear HH
          obtain ⟨q, B, rr, cb, rfl, rfl, ⟨hq, hB, hO, hr⟩⟩ := hrel
          have hI := HI.out
          by_cases hqk : q < k
          · have c0 : decide ((q : Int) < (k : Int)) = true := decide_eq_true (by omega)
            have c1 : decide (q < k) = true := decide_eq_true hqk
            have c2 : (q < k) = True := eq_true hqk
            have c3 : ((q : Int) < (k : Int)) = True := eq_true (by omega)
            have w1_ : IntKind.i64.wrap ((q : Int) + 1) = (q : Int) + 1 := wid _ (by omega) (by omega)
            have w2_ : IntKind.i64.wrap (f + (q : Int)) = f + (q : Int) := wid _ (by omega) (by omega)
            have HK := Aside0.mk (And.intro hqk hr)
            have HBQ := Aside0.mk hB
            have HOQ := Aside0.mk hO
            have HLL : Aside0 (((r i).1 ++ fresh f z q).length + 1 ≤ 100000) := ⟨by have := HFU.out; rw [List.length_append, fresh_len]; omega⟩
            clear hq hB hO hr hqk hI
            go_wp2_with ((with_reducible refine gate_builtin (b := .append) (xs := #[.tmp 100, .tmp 106]) rfl ?_); refine appR_step rfl (.tmp 100) (.tmp 106) rfl rfl rfl (HOQ.out.below (below_alloc (Below.refl _ wr) _)) (show Rb _ (.slice (some ⟨wr.heap.size, 0, none⟩) 1 1) [(f + (q : Int), z)] from .inr ⟨_, 0, 1, _, rfl, blk_new wr _, Nat.le_refl _, by decide, fun j hj => (by (obtain rfl : j = 0 := by simpa using hj); exact ⟨rfl, rfl⟩)⟩) (Nat.le_trans HBQ.out.size (below_alloc (Below.refl wr.heap.size wr) _).size) ?al ?_; (case al => have := HLL.out; simp only [List.length_cons, List.length_nil]; omega); intro v6 w6 hO6 hG6; obtain ⟨A6, c6, rfl⟩ := hO6.shape; have HB6 := Aside0.mk (pw_below_grown (below_step HBQ.out (below_alloc (Below.refl wr.heap.size wr) (.cells #[.int .i64 (f + (q : Int)), .int .i64 z] 105))) _ (below_step HBQ.out (below_alloc (Below.refl wr.heap.size wr) (.cells #[.int .i64 (f + (q : Int)), .int .i64 z] 105))).size hG6 (fun k hk => HOQ.out.low k hk)); rw [List.append_assoc, ← fresh_succ] at hO6 ⊢; generalize hN6 : ((r i).1 ++ fresh f z (q + 1)).length = N6 at hO6 ⊢; have HO6 := Aside0.mk hO6; have HN6 := Aside0.mk hN6; clear hO6 hG6 hN6)
            go_roundw
            case rel => exact ⟨q + 1, A6, N6, c6, by go_num, rfl, ⟨HK.out.1, HB6.out, HO6.out, HN6.out.symm⟩⟩
            case measure => simp only [num]; have := HK.out.1; omega
          · have c0 : decide ((q : Int) < (k : Int)) = false := decide_eq_false (by omega)
            have c1 : decide (q < k) = false := decide_eq_false hqk
            obtain rfl : q = k := by omega
            have HBQ := Aside0.mk hB
            have HOQ := Aside0.mk hO.reads
            have hc := (blk_cell (blk_below HG1.out hB) (2 * i)).trans eF
            have hf := blk_frozen (blk_below HG1.out hB) (2 * i)
            have hlt := Nat.lt_of_lt_of_le (blk_lt HG1.out) hB.size
            clear hq hB hO hr hqk hI eF
            go_upto_region 16 with (fail)
            have k1 : True := trivial
            have k2 : True := trivial
            have k3 : True := trivial
            have hRb : Rb wr (.slice B rr cb) ((r i).1 ++ fresh f z q) := HOQ.out
            have hG1_ := blk_below HG1.out HBQ.out
            have HR7 := Aside0.mk (((HR.out.below HBQ.out).setF HI.out.1 hRb).put (j := 2 * i) (u := .slice B rr cb) hG1_ (by decide))
            replace HG2 := Aside0.mk (blk_far (blk_below HG2.out HBQ.out) (p := ⟨gb, 2 * i, none⟩) (by show gr ≠ gb; have := HGE.out; omega) (.slice B rr cb))
            replace HG1 := Aside0.mk (blk_set hG1_ (2 * i) (.slice B rr cb))
            replace HB := Aside0.mk ((below_step HB.out HBQ.out).setCell (p := ⟨gb, 2 * i, none⟩) (by show w.heap.size ≤ gb; have := HGE.out; omega) (.slice B rr cb))
            clear hRb hG1_ k1 k2 k3 hc hf hlt
            generalize wr.setCell ⟨gb, 2 * i, none⟩ (.slice B rr cb) = w7 at HB HG1 HG2 HR7 ⊢
            generalize cells.setIfInBounds (2 * i) (.slice B rr cb) = cells7 at HR7 HG1
            go_wp2_with (first | ((with_reducible refine wpList_load_row rfl 93 (.tmp 5) rfl gb rfl 93 cells7 (0, 0) _ HG1.out Try.underlying93 rfl ?hi ?_); (case hi => rw [info93, HR7.out.sz])) | ((with_reducible refine store_step rfl (.tmp 10) (.tmp 112) rfl rfl gr cells7 rfl rfl _ HG2.out HR7.out.sz rfl HR7.out.one ?_)))
            refine bodyPost_ret (results_ct rfl _ _ gr 93 cells7 (0, 0) _ rfl (setRow_heap w7 gr _ cells7 93 (0, 0) HG2.out) Try.underlying93 rfl (by rw [info93, HR7.out.sz])) rfl ?_
            exact (.inr (.inr ⟨_, rfl, HNO.out, HFU.out, HR7.out.row HG2.out (by decide), row_below HB.out (by have := HGE.out; omega) _⟩))
/-- What is held of the document's pool besides its cells. -/
def Few (r : RS) : Prop := ∀ i, i < 16 → (r i).1.length + (r i).2.length ≤ 1024
theorem Tq.few {w0 w : World} {pb : Nat} {r : RS} (h : Tq w0 w pb r) : Few r := fun i hi => by
  obtain ⟨mp, fv, s, hP, hR⟩ := h.ex
  have := (hR i hi).n
  have := (hR i hi).cap
  omega
section
variable {w : World} {cells : Array Value} {r : RS}
theorem rprov_calls (h : Rf w cells r) (hF : Few r) (g f n z : Int) : Calls Try.prog 51 #[.agg cells, .int .i64 g, .int .i64 f, .int .i64 n, .int .i64 z] w fun e w' => ∃ cells', e = .returned (.tuple #[.agg cells', .int .i64 (provR r g f n z).2]) ∧ Rf w' cells' (provR r g f n z).1 ∧ Below w.heap.size w w' := by
  unfold provR
  by_cases hb : Out g ∨ Bad f n z
  · rw [if_pos hb]
    refine (rprovide_bad cells r w h g f n z hb).mono ?_
    rintro e w' ⟨rfl, hB⟩
    exact ⟨_, rfl, h.below hB, hB⟩
  rw [if_neg hb]
  obtain ⟨i, rfl, hi⟩ := nat_of (g := g) (fun e => hb (.inl e))
  have hb2 : ¬ Bad f n z := fun e => hb (.inr e)
  unfold Bad at hb2
  obtain ⟨c, rfl⟩ : ∃ c : Nat, n = c := ⟨n.toNat, by omega⟩
  simp only [Int.toNat_natCast]
  have hany : (List.range c).any (fun j => has (r i).1 (f + (j : Int)) || has (r i).2 (f + (j : Int))) = true ↔ ∃ j : Nat, j < c ∧ (has (r i).1 (f + j) || has (r i).2 (f + j)) = true := by
    rw [List.any_eq_true]
    exact ⟨fun ⟨j, hj, e⟩ => ⟨j, List.mem_range.1 hj, e⟩, fun ⟨j, hj, e⟩ => ⟨j, List.mem_range.2 hj, e⟩⟩
  refine (rprovide_any cells r w h i hi (hF i hi) f z c ⟨by omega, by omega⟩ ⟨by omega, by omega⟩ ⟨by omega, by omega⟩).mono ?_
  rintro e w' (⟨rfl, hex, hB⟩ | ⟨rfl, hno, hful, hB⟩ | ⟨cells', rfl, hno, hfit, hR', hB⟩)
  · rw [if_pos (hany.2 hex)]
    exact ⟨_, rfl, h.below hB, hB⟩
  · rw [if_neg (fun e => by obtain ⟨j, hj, e2⟩ := hany.1 e; rw [hno j hj] at e2; cases e2), if_pos hful]
    exact ⟨_, rfl, h.below hB, hB⟩
  · rw [if_neg (fun e => by obtain ⟨j, hj, e2⟩ := hany.1 e; rw [hno j hj] at e2; cases e2), if_neg (by omega)]
    exact ⟨_, rfl, hR', hB⟩
theorem rtake_calls (h : Rf w cells r) (hF : Few r) (g : Int) : Calls Try.prog 52 #[.agg cells, .int .i64 g] w fun e w' => ∃ cells', e = .returned (.tuple #[.agg cells', .int .i64 (takeR r g).2.1, .int .i64 (takeR r g).2.2.1, .int .i64 (takeR r g).2.2.2]) ∧ Rf w' cells' (takeR r g).1 ∧ Below w.heap.size w w' := by
  unfold takeR
  by_cases hg : Out g
  · rw [if_pos hg]
    refine (rtake_bad cells r w h g hg).mono ?_
    rintro e w' ⟨rfl, hB⟩
    exact ⟨_, rfl, h.below hB, hB⟩
  rw [if_neg hg]
  obtain ⟨i, rfl, hi⟩ := nat_of hg
  have hFi := hF i hi
  simp only [Int.toNat_natCast]
  cases h0 : (r i).1 with
  | nil =>
    refine (rtake_none cells r w h i hi h0).mono ?_
    rintro e w' ⟨rfl, hB⟩
    exact ⟨_, rfl, h.below hB, hB⟩
  | cons b F =>
    rw [h0] at hFi
    simp only [List.length_cons] at hFi
    exact rtake_in cells r w h i hi b F h0 ⟨by omega, by omega⟩
theorem rgive_calls (h : Rf w cells r) (hF : Few r) (g id : Int) : Calls Try.prog 53 #[.agg cells, .int .i64 g, .int .i64 id] w fun e w' => ∃ cells', e = .returned (.tuple #[.agg cells', .int .i64 (giveR r g id).2]) ∧ Rf w' cells' (giveR r g id).1 ∧ Below w.heap.size w w' := by
  unfold giveR
  by_cases hg : Out g
  · rw [if_pos hg]
    refine (rgive_bad cells r w h g id hg).mono ?_
    rintro e w' ⟨rfl, hB⟩
    exact ⟨_, rfl, h.below hB, hB⟩
  rw [if_neg hg]
  obtain ⟨i, rfl, hi⟩ := nat_of hg
  have hFi := hF i hi
  simp only [Int.toNat_natCast]
  by_cases hh : has (r i).2 id = true
  · rw [if_pos hh]
    obtain ⟨hlt, -, -⟩ := has_at hh
    exact rgive_in cells r w h i hi id ⟨by omega, by omega⟩ _ hlt (if_pos hh) _ _ rfl
  · rw [if_neg hh]
    refine (rgive_none cells r w h i hi id (by omega) (by simpa using hh)).mono ?_
    rintro e w' ⟨rfl, hB⟩
    exact ⟨_, rfl, h.below hB, hB⟩
theorem rrem_calls (h : Rf w cells r) (hF : Few r) (g n : Int) : Calls Try.prog 54 #[.agg cells, .int .i64 g, .int .i64 n] w fun e w' => ∃ cells', e = .returned (.tuple #[.agg cells', .int .i64 (remR r g n).2.1, .int .i64 (remR r g n).2.2]) ∧ Rf w' cells' (remR r g n).1 ∧ Below w.heap.size w w' := by
  unfold remR
  by_cases hg : Out g ∨ n < 0
  · rw [if_pos hg]
    refine (rremove_bad cells r w h g n hg).mono ?_
    rintro e w' ⟨rfl, hB⟩
    exact ⟨_, rfl, h.below hB, hB⟩
  rw [if_neg hg]
  obtain ⟨i, rfl, hi⟩ := nat_of (g := g) (fun e => hg (.inl e))
  have hFi := hF i hi
  simp only [Int.toNat_natCast]
  exact rremove_in cells r w h i hi (by omega) n (by have : ¬ n < 0 := fun e => hg (.inr e); omega) _ rfl
theorem rst_calls (h : Rf w cells r) (hF : Few r) (g id : Int) : Calls Try.prog 56 #[.agg cells, .int .i64 g, .int .i64 id] w fun e w' => e = .returned (.int .i64 (stR r g id)) ∧ Below w.heap.size w w' := rstate_calls cells r w h (fun i hi => by have := hF i hi; omega) g id
end
end Go.Proofs.Ytfmfpofbefgbgaa.HPoolR
