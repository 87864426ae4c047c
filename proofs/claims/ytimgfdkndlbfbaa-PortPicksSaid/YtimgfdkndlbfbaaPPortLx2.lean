/- The law PortPicks: its function answers true. Conditions: each theorem's own. -/
import Derived.Test.YtimgfdkndlbfbaaHPortV2
import Derived.Deep.CutRange
import Derived.Deep.CutBlock
namespace Go.Proofs.Ytimgfdkndlbfbaa.PPortL
open Go.RowKit Go.Proofs.YtimgfdkndlbfbaaW.PrintWords Go.Proofs.YtimgfdkndlbfbaaW.PrintLast Go.Proofs.YtimgfdkndlbfbaaW.PrintMore Go.Proofs.Ytimgfdkndlbfbaa.HPort Go.Proofs.Ytimgfdkndlbfbaa.HPortR Go.Proofs.Ytimgfdkndlbfbaa.PRp Go.Proofs.Ytimgfdkndlbfbaa.HReg Go.Proofs.Ytimgfdkndlbfbaa.HPortS Go.Proofs.Ytimgfdkndlbfbaa.HPortS2
set_option linter.unusedVariables false
set_option linter.unusedSimpArgs false
set_option linter.unusedSectionVars false
/-- What a round of PortPicks knows. -/
def Pq (w0 w : World) (b mb ma mj G k : Nat) : Prop := ∃ s A n co l A' n' co' l', Pd w0 w b mb ma mj s A n co l A' n' co' l' G #[.int .i64 s.low, .int .i64 s.high, .int .i64 s.last, .slice A n co, .slice A' n' co'] ∧ s.low = 40 ∧ s.high = 60 ∧ s.nb ≤ k ∧ s.nj ≤ k
theorem pq_start {w0 w1 w2 : World} {b mb ma mj : Nat} {A : Option Addr} {co : Nat} {A' : Option Addr} {co' : Nat} (hT : Tb w0.heap.size w1 b mb ma mj (ts0 40 60)) (hB : Below w0.heap.size w0 w1)
    (hR : Kd.R k175 175 w2 w1.heap.size (fun _ => True) (.slice A 0 co) []) (hR' : Kd.R k177 177 w2 w1.heap.size (fun _ => True) (.slice A' 0 co') []) (hB2 : Below w1.heap.size w1 w2) :
    Pq w0 (w2.alloc (.cells #[.int .i64 40, .int .i64 60, .int .i64 60, .slice A 0 co, .slice A' 0 co'] 100)) b mb ma mj w2.heap.size 0 := by
  have hn := below_alloc (Below.refl w2.heap.size w2) (.cells #[.int .i64 40, .int .i64 60, .int .i64 60, .slice A 0 co, .slice A' 0 co'] 100)
  have h3 := hB.size
  have h4 := hB2.size
  exact ⟨ts0 40 60, A, 0, co, [], A', 0, co', [], ⟨⟨⟨by simp, by rfl, rfl, by simp, fun _ => rfl, by simp, by rfl, rfl, by simp⟩, ⟨by decide, by decide, by decide, by decide, by decide⟩⟩, (hT.below hB2).below hn, ⟨Kd.R_below (Kd.R_lower hR h3) hn, Kd.R_below (Kd.R_lower hR' h3) hn⟩, below_step (below_step hB hB2) hn, blk_new w2 _, by omega⟩, rfl, rfl, Nat.zero_le _, Nat.zero_le _⟩
theorem _root_.Go.Proofs.Ytimgfdkndlbfbaa.HPort.Tb.weak {b0 b1 : Nat} {w : World} {b mb ma mj : Nat} {s : TS} (h : Tb b0 w b mb ma mj s) (hl : b1 ≤ b0) : Tb b1 w b mb ma mj s :=
  ⟨h.blk, ⟨Nat.le_trans hl h.lo.1, Nat.le_trans hl h.lo.2.1, Nat.le_trans hl h.lo.2.2.1, Nat.le_trans hl h.lo.2.2.2⟩, h.ap, h.B, h.A, h.J⟩
theorem Tw.putq {w0 w : World} {b mb ma mj g i : Nat} {s : TS} {cs : Array Value} {u : Value} (h : Tw w0 w b mb ma mj s) (hg : w.heap[g]? = some (.cells cs 107 (0, 0))) (hl : w0.heap.size ≤ g) : Tw w0 (w.setCell ⟨g, i, none⟩ u) b mb ma mj s := by
  obtain ⟨na, hA⟩ := h.tb.A
  exact ⟨⟨blk_far h.tb.blk (p := ⟨g, i, none⟩) (blk_ne h.tb.blk hg (by decide)) u, h.tb.lo, h.tb.ap, h.tb.B.put hg, ⟨na, hA.put hg⟩, h.tb.J.put hg⟩, bput h.bl hl⟩
section
variable {B b mb ma mj : Nat} {s : TS} {a p c d o : Int}
theorem find_old (h : (s.fj ((a, p), (c, d))).isSome = true) (ho : okQ ((a, p), (c, d))) : ∃ V : Int, ∀ w, Tb B w b mb ma mj s → Calls Try.prog 53 #[.pointer (some ⟨b, 0, none⟩), .agg #[.int .u32 a, .int .u16 p, .int .u32 c, .int .u16 d]] w fun e w' => e = .returned (.tuple #[.int .i64 V, .bool true, .bool true]) ∧ Below w.heap.size w w' := by
  refine ⟨(s.fj ((a, p), (c, d))).getD 0, fun w hT => ?_⟩
  have := find_any hT a p c d ho
  unfold findF at this
  rw [h] at this
  exact this
theorem find_own (h : (s.fj ((a, p), (c, d))).isSome = false) (hb : s.fb (a, p) = some o) (ho : okQ ((a, p), (c, d))) : ∀ w, Tb B w b mb ma mj s → Calls Try.prog 53 #[.pointer (some ⟨b, 0, none⟩), .agg #[.int .u32 a, .int .u16 p, .int .u32 c, .int .u16 d]] w fun e w' => e = .returned (.tuple #[.int .i64 o, .bool false, .bool true]) ∧ Below w.heap.size w w' := by
  intro w hT
  have := find_any hT a p c d ho
  unfold findF ownerF at this
  rw [h, hb] at this
  exact this
theorem find_set (v : Int) (ho : okQ ((a, p), (c, d))) (h : s.fj ((a, p), (c, d)) = some v) : ∀ w, Tb B w b mb ma mj s → Calls Try.prog 53 #[.pointer (some ⟨b, 0, none⟩), .agg #[.int .u32 a, .int .u16 p, .int .u32 c, .int .u16 d]] w fun e w' => e = .returned (.tuple #[.int .i64 v, .bool true, .bool true]) ∧ Below w.heap.size w w' := by
  intro w hT
  have := find_any hT a p c d ho
  unfold findF at this
  rw [h] at this
  exact this
end
/-- The port is picked, and bound: what stands then. -/
theorem bound (B b mb ma mj : Nat) {s : TS} {l : List S175} {l' : List S177} {n pt : Int} (hok : Ok { s with last := pt } l l') (hn : (Lit.int .u32 n).wf = true) (hpt : 40 ≤ pt ∧ pt ≤ 60) (hf : takenF s n pt = false) (hb : s.nb ≤ 100) (hj : s.nj ≤ 100) :
    ∃ s2 : TS, (∀ w, Tb B w b mb ma mj { s with last := pt } → Calls Try.prog 55 #[.pointer (some ⟨b, 0, none⟩), .agg #[.int .u32 n, .int .u16 pt], .int .i64 7] w fun e w' => e = .returned (.int .i64 0) ∧ Tb B w' b mb ma mj s2 ∧ Tv w w' b mb ma mj) ∧ s2.fb (n, pt) = some 7 ∧ s2.nj < 1024 := by
  refine ⟨_, fun w hT => bind_in hT n pt 7 ⟨hn, ?_⟩ (by omega) hf ?_ (hok.rel.cnt_ok pt), ?_, ?_⟩
  · simp [Lit.wf, IntKind.min, IntKind.max, IntKind.bits, IntKind.signed]; omega
  · show s.nb < 1024; omega
  · show upd s.fb (n, pt) (some 7) (n, pt) = some 7
    unfold upd; rw [if_pos rfl]
  · show s.nj < 1024; omega
set_option maxRecDepth 100000 in
set_option maxHeartbeats 60000000 in
theorem picks_many (A1 : Option Addr) (nn c1 : Nat) (qn qa qp qc qd : Int) (w : World) (hn : 100 < nn) :
    Calls Try.prog 9 #[.slice A1 nn c1, .int .u32 qn, .agg #[.int .u32 qa, .int .u16 qp, .int .u32 qc, .int .u16 qd]] w fun e w' => e = .returned (.bool true) ∧ Below w.heap.size w w' := by
  have e0 : decide (100 < (nn : Int)) = true := decide_eq_true (by omega)
  have e1 : decide (100 < nn) = true := decide_eq_true hn
  clear hn
  go_enter Try.func9, Try.ntmps9
  go_upto_region 1 with (fail)
  have HW := Aside0.mk (below_alloc (Below.refl w.heap.size w) (.cells #[.int .u32 qa, .int .u16 qp, .int .u32 qc, .int .u16 qd] 107))
  go_wp2_with (go_at_call 44; refine (live_calls _).mono ?_; rintro e w8 ⟨rfl, hB⟩; have HB8 := Aside0.mk hB; clear hB)
  go_ret
  exact ⟨rfl, below_step HW.out HB8.out⟩
set_option maxRecDepth 100000 in
set_option maxHeartbeats 60000000 in
theorem picks_few (A1 : Option Addr) (nn c1 : Nat) (qn qa qp qc qd : Int) (w : World) (h : Acts9 w A1 nn) (hn : nn ≤ 100) (hw : (Lit.int .u32 qn).wf = true) (hq : okQ ((qa, qp), (qc, qd))) :
    Calls Try.prog 9 #[.slice A1 nn c1, .int .u32 qn, .agg #[.int .u32 qa, .int .u16 qp, .int .u32 qc, .int .u16 qd]] w fun e w' => e = .returned (.bool true) ∧ Below w.heap.size w w' := by
  have e0 : decide (100 < (nn : Int)) = false := decide_eq_false (by omega)
  have e1 : decide (100 < nn) = false := decide_eq_false (by omega)
  have HN := Aside0.mk hn
  have HWF := Aside0.mk (And.intro hw hq)
  have HW := Aside0.mk (below_alloc (Below.refl w.heap.size w) (.cells #[.int .u32 qa, .int .u16 qp, .int .u32 qc, .int .u16 qd] 107))
  have H5q := Aside0.mk (blk_new w (.cells #[.int .u32 qa, .int .u16 qp, .int .u32 qc, .int .u16 qd] 107))
  have HSZ := Aside0.mk (show w.heap.size ≤ w.heap.size from Nat.le_refl _)
  have HA := Aside0.mk h
  clear h hn hw hq
  go_enter Try.func9, Try.ntmps9
  go_upto_region 1 with (fail)
  obtain ⟨g5, hg5⟩ : ∃ g5, g5 = w.heap.size := ⟨_, rfl⟩
  have HG5 := Aside0.mk (show w.heap.size ≤ g5 by omega)
  rw [← hg5] at H5q ⊢
  clear hg5 HSZ
  generalize w.alloc (.cells #[.int .u32 qa, .int .u16 qp, .int .u32 qc, .int .u16 qd] 107) = wq at HW H5q ⊢
  have HC0 := Aside0.mk (new_good 40 60 wq (by decide) (by decide) (by decide))
  go_upto_region 7 with (first | (go_at_call 45; refine HC0.out.mono ?_; rintro e w1 ⟨b, mb, ma, mj, rfl, hT, hB⟩; have HT0 := Aside0.mk hT; have HB0 := Aside0.mk hB; clear hT hB HC0) | (go_at_call 46; refine (code_calls _ _).mono ?_; rintro e w9 ⟨rfl, rfl⟩) | (go_at_call 47; refine (rnew_calls _ _ _).mono ?_; rintro e w2 ⟨A, co, A', co', rfl, hR, hR', hB2⟩; unfold rt; have HP := Aside0.mk (pq_start HT0.out HB0.out hR hR' hB2); clear hR hR' hB2))
  clear HT0 HB0
  obtain ⟨G, hG⟩ : ∃ G, G = w2.heap.size := ⟨_, rfl⟩
  rw [← hG] at HP ⊢
  clear hG
  generalize w2.alloc (.cells #[.int .i64 40, .int .i64 60, .int .i64 60, .slice A 0 co, .slice A' 0 co'] 100) = w3 at HP ⊢
  go_wp2
  have HH : Aside0 (0 ≤ nn ∧ Pq wq w3 b mb ma mj G 0) := ⟨Nat.zero_le _, HP.out⟩
  clear HP
  go_loopw [10] (fun i wr => ∃ k : Nat, i = .int .i64 k ∧ Aside0 (k ≤ nn ∧ Pq wq wr b mb ma mj G k)) (fun i _ => nn - num i)
  case atStart => exact ⟨0, rfl, HH⟩
  case round =>
    clear HH
    obtain ⟨k, rfl, ⟨hk, hO⟩⟩ := hrel
    have hnn := HN.out
    obtain ⟨s, A, n, co, l, A', n', co', l', hPc, hbd⟩ := hO
    by_cases hlt : k < nn
    · have b0 : decide ((k : Int) < (nn : Int)) = true := decide_eq_true (by omega)
      have b1 : decide (k < nn) = true := decide_eq_true hlt
      have b2 : (k < nn) = True := eq_true hlt
      have b3 : ((k : Int) < (nn : Int)) = True := eq_true (by omega)
      have e1 : IntKind.i64.wrap ((k : Int) + 1) = (k : Int) + 1 := wid _ (by omega) (by omega)
      obtain ⟨ad, rfl, x, o, a, p, c, d, hact, hqq⟩ := HA.out k hlt
      have HPC := Aside0.mk hPc
      have HBD := Aside0.mk hbd
      have HT := Aside0.mk (hact.below HW.out)
      have HQ := Aside0.mk hqq
      have HK := Aside0.mk hlt
      clear hk hnn hlt hact hqq hPc hbd
      go_upto_region 10 with (fail)
      refine start_ (n := 13) (S := fun w' => w'.heap[G]? = some (.cells #[.int .i64 s.low, .int .i64 s.high, .int .i64 s.last, .slice A n co, .slice A' n' co'] 100 (0, 0)) ∧ Act9 w' (ad.add (k * 6)) x o a p c d) (ds := [11]) (bb 13 0) (by kernel_rfl) rfl rfl (⟨HPC.out.box, HT.out.below (below_drew HPC.out.bl)⟩) (fun hHeld => ?_)
      replace HPC := Aside0.mk (HPC.out.below (below_drew (Below.refl _ _)))
      generalize World.drew _ = w5 at HPC hHeld ⊢
      refine pure_ (i := 0) (N := some 46) (v := ?_) (a' := ?_) (bb 13 1) rfl rfl (by kernel_rfl) (fun _ _ _ h => h) (Or.inl ⟨by rfl, ?_⟩) ?_ ?_
      rotate_left
      · intro w'
        go_simp
        with_reducible rfl
      rotate_left
      · simp only [Act.put, List.setIfInBounds_toArray, List.set_cons_zero, List.set_cons_succ, i64_w, i32_w]
        rfl
      refine take_ (i := 1) (N := some 47) (v := ?_) (a' := ?_) (bb 13 3) rfl rfl (by kernel_rfl) (fun _ _ _ h => h) (Or.inl ⟨by rfl, ?_⟩) hHeld ?_ ?_
      rotate_left
      · intro w' hSw
        obtain ⟨p0, p1, p2, p3, p4, -⟩ := five hSw.1
        obtain ⟨c0, c1, c2, c3, c4, c5⟩ := hSw.2
        go_simp
        with_reducible rfl
      rotate_left
      · simp only [Act.put, List.setIfInBounds_toArray, List.set_cons_zero, List.set_cons_succ, i64_w, i32_w]
        rfl
      refine pure_ (i := 2) (N := some 48) (v := ?_) (a' := ?_) (bb 13 7) rfl rfl (by kernel_rfl) (fun _ _ _ h => h) (Or.inl ⟨by rfl, ?_⟩) ?_ ?_
      rotate_left
      · intro w'
        go_simp
        with_reducible rfl
      rotate_left
      · simp only [Act.put, List.setIfInBounds_toArray, List.set_cons_zero, List.set_cons_succ, i64_w, i32_w]
        rfl
      refine pure_ (i := 3) (N := some 49) (v := ?_) (a' := ?_) (bb 13 15) rfl rfl (by kernel_rfl) (fun _ _ _ h => h) (Or.inl ⟨by rfl, ?_⟩) ?_ ?_
      rotate_left
      · intro w'
        go_simp
        with_reducible rfl
      rotate_left
      · simp only [Act.put, List.setIfInBounds_toArray, List.set_cons_zero, List.set_cons_succ, i64_w, i32_w]
        rfl
      refine pure_ (i := 4) (N := some 50) (v := ?_) (a' := ?_) (bb 13 31) rfl rfl (by kernel_rfl) (fun _ _ _ h => h) (Or.inl ⟨by rfl, ?_⟩) ?_ ?_
      rotate_left
      · intro w'
        go_simp
        with_reducible rfl
      rotate_left
      · simp only [Act.put, List.setIfInBounds_toArray, List.set_cons_zero, List.set_cons_succ, i64_w, i32_w]
        rfl
      refine take_ (i := 5) (N := some 51) (v := ?_) (a' := ?_) (bb 13 63) rfl rfl (by kernel_rfl) (fun _ _ _ h => h) (Or.inl ⟨by rfl, ?_⟩) hHeld ?_ ?_
      rotate_left
      · intro w' hSw
        obtain ⟨p0, p1, p2, p3, p4, -⟩ := five hSw.1
        obtain ⟨c0, c1, c2, c3, c4, c5⟩ := hSw.2
        go_simp
        with_reducible rfl
      rotate_left
      · simp only [Act.put, List.setIfInBounds_toArray, List.set_cons_zero, List.set_cons_succ, i64_w, i32_w]
        rfl
      refine two_ (i := 6) (j := 10) (Ni := some 52) (Nj := some 11) (bb 13 127) (bb 13 1087) rfl rfl rfl rfl (by kernel_rfl) (by decide) (by decide) (fun K hK => ?_) (fun K hK => ?_)
      · refine goes_ Try.func48 (by kernel_rfl) rfl #[.pointer (some ⟨b, 0, none⟩), rt s.low s.high s.last A n co A' n' co', .agg #[.int .i64 x, .int .i64 o, .int .u32 a, .int .u16 p, .int .u32 c, .int .u16 d]] (by rfl) rfl rfl (by (try simp only [List.map_toArray, List.map_cons, List.map_nil]); first | done | rfl | (go_simp; done) | (go_simp; omega)) ?_
        refine Calls.mono (step_any HPC.out.ok HPC.out.tb HPC.out.rb HPC.out.bl.size x o a p c d HQ.out) ?_
        rintro e w' ⟨s1, A1, n1, co1, l1, A1', n1', co1', l1', rfl, hS⟩
        refine ⟨_, rfl, ?_⟩
        have HGR := Aside0.mk hS.2.2.2.2
        replace HPC := Aside0.mk (HPC.out.step hS)
        clear hS
        unfold rt
        refine hK.out _ _ (⟨HPC.out.box, HT.out.below HPC.out.bl⟩) (fun hHeld => ?_)
        clear hK K
        refine norm_ (a' := ?_) ?_ ?_
        rotate_left
        · show Act.put _ (some 52) _ = _
          simp only [Act.put, List.setIfInBounds_toArray, List.set_cons_zero, List.set_cons_succ, i64_w, i32_w]
          rfl
        refine pure_ (i := 7) (N := some 45) (v := ?_) (a' := ?_) (bb 13 255) rfl rfl (by kernel_rfl) (fun _ _ _ h => h) (Or.inl ⟨by rfl, ?_⟩) ?_ ?_
        rotate_left
        · intro w'
          go_simp
          with_reducible rfl
        rotate_left
        · simp only [Act.put, List.setIfInBounds_toArray, List.set_cons_zero, List.set_cons_succ, i64_w, i32_w]
          rfl
        refine pure_ (i := 8) (N := some 53) (v := ?_) (a' := ?_) (bb 13 511) rfl rfl (by kernel_rfl) (fun _ _ _ h => h) (Or.inl ⟨by rfl, ?_⟩) ?_ ?_
        rotate_left
        · intro w'
          go_simp
          with_reducible rfl
        rotate_left
        · simp only [Act.put, List.setIfInBounds_toArray, List.set_cons_zero, List.set_cons_succ, i64_w, i32_w]
          rfl
        refine pure_ (i := 9) (N := some 54) (v := ?_) (a' := ?_) (bb 13 1023) rfl rfl (by kernel_rfl) (fun _ _ _ h => h) (Or.inl ⟨by rfl, ?_⟩) ?_ ?_
        rotate_left
        · intro w'
          go_simp
          with_reducible rfl
        rotate_left
        · simp only [Act.put, List.setIfInBounds_toArray, List.set_cons_zero, List.set_cons_succ, i64_w, i32_w]
          rfl
        refine one_ (i := 10) (N := some 11) (bb 13 2047) rfl rfl (by kernel_rfl) (by decide) (fun K hK => ?_)
        refine event_step (by rfl) (show _ = Result.ok (Next.value (.pointer (some ⟨w'.heap.size, 0, none⟩))) (World.alloc _ (.cells #[.int .i64 0, .int .i64 0, .int .i64 0, .slice none 0 0, .slice none 0 0] 100)) from by first | (go_simp; done) | (go_simp; rfl)) ?_
        have hB := below_alloc (Below.refl _ w') (.cells #[.int .i64 0, .int .i64 0, .int .i64 0, .slice none 0 0, .slice none 0 0] 100)
        have hN := blk_new w' (.cells #[.int .i64 0, .int .i64 0, .int .i64 0, .slice none 0 0, .slice none 0 0] 100)
        have hz1 := HPC.out.bl.size
        have hz2 := blk_lt HPC.out.box
        obtain ⟨g4, hg4⟩ : ∃ g4, g4 = w'.heap.size := ⟨_, rfl⟩
        have HG4 := Aside0.mk (show wq.heap.size ≤ g4 ∧ G ≠ g4 by omega)
        rw [← hg4] at hN ⊢
        clear hz1 hz2 hg4
        generalize World.alloc w' (.cells #[.int .i64 0, .int .i64 0, .int .i64 0, .slice none 0 0, .slice none 0 0] 100) = w5_ at hB hN ⊢
        have HN4 := Aside0.mk hN
        replace HPC := Aside0.mk (HPC.out.below hB)
        clear hB hN
        refine hK.out _ _ (⟨HPC.out.box, HT.out.below HPC.out.bl⟩) (fun hHeld => ?_)
        clear hK K
        refine norm_ (a' := ?_) ?_ ?_
        rotate_left
        · show Act.put _ (some 11) _ = _
          simp only [Act.put, List.setIfInBounds_toArray, List.set_cons_zero, List.set_cons_succ, i64_w, i32_w]
          rfl
        refine last_ (i := 11) (N := none) (bb 13 4095) rfl rfl (by kernel_rfl) (by decide) (fun K hK => ?_)
        obtain ⟨w6, hw6⟩ : ∃ w6, w6 = w5_ := ⟨_, rfl⟩
        rw [← hw6] at HPC HN4 ⊢
        clear hw6 hHeld
        obtain ⟨q0, q1, q2, q3, q4, s0_, s1_, s2_, s3_, s4_⟩ := five HN4.out
        refine skip_ (w1 := ((((w6.setCell ⟨g4, 0, none⟩ (.int .i64 s1.low)).setCell ⟨g4, 1, none⟩ (.int .i64 s1.high)).setCell ⟨g4, 2, none⟩ (.int .i64 s1.last)).setCell ⟨g4, 3, none⟩ (.slice A1 n1 co1)).setCell ⟨g4, 4, none⟩ (.slice A1' n1' co1')) (by rfl) rfl (by first | (go_simp; done) | (go_simp; rfl)) ?_
        refine hK.out _ _ ?_
        clear hK K
        refine pure_ (i := 12) (N := some 12) (v := ?_) (a' := ?_) (bb 13 8191) rfl rfl (by kernel_rfl) (fun _ _ _ h => h) (Or.inl ⟨by rfl, ?_⟩) ?_ ?_
        rotate_left
        · intro w'
          go_simp
          with_reducible rfl
        rotate_left
        · simp only [Act.put, List.setIfInBounds_toArray, List.set_cons_zero, List.set_cons_succ, i64_w, i32_w]
          rfl
        refine done_ (by kernel_rfl) ?_
        have HN5 := Aside0.mk (five_put HN4.out (.int .i64 s1.low) (.int .i64 s1.high) (.int .i64 s1.last) (.slice A1 n1 co1) (.slice A1' n1' co1'))
        replace HPC := Aside0.mk (HPC.out.far HN4.out HG4.out.1 HG4.out.2 (.int .i64 s1.low) (.int .i64 s1.high) (.int .i64 s1.last) (.slice A1 n1 co1) (.slice A1' n1' co1'))
        unfold put5 at HN5 HPC
        clear q0 q1 q2 q3 q4 s0_ s1_ s2_ s3_ s4_ HN4
        generalize ((((w6.setCell ⟨g4, 0, none⟩ (.int .i64 s1.low)).setCell ⟨g4, 1, none⟩ (.int .i64 s1.high)).setCell ⟨g4, 2, none⟩ (.int .i64 s1.last)).setCell ⟨g4, 3, none⟩ (.slice A1 n1 co1)).setCell ⟨g4, 4, none⟩ (.slice A1' n1' co1') = w7 at HPC HN5 ⊢
        obtain ⟨q0, q1, q2, q3, q4, -⟩ := five HN5.out
        obtain ⟨p0, p1, p2, p3, p4, s0_, s1_, s2_, s3_, s4_⟩ := five HPC.out.box
        go_upto_region 12 with (fail)
        replace HPC := Aside0.mk (HPC.out.put (.int .i64 s1.low) (.int .i64 s1.high) (.int .i64 s1.last) (.slice A1 n1 co1) (.slice A1' n1' co1'))
        clear p0 p1 p2 p3 p4 s0_ s1_ s2_ s3_ s4_ q0 q1 q2 q3 q4 HN5
        unfold put5 at HPC
        generalize ((((w7.setCell ⟨G, 0, none⟩ (.int .i64 s1.low)).setCell ⟨G, 1, none⟩ (.int .i64 s1.high)).setCell ⟨G, 2, none⟩ (.int .i64 s1.last)).setCell ⟨G, 3, none⟩ (.slice A1 n1 co1)).setCell ⟨G, 4, none⟩ (.slice A1' n1' co1') = w9_ at HPC ⊢
        go_wp2
        go_roundw
        case rel => exact ⟨k + 1, by go_num, ⟨HK.out, s1, A1, n1, co1, l1, A1', n1', co1', l1', HPC.out, HGR.out.1.trans HBD.out.1, HGR.out.2.1.trans HBD.out.2.1, Nat.le_trans HGR.out.2.2.1 (Nat.succ_le_succ HBD.out.2.2.1), Nat.le_trans HGR.out.2.2.2 (Nat.succ_le_succ HBD.out.2.2.2)⟩⟩
        case measure => simp only [num]; have := HK.out; omega
      · refine event_step (by rfl) (show _ = Result.ok (Next.value (.pointer (some ⟨w5.heap.size, 0, none⟩))) (World.alloc _ (.cells #[.int .i64 0, .int .i64 0, .int .i64 0, .slice none 0 0, .slice none 0 0] 100)) from by first | (go_simp; done) | (go_simp; rfl)) ?_
        have hB := below_alloc (Below.refl _ w5) (.cells #[.int .i64 0, .int .i64 0, .int .i64 0, .slice none 0 0, .slice none 0 0] 100)
        have hN := blk_new w5 (.cells #[.int .i64 0, .int .i64 0, .int .i64 0, .slice none 0 0, .slice none 0 0] 100)
        have hz1 := HPC.out.bl.size
        have hz2 := blk_lt HPC.out.box
        obtain ⟨g4, hg4⟩ : ∃ g4, g4 = w5.heap.size := ⟨_, rfl⟩
        have HG4 := Aside0.mk (show wq.heap.size ≤ g4 ∧ G ≠ g4 by omega)
        rw [← hg4] at hN ⊢
        clear hz1 hz2 hg4
        generalize World.alloc w5 (.cells #[.int .i64 0, .int .i64 0, .int .i64 0, .slice none 0 0, .slice none 0 0] 100) = w5_ at hB hN ⊢
        have HN4 := Aside0.mk hN
        replace HPC := Aside0.mk (HPC.out.below hB)
        clear hB hN
        refine hK.out _ _ (⟨HPC.out.box, HT.out.below HPC.out.bl⟩) (fun hHeld => ?_)
        clear hK K
        refine norm_ (a' := ?_) ?_ ?_
        rotate_left
        · show Act.put _ (some 11) _ = _
          simp only [Act.put, List.setIfInBounds_toArray, List.set_cons_zero, List.set_cons_succ, i64_w, i32_w]
          rfl
        refine one_ (i := 6) (N := some 52) (bb 13 1151) rfl rfl (by kernel_rfl) (by decide) (fun K hK => ?_)
        refine goes_ Try.func48 (by kernel_rfl) rfl #[.pointer (some ⟨b, 0, none⟩), rt s.low s.high s.last A n co A' n' co', .agg #[.int .i64 x, .int .i64 o, .int .u32 a, .int .u16 p, .int .u32 c, .int .u16 d]] (by rfl) rfl rfl (by (try simp only [List.map_toArray, List.map_cons, List.map_nil]); first | done | rfl | (go_simp; done) | (go_simp; omega)) ?_
        refine Calls.mono (step_any HPC.out.ok HPC.out.tb HPC.out.rb HPC.out.bl.size x o a p c d HQ.out) ?_
        rintro e w' ⟨s1, A1, n1, co1, l1, A1', n1', co1', l1', rfl, hS⟩
        refine ⟨_, rfl, ?_⟩
        replace HN4 := Aside0.mk (hS.2.2.2.1.box HPC.out.tb HN4.out (by decide))
        have HGR := Aside0.mk hS.2.2.2.2
        replace HPC := Aside0.mk (HPC.out.step hS)
        clear hS
        unfold rt
        refine hK.out _ _ (⟨HPC.out.box, HT.out.below HPC.out.bl⟩) (fun hHeld => ?_)
        clear hK K
        refine norm_ (a' := ?_) ?_ ?_
        rotate_left
        · show Act.put _ (some 52) _ = _
          simp only [Act.put, List.setIfInBounds_toArray, List.set_cons_zero, List.set_cons_succ, i64_w, i32_w]
          rfl
        refine pure_ (i := 7) (N := some 45) (v := ?_) (a' := ?_) (bb 13 1279) rfl rfl (by kernel_rfl) (fun _ _ _ h => h) (Or.inl ⟨by rfl, ?_⟩) ?_ ?_
        rotate_left
        · intro w'
          go_simp
          with_reducible rfl
        rotate_left
        · simp only [Act.put, List.setIfInBounds_toArray, List.set_cons_zero, List.set_cons_succ, i64_w, i32_w]
          rfl
        refine pure_ (i := 8) (N := some 53) (v := ?_) (a' := ?_) (bb 13 1535) rfl rfl (by kernel_rfl) (fun _ _ _ h => h) (Or.inl ⟨by rfl, ?_⟩) ?_ ?_
        rotate_left
        · intro w'
          go_simp
          with_reducible rfl
        rotate_left
        · simp only [Act.put, List.setIfInBounds_toArray, List.set_cons_zero, List.set_cons_succ, i64_w, i32_w]
          rfl
        refine pure_ (i := 9) (N := some 54) (v := ?_) (a' := ?_) (bb 13 2047) rfl rfl (by kernel_rfl) (fun _ _ _ h => h) (Or.inl ⟨by rfl, ?_⟩) ?_ ?_
        rotate_left
        · intro w'
          go_simp
          with_reducible rfl
        rotate_left
        · simp only [Act.put, List.setIfInBounds_toArray, List.set_cons_zero, List.set_cons_succ, i64_w, i32_w]
          rfl
        refine last_ (i := 11) (N := none) (bb 13 4095) rfl rfl (by kernel_rfl) (by decide) (fun K hK => ?_)
        obtain ⟨w6, hw6⟩ : ∃ w6, w6 = w' := ⟨_, rfl⟩
        rw [← hw6] at HPC HN4 ⊢
        clear hw6 hHeld
        obtain ⟨q0, q1, q2, q3, q4, s0_, s1_, s2_, s3_, s4_⟩ := five HN4.out
        refine skip_ (w1 := ((((w6.setCell ⟨g4, 0, none⟩ (.int .i64 s1.low)).setCell ⟨g4, 1, none⟩ (.int .i64 s1.high)).setCell ⟨g4, 2, none⟩ (.int .i64 s1.last)).setCell ⟨g4, 3, none⟩ (.slice A1 n1 co1)).setCell ⟨g4, 4, none⟩ (.slice A1' n1' co1')) (by rfl) rfl (by first | (go_simp; done) | (go_simp; rfl)) ?_
        refine hK.out _ _ ?_
        clear hK K
        refine pure_ (i := 12) (N := some 12) (v := ?_) (a' := ?_) (bb 13 8191) rfl rfl (by kernel_rfl) (fun _ _ _ h => h) (Or.inl ⟨by rfl, ?_⟩) ?_ ?_
        rotate_left
        · intro w'
          go_simp
          with_reducible rfl
        rotate_left
        · simp only [Act.put, List.setIfInBounds_toArray, List.set_cons_zero, List.set_cons_succ, i64_w, i32_w]
          rfl
        refine done_ (by kernel_rfl) ?_
        have HN5 := Aside0.mk (five_put HN4.out (.int .i64 s1.low) (.int .i64 s1.high) (.int .i64 s1.last) (.slice A1 n1 co1) (.slice A1' n1' co1'))
        replace HPC := Aside0.mk (HPC.out.far HN4.out HG4.out.1 HG4.out.2 (.int .i64 s1.low) (.int .i64 s1.high) (.int .i64 s1.last) (.slice A1 n1 co1) (.slice A1' n1' co1'))
        unfold put5 at HN5 HPC
        clear q0 q1 q2 q3 q4 s0_ s1_ s2_ s3_ s4_ HN4
        generalize ((((w6.setCell ⟨g4, 0, none⟩ (.int .i64 s1.low)).setCell ⟨g4, 1, none⟩ (.int .i64 s1.high)).setCell ⟨g4, 2, none⟩ (.int .i64 s1.last)).setCell ⟨g4, 3, none⟩ (.slice A1 n1 co1)).setCell ⟨g4, 4, none⟩ (.slice A1' n1' co1') = w7 at HPC HN5 ⊢
        obtain ⟨q0, q1, q2, q3, q4, -⟩ := five HN5.out
        obtain ⟨p0, p1, p2, p3, p4, s0_, s1_, s2_, s3_, s4_⟩ := five HPC.out.box
        go_upto_region 12 with (fail)
        replace HPC := Aside0.mk (HPC.out.put (.int .i64 s1.low) (.int .i64 s1.high) (.int .i64 s1.last) (.slice A1 n1 co1) (.slice A1' n1' co1'))
        clear p0 p1 p2 p3 p4 s0_ s1_ s2_ s3_ s4_ q0 q1 q2 q3 q4 HN5
        unfold put5 at HPC
        generalize ((((w7.setCell ⟨G, 0, none⟩ (.int .i64 s1.low)).setCell ⟨G, 1, none⟩ (.int .i64 s1.high)).setCell ⟨G, 2, none⟩ (.int .i64 s1.last)).setCell ⟨G, 3, none⟩ (.slice A1 n1 co1)).setCell ⟨G, 4, none⟩ (.slice A1' n1' co1') = w9_ at HPC ⊢
        go_wp2
        go_roundw
        case rel => exact ⟨k + 1, by go_num, ⟨HK.out, s1, A1, n1, co1, l1, A1', n1', co1', l1', HPC.out, HGR.out.1.trans HBD.out.1, HGR.out.2.1.trans HBD.out.2.1, Nat.le_trans HGR.out.2.2.1 (Nat.succ_le_succ HBD.out.2.2.1), Nat.le_trans HGR.out.2.2.2 (Nat.succ_le_succ HBD.out.2.2.2)⟩⟩
        case measure => simp only [num]; have := HK.out; omega
    · have b0 : decide ((k : Int) < (nn : Int)) = false := decide_eq_false (by omega)
      have b1 : decide (k < nn) = false := decide_eq_false hlt
      obtain ⟨s1, pt, cd, hby, hcase⟩ := by_Pick w.heap.size b mb ma mj hPc.ok HWF.out.1
      have TW := Aside0.mk (show Tw w wr b mb ma mj s from ⟨hPc.tb.weak HW.out.size, below_step HW.out hPc.bl⟩)
      have H5 := Aside0.mk (blk_below H5q.out hPc.bl)
      have hl40 : s.low = 40 := hbd.1
      have hl60 : s.high = 60 := hbd.2.1
      have hnb : s.nb ≤ 100 := by omega
      have hnj : s.nj ≤ 100 := by omega
      have HC := Aside0.mk hby
      have HOK := Aside0.mk hby.2.2.1
      clear hk hlt hPc hbd hby
      obtain ⟨rfl, h1, h2, h3, rfl⟩ | ⟨rfl, rfl, rfl⟩ := hcase
      · obtain ⟨s2, hbind, hfb, hnj2⟩ := bound w.heap.size b mb ma mj HOK.out HWF.out.1 (by omega) h3 hnb hnj
        have f1 : decide (pt < 40) = false := decide_eq_false (by omega)
        have f2 : decide (60 < pt) = false := decide_eq_false (by omega)
        have HC2 := Aside0.mk hbind
        have HS2 := Aside0.mk (And.intro hfb hnj2)
        have HPT := Aside0.mk (show 40 ≤ pt ∧ pt ≤ 60 by omega)
        clear h1 h2 h3 hl40 hl60 hnb hnj hbind hfb hnj2 hnn
        go_upto_region 20 with (first | (go_at_call 54; refine (HC.out.1 _ TW.out.tb).mono ?_; rintro e w4 ⟨rfl, hT, hV⟩; replace H5 := Aside0.mk (hV.box TW.out.tb H5.out (by decide)); replace TW := Aside0.mk (TW.out.turn hT hV); clear hT hV) | (go_at_call 46; refine (code_calls _ _).mono ?_; rintro e w9 ⟨rfl, rfl⟩) | (go_at_call 55; refine (HC2.out _ TW.out.tb).mono ?_; rintro e w5 ⟨rfl, hT, hV⟩; replace H5 := Aside0.mk (hV.box TW.out.tb H5.out (by decide)); replace TW := Aside0.mk (TW.out.turn hT hV); clear hT hV))
        have q0 := (blk_cell H5.out 0).trans rfl
        have q1 := (blk_cell H5.out 1).trans rfl
        have q2 := (blk_cell H5.out 2).trans rfl
        have q3 := (blk_cell H5.out 3).trans rfl
        have q4 := blk_frozen H5.out 0
        have q5 := blk_frozen H5.out 1
        by_cases hd : qd = 0
        · have z1 : (qd == 0) = true := beq_iff_eq.2 hd
          have z2 : decide (qd = 0) = true := decide_eq_true hd
          clear hd
          go_wp2_with (go_at_call 44; refine (live_calls _).mono ?_; rintro e w8 ⟨rfl, hB⟩; replace TW := Aside0.mk (TW.out.below hB); clear hB)
          go_ret
          exact ⟨rfl, TW.out.bl⟩
        · have z1 : (qd == 0) = false := beq_eq_false_iff_ne.2 hd
          have z2 : decide (qd = 0) = false := decide_eq_false hd
          go_upto_region 23 with (fail)
          obtain ⟨w9, hw9⟩ : ∃ w9, w9 = w5 := ⟨_, rfl⟩
          rw [← hw9] at TW H5 ⊢
          clear hw9
          replace TW := Aside0.mk ((TW.out.putq (i := 0) (u := .int .u32 qn) H5.out HG5.out).putq (i := 1) (u := .int .u16 pt) (blk_set H5.out 0 _) HG5.out)
          replace H5 := Aside0.mk (show ((w9.setCell ⟨g5, 0, none⟩ (.int .u32 qn)).setCell ⟨g5, 1, none⟩ (.int .u16 pt)).heap[g5]? = some (.cells #[.int .u32 qn, .int .u16 pt, .int .u32 qc, .int .u16 qd] 107 (0, 0)) from blk_put (blk_put H5.out 0 _ rfl) 1 _ rfl)
          clear q0 q1 q2 q3 q4 q5
          generalize (w9.setCell ⟨g5, 0, none⟩ (.int .u32 qn)).setCell ⟨g5, 1, none⟩ (.int .u16 pt) = w10 at TW H5 ⊢
          have q0 := (blk_cell H5.out 0).trans rfl
          have q1 := (blk_cell H5.out 1).trans rfl
          have q2 := (blk_cell H5.out 2).trans rfl
          have q3 := (blk_cell H5.out 3).trans rfl
          have q4 := blk_frozen H5.out 0
          have q5 := blk_frozen H5.out 1
          have hoq : okQ ((qn, pt), (qc, qd)) := ⟨⟨HWF.out.1, by have := HPT.out; simp [Lit.wf, IntKind.min, IntKind.max, IntKind.bits, IntKind.signed]; omega⟩, HWF.out.2.2⟩
          have hp0 : pt ≠ 0 := by have := HPT.out; omega
          cases hfj : (s2.fj ((qn, pt), (qc, qd))).isSome with
          | true =>
            obtain ⟨V, hV⟩ := find_old (B := w.heap.size) (b := b) (mb := mb) (ma := ma) (mj := mj) hfj hoq
            have HF := Aside0.mk hV
            have HJ := Aside0.mk (fun (v : World) (hT : Tb w.heap.size v b mb ma mj s2) => join_same hT qn pt qc qd 9 hoq hp0 hd hfj)
            have HZ := TW
            have v1 : (V == V) = true := beq_self_eq_true V
            clear hV hoq hp0 hfj hd
            go_wp2_with (first | (go_at_call 53; refine (HF.out _ TW.out.tb).mono ?_; rintro e w6 ⟨rfl, hB⟩; replace H5 := Aside0.mk (blk_below H5.out hB); replace TW := Aside0.mk (TW.out.below hB); clear q0 q1 q2 q3 q4 q5; clear hB; have q0 := (blk_cell H5.out 0).trans rfl; have q1 := (blk_cell H5.out 1).trans rfl; have q2 := (blk_cell H5.out 2).trans rfl; have q3 := (blk_cell H5.out 3).trans rfl; have q4 := blk_frozen H5.out 0; have q5 := blk_frozen H5.out 1) | (go_at_call 56; refine (HJ.out _ TW.out.tb).mono ?_; rintro e w7 ⟨rfl, hB⟩; replace H5 := Aside0.mk (blk_below H5.out hB); replace TW := Aside0.mk (TW.out.below hB); clear q0 q1 q2 q3 q4 q5; clear hB; have q0 := (blk_cell H5.out 0).trans rfl; have q1 := (blk_cell H5.out 1).trans rfl; have q2 := (blk_cell H5.out 2).trans rfl; have q3 := (blk_cell H5.out 3).trans rfl; have q4 := blk_frozen H5.out 0; have q5 := blk_frozen H5.out 1) | (go_at_call 46; refine (code_calls _ _).mono ?_; rintro e w9 ⟨rfl, rfl⟩) | (go_at_call 44; refine (live_calls _).mono ?_; rintro e w8 ⟨rfl, hB⟩; replace TW := Aside0.mk (TW.out.below hB); clear hB))
            go_ret
            exact ⟨rfl, TW.out.bl⟩
          | false =>
            have HF := Aside0.mk (find_own (B := w.heap.size) (b := b) (mb := mb) (ma := ma) (mj := mj) hfj HS2.out.1 hoq)
            have HJ := Aside0.mk (fun (v : World) (hT : Tb w.heap.size v b mb ma mj s2) => join_in hT qn pt qc qd 9 hoq hp0 hd hfj HS2.out.2)
            obtain ⟨s3, hs3⟩ : ∃ s3, s3 = ({ s2 with fj := upd s2.fj ((qn, pt), (qc, qd)) (some 9), nj := one (s2.fj ((qn, pt), (qc, qd))) s2.nj } : TS) := ⟨_, rfl⟩
            have hf3 : s3.fj ((qn, pt), (qc, qd)) = some 9 := by rw [hs3]; show upd s2.fj _ _ _ = _; unfold upd; rw [if_pos rfl]
            have HG := Aside0.mk (find_set (B := w.heap.size) (b := b) (mb := mb) (ma := ma) (mj := mj) 9 hoq hf3)
            rw [← hs3] at HJ
            clear hs3 hf3 hoq hp0 hfj hd
            go_upto_region 25 with (first | (go_at_call 53; refine (HF.out _ TW.out.tb).mono ?_; rintro e w6 ⟨rfl, hB⟩; replace H5 := Aside0.mk (blk_below H5.out hB); replace TW := Aside0.mk (TW.out.below hB); clear q0 q1 q2 q3 q4 q5; clear hB; have q0 := (blk_cell H5.out 0).trans rfl; have q1 := (blk_cell H5.out 1).trans rfl; have q2 := (blk_cell H5.out 2).trans rfl; have q3 := (blk_cell H5.out 3).trans rfl; have q4 := blk_frozen H5.out 0; have q5 := blk_frozen H5.out 1) | (go_at_call 56; refine (HJ.out _ TW.out.tb).mono ?_; rintro e w7 ⟨rfl, hT, hV⟩; replace H5 := Aside0.mk (hV.box TW.out.tb H5.out (by decide)); replace TW := Aside0.mk (TW.out.turn hT hV); clear q0 q1 q2 q3 q4 q5; clear hT hV; have q0 := (blk_cell H5.out 0).trans rfl; have q1 := (blk_cell H5.out 1).trans rfl; have q2 := (blk_cell H5.out 2).trans rfl; have q3 := (blk_cell H5.out 3).trans rfl; have q4 := blk_frozen H5.out 0; have q5 := blk_frozen H5.out 1))
            go_wp2_with (first | (go_at_call 53; refine (HG.out _ TW.out.tb).mono ?_; rintro e w6 ⟨rfl, hB⟩; replace H5 := Aside0.mk (blk_below H5.out hB); replace TW := Aside0.mk (TW.out.below hB); clear q0 q1 q2 q3 q4 q5; clear hB; have q0 := (blk_cell H5.out 0).trans rfl; have q1 := (blk_cell H5.out 1).trans rfl; have q2 := (blk_cell H5.out 2).trans rfl; have q3 := (blk_cell H5.out 3).trans rfl; have q4 := blk_frozen H5.out 0; have q5 := blk_frozen H5.out 1) | (go_at_call 46; refine (code_calls _ _).mono ?_; rintro e w9 ⟨rfl, rfl⟩) | (go_at_call 44; refine (live_calls _).mono ?_; rintro e w8 ⟨rfl, hB⟩; replace TW := Aside0.mk (TW.out.below hB); clear hB))
            go_ret
            exact ⟨rfl, TW.out.bl⟩
      · clear hl40 hl60 hnb hnj hnn
        go_wp2_with (first | (go_at_call 54; refine (HC.out.1 _ TW.out.tb).mono ?_; rintro e w4 ⟨rfl, hT, hV⟩; replace H5 := Aside0.mk (hV.box TW.out.tb H5.out (by decide)); replace TW := Aside0.mk (TW.out.turn hT hV); clear hT hV) | (go_at_call 46; refine (code_calls _ _).mono ?_; rintro e w9 ⟨rfl, rfl⟩) | (go_at_call 44; refine (live_calls _).mono ?_; rintro e w8 ⟨rfl, hB⟩; replace TW := Aside0.mk (TW.out.below hB); clear hB))
        go_ret
        exact ⟨rfl, TW.out.bl⟩
theorem towropelaw18_PortPicks.calls (A1 : Option Addr) (nn c1 : Nat) (qn qa qp qc qd : Int) (w : World) (h : Acts9 w A1 nn) (hw : (Lit.int .u32 qn).wf = true) (hq : okQ ((qa, qp), (qc, qd))) :
    Calls Try.prog 9 #[.slice A1 nn c1, .int .u32 qn, .agg #[.int .u32 qa, .int .u16 qp, .int .u32 qc, .int .u16 qd]] w fun e w' => e = .returned (.bool true) ∧ Below w.heap.size w w' := by
  by_cases hn : 100 < nn
  · exact picks_many A1 nn c1 qn qa qp qc qd w hn
  · exact picks_few A1 nn c1 qn qa qp qc qd w h (Nat.le_of_not_lt hn) hw hq
end Go.Proofs.Ytimgfdkndlbfbaa.PPortL
