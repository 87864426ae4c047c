/- The laws of hose: HosePlays' function answers true, for every room and any acts. Conditions: each theorem's own. -/
import Derived.Test.YtfmfpofbefgbgaaPHoseLx2
import Derived.Test.YtfmfpofbefgbgaaHReg
namespace Go.Proofs.Ytfmfpofbefgbgaa.PHoseL
open Go.RowKit Go.Proofs.YtfmfpofbefgbgaaW.PrintWords Go.Proofs.YtfmfpofbefgbgaaW.PrintLast Go.Proofs.YtfmfpofbefgbgaaW.PrintMore Go.Proofs.Ytfmfpofbefgbgaa.HExt Go.Proofs.Ytfmfpofbefgbgaa.HHose Go.Proofs.Ytfmfpofbefgbgaa.HReg
set_option linter.unusedVariables false
set_option linter.unusedSimpArgs false
/-- What a round of HosePlays knows: the hose holds rl, which the law's own list holds, too. -/
structure PAt (W wr : World) (hb : Nat) (S : Nat → Prop) (room : Int) (A : Option Addr) (c : Nat) (rl : List Int) (i o : Int) (k : Nat) : Prop where
  hose : At W.heap.size wr hb S room rl i o
  row : Kd.F (Kd.int .u8) wr (fun q => ¬ S q) A rl.length rl
  cap : rl.length ≤ c
  bel : Below W.heap.size W wr
  i0 : 0 ≤ i
  i1 : i ≤ k * 1048576
  o0 : 0 ≤ o
  o1 : o ≤ k * 1048576
section
variable {W wr w2 : World} {hb : Nat} {S : Nat → Prop} {room : Int} {A : Option Addr} {c : Nat} {rl : List Int} {i o : Int} {k : Nat}
theorem PAt.below (h : PAt W wr hb S room A c rl i o k) (hB : Below wr.heap.size wr w2) : PAt W w2 hb S room A c rl i o k :=
  ⟨h.hose.below hB, Kd.F_step h.row (fun q _ hlt => hB.block q hlt), h.cap, h.bel.trans (hB.mono h.bel.size), h.i0, h.i1, h.o0, h.o1⟩
theorem PAt.more (h : PAt W wr hb S room A c rl i o k) : PAt W wr hb S room A c rl i o (k + 1) :=
  ⟨h.hose, h.row, h.cap, h.bel, h.i0, by have := h.i1; omega, h.o0, by have := h.o1; omega⟩
theorem PAt.str (h : PAt W wr hb S room A c rl i o k) : (convert 23 9 (.slice A rl.length c)).run Try.prog wr = .ok (.string (strOfNums rl)) wr :=
  Kd.C_string Try.underlying23 Try.underlying5 Try.underlying9 (Kd.F_now h.row)
end
theorem cs {w : World} {A : Option Addr} {n c : Nat} {xs : List Int} (h : Kd.C (Kd.int .u8) w A n xs) : (convert 23 9 (.slice A n c)).run Try.prog w = .ok (.string (strOfNums xs)) w :=
  Kd.C_string Try.underlying23 Try.underlying5 Try.underlying9 h
theorem R_sl {w : World} {base : Nat} {ok : Nat → Prop} {v : Value} {xs : List Int} (h : Kd.R (Kd.int .u8) 5 w base ok v xs) : ∃ A n c, v = .slice A n c := by
  obtain ⟨A, c, e⟩ := Kd.R_slice h
  exact ⟨A, _, c, e⟩
theorem takes {w : World} {ok : Nat → Prop} {A : Option Addr} {c tt : Nat} {l l1 : List Int} (h : Kd.F (Kd.int .u8) w ok A l.length l) (ht : tt ≤ l.length) (h1 : l.take tt = l1) (h2 : l1.length = tt) : (convert 23 9 (.slice A tt c)).run Try.prog w = .ok (.string (strOfNums l1)) w := by
  have h3 := Kd.F_now (Kd.F_take h ht)
  rw [h1, h2] at h3
  exact cs h3
theorem drop_to {B : Nat} {w : World} {b : Nat} {S : Nat → Prop} {room : Int} {l : List Int} {i o : Int} (h : At B w b S room l i o) (q : Int) (o0 : 0 ≤ o) (o1 : o ≤ 1000000000000) (rest : List Int) (k : Nat) (h2 : l.drop (outN q l.length) = rest) (h3 : outN q l.length = k) :
    Calls Try.prog 23 #[.pointer (some ⟨b, 0, none⟩), .int .i64 q] w fun e w' => e = .returned (.int .i64 (k : Int)) ∧ At B w' b S room rest i (o + (k : Nat)) ∧ Ap S w w' := by
  subst h2; subst h3
  exact drop_at h q o0 o1
theorem peekF_all (l : List Int) : peekF l 0 l.length = l := by
  rw [peekF_take, List.take_of_length_le]
  unfold outN; split <;> omega
set_option maxRecDepth 100000 in
set_option maxHeartbeats 8000000 in
theorem plays_bad (a0 : Int) (A1 : Option Addr) (n1 c1 : Nat) (w : World) (h : Acts w A1 n1) (hn : n1 ≤ c1) (hm : n1 ≤ 9223372036854775807) (hr : a0 < 1 ∨ 1048576 < a0) :
    Calls Try.prog 4 #[.int .i64 a0, .slice A1 n1 c1] w fun e w' => e = .returned (.bool true) ∧ Below w.heap.size w w' := by
  have HM := Aside0.mk (much_calls A1 n1 c1 w h hn hm)
  have HN := Aside0.mk (new_bad a0 w hr)
  have hd : (decide (a0 < 1) = true) ∨ (decide (a0 < 1) = false ∧ decide (1048576 < a0) = true) := by
    by_cases c : a0 < 1
    · exact .inl (decide_eq_true c)
    · exact .inr ⟨decide_eq_false c, decide_eq_true (by omega)⟩
  clear h hn hm hr
  rcases hd with d1 | ⟨d1, d2⟩
  all_goals
    go_enter Try.func4, Try.ntmps4
    go_wp2_with (first | (go_at_call 21; refine HM.out.mono ?_; rintro e w' ⟨bv, rfl, hbv, rfl⟩; clear hbv; cases bv) | (go_at_call 16; refine HN.out.mono ?_; rintro e w' ⟨rfl, rfl⟩) | (go_at_call 17; refine (code_calls _ _).mono ?_; rintro e w' ⟨rfl, rfl⟩) | (go_at_call 15; refine (live_calls _).mono ?_; rintro e w' ⟨rfl, hL⟩; have HL := Aside0.mk hL; clear hL))
    all_goals go_ret
    all_goals exact ⟨rfl, HL.out⟩
set_option maxRecDepth 100000 in
set_option maxHeartbeats 16000000 in
theorem plays_good (a0 : Int) (A1 : Option Addr) (n1 c1 : Nat) (w : World) (h : Acts w A1 n1) (hn : n1 ≤ c1) (hm : n1 ≤ 9223372036854775807) (h0 : 1 ≤ a0) (h1 : a0 ≤ 1048576) :
    Calls Try.prog 4 #[.int .i64 a0, .slice A1 n1 c1] w fun e w' => e = .returned (.bool true) ∧ Below w.heap.size w w' := by
  have HM := Aside0.mk (much_calls A1 n1 c1 w h hn hm)
  have HN := Aside0.mk (new_at a0 w h0 h1)
  have HR := Aside0.mk (And.intro h0 h1)
  have HA := Aside0.mk h
  have d1 : decide (a0 < 1) = false := decide_eq_false (by omega)
  have d2 : decide (1048576 < a0) = false := decide_eq_false (by omega)
  clear h hn hm h0 h1
  go_enter Try.func4, Try.ntmps4
  go_upto_region 11 with (first | (go_at_call 21; refine HM.out.mono ?_; rintro e w' ⟨bv, rfl, hbv, rfl⟩; have HV := Aside0.mk hbv; clear hbv; cases bv) | (go_at_call 16; refine HN.out.mono ?_; rintro e w1 ⟨b, S, rfl, hA, hB⟩; have HA1 := Aside0.mk hA; have HB1 := Aside0.mk hB; clear hA hB) | (go_at_call 17; refine (code_calls _ _).mono ?_; rintro e w' ⟨rfl, rfl⟩) | (go_at_call 15; refine (live_calls _).mono ?_; rintro e w' ⟨rfl, hL⟩; have HL := Aside0.mk hL; clear hL))
  rotate_left
  · go_ret
    exact ⟨rfl, HL.out⟩
  have HH : Aside0 (0 ≤ n1 ∧ ∃ S, PAt w w1 b S a0 none 0 [] 0 0 0) := ⟨by omega, S, HA1.out, Kd.F_nil _ _ _, by simp, HB1.out, by omega, by omega, by omega, by omega⟩
  have HV2 := Aside0.mk (HV.out trivial)
  clear HA1 HB1 HN HM HV d1 d2
  go_loopw [7, 8, 9, 10] (fun r i o k wr => ∃ (kk : Nat) (A : Option Addr) (c : Nat) (rl : List Int) (i1 o1 : Int), k = .int .i64 kk ∧ i = .int .i64 i1 ∧ o = .int .i64 o1 ∧ r = .slice A rl.length c ∧ Aside0 (kk ≤ n1 ∧ ∃ S, PAt w wr b S a0 A c rl i1 o1 kk)) (fun _ _ _ k _ => n1 - num k)
  case atStart => exact ⟨0, none, 0, [], 0, 0, rfl, rfl, rfl, rfl, HH⟩
  case round =>
    clear HH
    obtain ⟨kk, A, c, rl, i1, o1, rfl, rfl, rfl, rfl, ⟨hk, S, hA⟩⟩ := hrel
    have hn200 := HV2.out
    have ha0 := HR.out
    have hfit := hA.hose.fits
    by_cases hlt : kk < n1
    rotate_left
    · have c0 : decide ((kk : Int) < (n1 : Int)) = false := decide_eq_false (by omega)
      have c1' : decide (kk < n1) = false := decide_eq_false hlt
      have HB := Aside0.mk hA.bel
      clear hA hk hn200 ha0 hfit hlt
      go_wp2_with (go_at_call 15; refine (live_calls _).mono ?_; rintro e w' ⟨rfl, hL⟩; have HL := Aside0.mk hL; clear hL)
      go_ret
      exact ⟨rfl, HB.out.trans (HL.out.mono HB.out.size)⟩
    have c0 : decide ((kk : Int) < (n1 : Int)) = true := decide_eq_true (by omega)
    have c1' : decide (kk < n1) = true := decide_eq_true hlt
    have c2' : (kk < n1) = True := eq_true hlt
    obtain ⟨ad, rfl, d, t, q, B, cb, l, hact⟩ := HA.out kk hlt
    obtain ⟨x0, x1, x2, x3, hlB, hlc⟩ := hact.below hA.bel
    have HL := Aside0.mk (And.intro hact.2.2.2.2.1 hlc)
    have HAA := Aside0.mk hA
    have HQ := Aside0.mk (And.intro hlt (And.intro hn200 (And.intro ha0 hfit)))
    clear hA hk hn200 ha0 hfit hlt hact hlB hlc
    go_upto_region 14 with (fail)
    have hbx := blk_new wr (.cells #[.int .i64 d, .int .i64 t, .int .i64 q, .slice B l.length cb] 37)
    have HA2 := Aside0.mk (HAA.out.below (below_alloc (Below.refl _ _) (.cells #[.int .i64 d, .int .i64 t, .int .i64 q, .slice B l.length cb] 37)))
    obtain ⟨bx, hbxe⟩ : ∃ bx, bx = wr.heap.size := ⟨_, rfl⟩
    rw [← hbxe] at hbx ⊢
    generalize wr.alloc (.cells #[.int .i64 d, .int .i64 t, .int .i64 q, .slice B l.length cb] 37) = w2 at hbx HA2 ⊢
    have HX := Aside0.mk hbxe
    have HSX : Aside0 (∀ q, S q → q < bx) := Aside0.mk (by rw [hbxe]; exact HAA.out.hose.lt)
    have HXB := Aside0.mk hbx
    have y0 : w2.cell? ⟨bx, 0, none⟩ = some (.int .i64 d) := (blk_cell hbx 0).trans rfl
    have y1 : w2.cell? ⟨bx, 1, none⟩ = some (.int .i64 t) := (blk_cell hbx 1).trans rfl
    have y2 : w2.cell? ⟨bx, 2, none⟩ = some (.int .i64 q) := (blk_cell hbx 2).trans rfl
    have y3 : w2.cell? ⟨bx, 3, none⟩ = some (.slice B l.length cb) := (blk_cell hbx 3).trans rfl
    have er : IntKind.i64.wrap (a0 - (rl.length : Int)) = a0 - (rl.length : Int) := wid _ (by have := HQ.out; omega) (by have := HQ.out; omega)
    have ek : IntKind.i64.wrap ((kk : Int) + 1) = (kk : Int) + 1 := wid _ (by have := HQ.out; omega) (by have := HQ.out; omega)
    clear hbx hbxe x0 x1 x2 x3 HAA
    have HP := Aside0.mk HA2.out.more
    by_cases q0 : d = 0
    · skip
      subst q0
      obtain ⟨nn, hnn⟩ : ∃ nn, min l.length (a0.toNat - rl.length) = nn := ⟨_, rfl⟩
      obtain ⟨rl2, hrl2⟩ : ∃ x, rl ++ l.take nn = x := ⟨_, rfl⟩
      have hl2 : rl2.length = rl.length + nn := by rw [← hrl2, List.length_append, List.length_take]; omega
      have HF := fun W => Aside0.mk (show Calls Try.prog 22 #[.int .i64 (l.length : Int), .int .i64 (a0 - (rl.length : Int))] W fun e w' => e = .returned (.int .i64 (nn : Int)) ∧ W = w' by have := first_calls (l.length : Int) (a0 - (rl.length : Int)) W; rw [show a0 - (rl.length : Int) = ((a0.toNat - rl.length : Nat) : Int) by have := HQ.out; omega, firstF_len, hnn] at this; rw [show a0 - (rl.length : Int) = ((a0.toNat - rl.length : Nat) : Int) by have := HQ.out; omega]; exact this.mono (fun _ _ h => ⟨h.1, h.2.symm⟩))
      have hcut1 := cutTo B l.length cb nn (by omega) HL.out.2
      have hnr : rl.length + nn ≤ 1048576 := by have := HQ.out; omega
      have ei : IntKind.i64.wrap (i1 + (nn : Int)) = i1 + (nn : Int) := wid _ (by have := HP.out.i0; omega) (by have := HP.out.i1; have := HQ.out; omega)
      have er2 : IntKind.i64.wrap (a0 - (rl2.length : Int)) = a0 - (rl2.length : Int) := wid _ (by have := HQ.out; omega) (by have := HQ.out; omega)
      have HW := Aside0.mk (write_to HP.out.hose HP.out.bel.size B cb l.length nn l (fun q => q < w.heap.size) (Kd.F_step (Kd.C_F (Kd.heap_int _) HL.out.1) (fun q hq _ => HP.out.bel.block q hq)) (fun q hq hs => by have := HP.out.hose.ge q hs; omega) rfl HL.out.2 hnn HP.out.i0 (by have := HP.out.i1; have := HQ.out; omega))
      have HT := Aside0.mk (And.intro hnn (And.intro hrl2 (And.intro hl2 hnr)))
      have htk : (l.take nn).length = nn := by rw [List.length_take]; omega
      have HTK := Aside0.mk htk
      clear hnn hrl2 hl2 htk hnr
      go_upto_region 19 with (first | (go_at_call 22; refine Calls.mono (HF _).out ?_; rintro e w' ⟨rfl, rfl⟩) | (go_at_call 18; refine HW.out.mono ?_; rintro e w3 ⟨rfl, hA, hK⟩; have HAt := Aside0.mk hA; have HK := Aside0.mk hK; have HXB3 := Aside0.mk ((hK.block bx (blk_lt HXB.out) (fun hs => Nat.lt_irrefl _ (HSX.out _ hs))).trans HXB.out); have HBL := Aside0.mk (HP.out.bel.trans (hK.below HP.out.hose.ge HP.out.bel.size)); have HFR := Aside0.mk (Kd.F_mono (ok' := fun q_ => ¬ Grew S w2 w3 q_) (Kd.F_step (Kd.F_bound HP.out.row) (fun q_ hq_ hlt_ => hK.block q_ hlt_ hq_.1)) (fun q_ hq_ hg_ => hg_.elim hq_.1 (fun hh_ => by have := hq_.2; omega))); clear hA hK))
      clear y0 y1 y2 y3 HF HW
      refine start_ (n := 9) (S := fun w' => w'.cell? ⟨bx, 3, none⟩ = some (.slice B l.length cb)) (ds := []) (bb 9 0) (by kernel_rfl) rfl rfl ((blk_cell (blk_drew HXB3.out) 3).trans rfl) (fun hHeld => ?_)
      replace HAt := Aside0.mk (HAt.out.below (below_drew (Below.refl _ _)))
      replace HXB3 := Aside0.mk (blk_drew HXB3.out)
      replace HBL := Aside0.mk (below_drew HBL.out)
      replace HFR := Aside0.mk (Kd.F_drew HFR.out)
      obtain ⟨S6, hS6⟩ : ∃ S6, S6 = Grew S w2 w3 := ⟨_, rfl⟩
      rw [← hS6] at HAt HFR
      clear hS6 HK
      generalize w3.drew = w4 at HAt HXB3 HBL HFR hHeld ⊢
      refine pure_ (i := 1) (N := some 76) (v := ?_) (a' := ?_) (bb 9 2) rfl rfl (by kernel_rfl) (fun _ _ _ h => h) (Or.inl ⟨by rfl, ?_⟩) ?_ ?_
      rotate_left
      · intro w'
        go_simp
        with_reducible rfl
      rotate_left
      · simp only [Act.put, List.setIfInBounds_toArray, List.set_cons_zero, List.set_cons_succ, i64_w, i32_w]
        rfl
      refine pure_ (i := 3) (N := some 78) (v := ?_) (a' := ?_) (bb 9 10) rfl rfl (by kernel_rfl) (fun _ _ _ h => h) (Or.inl ⟨by rfl, ?_⟩) ?_ ?_
      rotate_left
      · intro w'
        go_simp
        with_reducible rfl
      rotate_left
      · simp only [Act.put, List.setIfInBounds_toArray, List.set_cons_zero, List.set_cons_succ, i64_w, i32_w]
        rfl
      refine take_ (i := 4) (N := some 79) (v := ?_) (a' := ?_) (bb 9 26) rfl rfl (by kernel_rfl) (fun _ _ _ h => h) (Or.inl ⟨by rfl, ?_⟩) hHeld ?_ ?_
      rotate_left
      · intro w' hSw
        go_simp
        with_reducible rfl
      rotate_left
      · simp only [Act.put, List.setIfInBounds_toArray, List.set_cons_zero, List.set_cons_succ, i64_w, i32_w]
        rfl
      refine pure_ (i := 5) (N := some 80) (v := ?_) (a' := ?_) (bb 9 58) rfl rfl (by kernel_rfl) (fun _ _ _ h => h) (Or.inl ⟨by rfl, ?_⟩) ?_ ?_
      rotate_left
      · intro w'
        go_simp
        with_reducible rfl
      rotate_left
      · simp only [Act.put, List.setIfInBounds_toArray, List.set_cons_zero, List.set_cons_succ, i64_w, i32_w]
        rfl
      refine pure_ (i := 6) (N := some 81) (v := ?_) (a' := ?_) (bb 9 122) rfl rfl (by kernel_rfl) (fun _ _ _ h => h) (Or.inl ⟨by rfl, ?_⟩) ?_ ?_
      rotate_left
      · intro w'
        go_simp
        with_reducible rfl
      rotate_left
      · simp only [Act.put, List.setIfInBounds_toArray, List.set_cons_zero, List.set_cons_succ, i64_w, i32_w]
        rfl
      refine one_ (i := 0) (N := some 75) (bb 9 123) rfl rfl (by kernel_rfl) (by decide) (fun K hK => ?_)
      refine Kd.R_lit_step (Kd.int .u8) (w0 := w) w.heap.size 5 (by rfl) (N := 75) rfl (xs := ([] : List Int)) (inner := []) (ok := fun q => ¬ S6 q ∧ q ≠ bx ∧ True) (okp := fun _ => False) ?hr (Reps.none _ _) (fun _ h => h.elim) ?hf HBL.out HBL.out.size (by simp) ?_
      (case hr => first | (go_simp; done) | (go_simp; rfl))
      (case hf => exact ⟨fun hs => Nat.lt_irrefl _ (HAt.out.lt _ hs), fun he => Nat.lt_irrefl _ (he ▸ blk_lt HXB3.out), trivial⟩)
      intro v1 w5 ho hb hg hn
      replace HAt := Aside0.mk (HAt.out.move hg.size (fun q_ hq_ => hg.block q_ (HAt.out.lt q_ hq_) (by simp)))
      replace HXB3 := Aside0.mk ((hg.block bx (blk_lt HXB3.out) (by simp)).trans HXB3.out)
      replace HBL := Aside0.mk hb
      have HO := Aside0.mk ho
      have HNW := Aside0.mk (show ∃ k_, v1.ownBlock = some k_ ∧ w4.heap.size ≤ k_ from hn)
      have HFB := Aside0.mk (Kd.F_bound HFR.out)
      replace HFB := Aside0.mk (Kd.F_step HFB.out (fun q_ hq_ hlt_ => hg.block q_ hlt_ (by simp)))
      clear HFR ho hb hg hn
      refine hK.out _ _ ((blk_cell HXB3.out 3).trans rfl) (fun hHeld => ?_)
      clear hK K
      refine norm_ (a' := ?_) ?_ ?_
      rotate_left
      · show Act.put _ (some 75) _ = _
        simp only [Act.put, List.setIfInBounds_toArray, List.set_cons_zero, List.set_cons_succ, i64_w, i32_w]
        rfl
      refine one_ (i := 2) (N := some 77) (bb 9 127) rfl rfl (by kernel_rfl) (by decide) (fun K hK => ?_)
      refine Kd.R_append_rows_step (Kd.int .u8) (w0 := w) w.heap.size (by rfl) (.tmp 75) (.tmp 76) 23 5 (.int .u8 0) 1 rfl Try.underlying23 info5 rfl (by decide) (by omega) v1 [] rl _ _ _ (fun q => ¬ S6 q ∧ q ≠ bx ∧ True) (fun _ => False) rfl rfl ?aO ?aR (fun _ _ h => h) (fun _ h => h.elim) ?aF HBL.out HBL.out.size ?aL ?_
      (case aO => exact HO.out)
      (case aR => exact Kd.F_now HFB.out)
      (case aF => exact fun k_ hk_ => ⟨fun hs => by have := HAt.out.lt _ hs; omega, fun he => by have := blk_lt HXB3.out; omega, trivial⟩)
      (case aL => have := HT.out; simp only [List.length_nil]; omega)
      intro v2 w6 ho hb hg hat
      rw [List.nil_append] at ho
      replace HAt := Aside0.mk (HAt.out.move hg.size (fun q_ hq_ => hg.block q_ (HAt.out.lt q_ hq_) (fun e_ => (HO.out.1 q_ e_.symm).1 hq_)))
      replace HXB3 := Aside0.mk ((hg.block bx (blk_lt HXB3.out) (fun e_ => (HO.out.1 bx e_.symm).2.1 rfl)).trans HXB3.out)
      replace HBL := Aside0.mk hb
      replace HO := Aside0.mk ho
      clear HFB HNW ho hb hg hat
      refine hK.out _ _ ((blk_cell HXB3.out 3).trans rfl) (fun hHeld => ?_)
      clear hK K
      refine norm_ (a' := ?_) ?_ ?_
      rotate_left
      · show Act.put _ (some 77) _ = _
        simp only [Act.put, List.setIfInBounds_toArray, List.set_cons_zero, List.set_cons_succ, i64_w, i32_w]
        rfl
      refine one_ (i := 7) (N := some 82) (bb 9 255) rfl rfl (by kernel_rfl) (by decide) (fun K hK => ?_)
      refine Kd.R_append_rows_step (Kd.int .u8) (w0 := w) w.heap.size (by rfl) (.tmp 77) (.tmp 81) 23 5 (.int .u8 0) 1 rfl Try.underlying23 info5 rfl (by decide) (by omega) v2 rl (l.take nn) _ _ _ (fun q => ¬ S6 q ∧ q ≠ bx ∧ True) (fun _ => False) rfl rfl ?aO ?aR (fun _ _ h => h) (fun _ h => h.elim) ?aF HBL.out HBL.out.size ?aL ?_
      (case aO => exact HO.out)
      (case aR => exact cast (congrArg (fun n_ => Kd.C (Kd.int .u8) _ B n_ (l.take nn)) HTK.out) (Kd.F_now (Kd.F_take (m := nn) (Kd.F_step (Kd.C_F (Kd.heap_int _) HL.out.1) (fun q_ hq_ _ => HBL.out.block q_ hq_)) (by have := HT.out; omega))))
      (case aF => exact fun k_ hk_ => ⟨fun hs => by have := HAt.out.lt _ hs; omega, fun he => by have := blk_lt HXB3.out; omega, trivial⟩)
      (case aL => have := HT.out; omega)
      intro v3 w7 ho hb hg hat
      rw [HT.out.2.1] at ho
      replace HAt := Aside0.mk (HAt.out.move hg.size (fun q_ hq_ => hg.block q_ (HAt.out.lt q_ hq_) (fun e_ => (HO.out.1 q_ e_.symm).1 hq_)))
      replace HXB3 := Aside0.mk ((hg.block bx (blk_lt HXB3.out) (fun e_ => (HO.out.1 bx e_.symm).2.1 rfl)).trans HXB3.out)
      replace HBL := Aside0.mk hb
      obtain ⟨A82, c82, rfl⟩ := Kd.R_slice ho
      replace HO := Aside0.mk ho
      clear ho hb hg hat
      refine hK.out _ _ ((blk_cell HXB3.out 3).trans rfl) (fun hHeld => ?_)
      clear hK K
      refine norm_ (a' := ?_) ?_ ?_
      rotate_left
      · show Act.put _ (some 82) _ = _
        simp only [Act.put, List.setIfInBounds_toArray, List.set_cons_zero, List.set_cons_succ, i64_w, i32_w]
        rfl
      refine pure_ (i := 8) (N := some 7) (v := ?_) (a' := ?_) (bb 9 511) rfl rfl (by kernel_rfl) (fun _ _ _ h => h) (Or.inl ⟨by rfl, ?_⟩) ?_ ?_
      rotate_left
      · intro w'
        go_simp
        with_reducible rfl
      rotate_left
      · simp only [Act.put, List.setIfInBounds_toArray, List.set_cons_zero, List.set_cons_succ, i64_w, i32_w]
        rfl
      refine done_ (by kernel_rfl) ?_
      replace HP := Aside0.mk (show PAt w w7 b S6 a0 A82 c82 rl2 (i1 + (nn : Nat)) o1 (kk + 1) from ⟨HT.out.2.1 ▸ HAt.out, Kd.F_mono (Kd.R_F HO.out) (fun _ h_ => h_.1), (Kd.R_reads' HO.out).2.1, HBL.out, by have := HA2.out.i0; omega, by have := HA2.out.i1; have := HT.out; omega, HA2.out.more.o0, HA2.out.more.o1⟩)
      clear HAt HXB3 HBL HO HA2
      go_upto_region 32 with (go_at_call 26; refine (passed_at HP.out.hose).mono ?_; rintro e w' ⟨rfl, m, rfl⟩; have HP7 := Aside0.mk (HP.out.below (pw_below_drewN (Below.refl _ _) m)); generalize w7.drewN m = w7 at HP7 ⊢)
      refine start_ (n := 34) (S := fun w' => (convert 23 9 (.slice A82 rl2.length c82)).run Try.prog w' = .ok (.string (strOfNums rl2)) w') (ds := []) (bb 34 0) (by kernel_rfl) rfl rfl ((HP7.out.below (below_drew (Below.refl _ _))).str) (fun hHeld => ?_)
      have HP8 := Aside0.mk (HP7.out.below (below_drew (Below.refl _ _)))
      generalize w7.drew = w8 at HP8 hHeld ⊢
      refine pure_ (i := 0) (N := some 150) (v := ?_) (a' := ?_) (bb 34 1) rfl rfl (by kernel_rfl) (fun _ _ _ h => h) (Or.inl ⟨by rfl, ?_⟩) ?_ ?_
      rotate_left
      · intro w'
        go_simp
        with_reducible rfl
      rotate_left
      · simp only [Act.put, List.setIfInBounds_toArray, List.set_cons_zero, List.set_cons_succ, i64_w, i32_w]
        rfl
      refine pure_ (i := 2) (N := some 152) (v := ?_) (a' := ?_) (bb 34 5) rfl rfl (by kernel_rfl) (fun _ _ _ h => h) (Or.inl ⟨by rfl, ?_⟩) ?_ ?_
      rotate_left
      · intro w'
        go_simp
        with_reducible rfl
      rotate_left
      · simp only [Act.put, List.setIfInBounds_toArray, List.set_cons_zero, List.set_cons_succ, i64_w, i32_w]
        rfl
      refine pure_ (i := 3) (N := some 153) (v := ?_) (a' := ?_) (bb 34 13) rfl rfl (by kernel_rfl) (fun _ _ _ h => h) (Or.inl ⟨by rfl, ?_⟩) ?_ ?_
      rotate_left
      · intro w'
        go_simp
        with_reducible rfl
      rotate_left
      · simp only [Act.put, List.setIfInBounds_toArray, List.set_cons_zero, List.set_cons_succ, i64_w, i32_w]
        rfl
      refine one_ (i := 1) (N := some 151) (bb 34 15) rfl rfl (by kernel_rfl) (by decide) (fun K hK => ?_)
      refine goes_ Try.func20 (by kernel_rfl) rfl #[.pointer (some ⟨b, 0, none⟩)] (by rfl) rfl rfl (by (try simp only [List.map_toArray, List.map_cons, List.map_nil]); first | done | rfl | (go_simp; done) | (go_simp; omega)) ?_
      refine Calls.mono (len_at HP8.out.hose) ?_
      rintro e w' ⟨rfl, rfl⟩
      refine ⟨_, rfl, ?_⟩
      refine hK.out _ _ (HP8.out.str) (fun hHeld => ?_)
      clear hK K
      refine norm_ (a' := ?_) ?_ ?_
      rotate_left
      · show Act.put _ (some 151) _ = _
        simp only [Act.put, List.setIfInBounds_toArray, List.set_cons_zero, List.set_cons_succ, i64_w, i32_w]
        rfl
      refine pure_ (i := 4) (N := some 154) (v := ?_) (a' := ?_) (bb 34 31) rfl rfl (by kernel_rfl) (fun _ _ _ h => h) (Or.inl ⟨by rfl, ?_⟩) ?_ ?_
      rotate_left
      · intro w'
        go_simp
        with_reducible rfl
      rotate_left
      · simp only [Act.put, List.setIfInBounds_toArray, List.set_cons_zero, List.set_cons_succ, i64_w, i32_w]
        rfl
      refine pure_ (i := 5) (N := some 155) (v := ?_) (a' := ?_) (bb 34 63) rfl rfl (by kernel_rfl) (fun _ _ _ h => h) (Or.inl ⟨by rfl, ?_⟩) ?_ ?_
      rotate_left
      · intro w'
        go_simp
        with_reducible rfl
      rotate_left
      · simp only [Act.put, List.setIfInBounds_toArray, List.set_cons_zero, List.set_cons_succ, i64_w, i32_w]
        rfl
      refine pure_ (i := 6) (N := some 156) (v := ?_) (a' := ?_) (bb 34 127) rfl rfl (by kernel_rfl) (fun _ _ _ h => h) (Or.inl ⟨by rfl, ?_⟩) ?_ ?_
      rotate_left
      · intro w'
        go_simp
        with_reducible rfl
      rotate_left
      · simp only [Act.put, List.setIfInBounds_toArray, List.set_cons_zero, List.set_cons_succ, i64_w, i32_w]
        rfl
      refine pure_ (i := 8) (N := some 158) (v := ?_) (a' := ?_) (bb 34 383) rfl rfl (by kernel_rfl) (fun _ _ _ h => h) (Or.inl ⟨by rfl, ?_⟩) ?_ ?_
      rotate_left
      · intro w'
        go_simp
        with_reducible rfl
      rotate_left
      · simp only [Act.put, List.setIfInBounds_toArray, List.set_cons_zero, List.set_cons_succ, i64_w, i32_w]
        rfl
      refine pure_ (i := 9) (N := some 159) (v := ?_) (a' := ?_) (bb 34 895) rfl rfl (by kernel_rfl) (fun _ _ _ h => h) (Or.inl ⟨by rfl, ?_⟩) ?_ ?_
      rotate_left
      · intro w'
        go_simp
        with_reducible rfl
      rotate_left
      · simp only [Act.put, List.setIfInBounds_toArray, List.set_cons_zero, List.set_cons_succ, i64_w, i32_w]
        rfl
      refine pure_ (i := 10) (N := some 160) (v := ?_) (a' := ?_) (bb 34 1919) rfl rfl (by kernel_rfl) (fun _ _ _ h => h) (Or.inl ⟨by rfl, ?_⟩) ?_ ?_
      rotate_left
      · intro w'
        go_simp
        with_reducible rfl
      rotate_left
      · simp only [Act.put, List.setIfInBounds_toArray, List.set_cons_zero, List.set_cons_succ, i64_w, i32_w]
        rfl
      refine pure_ (i := 11) (N := some 161) (v := ?_) (a' := ?_) (bb 34 3967) rfl rfl (by kernel_rfl) (fun _ _ _ h => h) (Or.inl ⟨by rfl, ?_⟩) ?_ ?_
      rotate_left
      · intro w'
        go_simp
        with_reducible rfl
      rotate_left
      · simp only [Act.put, List.setIfInBounds_toArray, List.set_cons_zero, List.set_cons_succ, i64_w, i32_w]
        rfl
      refine one_ (i := 7) (N := some 157) (bb 34 4095) rfl rfl (by kernel_rfl) (by decide) (fun K hK => ?_)
      refine goes_ Try.func27 (by kernel_rfl) rfl #[.pointer (some ⟨b, 0, none⟩)] (by rfl) rfl rfl (by (try simp only [List.map_toArray, List.map_cons, List.map_nil]); first | done | rfl | (go_simp; done) | (go_simp; omega)) ?_
      refine Calls.mono (room_at HP8.out.hose) ?_
      rintro e w' ⟨rfl, m2, rfl⟩
      refine ⟨_, rfl, ?_⟩
      replace HP8 := Aside0.mk (HP8.out.below (pw_below_drewN (Below.refl _ _) m2))
      refine hK.out _ _ (HP8.out.str) (fun hHeld => ?_)
      clear hK K
      refine norm_ (a' := ?_) ?_ ?_
      rotate_left
      · show Act.put _ (some 157) _ = _
        simp only [Act.put, List.setIfInBounds_toArray, List.set_cons_zero, List.set_cons_succ, i64_w, i32_w]
        rfl
      refine pure_ (i := 12) (N := some 162) (v := ?_) (a' := ?_) (bb 34 8191) rfl rfl (by kernel_rfl) (fun _ _ _ h => h) (Or.inl ⟨by rfl, ?_⟩) ?_ ?_
      rotate_left
      · intro w'
        go_simp
        with_reducible rfl
      rotate_left
      · simp only [Act.put, List.setIfInBounds_toArray, List.set_cons_zero, List.set_cons_succ, i64_w, i32_w]
        rfl
      refine pure_ (i := 13) (N := some 163) (v := ?_) (a' := ?_) (bb 34 16383) rfl rfl (by kernel_rfl) (fun _ _ _ h => h) (Or.inl ⟨by rfl, ?_⟩) ?_ ?_
      rotate_left
      · intro w'
        go_simp
        with_reducible rfl
      rotate_left
      · simp only [Act.put, List.setIfInBounds_toArray, List.set_cons_zero, List.set_cons_succ, i64_w, i32_w]
        rfl
      refine pure_ (i := 14) (N := some 164) (v := ?_) (a' := ?_) (bb 34 32767) rfl rfl (by kernel_rfl) (fun _ _ _ h => h) (Or.inl ⟨by rfl, ?_⟩) ?_ ?_
      rotate_left
      · intro w'
        go_simp
        with_reducible rfl
      rotate_left
      · simp only [Act.put, List.setIfInBounds_toArray, List.set_cons_zero, List.set_cons_succ, i64_w, i32_w]
        rfl
      refine pure_ (i := 15) (N := some 165) (v := ?_) (a' := ?_) (bb 34 65535) rfl rfl (by kernel_rfl) (fun _ _ _ h => h) (Or.inl ⟨by rfl, ?_⟩) ?_ ?_
      rotate_left
      · intro w'
        go_simp
        with_reducible rfl
      rotate_left
      · simp only [Act.put, List.setIfInBounds_toArray, List.set_cons_zero, List.set_cons_succ, i64_w, i32_w]
        rfl
      refine pure_ (i := 16) (N := some 166) (v := ?_) (a' := ?_) (bb 34 131071) rfl rfl (by kernel_rfl) (fun _ _ _ h => h) (Or.inl ⟨by rfl, ?_⟩) ?_ ?_
      rotate_left
      · intro w'
        go_simp
        with_reducible rfl
      rotate_left
      · simp only [Act.put, List.setIfInBounds_toArray, List.set_cons_zero, List.set_cons_succ, i64_w, i32_w]
        rfl
      refine pure_ (i := 17) (N := some 167) (v := ?_) (a' := ?_) (bb 34 262143) rfl rfl (by kernel_rfl) (fun _ _ _ h => h) (Or.inl ⟨by rfl, ?_⟩) ?_ ?_
      rotate_left
      · intro w'
        go_simp
        with_reducible rfl
      rotate_left
      · simp only [Act.put, List.setIfInBounds_toArray, List.set_cons_zero, List.set_cons_succ, i64_w, i32_w]
        rfl
      refine pure_ (i := 18) (N := some 168) (v := ?_) (a' := ?_) (bb 34 524287) rfl rfl (by kernel_rfl) (fun _ _ _ h => h) (Or.inl ⟨by rfl, ?_⟩) ?_ ?_
      rotate_left
      · intro w'
        go_simp
        with_reducible rfl
      rotate_left
      · simp only [Act.put, List.setIfInBounds_toArray, List.set_cons_zero, List.set_cons_succ, i64_w, i32_w]
        rfl
      refine pure_ (i := 19) (N := some 169) (v := ?_) (a' := ?_) (bb 34 1048575) rfl rfl (by kernel_rfl) (fun _ _ _ h => h) (Or.inl ⟨by rfl, ?_⟩) ?_ ?_
      rotate_left
      · intro w'
        go_simp
        with_reducible rfl
      rotate_left
      · simp only [Act.put, List.setIfInBounds_toArray, List.set_cons_zero, List.set_cons_succ, i64_w, i32_w]
        rfl
      refine pure_ (i := 20) (N := some 170) (v := ?_) (a' := ?_) (bb 34 2097151) rfl rfl (by kernel_rfl) (fun _ _ _ h => h) (Or.inl ⟨by rfl, ?_⟩) ?_ ?_
      rotate_left
      · intro w'
        go_simp
        with_reducible rfl
      rotate_left
      · simp only [Act.put, List.setIfInBounds_toArray, List.set_cons_zero, List.set_cons_succ, i64_w, i32_w]
        rfl
      refine pure_ (i := 21) (N := some 171) (v := ?_) (a' := ?_) (bb 34 4194303) rfl rfl (by kernel_rfl) (fun _ _ _ h => h) (Or.inl ⟨by rfl, ?_⟩) ?_ ?_
      rotate_left
      · intro w'
        go_simp
        with_reducible rfl
      rotate_left
      · simp only [Act.put, List.setIfInBounds_toArray, List.set_cons_zero, List.set_cons_succ, i64_w, i32_w]
        rfl
      refine pure_ (i := 22) (N := some 172) (v := ?_) (a' := ?_) (bb 34 8388607) rfl rfl (by kernel_rfl) (fun _ _ _ h => h) (Or.inl ⟨by rfl, ?_⟩) ?_ ?_
      rotate_left
      · intro w'
        go_simp
        with_reducible rfl
      rotate_left
      · simp only [Act.put, List.setIfInBounds_toArray, List.set_cons_zero, List.set_cons_succ, i64_w, i32_w]
        rfl
      refine pure_ (i := 23) (N := some 173) (v := ?_) (a' := ?_) (bb 34 16777215) rfl rfl (by kernel_rfl) (fun _ _ _ h => h) (Or.inl ⟨by rfl, ?_⟩) ?_ ?_
      rotate_left
      · intro w'
        go_simp
        with_reducible rfl
      rotate_left
      · simp only [Act.put, List.setIfInBounds_toArray, List.set_cons_zero, List.set_cons_succ, i64_w, i32_w]
        rfl
      refine pure_ (i := 24) (N := some 174) (v := ?_) (a' := ?_) (bb 34 33554431) rfl rfl (by kernel_rfl) (fun _ _ _ h => h) (Or.inl ⟨by rfl, ?_⟩) ?_ ?_
      rotate_left
      · intro w'
        go_simp
        with_reducible rfl
      rotate_left
      · simp only [Act.put, List.setIfInBounds_toArray, List.set_cons_zero, List.set_cons_succ, i64_w, i32_w]
        rfl
      refine pure_ (i := 25) (N := some 175) (v := ?_) (a' := ?_) (bb 34 67108863) rfl rfl (by kernel_rfl) (fun _ _ _ h => h) (Or.inl ⟨by rfl, ?_⟩) ?_ ?_
      rotate_left
      · intro w'
        go_simp
        with_reducible rfl
      rotate_left
      · simp only [Act.put, List.setIfInBounds_toArray, List.set_cons_zero, List.set_cons_succ, i64_w, i32_w]
        rfl
      refine pure_ (i := 26) (N := some 176) (v := ?_) (a' := ?_) (bb 34 134217727) rfl rfl (by kernel_rfl) (fun _ _ _ h => h) (Or.inl ⟨by rfl, ?_⟩) ?_ ?_
      rotate_left
      · intro w'
        go_simp
        with_reducible rfl
      rotate_left
      · simp only [Act.put, List.setIfInBounds_toArray, List.set_cons_zero, List.set_cons_succ, i64_w, i32_w]
        rfl
      refine pure_ (i := 27) (N := some 177) (v := ?_) (a' := ?_) (bb 34 268435455) rfl rfl (by kernel_rfl) (fun _ _ _ h => h) (Or.inl ⟨by rfl, ?_⟩) ?_ ?_
      rotate_left
      · intro w'
        go_simp
        with_reducible rfl
      rotate_left
      · simp only [Act.put, List.setIfInBounds_toArray, List.set_cons_zero, List.set_cons_succ, i64_w, i32_w]
        rfl
      refine pure_ (i := 30) (N := some 180) (v := ?_) (a' := ?_) (bb 34 1342177279) rfl rfl (by kernel_rfl) (fun _ _ _ h => h) (Or.inl ⟨by rfl, ?_⟩) ?_ ?_
      rotate_left
      · intro w'
        go_simp
        with_reducible rfl
      rotate_left
      · simp only [Act.put, List.setIfInBounds_toArray, List.set_cons_zero, List.set_cons_succ, i64_w, i32_w]
        rfl
      refine take_ (i := 31) (N := some 181) (v := ?_) (a' := ?_) (bb 34 3489660927) rfl rfl (by kernel_rfl) (fun _ _ _ h => h) (Or.inl ⟨by rfl, ?_⟩) hHeld ?_ ?_
      rotate_left
      · intro w' hSw
        go_simp
        with_reducible rfl
      rotate_left
      · simp only [Act.put, List.setIfInBounds_toArray, List.set_cons_zero, List.set_cons_succ, i64_w, i32_w]
        rfl
      refine one_ (i := 28) (N := some 178) (bb 34 3758096383) rfl rfl (by kernel_rfl) (by decide) (fun K hK => ?_)
      refine goes_ Try.func24 (by kernel_rfl) rfl #[.pointer (some ⟨b, 0, none⟩), .int .i64 0, .int .i64 (rl2.length : Int)] (by rfl) rfl rfl (by (try simp only [List.map_toArray, List.map_cons, List.map_nil]); first | done | rfl | (go_simp; done) | (go_simp; omega)) ?_
      refine Calls.mono (peek_at HP8.out.hose 0 _) ?_
      rintro e w' ⟨v9, rfl, hR, hB⟩
      refine ⟨_, rfl, ?_⟩
      rw [peekF_all] at hR
      obtain ⟨A9, n9, c9, rfl⟩ := R_sl hR
      have HC9 := Aside0.mk (R_to_C hR)
      replace HP8 := Aside0.mk (HP8.out.below hB)
      clear hR hB
      refine hK.out _ _ (HP8.out.str) (fun hHeld => ?_)
      clear hK K
      refine norm_ (a' := ?_) ?_ ?_
      rotate_left
      · show Act.put _ (some 178) _ = _
        simp only [Act.put, List.setIfInBounds_toArray, List.set_cons_zero, List.set_cons_succ, i64_w, i32_w]
        rfl
      refine more_ (S' := fun w' => (convert 23 9 (.slice A82 rl2.length c82)).run Try.prog w' = .ok (.string (strOfNums rl2)) w' ∧ (convert 23 9 (.slice A9 n9 c9)).run Try.prog w' = .ok (.string (strOfNums rl2)) w') (fun _ h => h.1) (⟨HP8.out.str, cs HC9.out⟩) (fun hHeld => ?_)
      refine take_ (i := 29) (N := some 179) (v := ?_) (a' := ?_) (bb 34 4294967295) rfl rfl (by kernel_rfl) (fun _ _ _ h => h) (Or.inl ⟨by rfl, ?_⟩) hHeld ?_ ?_
      rotate_left
      · intro w' hSw
        obtain ⟨q0_, q1_⟩ := hSw
        go_simp
        with_reducible rfl
      rotate_left
      · simp only [Act.put, List.setIfInBounds_toArray, List.set_cons_zero, List.set_cons_succ, i64_w, i32_w]
        rfl
      refine pure_ (i := 32) (N := some 182) (v := ?_) (a' := ?_) (bb 34 8589934591) rfl rfl (by kernel_rfl) (fun _ _ _ h => h) (Or.inl ⟨by rfl, ?_⟩) ?_ ?_
      rotate_left
      · intro w'
        go_simp
        with_reducible rfl
      rotate_left
      · simp only [Act.put, List.setIfInBounds_toArray, List.set_cons_zero, List.set_cons_succ, i64_w, i32_w]
        rfl
      refine pure_ (i := 33) (N := some 183) (v := ?_) (a' := ?_) (bb 34 17179869183) rfl rfl (by kernel_rfl) (fun _ _ _ h => h) (Or.inl ⟨by rfl, ?_⟩) ?_ ?_
      rotate_left
      · intro w'
        go_simp
        with_reducible rfl
      rotate_left
      · simp only [Act.put, List.setIfInBounds_toArray, List.set_cons_zero, List.set_cons_succ, i64_w, i32_w]
        rfl
      refine done_ (by kernel_rfl) ?_
      go_wp2
      go_roundw
      case rel => exact ⟨kk + 1, A82, c82, rl2, (i1 + (nn : Nat)), o1, by go_num, rfl, rfl, rfl, ⟨by have := HQ.out; omega, S6, HP8.out⟩⟩
      case measure => simp only [num]; have := HQ.out; omega
    by_cases q1 : d = 1
    · skip
      subst q1
      clear q0
      obtain ⟨tt, htt⟩ : ∃ tt, outN q rl.length = tt := ⟨_, rfl⟩
      have htl : tt ≤ rl.length := by rw [← htt]; unfold outN; split <;> omega
      obtain ⟨rl1, hrl1⟩ : ∃ x, rl.take tt = x := ⟨_, rfl⟩
      obtain ⟨rl2, hrl2⟩ : ∃ x, rl.drop tt = x := ⟨_, rfl⟩
      have hl1 : rl1.length = tt := by rw [← hrl1, List.length_take]; omega
      have hl2 : rl2.length = rl.length - tt := by rw [← hrl2, List.length_drop]
      have HF := fun W => Aside0.mk (show Calls Try.prog 22 #[.int .i64 q, .int .i64 (rl.length : Int)] W fun e w' => e = .returned (.int .i64 (tt : Int)) ∧ W = w' by have := first_calls q (rl.length : Int) W; rw [firstF_outN, htt] at this; exact this.mono (fun _ _ h => ⟨h.1, h.2.symm⟩))
      have hcut1 := cutTo A rl.length c tt htl HP.out.cap
      obtain ⟨dp, hcut2, hdF⟩ := cutFrom A rl.length c tt htl HP.out.cap
      rw [← hl2] at hcut2
      have eo : IntKind.i64.wrap (o1 + (tt : Int)) = o1 + (tt : Int) := wid _ (by have := HP.out.o0; omega) (by have := HP.out.o1; have := HQ.out; omega)
      have er2 : IntKind.i64.wrap (a0 - (rl2.length : Int)) = a0 - (rl2.length : Int) := wid _ (by have := HQ.out; omega) (by have := HQ.out; omega)
      have HT := Aside0.mk (And.intro htt (And.intro htl (And.intro hrl1 (And.intro hrl2 (And.intro hl1 hl2)))))
      have HDF := Aside0.mk hdF
      clear htt htl hrl1 hrl2 hl1 hl2 hdF
      go_upto_region 24 with (go_at_call 22; refine Calls.mono (HF _).out ?_; rintro e w' ⟨rfl, rfl⟩)
      clear y0 y1 y2 y3 HF
      refine start_ (n := 28) (S := fun w' => w'.cell? ⟨bx, 0, none⟩ = some (.int .i64 1) ∧ w'.cell? ⟨bx, 2, none⟩ = some (.int .i64 q)) (ds := []) (bb 28 0) (by kernel_rfl) rfl rfl (⟨(blk_cell (blk_drew HXB.out) 0).trans rfl, (blk_cell (blk_drew HXB.out) 2).trans rfl⟩) (fun hHeld => ?_)
      replace HP := Aside0.mk (HP.out.below (below_drew (Below.refl _ _)))
      replace HA2 := Aside0.mk (HA2.out.below (below_drew (Below.refl _ _)))
      replace HXB := Aside0.mk (blk_drew HXB.out)
      generalize w2.drew = w3 at HP HA2 HXB hHeld ⊢
      have HSR := Aside0.mk (takes HP.out.row HT.out.2.1 HT.out.2.2.1 HT.out.2.2.2.2.1 (c := c))
      refine more_ (S' := fun w' => w'.cell? ⟨bx, 0, none⟩ = some (.int .i64 1) ∧ w'.cell? ⟨bx, 2, none⟩ = some (.int .i64 q) ∧ (convert 23 9 (.slice A tt c)).run Try.prog w' = .ok (.string (strOfNums rl1)) w') (fun _ h => ⟨h.1, h.2.1⟩) (⟨(blk_cell HXB.out 0).trans rfl, (blk_cell HXB.out 2).trans rfl, HSR.out⟩) (fun hHeld => ?_)
      refine pure_ (i := 0) (N := some 94) (v := ?_) (a' := ?_) (bb 28 1) rfl rfl (by kernel_rfl) (fun _ _ _ h => h) (Or.inl ⟨by rfl, ?_⟩) ?_ ?_
      rotate_left
      · intro w'
        go_simp
        with_reducible rfl
      rotate_left
      · simp only [Act.put, List.setIfInBounds_toArray, List.set_cons_zero, List.set_cons_succ, i64_w, i32_w]
        rfl
      refine take_ (i := 1) (N := some 95) (v := ?_) (a' := ?_) (bb 28 3) rfl rfl (by kernel_rfl) (fun _ _ _ h => h) (Or.inl ⟨by rfl, ?_⟩) hHeld ?_ ?_
      rotate_left
      · intro w' hSw
        obtain ⟨q0_, q1_, q2_⟩ := hSw
        go_simp
        with_reducible rfl
      rotate_left
      · simp only [Act.put, List.setIfInBounds_toArray, List.set_cons_zero, List.set_cons_succ, i64_w, i32_w]
        rfl
      refine pure_ (i := 2) (N := some 96) (v := ?_) (a' := ?_) (bb 28 7) rfl rfl (by kernel_rfl) (fun _ _ _ h => h) (Or.inl ⟨by rfl, ?_⟩) ?_ ?_
      rotate_left
      · intro w'
        go_simp
        with_reducible rfl
      rotate_left
      · simp only [Act.put, List.setIfInBounds_toArray, List.set_cons_zero, List.set_cons_succ, i64_w, i32_w]
        rfl
      refine pure_ (i := 3) (N := some 97) (v := ?_) (a' := ?_) (bb 28 15) rfl rfl (by kernel_rfl) (fun _ _ _ h => h) (Or.inl ⟨by rfl, ?_⟩) ?_ ?_
      rotate_left
      · intro w'
        go_simp
        with_reducible rfl
      rotate_left
      · simp only [Act.put, List.setIfInBounds_toArray, List.set_cons_zero, List.set_cons_succ, i64_w, i32_w]
        rfl
      refine pure_ (i := 4) (N := some 98) (v := ?_) (a' := ?_) (bb 28 31) rfl rfl (by kernel_rfl) (fun _ _ _ h => h) (Or.inl ⟨by rfl, ?_⟩) ?_ ?_
      rotate_left
      · intro w'
        go_simp
        with_reducible rfl
      rotate_left
      · simp only [Act.put, List.setIfInBounds_toArray, List.set_cons_zero, List.set_cons_succ, i64_w, i32_w]
        rfl
      refine pure_ (i := 5) (N := some 99) (v := ?_) (a' := ?_) (bb 28 63) rfl rfl (by kernel_rfl) (fun _ _ _ h => h) (Or.inl ⟨by rfl, ?_⟩) ?_ ?_
      rotate_left
      · intro w'
        go_simp
        with_reducible rfl
      rotate_left
      · simp only [Act.put, List.setIfInBounds_toArray, List.set_cons_zero, List.set_cons_succ, i64_w, i32_w]
        rfl
      refine take_ (i := 6) (N := some 100) (v := ?_) (a' := ?_) (bb 28 127) rfl rfl (by kernel_rfl) (fun _ _ _ h => h) (Or.inl ⟨by rfl, ?_⟩) hHeld ?_ ?_
      rotate_left
      · intro w' hSw
        obtain ⟨q0_, q1_, q2_⟩ := hSw
        go_simp
        with_reducible rfl
      rotate_left
      · simp only [Act.put, List.setIfInBounds_toArray, List.set_cons_zero, List.set_cons_succ, i64_w, i32_w]
        rfl
      refine pure_ (i := 9) (N := some 103) (v := ?_) (a' := ?_) (bb 28 639) rfl rfl (by kernel_rfl) (fun _ _ _ h => h) (Or.inl ⟨by rfl, ?_⟩) ?_ ?_
      rotate_left
      · intro w'
        go_simp
        with_reducible rfl
      rotate_left
      · simp only [Act.put, List.setIfInBounds_toArray, List.set_cons_zero, List.set_cons_succ, i64_w, i32_w]
        rfl
      refine pure_ (i := 10) (N := some 104) (v := ?_) (a' := ?_) (bb 28 1663) rfl rfl (by kernel_rfl) (fun _ _ _ h => h) (Or.inl ⟨by rfl, ?_⟩) ?_ ?_
      rotate_left
      · intro w'
        go_simp
        with_reducible rfl
      rotate_left
      · simp only [Act.put, List.setIfInBounds_toArray, List.set_cons_zero, List.set_cons_succ, i64_w, i32_w]
        rfl
      refine pure_ (i := 11) (N := some 105) (v := ?_) (a' := ?_) (bb 28 3711) rfl rfl (by kernel_rfl) (fun _ _ _ h => h) (Or.inl ⟨by rfl, ?_⟩) ?_ ?_
      rotate_left
      · intro w'
        go_simp
        with_reducible rfl
      rotate_left
      · simp only [Act.put, List.setIfInBounds_toArray, List.set_cons_zero, List.set_cons_succ, i64_w, i32_w]
        rfl
      refine take_ (i := 12) (N := some 106) (v := ?_) (a' := ?_) (bb 28 7807) rfl rfl (by kernel_rfl) (fun _ _ _ h => h) (Or.inl ⟨by rfl, ?_⟩) hHeld ?_ ?_
      rotate_left
      · intro w' hSw
        obtain ⟨q0_, q1_, q2_⟩ := hSw
        go_simp
        with_reducible rfl
      rotate_left
      · simp only [Act.put, List.setIfInBounds_toArray, List.set_cons_zero, List.set_cons_succ, i64_w, i32_w]
        rfl
      refine one_ (i := 7) (N := some 101) (bb 28 7935) rfl rfl (by kernel_rfl) (by decide) (fun K hK => ?_)
      refine goes_ Try.func19 (by kernel_rfl) rfl #[.pointer (some ⟨b, 0, none⟩), .int .i64 q] (by rfl) rfl rfl (by (try simp only [List.map_toArray, List.map_cons, List.map_nil]); first | done | rfl | (go_simp; done) | (go_simp; omega)) ?_
      refine Calls.mono (read_to HP.out.hose q HP.out.o0 (by have := HP.out.o1; have := HQ.out; omega) rl1 rl2 tt tt (by rw [HT.out.1]; exact HT.out.2.2.1) (by rw [HT.out.1]; exact HT.out.2.2.2.1) HT.out.1 HT.out.2.2.2.2.1) ?_
      rintro e w' ⟨A9, c9, rfl, hR, hA, hK_⟩
      refine ⟨_, rfl, ?_⟩
      replace HXB := Aside0.mk (hK_.block bx (blk_lt HXB.out) (fun hs => Nat.lt_irrefl _ (HSX.out _ hs)) |>.trans HXB.out)
      have HFR := Aside0.mk (Kd.F_step HP.out.row (fun q_ hq_ hlt_ => hK_.block q_ hlt_ hq_))
      have HAt := Aside0.mk hA
      have HBL := Aside0.mk (HP.out.bel.trans (hK_.below HP.out.hose.ge HP.out.bel.size))
      have HC9 := Aside0.mk (R_to_C hR)
      have HSR := Aside0.mk (takes HFR.out HT.out.2.1 HT.out.2.2.1 HT.out.2.2.2.2.1 (c := c))
      clear hR hA hK_
      refine hK.out _ _ (⟨(blk_cell HXB.out 0).trans rfl, (blk_cell HXB.out 2).trans rfl, HSR.out⟩) (fun hHeld => ?_)
      clear hK K
      refine norm_ (a' := ?_) ?_ ?_
      rotate_left
      · show Act.put _ (some 101) _ = _
        simp only [Act.put, List.setIfInBounds_toArray, List.set_cons_zero, List.set_cons_succ, i64_w, i32_w]
        rfl
      refine more_ (S' := fun w' => w'.cell? ⟨bx, 0, none⟩ = some (.int .i64 1) ∧ w'.cell? ⟨bx, 2, none⟩ = some (.int .i64 q) ∧ (convert 23 9 (.slice A tt c)).run Try.prog w' = .ok (.string (strOfNums rl1)) w' ∧ (convert 23 9 (.slice A9 tt c9)).run Try.prog w' = .ok (.string (strOfNums rl1)) w') (fun _ h => ⟨h.1, h.2.1, h.2.2.1⟩) (⟨(blk_cell HXB.out 0).trans rfl, (blk_cell HXB.out 2).trans rfl, HSR.out, cs HC9.out⟩) (fun hHeld => ?_)
      refine take_ (i := 8) (N := some 102) (v := ?_) (a' := ?_) (bb 28 8191) rfl rfl (by kernel_rfl) (fun _ _ _ h => h) (Or.inl ⟨by rfl, ?_⟩) hHeld ?_ ?_
      rotate_left
      · intro w' hSw
        obtain ⟨q0_, q1_, q2_, q3_⟩ := hSw
        go_simp
        with_reducible rfl
      rotate_left
      · simp only [Act.put, List.setIfInBounds_toArray, List.set_cons_zero, List.set_cons_succ, i64_w, i32_w]
        rfl
      refine pure_ (i := 13) (N := some 107) (v := ?_) (a' := ?_) (bb 28 16383) rfl rfl (by kernel_rfl) (fun _ _ _ h => h) (Or.inl ⟨by rfl, ?_⟩) ?_ ?_
      rotate_left
      · intro w'
        go_simp
        with_reducible rfl
      rotate_left
      · simp only [Act.put, List.setIfInBounds_toArray, List.set_cons_zero, List.set_cons_succ, i64_w, i32_w]
        rfl
      refine pure_ (i := 14) (N := some 108) (v := ?_) (a' := ?_) (bb 28 32767) rfl rfl (by kernel_rfl) (fun _ _ _ h => h) (Or.inl ⟨by rfl, ?_⟩) ?_ ?_
      rotate_left
      · intro w'
        go_simp
        with_reducible rfl
      rotate_left
      · simp only [Act.put, List.setIfInBounds_toArray, List.set_cons_zero, List.set_cons_succ, i64_w, i32_w]
        rfl
      refine pure_ (i := 15) (N := some 109) (v := ?_) (a' := ?_) (bb 28 65535) rfl rfl (by kernel_rfl) (fun _ _ _ h => h) (Or.inl ⟨by rfl, ?_⟩) ?_ ?_
      rotate_left
      · intro w'
        go_simp
        with_reducible rfl
      rotate_left
      · simp only [Act.put, List.setIfInBounds_toArray, List.set_cons_zero, List.set_cons_succ, i64_w, i32_w]
        rfl
      refine pure_ (i := 16) (N := some 110) (v := ?_) (a' := ?_) (bb 28 131071) rfl rfl (by kernel_rfl) (fun _ _ _ h => h) (Or.inl ⟨by rfl, ?_⟩) ?_ ?_
      rotate_left
      · intro w'
        go_simp
        with_reducible rfl
      rotate_left
      · simp only [Act.put, List.setIfInBounds_toArray, List.set_cons_zero, List.set_cons_succ, i64_w, i32_w]
        rfl
      refine take_ (i := 17) (N := some 111) (v := ?_) (a' := ?_) (bb 28 262143) rfl rfl (by kernel_rfl) (fun _ _ _ h => h) (Or.inl ⟨by rfl, ?_⟩) hHeld ?_ ?_
      rotate_left
      · intro w' hSw
        obtain ⟨q0_, q1_, q2_, q3_⟩ := hSw
        go_simp
        with_reducible rfl
      rotate_left
      · simp only [Act.put, List.setIfInBounds_toArray, List.set_cons_zero, List.set_cons_succ, i64_w, i32_w]
        rfl
      refine pure_ (i := 18) (N := some 112) (v := ?_) (a' := ?_) (bb 28 524287) rfl rfl (by kernel_rfl) (fun _ _ _ h => h) (Or.inl ⟨by rfl, ?_⟩) ?_ ?_
      rotate_left
      · intro w'
        go_simp
        with_reducible rfl
      rotate_left
      · simp only [Act.put, List.setIfInBounds_toArray, List.set_cons_zero, List.set_cons_succ, i64_w, i32_w]
        rfl
      refine pure_ (i := 19) (N := some 113) (v := ?_) (a' := ?_) (bb 28 1048575) rfl rfl (by kernel_rfl) (fun _ _ _ h => h) (Or.inl ⟨by rfl, ?_⟩) ?_ ?_
      rotate_left
      · intro w'
        go_simp
        with_reducible rfl
      rotate_left
      · simp only [Act.put, List.setIfInBounds_toArray, List.set_cons_zero, List.set_cons_succ, i64_w, i32_w]
        rfl
      refine pure_ (i := 20) (N := some 114) (v := undef) (a' := ?_) (bb 28 2097151) rfl rfl (by kernel_rfl) (fun _ _ _ h => h) (Or.inr ⟨by rfl, rfl⟩) ?_ ?_
      rotate_left
      · simp only [Act.put, List.setIfInBounds_toArray, List.set_cons_zero, List.set_cons_succ, i64_w, i32_w]
        rfl
      refine pure_ (i := 21) (N := some 115) (v := undef) (a' := ?_) (bb 28 4194303) rfl rfl (by kernel_rfl) (fun _ _ _ h => h) (Or.inr ⟨by rfl, rfl⟩) ?_ ?_
      rotate_left
      · simp only [Act.put, List.setIfInBounds_toArray, List.set_cons_zero, List.set_cons_succ, i64_w, i32_w]
        rfl
      refine pure_ (i := 22) (N := some 116) (v := undef) (a' := ?_) (bb 28 8388607) rfl rfl (by kernel_rfl) (fun _ _ _ h => h) (Or.inr ⟨by rfl, rfl⟩) ?_ ?_
      rotate_left
      · simp only [Act.put, List.setIfInBounds_toArray, List.set_cons_zero, List.set_cons_succ, i64_w, i32_w]
        rfl
      refine pure_ (i := 23) (N := some 117) (v := undef) (a' := ?_) (bb 28 16777215) rfl rfl (by kernel_rfl) (fun _ _ _ h => h) (Or.inr ⟨by rfl, rfl⟩) ?_ ?_
      rotate_left
      · simp only [Act.put, List.setIfInBounds_toArray, List.set_cons_zero, List.set_cons_succ, i64_w, i32_w]
        rfl
      refine pure_ (i := 24) (N := some 118) (v := undef) (a' := ?_) (bb 28 33554431) rfl rfl (by kernel_rfl) (fun _ _ _ h => h) (Or.inr ⟨by rfl, rfl⟩) ?_ ?_
      rotate_left
      · simp only [Act.put, List.setIfInBounds_toArray, List.set_cons_zero, List.set_cons_succ, i64_w, i32_w]
        rfl
      refine pure_ (i := 25) (N := some 119) (v := undef) (a' := ?_) (bb 28 67108863) rfl rfl (by kernel_rfl) (fun _ _ _ h => h) (Or.inr ⟨by rfl, rfl⟩) ?_ ?_
      rotate_left
      · simp only [Act.put, List.setIfInBounds_toArray, List.set_cons_zero, List.set_cons_succ, i64_w, i32_w]
        rfl
      refine pure_ (i := 26) (N := some 120) (v := ?_) (a' := ?_) (bb 28 134217727) rfl rfl (by kernel_rfl) (fun _ _ _ h => h) (Or.inl ⟨by rfl, ?_⟩) ?_ ?_
      rotate_left
      · intro w'
        go_simp
        with_reducible rfl
      rotate_left
      · simp only [Act.put, List.setIfInBounds_toArray, List.set_cons_zero, List.set_cons_succ, i64_w, i32_w]
        rfl
      refine pure_ (i := 27) (N := some 121) (v := ?_) (a' := ?_) (bb 28 268435455) rfl rfl (by kernel_rfl) (fun _ _ _ h => h) (Or.inl ⟨by rfl, ?_⟩) ?_ ?_
      rotate_left
      · intro w'
        go_simp
        with_reducible rfl
      rotate_left
      · simp only [Act.put, List.setIfInBounds_toArray, List.set_cons_zero, List.set_cons_succ, i64_w, i32_w]
        rfl
      refine done_ (by kernel_rfl) ?_
      replace HP := Aside0.mk (show PAt w w' b S a0 dp (c - tt) rl2 i1 (o1 + (tt : Nat)) (kk + 1) from ⟨HAt.out, HT.out.2.2.2.1 ▸ HDF.out _ _ rl rfl HFR.out, by have := HA2.out.cap; have := HT.out; omega, HBL.out, HA2.out.more.i0, HA2.out.more.i1, by have := HA2.out.o0; omega, by have := HA2.out.o1; have := HT.out; have := HQ.out; omega⟩)
      go_upto_region 32 with (go_at_call 26; refine (passed_at HP.out.hose).mono ?_; rintro e w' ⟨rfl, m, rfl⟩; have HP7 := Aside0.mk (HP.out.below (pw_below_drewN (Below.refl _ _) m)); generalize w'.drewN m = w7 at HP7 ⊢)
      refine start_ (n := 34) (S := fun w' => (convert 23 9 (.slice dp rl2.length (c - tt))).run Try.prog w' = .ok (.string (strOfNums rl2)) w') (ds := []) (bb 34 0) (by kernel_rfl) rfl rfl ((HP7.out.below (below_drew (Below.refl _ _))).str) (fun hHeld => ?_)
      have HP8 := Aside0.mk (HP7.out.below (below_drew (Below.refl _ _)))
      generalize w7.drew = w8 at HP8 hHeld ⊢
      refine pure_ (i := 0) (N := some 150) (v := ?_) (a' := ?_) (bb 34 1) rfl rfl (by kernel_rfl) (fun _ _ _ h => h) (Or.inl ⟨by rfl, ?_⟩) ?_ ?_
      rotate_left
      · intro w'
        go_simp
        with_reducible rfl
      rotate_left
      · simp only [Act.put, List.setIfInBounds_toArray, List.set_cons_zero, List.set_cons_succ, i64_w, i32_w]
        rfl
      refine pure_ (i := 2) (N := some 152) (v := ?_) (a' := ?_) (bb 34 5) rfl rfl (by kernel_rfl) (fun _ _ _ h => h) (Or.inl ⟨by rfl, ?_⟩) ?_ ?_
      rotate_left
      · intro w'
        go_simp
        with_reducible rfl
      rotate_left
      · simp only [Act.put, List.setIfInBounds_toArray, List.set_cons_zero, List.set_cons_succ, i64_w, i32_w]
        rfl
      refine pure_ (i := 3) (N := some 153) (v := ?_) (a' := ?_) (bb 34 13) rfl rfl (by kernel_rfl) (fun _ _ _ h => h) (Or.inl ⟨by rfl, ?_⟩) ?_ ?_
      rotate_left
      · intro w'
        go_simp
        with_reducible rfl
      rotate_left
      · simp only [Act.put, List.setIfInBounds_toArray, List.set_cons_zero, List.set_cons_succ, i64_w, i32_w]
        rfl
      refine one_ (i := 1) (N := some 151) (bb 34 15) rfl rfl (by kernel_rfl) (by decide) (fun K hK => ?_)
      refine goes_ Try.func20 (by kernel_rfl) rfl #[.pointer (some ⟨b, 0, none⟩)] (by rfl) rfl rfl (by (try simp only [List.map_toArray, List.map_cons, List.map_nil]); first | done | rfl | (go_simp; done) | (go_simp; omega)) ?_
      refine Calls.mono (len_at HP8.out.hose) ?_
      rintro e w' ⟨rfl, rfl⟩
      refine ⟨_, rfl, ?_⟩
      refine hK.out _ _ (HP8.out.str) (fun hHeld => ?_)
      clear hK K
      refine norm_ (a' := ?_) ?_ ?_
      rotate_left
      · show Act.put _ (some 151) _ = _
        simp only [Act.put, List.setIfInBounds_toArray, List.set_cons_zero, List.set_cons_succ, i64_w, i32_w]
        rfl
      refine pure_ (i := 4) (N := some 154) (v := ?_) (a' := ?_) (bb 34 31) rfl rfl (by kernel_rfl) (fun _ _ _ h => h) (Or.inl ⟨by rfl, ?_⟩) ?_ ?_
      rotate_left
      · intro w'
        go_simp
        with_reducible rfl
      rotate_left
      · simp only [Act.put, List.setIfInBounds_toArray, List.set_cons_zero, List.set_cons_succ, i64_w, i32_w]
        rfl
      refine pure_ (i := 5) (N := some 155) (v := ?_) (a' := ?_) (bb 34 63) rfl rfl (by kernel_rfl) (fun _ _ _ h => h) (Or.inl ⟨by rfl, ?_⟩) ?_ ?_
      rotate_left
      · intro w'
        go_simp
        with_reducible rfl
      rotate_left
      · simp only [Act.put, List.setIfInBounds_toArray, List.set_cons_zero, List.set_cons_succ, i64_w, i32_w]
        rfl
      refine pure_ (i := 6) (N := some 156) (v := ?_) (a' := ?_) (bb 34 127) rfl rfl (by kernel_rfl) (fun _ _ _ h => h) (Or.inl ⟨by rfl, ?_⟩) ?_ ?_
      rotate_left
      · intro w'
        go_simp
        with_reducible rfl
      rotate_left
      · simp only [Act.put, List.setIfInBounds_toArray, List.set_cons_zero, List.set_cons_succ, i64_w, i32_w]
        rfl
      refine pure_ (i := 8) (N := some 158) (v := ?_) (a' := ?_) (bb 34 383) rfl rfl (by kernel_rfl) (fun _ _ _ h => h) (Or.inl ⟨by rfl, ?_⟩) ?_ ?_
      rotate_left
      · intro w'
        go_simp
        with_reducible rfl
      rotate_left
      · simp only [Act.put, List.setIfInBounds_toArray, List.set_cons_zero, List.set_cons_succ, i64_w, i32_w]
        rfl
      refine pure_ (i := 9) (N := some 159) (v := ?_) (a' := ?_) (bb 34 895) rfl rfl (by kernel_rfl) (fun _ _ _ h => h) (Or.inl ⟨by rfl, ?_⟩) ?_ ?_
      rotate_left
      · intro w'
        go_simp
        with_reducible rfl
      rotate_left
      · simp only [Act.put, List.setIfInBounds_toArray, List.set_cons_zero, List.set_cons_succ, i64_w, i32_w]
        rfl
      refine pure_ (i := 10) (N := some 160) (v := ?_) (a' := ?_) (bb 34 1919) rfl rfl (by kernel_rfl) (fun _ _ _ h => h) (Or.inl ⟨by rfl, ?_⟩) ?_ ?_
      rotate_left
      · intro w'
        go_simp
        with_reducible rfl
      rotate_left
      · simp only [Act.put, List.setIfInBounds_toArray, List.set_cons_zero, List.set_cons_succ, i64_w, i32_w]
        rfl
      refine pure_ (i := 11) (N := some 161) (v := ?_) (a' := ?_) (bb 34 3967) rfl rfl (by kernel_rfl) (fun _ _ _ h => h) (Or.inl ⟨by rfl, ?_⟩) ?_ ?_
      rotate_left
      · intro w'
        go_simp
        with_reducible rfl
      rotate_left
      · simp only [Act.put, List.setIfInBounds_toArray, List.set_cons_zero, List.set_cons_succ, i64_w, i32_w]
        rfl
      refine one_ (i := 7) (N := some 157) (bb 34 4095) rfl rfl (by kernel_rfl) (by decide) (fun K hK => ?_)
      refine goes_ Try.func27 (by kernel_rfl) rfl #[.pointer (some ⟨b, 0, none⟩)] (by rfl) rfl rfl (by (try simp only [List.map_toArray, List.map_cons, List.map_nil]); first | done | rfl | (go_simp; done) | (go_simp; omega)) ?_
      refine Calls.mono (room_at HP8.out.hose) ?_
      rintro e w' ⟨rfl, m2, rfl⟩
      refine ⟨_, rfl, ?_⟩
      replace HP8 := Aside0.mk (HP8.out.below (pw_below_drewN (Below.refl _ _) m2))
      refine hK.out _ _ (HP8.out.str) (fun hHeld => ?_)
      clear hK K
      refine norm_ (a' := ?_) ?_ ?_
      rotate_left
      · show Act.put _ (some 157) _ = _
        simp only [Act.put, List.setIfInBounds_toArray, List.set_cons_zero, List.set_cons_succ, i64_w, i32_w]
        rfl
      refine pure_ (i := 12) (N := some 162) (v := ?_) (a' := ?_) (bb 34 8191) rfl rfl (by kernel_rfl) (fun _ _ _ h => h) (Or.inl ⟨by rfl, ?_⟩) ?_ ?_
      rotate_left
      · intro w'
        go_simp
        with_reducible rfl
      rotate_left
      · simp only [Act.put, List.setIfInBounds_toArray, List.set_cons_zero, List.set_cons_succ, i64_w, i32_w]
        rfl
      refine pure_ (i := 13) (N := some 163) (v := ?_) (a' := ?_) (bb 34 16383) rfl rfl (by kernel_rfl) (fun _ _ _ h => h) (Or.inl ⟨by rfl, ?_⟩) ?_ ?_
      rotate_left
      · intro w'
        go_simp
        with_reducible rfl
      rotate_left
      · simp only [Act.put, List.setIfInBounds_toArray, List.set_cons_zero, List.set_cons_succ, i64_w, i32_w]
        rfl
      refine pure_ (i := 14) (N := some 164) (v := ?_) (a' := ?_) (bb 34 32767) rfl rfl (by kernel_rfl) (fun _ _ _ h => h) (Or.inl ⟨by rfl, ?_⟩) ?_ ?_
      rotate_left
      · intro w'
        go_simp
        with_reducible rfl
      rotate_left
      · simp only [Act.put, List.setIfInBounds_toArray, List.set_cons_zero, List.set_cons_succ, i64_w, i32_w]
        rfl
      refine pure_ (i := 15) (N := some 165) (v := ?_) (a' := ?_) (bb 34 65535) rfl rfl (by kernel_rfl) (fun _ _ _ h => h) (Or.inl ⟨by rfl, ?_⟩) ?_ ?_
      rotate_left
      · intro w'
        go_simp
        with_reducible rfl
      rotate_left
      · simp only [Act.put, List.setIfInBounds_toArray, List.set_cons_zero, List.set_cons_succ, i64_w, i32_w]
        rfl
      refine pure_ (i := 16) (N := some 166) (v := ?_) (a' := ?_) (bb 34 131071) rfl rfl (by kernel_rfl) (fun _ _ _ h => h) (Or.inl ⟨by rfl, ?_⟩) ?_ ?_
      rotate_left
      · intro w'
        go_simp
        with_reducible rfl
      rotate_left
      · simp only [Act.put, List.setIfInBounds_toArray, List.set_cons_zero, List.set_cons_succ, i64_w, i32_w]
        rfl
      refine pure_ (i := 17) (N := some 167) (v := ?_) (a' := ?_) (bb 34 262143) rfl rfl (by kernel_rfl) (fun _ _ _ h => h) (Or.inl ⟨by rfl, ?_⟩) ?_ ?_
      rotate_left
      · intro w'
        go_simp
        with_reducible rfl
      rotate_left
      · simp only [Act.put, List.setIfInBounds_toArray, List.set_cons_zero, List.set_cons_succ, i64_w, i32_w]
        rfl
      refine pure_ (i := 18) (N := some 168) (v := ?_) (a' := ?_) (bb 34 524287) rfl rfl (by kernel_rfl) (fun _ _ _ h => h) (Or.inl ⟨by rfl, ?_⟩) ?_ ?_
      rotate_left
      · intro w'
        go_simp
        with_reducible rfl
      rotate_left
      · simp only [Act.put, List.setIfInBounds_toArray, List.set_cons_zero, List.set_cons_succ, i64_w, i32_w]
        rfl
      refine pure_ (i := 19) (N := some 169) (v := ?_) (a' := ?_) (bb 34 1048575) rfl rfl (by kernel_rfl) (fun _ _ _ h => h) (Or.inl ⟨by rfl, ?_⟩) ?_ ?_
      rotate_left
      · intro w'
        go_simp
        with_reducible rfl
      rotate_left
      · simp only [Act.put, List.setIfInBounds_toArray, List.set_cons_zero, List.set_cons_succ, i64_w, i32_w]
        rfl
      refine pure_ (i := 20) (N := some 170) (v := ?_) (a' := ?_) (bb 34 2097151) rfl rfl (by kernel_rfl) (fun _ _ _ h => h) (Or.inl ⟨by rfl, ?_⟩) ?_ ?_
      rotate_left
      · intro w'
        go_simp
        with_reducible rfl
      rotate_left
      · simp only [Act.put, List.setIfInBounds_toArray, List.set_cons_zero, List.set_cons_succ, i64_w, i32_w]
        rfl
      refine pure_ (i := 21) (N := some 171) (v := ?_) (a' := ?_) (bb 34 4194303) rfl rfl (by kernel_rfl) (fun _ _ _ h => h) (Or.inl ⟨by rfl, ?_⟩) ?_ ?_
      rotate_left
      · intro w'
        go_simp
        with_reducible rfl
      rotate_left
      · simp only [Act.put, List.setIfInBounds_toArray, List.set_cons_zero, List.set_cons_succ, i64_w, i32_w]
        rfl
      refine pure_ (i := 22) (N := some 172) (v := ?_) (a' := ?_) (bb 34 8388607) rfl rfl (by kernel_rfl) (fun _ _ _ h => h) (Or.inl ⟨by rfl, ?_⟩) ?_ ?_
      rotate_left
      · intro w'
        go_simp
        with_reducible rfl
      rotate_left
      · simp only [Act.put, List.setIfInBounds_toArray, List.set_cons_zero, List.set_cons_succ, i64_w, i32_w]
        rfl
      refine pure_ (i := 23) (N := some 173) (v := ?_) (a' := ?_) (bb 34 16777215) rfl rfl (by kernel_rfl) (fun _ _ _ h => h) (Or.inl ⟨by rfl, ?_⟩) ?_ ?_
      rotate_left
      · intro w'
        go_simp
        with_reducible rfl
      rotate_left
      · simp only [Act.put, List.setIfInBounds_toArray, List.set_cons_zero, List.set_cons_succ, i64_w, i32_w]
        rfl
      refine pure_ (i := 24) (N := some 174) (v := ?_) (a' := ?_) (bb 34 33554431) rfl rfl (by kernel_rfl) (fun _ _ _ h => h) (Or.inl ⟨by rfl, ?_⟩) ?_ ?_
      rotate_left
      · intro w'
        go_simp
        with_reducible rfl
      rotate_left
      · simp only [Act.put, List.setIfInBounds_toArray, List.set_cons_zero, List.set_cons_succ, i64_w, i32_w]
        rfl
      refine pure_ (i := 25) (N := some 175) (v := ?_) (a' := ?_) (bb 34 67108863) rfl rfl (by kernel_rfl) (fun _ _ _ h => h) (Or.inl ⟨by rfl, ?_⟩) ?_ ?_
      rotate_left
      · intro w'
        go_simp
        with_reducible rfl
      rotate_left
      · simp only [Act.put, List.setIfInBounds_toArray, List.set_cons_zero, List.set_cons_succ, i64_w, i32_w]
        rfl
      refine pure_ (i := 26) (N := some 176) (v := ?_) (a' := ?_) (bb 34 134217727) rfl rfl (by kernel_rfl) (fun _ _ _ h => h) (Or.inl ⟨by rfl, ?_⟩) ?_ ?_
      rotate_left
      · intro w'
        go_simp
        with_reducible rfl
      rotate_left
      · simp only [Act.put, List.setIfInBounds_toArray, List.set_cons_zero, List.set_cons_succ, i64_w, i32_w]
        rfl
      refine pure_ (i := 27) (N := some 177) (v := ?_) (a' := ?_) (bb 34 268435455) rfl rfl (by kernel_rfl) (fun _ _ _ h => h) (Or.inl ⟨by rfl, ?_⟩) ?_ ?_
      rotate_left
      · intro w'
        go_simp
        with_reducible rfl
      rotate_left
      · simp only [Act.put, List.setIfInBounds_toArray, List.set_cons_zero, List.set_cons_succ, i64_w, i32_w]
        rfl
      refine pure_ (i := 30) (N := some 180) (v := ?_) (a' := ?_) (bb 34 1342177279) rfl rfl (by kernel_rfl) (fun _ _ _ h => h) (Or.inl ⟨by rfl, ?_⟩) ?_ ?_
      rotate_left
      · intro w'
        go_simp
        with_reducible rfl
      rotate_left
      · simp only [Act.put, List.setIfInBounds_toArray, List.set_cons_zero, List.set_cons_succ, i64_w, i32_w]
        rfl
      refine take_ (i := 31) (N := some 181) (v := ?_) (a' := ?_) (bb 34 3489660927) rfl rfl (by kernel_rfl) (fun _ _ _ h => h) (Or.inl ⟨by rfl, ?_⟩) hHeld ?_ ?_
      rotate_left
      · intro w' hSw
        go_simp
        with_reducible rfl
      rotate_left
      · simp only [Act.put, List.setIfInBounds_toArray, List.set_cons_zero, List.set_cons_succ, i64_w, i32_w]
        rfl
      refine one_ (i := 28) (N := some 178) (bb 34 3758096383) rfl rfl (by kernel_rfl) (by decide) (fun K hK => ?_)
      refine goes_ Try.func24 (by kernel_rfl) rfl #[.pointer (some ⟨b, 0, none⟩), .int .i64 0, .int .i64 (rl2.length : Int)] (by rfl) rfl rfl (by (try simp only [List.map_toArray, List.map_cons, List.map_nil]); first | done | rfl | (go_simp; done) | (go_simp; omega)) ?_
      refine Calls.mono (peek_at HP8.out.hose 0 _) ?_
      rintro e w' ⟨v9, rfl, hR, hB⟩
      refine ⟨_, rfl, ?_⟩
      rw [peekF_all] at hR
      obtain ⟨A9, n9, c9, rfl⟩ := R_sl hR
      have HC9 := Aside0.mk (R_to_C hR)
      replace HP8 := Aside0.mk (HP8.out.below hB)
      clear hR hB
      refine hK.out _ _ (HP8.out.str) (fun hHeld => ?_)
      clear hK K
      refine norm_ (a' := ?_) ?_ ?_
      rotate_left
      · show Act.put _ (some 178) _ = _
        simp only [Act.put, List.setIfInBounds_toArray, List.set_cons_zero, List.set_cons_succ, i64_w, i32_w]
        rfl
      refine more_ (S' := fun w' => (convert 23 9 (.slice dp rl2.length (c - tt))).run Try.prog w' = .ok (.string (strOfNums rl2)) w' ∧ (convert 23 9 (.slice A9 n9 c9)).run Try.prog w' = .ok (.string (strOfNums rl2)) w') (fun _ h => h.1) (⟨HP8.out.str, cs HC9.out⟩) (fun hHeld => ?_)
      refine take_ (i := 29) (N := some 179) (v := ?_) (a' := ?_) (bb 34 4294967295) rfl rfl (by kernel_rfl) (fun _ _ _ h => h) (Or.inl ⟨by rfl, ?_⟩) hHeld ?_ ?_
      rotate_left
      · intro w' hSw
        obtain ⟨q0_, q1_⟩ := hSw
        go_simp
        with_reducible rfl
      rotate_left
      · simp only [Act.put, List.setIfInBounds_toArray, List.set_cons_zero, List.set_cons_succ, i64_w, i32_w]
        rfl
      refine pure_ (i := 32) (N := some 182) (v := ?_) (a' := ?_) (bb 34 8589934591) rfl rfl (by kernel_rfl) (fun _ _ _ h => h) (Or.inl ⟨by rfl, ?_⟩) ?_ ?_
      rotate_left
      · intro w'
        go_simp
        with_reducible rfl
      rotate_left
      · simp only [Act.put, List.setIfInBounds_toArray, List.set_cons_zero, List.set_cons_succ, i64_w, i32_w]
        rfl
      refine pure_ (i := 33) (N := some 183) (v := ?_) (a' := ?_) (bb 34 17179869183) rfl rfl (by kernel_rfl) (fun _ _ _ h => h) (Or.inl ⟨by rfl, ?_⟩) ?_ ?_
      rotate_left
      · intro w'
        go_simp
        with_reducible rfl
      rotate_left
      · simp only [Act.put, List.setIfInBounds_toArray, List.set_cons_zero, List.set_cons_succ, i64_w, i32_w]
        rfl
      refine done_ (by kernel_rfl) ?_
      go_wp2
      go_roundw
      case rel => exact ⟨kk + 1, dp, (c - tt), rl2, i1, (o1 + (tt : Nat)), by go_num, rfl, rfl, rfl, ⟨by have := HQ.out; omega, S, HP8.out⟩⟩
      case measure => simp only [num]; have := HQ.out; omega
    by_cases q2 : d = 2
    · skip
      subst q2
      clear q0 q1
      obtain ⟨tt, htt⟩ : ∃ tt, outN q rl.length = tt := ⟨_, rfl⟩
      have htl : tt ≤ rl.length := by rw [← htt]; unfold outN; split <;> omega
      obtain ⟨rl1, hrl1⟩ : ∃ x, rl.take tt = x := ⟨_, rfl⟩
      obtain ⟨rl2, hrl2⟩ : ∃ x, rl.drop tt = x := ⟨_, rfl⟩
      have hl1 : rl1.length = tt := by rw [← hrl1, List.length_take]; omega
      have hl2 : rl2.length = rl.length - tt := by rw [← hrl2, List.length_drop]
      have HF := fun W => Aside0.mk (show Calls Try.prog 22 #[.int .i64 q, .int .i64 (rl.length : Int)] W fun e w' => e = .returned (.int .i64 (tt : Int)) ∧ W = w' by have := first_calls q (rl.length : Int) W; rw [firstF_outN, htt] at this; exact this.mono (fun _ _ h => ⟨h.1, h.2.symm⟩))
      have hcut1 := cutTo A rl.length c tt htl HP.out.cap
      obtain ⟨dp, hcut2, hdF⟩ := cutFrom A rl.length c tt htl HP.out.cap
      rw [← hl2] at hcut2
      have eo : IntKind.i64.wrap (o1 + (tt : Int)) = o1 + (tt : Int) := wid _ (by have := HP.out.o0; omega) (by have := HP.out.o1; have := HQ.out; omega)
      have er2 : IntKind.i64.wrap (a0 - (rl2.length : Int)) = a0 - (rl2.length : Int) := wid _ (by have := HQ.out; omega) (by have := HQ.out; omega)
      have HT := Aside0.mk (And.intro htt (And.intro htl (And.intro hrl1 (And.intro hrl2 (And.intro hl1 hl2)))))
      have HDF := Aside0.mk hdF
      clear htt htl hrl1 hrl2 hl1 hl2 hdF
      go_upto_region 24 with (go_at_call 22; refine Calls.mono (HF _).out ?_; rintro e w' ⟨rfl, rfl⟩)
      clear y0 y1 y2 y3 HF
      refine start_ (n := 28) (S := fun w' => w'.cell? ⟨bx, 0, none⟩ = some (.int .i64 2) ∧ w'.cell? ⟨bx, 2, none⟩ = some (.int .i64 q)) (ds := []) (bb 28 0) (by kernel_rfl) rfl rfl (⟨(blk_cell (blk_drew HXB.out) 0).trans rfl, (blk_cell (blk_drew HXB.out) 2).trans rfl⟩) (fun hHeld => ?_)
      replace HP := Aside0.mk (HP.out.below (below_drew (Below.refl _ _)))
      replace HA2 := Aside0.mk (HA2.out.below (below_drew (Below.refl _ _)))
      replace HXB := Aside0.mk (blk_drew HXB.out)
      generalize w2.drew = w3 at HP HA2 HXB hHeld ⊢
      refine pure_ (i := 0) (N := some 94) (v := ?_) (a' := ?_) (bb 28 1) rfl rfl (by kernel_rfl) (fun _ _ _ h => h) (Or.inl ⟨by rfl, ?_⟩) ?_ ?_
      rotate_left
      · intro w'
        go_simp
        with_reducible rfl
      rotate_left
      · simp only [Act.put, List.setIfInBounds_toArray, List.set_cons_zero, List.set_cons_succ, i64_w, i32_w]
        rfl
      refine take_ (i := 1) (N := some 95) (v := ?_) (a' := ?_) (bb 28 3) rfl rfl (by kernel_rfl) (fun _ _ _ h => h) (Or.inl ⟨by rfl, ?_⟩) hHeld ?_ ?_
      rotate_left
      · intro w' hSw
        obtain ⟨q0_, q1_⟩ := hSw
        go_simp
        with_reducible rfl
      rotate_left
      · simp only [Act.put, List.setIfInBounds_toArray, List.set_cons_zero, List.set_cons_succ, i64_w, i32_w]
        rfl
      refine pure_ (i := 2) (N := some 96) (v := ?_) (a' := ?_) (bb 28 7) rfl rfl (by kernel_rfl) (fun _ _ _ h => h) (Or.inl ⟨by rfl, ?_⟩) ?_ ?_
      rotate_left
      · intro w'
        go_simp
        with_reducible rfl
      rotate_left
      · simp only [Act.put, List.setIfInBounds_toArray, List.set_cons_zero, List.set_cons_succ, i64_w, i32_w]
        rfl
      refine pure_ (i := 3) (N := some 97) (v := ?_) (a' := ?_) (bb 28 15) rfl rfl (by kernel_rfl) (fun _ _ _ h => h) (Or.inl ⟨by rfl, ?_⟩) ?_ ?_
      rotate_left
      · intro w'
        go_simp
        with_reducible rfl
      rotate_left
      · simp only [Act.put, List.setIfInBounds_toArray, List.set_cons_zero, List.set_cons_succ, i64_w, i32_w]
        rfl
      refine pure_ (i := 4) (N := some 98) (v := undef) (a' := ?_) (bb 28 31) rfl rfl (by kernel_rfl) (fun _ _ _ h => h) (Or.inr ⟨by rfl, rfl⟩) ?_ ?_
      rotate_left
      · simp only [Act.put, List.setIfInBounds_toArray, List.set_cons_zero, List.set_cons_succ, i64_w, i32_w]
        rfl
      refine pure_ (i := 5) (N := some 99) (v := undef) (a' := ?_) (bb 28 63) rfl rfl (by kernel_rfl) (fun _ _ _ h => h) (Or.inr ⟨by rfl, rfl⟩) ?_ ?_
      rotate_left
      · simp only [Act.put, List.setIfInBounds_toArray, List.set_cons_zero, List.set_cons_succ, i64_w, i32_w]
        rfl
      refine pure_ (i := 6) (N := some 100) (v := undef) (a' := ?_) (bb 28 127) rfl rfl (by kernel_rfl) (fun _ _ _ h => h) (Or.inr ⟨by rfl, rfl⟩) ?_ ?_
      rotate_left
      · simp only [Act.put, List.setIfInBounds_toArray, List.set_cons_zero, List.set_cons_succ, i64_w, i32_w]
        rfl
      refine pure_ (i := 7) (N := some 101) (v := undef) (a' := ?_) (bb 28 255) rfl rfl (by kernel_rfl) (fun _ _ _ h => h) (Or.inr ⟨by rfl, rfl⟩) ?_ ?_
      rotate_left
      · simp only [Act.put, List.setIfInBounds_toArray, List.set_cons_zero, List.set_cons_succ, i64_w, i32_w]
        rfl
      refine pure_ (i := 8) (N := some 102) (v := undef) (a' := ?_) (bb 28 511) rfl rfl (by kernel_rfl) (fun _ _ _ h => h) (Or.inr ⟨by rfl, rfl⟩) ?_ ?_
      rotate_left
      · simp only [Act.put, List.setIfInBounds_toArray, List.set_cons_zero, List.set_cons_succ, i64_w, i32_w]
        rfl
      refine pure_ (i := 9) (N := some 103) (v := undef) (a' := ?_) (bb 28 1023) rfl rfl (by kernel_rfl) (fun _ _ _ h => h) (Or.inr ⟨by rfl, rfl⟩) ?_ ?_
      rotate_left
      · simp only [Act.put, List.setIfInBounds_toArray, List.set_cons_zero, List.set_cons_succ, i64_w, i32_w]
        rfl
      refine pure_ (i := 10) (N := some 104) (v := undef) (a' := ?_) (bb 28 2047) rfl rfl (by kernel_rfl) (fun _ _ _ h => h) (Or.inr ⟨by rfl, rfl⟩) ?_ ?_
      rotate_left
      · simp only [Act.put, List.setIfInBounds_toArray, List.set_cons_zero, List.set_cons_succ, i64_w, i32_w]
        rfl
      refine pure_ (i := 11) (N := some 105) (v := undef) (a' := ?_) (bb 28 4095) rfl rfl (by kernel_rfl) (fun _ _ _ h => h) (Or.inr ⟨by rfl, rfl⟩) ?_ ?_
      rotate_left
      · simp only [Act.put, List.setIfInBounds_toArray, List.set_cons_zero, List.set_cons_succ, i64_w, i32_w]
        rfl
      refine pure_ (i := 12) (N := some 106) (v := undef) (a' := ?_) (bb 28 8191) rfl rfl (by kernel_rfl) (fun _ _ _ h => h) (Or.inr ⟨by rfl, rfl⟩) ?_ ?_
      rotate_left
      · simp only [Act.put, List.setIfInBounds_toArray, List.set_cons_zero, List.set_cons_succ, i64_w, i32_w]
        rfl
      refine pure_ (i := 13) (N := some 107) (v := undef) (a' := ?_) (bb 28 16383) rfl rfl (by kernel_rfl) (fun _ _ _ h => h) (Or.inr ⟨by rfl, rfl⟩) ?_ ?_
      rotate_left
      · simp only [Act.put, List.setIfInBounds_toArray, List.set_cons_zero, List.set_cons_succ, i64_w, i32_w]
        rfl
      refine pure_ (i := 14) (N := some 108) (v := ?_) (a' := ?_) (bb 28 32767) rfl rfl (by kernel_rfl) (fun _ _ _ h => h) (Or.inl ⟨by rfl, ?_⟩) ?_ ?_
      rotate_left
      · intro w'
        go_simp
        with_reducible rfl
      rotate_left
      · simp only [Act.put, List.setIfInBounds_toArray, List.set_cons_zero, List.set_cons_succ, i64_w, i32_w]
        rfl
      refine pure_ (i := 15) (N := some 109) (v := ?_) (a' := ?_) (bb 28 65535) rfl rfl (by kernel_rfl) (fun _ _ _ h => h) (Or.inl ⟨by rfl, ?_⟩) ?_ ?_
      rotate_left
      · intro w'
        go_simp
        with_reducible rfl
      rotate_left
      · simp only [Act.put, List.setIfInBounds_toArray, List.set_cons_zero, List.set_cons_succ, i64_w, i32_w]
        rfl
      refine pure_ (i := 16) (N := some 110) (v := ?_) (a' := ?_) (bb 28 131071) rfl rfl (by kernel_rfl) (fun _ _ _ h => h) (Or.inl ⟨by rfl, ?_⟩) ?_ ?_
      rotate_left
      · intro w'
        go_simp
        with_reducible rfl
      rotate_left
      · simp only [Act.put, List.setIfInBounds_toArray, List.set_cons_zero, List.set_cons_succ, i64_w, i32_w]
        rfl
      refine take_ (i := 17) (N := some 111) (v := ?_) (a' := ?_) (bb 28 262143) rfl rfl (by kernel_rfl) (fun _ _ _ h => h) (Or.inl ⟨by rfl, ?_⟩) hHeld ?_ ?_
      rotate_left
      · intro w' hSw
        obtain ⟨q0_, q1_⟩ := hSw
        go_simp
        with_reducible rfl
      rotate_left
      · simp only [Act.put, List.setIfInBounds_toArray, List.set_cons_zero, List.set_cons_succ, i64_w, i32_w]
        rfl
      refine pure_ (i := 18) (N := some 112) (v := ?_) (a' := ?_) (bb 28 524287) rfl rfl (by kernel_rfl) (fun _ _ _ h => h) (Or.inl ⟨by rfl, ?_⟩) ?_ ?_
      rotate_left
      · intro w'
        go_simp
        with_reducible rfl
      rotate_left
      · simp only [Act.put, List.setIfInBounds_toArray, List.set_cons_zero, List.set_cons_succ, i64_w, i32_w]
        rfl
      refine pure_ (i := 19) (N := some 113) (v := ?_) (a' := ?_) (bb 28 1048575) rfl rfl (by kernel_rfl) (fun _ _ _ h => h) (Or.inl ⟨by rfl, ?_⟩) ?_ ?_
      rotate_left
      · intro w'
        go_simp
        with_reducible rfl
      rotate_left
      · simp only [Act.put, List.setIfInBounds_toArray, List.set_cons_zero, List.set_cons_succ, i64_w, i32_w]
        rfl
      refine pure_ (i := 20) (N := some 114) (v := ?_) (a' := ?_) (bb 28 2097151) rfl rfl (by kernel_rfl) (fun _ _ _ h => h) (Or.inl ⟨by rfl, ?_⟩) ?_ ?_
      rotate_left
      · intro w'
        go_simp
        with_reducible rfl
      rotate_left
      · simp only [Act.put, List.setIfInBounds_toArray, List.set_cons_zero, List.set_cons_succ, i64_w, i32_w]
        rfl
      refine pure_ (i := 21) (N := some 115) (v := ?_) (a' := ?_) (bb 28 4194303) rfl rfl (by kernel_rfl) (fun _ _ _ h => h) (Or.inl ⟨by rfl, ?_⟩) ?_ ?_
      rotate_left
      · intro w'
        go_simp
        with_reducible rfl
      rotate_left
      · simp only [Act.put, List.setIfInBounds_toArray, List.set_cons_zero, List.set_cons_succ, i64_w, i32_w]
        rfl
      refine take_ (i := 22) (N := some 116) (v := ?_) (a' := ?_) (bb 28 8388607) rfl rfl (by kernel_rfl) (fun _ _ _ h => h) (Or.inl ⟨by rfl, ?_⟩) hHeld ?_ ?_
      rotate_left
      · intro w' hSw
        obtain ⟨q0_, q1_⟩ := hSw
        go_simp
        with_reducible rfl
      rotate_left
      · simp only [Act.put, List.setIfInBounds_toArray, List.set_cons_zero, List.set_cons_succ, i64_w, i32_w]
        rfl
      refine pure_ (i := 24) (N := some 118) (v := ?_) (a' := ?_) (bb 28 25165823) rfl rfl (by kernel_rfl) (fun _ _ _ h => h) (Or.inl ⟨by rfl, ?_⟩) ?_ ?_
      rotate_left
      · intro w'
        go_simp
        with_reducible rfl
      rotate_left
      · simp only [Act.put, List.setIfInBounds_toArray, List.set_cons_zero, List.set_cons_succ, i64_w, i32_w]
        rfl
      refine one_ (i := 23) (N := some 117) (bb 28 33554431) rfl rfl (by kernel_rfl) (by decide) (fun K hK => ?_)
      refine goes_ Try.func23 (by kernel_rfl) rfl #[.pointer (some ⟨b, 0, none⟩), .int .i64 q] (by rfl) rfl rfl (by (try simp only [List.map_toArray, List.map_cons, List.map_nil]); first | done | rfl | (go_simp; done) | (go_simp; omega)) ?_
      refine Calls.mono (drop_to HP.out.hose q HP.out.o0 (by have := HP.out.o1; have := HQ.out; omega) rl2 tt (by rw [HT.out.1]; exact HT.out.2.2.2.1) HT.out.1) ?_
      rintro e w' ⟨rfl, hA, hK_⟩
      refine ⟨_, rfl, ?_⟩
      replace HXB := Aside0.mk (hK_.block bx (blk_lt HXB.out) (fun hs => Nat.lt_irrefl _ (HSX.out _ hs)) |>.trans HXB.out)
      have HFR := Aside0.mk (Kd.F_step HP.out.row (fun q_ hq_ hlt_ => hK_.block q_ hlt_ hq_))
      have HAt := Aside0.mk hA
      have HBL := Aside0.mk (HP.out.bel.trans (hK_.below HP.out.hose.ge HP.out.bel.size))
      clear hA hK_
      refine hK.out _ _ (⟨(blk_cell HXB.out 0).trans rfl, (blk_cell HXB.out 2).trans rfl⟩) (fun hHeld => ?_)
      clear hK K
      refine norm_ (a' := ?_) ?_ ?_
      rotate_left
      · show Act.put _ (some 117) _ = _
        simp only [Act.put, List.setIfInBounds_toArray, List.set_cons_zero, List.set_cons_succ, i64_w, i32_w]
        rfl
      refine pure_ (i := 25) (N := some 119) (v := ?_) (a' := ?_) (bb 28 67108863) rfl rfl (by kernel_rfl) (fun _ _ _ h => h) (Or.inl ⟨by rfl, ?_⟩) ?_ ?_
      rotate_left
      · intro w'
        go_simp
        with_reducible rfl
      rotate_left
      · simp only [Act.put, List.setIfInBounds_toArray, List.set_cons_zero, List.set_cons_succ, i64_w, i32_w]
        rfl
      refine pure_ (i := 26) (N := some 120) (v := ?_) (a' := ?_) (bb 28 134217727) rfl rfl (by kernel_rfl) (fun _ _ _ h => h) (Or.inl ⟨by rfl, ?_⟩) ?_ ?_
      rotate_left
      · intro w'
        go_simp
        with_reducible rfl
      rotate_left
      · simp only [Act.put, List.setIfInBounds_toArray, List.set_cons_zero, List.set_cons_succ, i64_w, i32_w]
        rfl
      refine pure_ (i := 27) (N := some 121) (v := ?_) (a' := ?_) (bb 28 268435455) rfl rfl (by kernel_rfl) (fun _ _ _ h => h) (Or.inl ⟨by rfl, ?_⟩) ?_ ?_
      rotate_left
      · intro w'
        go_simp
        with_reducible rfl
      rotate_left
      · simp only [Act.put, List.setIfInBounds_toArray, List.set_cons_zero, List.set_cons_succ, i64_w, i32_w]
        rfl
      refine done_ (by kernel_rfl) ?_
      replace HP := Aside0.mk (show PAt w w' b S a0 dp (c - tt) rl2 i1 (o1 + (tt : Nat)) (kk + 1) from ⟨HAt.out, HT.out.2.2.2.1 ▸ HDF.out _ _ rl rfl HFR.out, by have := HA2.out.cap; have := HT.out; omega, HBL.out, HA2.out.more.i0, HA2.out.more.i1, by have := HA2.out.o0; omega, by have := HA2.out.o1; have := HT.out; have := HQ.out; omega⟩)
      go_upto_region 32 with (go_at_call 26; refine (passed_at HP.out.hose).mono ?_; rintro e w' ⟨rfl, m, rfl⟩; have HP7 := Aside0.mk (HP.out.below (pw_below_drewN (Below.refl _ _) m)); generalize w'.drewN m = w7 at HP7 ⊢)
      refine start_ (n := 34) (S := fun w' => (convert 23 9 (.slice dp rl2.length (c - tt))).run Try.prog w' = .ok (.string (strOfNums rl2)) w') (ds := []) (bb 34 0) (by kernel_rfl) rfl rfl ((HP7.out.below (below_drew (Below.refl _ _))).str) (fun hHeld => ?_)
      have HP8 := Aside0.mk (HP7.out.below (below_drew (Below.refl _ _)))
      generalize w7.drew = w8 at HP8 hHeld ⊢
      refine pure_ (i := 0) (N := some 150) (v := ?_) (a' := ?_) (bb 34 1) rfl rfl (by kernel_rfl) (fun _ _ _ h => h) (Or.inl ⟨by rfl, ?_⟩) ?_ ?_
      rotate_left
      · intro w'
        go_simp
        with_reducible rfl
      rotate_left
      · simp only [Act.put, List.setIfInBounds_toArray, List.set_cons_zero, List.set_cons_succ, i64_w, i32_w]
        rfl
      refine pure_ (i := 2) (N := some 152) (v := ?_) (a' := ?_) (bb 34 5) rfl rfl (by kernel_rfl) (fun _ _ _ h => h) (Or.inl ⟨by rfl, ?_⟩) ?_ ?_
      rotate_left
      · intro w'
        go_simp
        with_reducible rfl
      rotate_left
      · simp only [Act.put, List.setIfInBounds_toArray, List.set_cons_zero, List.set_cons_succ, i64_w, i32_w]
        rfl
      refine pure_ (i := 3) (N := some 153) (v := ?_) (a' := ?_) (bb 34 13) rfl rfl (by kernel_rfl) (fun _ _ _ h => h) (Or.inl ⟨by rfl, ?_⟩) ?_ ?_
      rotate_left
      · intro w'
        go_simp
        with_reducible rfl
      rotate_left
      · simp only [Act.put, List.setIfInBounds_toArray, List.set_cons_zero, List.set_cons_succ, i64_w, i32_w]
        rfl
      refine one_ (i := 1) (N := some 151) (bb 34 15) rfl rfl (by kernel_rfl) (by decide) (fun K hK => ?_)
      refine goes_ Try.func20 (by kernel_rfl) rfl #[.pointer (some ⟨b, 0, none⟩)] (by rfl) rfl rfl (by (try simp only [List.map_toArray, List.map_cons, List.map_nil]); first | done | rfl | (go_simp; done) | (go_simp; omega)) ?_
      refine Calls.mono (len_at HP8.out.hose) ?_
      rintro e w' ⟨rfl, rfl⟩
      refine ⟨_, rfl, ?_⟩
      refine hK.out _ _ (HP8.out.str) (fun hHeld => ?_)
      clear hK K
      refine norm_ (a' := ?_) ?_ ?_
      rotate_left
      · show Act.put _ (some 151) _ = _
        simp only [Act.put, List.setIfInBounds_toArray, List.set_cons_zero, List.set_cons_succ, i64_w, i32_w]
        rfl
      refine pure_ (i := 4) (N := some 154) (v := ?_) (a' := ?_) (bb 34 31) rfl rfl (by kernel_rfl) (fun _ _ _ h => h) (Or.inl ⟨by rfl, ?_⟩) ?_ ?_
      rotate_left
      · intro w'
        go_simp
        with_reducible rfl
      rotate_left
      · simp only [Act.put, List.setIfInBounds_toArray, List.set_cons_zero, List.set_cons_succ, i64_w, i32_w]
        rfl
      refine pure_ (i := 5) (N := some 155) (v := ?_) (a' := ?_) (bb 34 63) rfl rfl (by kernel_rfl) (fun _ _ _ h => h) (Or.inl ⟨by rfl, ?_⟩) ?_ ?_
      rotate_left
      · intro w'
        go_simp
        with_reducible rfl
      rotate_left
      · simp only [Act.put, List.setIfInBounds_toArray, List.set_cons_zero, List.set_cons_succ, i64_w, i32_w]
        rfl
      refine pure_ (i := 6) (N := some 156) (v := ?_) (a' := ?_) (bb 34 127) rfl rfl (by kernel_rfl) (fun _ _ _ h => h) (Or.inl ⟨by rfl, ?_⟩) ?_ ?_
      rotate_left
      · intro w'
        go_simp
        with_reducible rfl
      rotate_left
      · simp only [Act.put, List.setIfInBounds_toArray, List.set_cons_zero, List.set_cons_succ, i64_w, i32_w]
        rfl
      refine pure_ (i := 8) (N := some 158) (v := ?_) (a' := ?_) (bb 34 383) rfl rfl (by kernel_rfl) (fun _ _ _ h => h) (Or.inl ⟨by rfl, ?_⟩) ?_ ?_
      rotate_left
      · intro w'
        go_simp
        with_reducible rfl
      rotate_left
      · simp only [Act.put, List.setIfInBounds_toArray, List.set_cons_zero, List.set_cons_succ, i64_w, i32_w]
        rfl
      refine pure_ (i := 9) (N := some 159) (v := ?_) (a' := ?_) (bb 34 895) rfl rfl (by kernel_rfl) (fun _ _ _ h => h) (Or.inl ⟨by rfl, ?_⟩) ?_ ?_
      rotate_left
      · intro w'
        go_simp
        with_reducible rfl
      rotate_left
      · simp only [Act.put, List.setIfInBounds_toArray, List.set_cons_zero, List.set_cons_succ, i64_w, i32_w]
        rfl
      refine pure_ (i := 10) (N := some 160) (v := ?_) (a' := ?_) (bb 34 1919) rfl rfl (by kernel_rfl) (fun _ _ _ h => h) (Or.inl ⟨by rfl, ?_⟩) ?_ ?_
      rotate_left
      · intro w'
        go_simp
        with_reducible rfl
      rotate_left
      · simp only [Act.put, List.setIfInBounds_toArray, List.set_cons_zero, List.set_cons_succ, i64_w, i32_w]
        rfl
      refine pure_ (i := 11) (N := some 161) (v := ?_) (a' := ?_) (bb 34 3967) rfl rfl (by kernel_rfl) (fun _ _ _ h => h) (Or.inl ⟨by rfl, ?_⟩) ?_ ?_
      rotate_left
      · intro w'
        go_simp
        with_reducible rfl
      rotate_left
      · simp only [Act.put, List.setIfInBounds_toArray, List.set_cons_zero, List.set_cons_succ, i64_w, i32_w]
        rfl
      refine one_ (i := 7) (N := some 157) (bb 34 4095) rfl rfl (by kernel_rfl) (by decide) (fun K hK => ?_)
      refine goes_ Try.func27 (by kernel_rfl) rfl #[.pointer (some ⟨b, 0, none⟩)] (by rfl) rfl rfl (by (try simp only [List.map_toArray, List.map_cons, List.map_nil]); first | done | rfl | (go_simp; done) | (go_simp; omega)) ?_
      refine Calls.mono (room_at HP8.out.hose) ?_
      rintro e w' ⟨rfl, m2, rfl⟩
      refine ⟨_, rfl, ?_⟩
      replace HP8 := Aside0.mk (HP8.out.below (pw_below_drewN (Below.refl _ _) m2))
      refine hK.out _ _ (HP8.out.str) (fun hHeld => ?_)
      clear hK K
      refine norm_ (a' := ?_) ?_ ?_
      rotate_left
      · show Act.put _ (some 157) _ = _
        simp only [Act.put, List.setIfInBounds_toArray, List.set_cons_zero, List.set_cons_succ, i64_w, i32_w]
        rfl
      refine pure_ (i := 12) (N := some 162) (v := ?_) (a' := ?_) (bb 34 8191) rfl rfl (by kernel_rfl) (fun _ _ _ h => h) (Or.inl ⟨by rfl, ?_⟩) ?_ ?_
      rotate_left
      · intro w'
        go_simp
        with_reducible rfl
      rotate_left
      · simp only [Act.put, List.setIfInBounds_toArray, List.set_cons_zero, List.set_cons_succ, i64_w, i32_w]
        rfl
      refine pure_ (i := 13) (N := some 163) (v := ?_) (a' := ?_) (bb 34 16383) rfl rfl (by kernel_rfl) (fun _ _ _ h => h) (Or.inl ⟨by rfl, ?_⟩) ?_ ?_
      rotate_left
      · intro w'
        go_simp
        with_reducible rfl
      rotate_left
      · simp only [Act.put, List.setIfInBounds_toArray, List.set_cons_zero, List.set_cons_succ, i64_w, i32_w]
        rfl
      refine pure_ (i := 14) (N := some 164) (v := ?_) (a' := ?_) (bb 34 32767) rfl rfl (by kernel_rfl) (fun _ _ _ h => h) (Or.inl ⟨by rfl, ?_⟩) ?_ ?_
      rotate_left
      · intro w'
        go_simp
        with_reducible rfl
      rotate_left
      · simp only [Act.put, List.setIfInBounds_toArray, List.set_cons_zero, List.set_cons_succ, i64_w, i32_w]
        rfl
      refine pure_ (i := 15) (N := some 165) (v := ?_) (a' := ?_) (bb 34 65535) rfl rfl (by kernel_rfl) (fun _ _ _ h => h) (Or.inl ⟨by rfl, ?_⟩) ?_ ?_
      rotate_left
      · intro w'
        go_simp
        with_reducible rfl
      rotate_left
      · simp only [Act.put, List.setIfInBounds_toArray, List.set_cons_zero, List.set_cons_succ, i64_w, i32_w]
        rfl
      refine pure_ (i := 16) (N := some 166) (v := ?_) (a' := ?_) (bb 34 131071) rfl rfl (by kernel_rfl) (fun _ _ _ h => h) (Or.inl ⟨by rfl, ?_⟩) ?_ ?_
      rotate_left
      · intro w'
        go_simp
        with_reducible rfl
      rotate_left
      · simp only [Act.put, List.setIfInBounds_toArray, List.set_cons_zero, List.set_cons_succ, i64_w, i32_w]
        rfl
      refine pure_ (i := 17) (N := some 167) (v := ?_) (a' := ?_) (bb 34 262143) rfl rfl (by kernel_rfl) (fun _ _ _ h => h) (Or.inl ⟨by rfl, ?_⟩) ?_ ?_
      rotate_left
      · intro w'
        go_simp
        with_reducible rfl
      rotate_left
      · simp only [Act.put, List.setIfInBounds_toArray, List.set_cons_zero, List.set_cons_succ, i64_w, i32_w]
        rfl
      refine pure_ (i := 18) (N := some 168) (v := ?_) (a' := ?_) (bb 34 524287) rfl rfl (by kernel_rfl) (fun _ _ _ h => h) (Or.inl ⟨by rfl, ?_⟩) ?_ ?_
      rotate_left
      · intro w'
        go_simp
        with_reducible rfl
      rotate_left
      · simp only [Act.put, List.setIfInBounds_toArray, List.set_cons_zero, List.set_cons_succ, i64_w, i32_w]
        rfl
      refine pure_ (i := 19) (N := some 169) (v := ?_) (a' := ?_) (bb 34 1048575) rfl rfl (by kernel_rfl) (fun _ _ _ h => h) (Or.inl ⟨by rfl, ?_⟩) ?_ ?_
      rotate_left
      · intro w'
        go_simp
        with_reducible rfl
      rotate_left
      · simp only [Act.put, List.setIfInBounds_toArray, List.set_cons_zero, List.set_cons_succ, i64_w, i32_w]
        rfl
      refine pure_ (i := 20) (N := some 170) (v := ?_) (a' := ?_) (bb 34 2097151) rfl rfl (by kernel_rfl) (fun _ _ _ h => h) (Or.inl ⟨by rfl, ?_⟩) ?_ ?_
      rotate_left
      · intro w'
        go_simp
        with_reducible rfl
      rotate_left
      · simp only [Act.put, List.setIfInBounds_toArray, List.set_cons_zero, List.set_cons_succ, i64_w, i32_w]
        rfl
      refine pure_ (i := 21) (N := some 171) (v := ?_) (a' := ?_) (bb 34 4194303) rfl rfl (by kernel_rfl) (fun _ _ _ h => h) (Or.inl ⟨by rfl, ?_⟩) ?_ ?_
      rotate_left
      · intro w'
        go_simp
        with_reducible rfl
      rotate_left
      · simp only [Act.put, List.setIfInBounds_toArray, List.set_cons_zero, List.set_cons_succ, i64_w, i32_w]
        rfl
      refine pure_ (i := 22) (N := some 172) (v := ?_) (a' := ?_) (bb 34 8388607) rfl rfl (by kernel_rfl) (fun _ _ _ h => h) (Or.inl ⟨by rfl, ?_⟩) ?_ ?_
      rotate_left
      · intro w'
        go_simp
        with_reducible rfl
      rotate_left
      · simp only [Act.put, List.setIfInBounds_toArray, List.set_cons_zero, List.set_cons_succ, i64_w, i32_w]
        rfl
      refine pure_ (i := 23) (N := some 173) (v := ?_) (a' := ?_) (bb 34 16777215) rfl rfl (by kernel_rfl) (fun _ _ _ h => h) (Or.inl ⟨by rfl, ?_⟩) ?_ ?_
      rotate_left
      · intro w'
        go_simp
        with_reducible rfl
      rotate_left
      · simp only [Act.put, List.setIfInBounds_toArray, List.set_cons_zero, List.set_cons_succ, i64_w, i32_w]
        rfl
      refine pure_ (i := 24) (N := some 174) (v := ?_) (a' := ?_) (bb 34 33554431) rfl rfl (by kernel_rfl) (fun _ _ _ h => h) (Or.inl ⟨by rfl, ?_⟩) ?_ ?_
      rotate_left
      · intro w'
        go_simp
        with_reducible rfl
      rotate_left
      · simp only [Act.put, List.setIfInBounds_toArray, List.set_cons_zero, List.set_cons_succ, i64_w, i32_w]
        rfl
      refine pure_ (i := 25) (N := some 175) (v := ?_) (a' := ?_) (bb 34 67108863) rfl rfl (by kernel_rfl) (fun _ _ _ h => h) (Or.inl ⟨by rfl, ?_⟩) ?_ ?_
      rotate_left
      · intro w'
        go_simp
        with_reducible rfl
      rotate_left
      · simp only [Act.put, List.setIfInBounds_toArray, List.set_cons_zero, List.set_cons_succ, i64_w, i32_w]
        rfl
      refine pure_ (i := 26) (N := some 176) (v := ?_) (a' := ?_) (bb 34 134217727) rfl rfl (by kernel_rfl) (fun _ _ _ h => h) (Or.inl ⟨by rfl, ?_⟩) ?_ ?_
      rotate_left
      · intro w'
        go_simp
        with_reducible rfl
      rotate_left
      · simp only [Act.put, List.setIfInBounds_toArray, List.set_cons_zero, List.set_cons_succ, i64_w, i32_w]
        rfl
      refine pure_ (i := 27) (N := some 177) (v := ?_) (a' := ?_) (bb 34 268435455) rfl rfl (by kernel_rfl) (fun _ _ _ h => h) (Or.inl ⟨by rfl, ?_⟩) ?_ ?_
      rotate_left
      · intro w'
        go_simp
        with_reducible rfl
      rotate_left
      · simp only [Act.put, List.setIfInBounds_toArray, List.set_cons_zero, List.set_cons_succ, i64_w, i32_w]
        rfl
      refine pure_ (i := 30) (N := some 180) (v := ?_) (a' := ?_) (bb 34 1342177279) rfl rfl (by kernel_rfl) (fun _ _ _ h => h) (Or.inl ⟨by rfl, ?_⟩) ?_ ?_
      rotate_left
      · intro w'
        go_simp
        with_reducible rfl
      rotate_left
      · simp only [Act.put, List.setIfInBounds_toArray, List.set_cons_zero, List.set_cons_succ, i64_w, i32_w]
        rfl
      refine take_ (i := 31) (N := some 181) (v := ?_) (a' := ?_) (bb 34 3489660927) rfl rfl (by kernel_rfl) (fun _ _ _ h => h) (Or.inl ⟨by rfl, ?_⟩) hHeld ?_ ?_
      rotate_left
      · intro w' hSw
        go_simp
        with_reducible rfl
      rotate_left
      · simp only [Act.put, List.setIfInBounds_toArray, List.set_cons_zero, List.set_cons_succ, i64_w, i32_w]
        rfl
      refine one_ (i := 28) (N := some 178) (bb 34 3758096383) rfl rfl (by kernel_rfl) (by decide) (fun K hK => ?_)
      refine goes_ Try.func24 (by kernel_rfl) rfl #[.pointer (some ⟨b, 0, none⟩), .int .i64 0, .int .i64 (rl2.length : Int)] (by rfl) rfl rfl (by (try simp only [List.map_toArray, List.map_cons, List.map_nil]); first | done | rfl | (go_simp; done) | (go_simp; omega)) ?_
      refine Calls.mono (peek_at HP8.out.hose 0 _) ?_
      rintro e w' ⟨v9, rfl, hR, hB⟩
      refine ⟨_, rfl, ?_⟩
      rw [peekF_all] at hR
      obtain ⟨A9, n9, c9, rfl⟩ := R_sl hR
      have HC9 := Aside0.mk (R_to_C hR)
      replace HP8 := Aside0.mk (HP8.out.below hB)
      clear hR hB
      refine hK.out _ _ (HP8.out.str) (fun hHeld => ?_)
      clear hK K
      refine norm_ (a' := ?_) ?_ ?_
      rotate_left
      · show Act.put _ (some 178) _ = _
        simp only [Act.put, List.setIfInBounds_toArray, List.set_cons_zero, List.set_cons_succ, i64_w, i32_w]
        rfl
      refine more_ (S' := fun w' => (convert 23 9 (.slice dp rl2.length (c - tt))).run Try.prog w' = .ok (.string (strOfNums rl2)) w' ∧ (convert 23 9 (.slice A9 n9 c9)).run Try.prog w' = .ok (.string (strOfNums rl2)) w') (fun _ h => h.1) (⟨HP8.out.str, cs HC9.out⟩) (fun hHeld => ?_)
      refine take_ (i := 29) (N := some 179) (v := ?_) (a' := ?_) (bb 34 4294967295) rfl rfl (by kernel_rfl) (fun _ _ _ h => h) (Or.inl ⟨by rfl, ?_⟩) hHeld ?_ ?_
      rotate_left
      · intro w' hSw
        obtain ⟨q0_, q1_⟩ := hSw
        go_simp
        with_reducible rfl
      rotate_left
      · simp only [Act.put, List.setIfInBounds_toArray, List.set_cons_zero, List.set_cons_succ, i64_w, i32_w]
        rfl
      refine pure_ (i := 32) (N := some 182) (v := ?_) (a' := ?_) (bb 34 8589934591) rfl rfl (by kernel_rfl) (fun _ _ _ h => h) (Or.inl ⟨by rfl, ?_⟩) ?_ ?_
      rotate_left
      · intro w'
        go_simp
        with_reducible rfl
      rotate_left
      · simp only [Act.put, List.setIfInBounds_toArray, List.set_cons_zero, List.set_cons_succ, i64_w, i32_w]
        rfl
      refine pure_ (i := 33) (N := some 183) (v := ?_) (a' := ?_) (bb 34 17179869183) rfl rfl (by kernel_rfl) (fun _ _ _ h => h) (Or.inl ⟨by rfl, ?_⟩) ?_ ?_
      rotate_left
      · intro w'
        go_simp
        with_reducible rfl
      rotate_left
      · simp only [Act.put, List.setIfInBounds_toArray, List.set_cons_zero, List.set_cons_succ, i64_w, i32_w]
        rfl
      refine done_ (by kernel_rfl) ?_
      go_wp2
      go_roundw
      case rel => exact ⟨kk + 1, dp, (c - tt), rl2, i1, (o1 + (tt : Nat)), by go_num, rfl, rfl, rfl, ⟨by have := HQ.out; omega, S, HP8.out⟩⟩
      case measure => simp only [num]; have := HQ.out; omega
    by_cases q3 : d = 3
    · have g0 : (d == 0) = false := beq_eq_false_iff_ne.2 q0
      have g1 : (d == 1) = false := beq_eq_false_iff_ne.2 q1
      have g2 : (d == 2) = false := beq_eq_false_iff_ne.2 q2
      have g3 : (d == 3) = true := beq_iff_eq.2 q3
      clear q0 q1 q2 q3
      go_upto_region 29 with (fail)
      clear y0 y1 y2 y3
      refine start_ (n := 15) (S := fun w' => w'.cell? ⟨bx, 1, none⟩ = some (.int .i64 t) ∧ w'.cell? ⟨bx, 2, none⟩ = some (.int .i64 q)) (ds := []) (bb 15 0) (by kernel_rfl) rfl rfl (⟨(blk_cell (blk_drew HXB.out) 1).trans rfl, (blk_cell (blk_drew HXB.out) 2).trans rfl⟩) (fun hHeld => ?_)
      replace HP := Aside0.mk (HP.out.below (below_drew (Below.refl _ _)))
      replace HXB := Aside0.mk (blk_drew HXB.out)
      generalize w2.drew = w3 at HP HXB hHeld ⊢
      refine pure_ (i := 0) (N := some 130) (v := ?_) (a' := ?_) (bb 15 1) rfl rfl (by kernel_rfl) (fun _ _ _ h => h) (Or.inl ⟨by rfl, ?_⟩) ?_ ?_
      rotate_left
      · intro w'
        go_simp
        with_reducible rfl
      rotate_left
      · simp only [Act.put, List.setIfInBounds_toArray, List.set_cons_zero, List.set_cons_succ, i64_w, i32_w]
        rfl
      refine pure_ (i := 1) (N := some 131) (v := ?_) (a' := ?_) (bb 15 3) rfl rfl (by kernel_rfl) (fun _ _ _ h => h) (Or.inl ⟨by rfl, ?_⟩) ?_ ?_
      rotate_left
      · intro w'
        go_simp
        with_reducible rfl
      rotate_left
      · simp only [Act.put, List.setIfInBounds_toArray, List.set_cons_zero, List.set_cons_succ, i64_w, i32_w]
        rfl
      refine take_ (i := 2) (N := some 132) (v := ?_) (a' := ?_) (bb 15 7) rfl rfl (by kernel_rfl) (fun _ _ _ h => h) (Or.inl ⟨by rfl, ?_⟩) hHeld ?_ ?_
      rotate_left
      · intro w' hSw
        obtain ⟨q0_, q1_⟩ := hSw
        go_simp
        with_reducible rfl
      rotate_left
      · simp only [Act.put, List.setIfInBounds_toArray, List.set_cons_zero, List.set_cons_succ, i64_w, i32_w]
        rfl
      refine pure_ (i := 3) (N := some 133) (v := ?_) (a' := ?_) (bb 15 15) rfl rfl (by kernel_rfl) (fun _ _ _ h => h) (Or.inl ⟨by rfl, ?_⟩) ?_ ?_
      rotate_left
      · intro w'
        go_simp
        with_reducible rfl
      rotate_left
      · simp only [Act.put, List.setIfInBounds_toArray, List.set_cons_zero, List.set_cons_succ, i64_w, i32_w]
        rfl
      refine take_ (i := 4) (N := some 134) (v := ?_) (a' := ?_) (bb 15 31) rfl rfl (by kernel_rfl) (fun _ _ _ h => h) (Or.inl ⟨by rfl, ?_⟩) hHeld ?_ ?_
      rotate_left
      · intro w' hSw
        obtain ⟨q0_, q1_⟩ := hSw
        go_simp
        with_reducible rfl
      rotate_left
      · simp only [Act.put, List.setIfInBounds_toArray, List.set_cons_zero, List.set_cons_succ, i64_w, i32_w]
        rfl
      refine pure_ (i := 7) (N := some 137) (v := ?_) (a' := ?_) (bb 15 159) rfl rfl (by kernel_rfl) (fun _ _ _ h => h) (Or.inl ⟨by rfl, ?_⟩) ?_ ?_
      rotate_left
      · intro w'
        go_simp
        with_reducible rfl
      rotate_left
      · simp only [Act.put, List.setIfInBounds_toArray, List.set_cons_zero, List.set_cons_succ, i64_w, i32_w]
        rfl
      refine pure_ (i := 8) (N := some 138) (v := ?_) (a' := ?_) (bb 15 415) rfl rfl (by kernel_rfl) (fun _ _ _ h => h) (Or.inl ⟨by rfl, ?_⟩) ?_ ?_
      rotate_left
      · intro w'
        go_simp
        with_reducible rfl
      rotate_left
      · simp only [Act.put, List.setIfInBounds_toArray, List.set_cons_zero, List.set_cons_succ, i64_w, i32_w]
        rfl
      refine take_ (i := 9) (N := some 139) (v := ?_) (a' := ?_) (bb 15 927) rfl rfl (by kernel_rfl) (fun _ _ _ h => h) (Or.inl ⟨by rfl, ?_⟩) hHeld ?_ ?_
      rotate_left
      · intro w' hSw
        obtain ⟨q0_, q1_⟩ := hSw
        go_simp
        with_reducible rfl
      rotate_left
      · simp only [Act.put, List.setIfInBounds_toArray, List.set_cons_zero, List.set_cons_succ, i64_w, i32_w]
        rfl
      refine pure_ (i := 10) (N := some 140) (v := ?_) (a' := ?_) (bb 15 1951) rfl rfl (by kernel_rfl) (fun _ _ _ h => h) (Or.inl ⟨by rfl, ?_⟩) ?_ ?_
      rotate_left
      · intro w'
        go_simp
        with_reducible rfl
      rotate_left
      · simp only [Act.put, List.setIfInBounds_toArray, List.set_cons_zero, List.set_cons_succ, i64_w, i32_w]
        rfl
      refine take_ (i := 11) (N := some 141) (v := ?_) (a' := ?_) (bb 15 3999) rfl rfl (by kernel_rfl) (fun _ _ _ h => h) (Or.inl ⟨by rfl, ?_⟩) hHeld ?_ ?_
      rotate_left
      · intro w' hSw
        obtain ⟨q0_, q1_⟩ := hSw
        go_simp
        with_reducible rfl
      rotate_left
      · simp only [Act.put, List.setIfInBounds_toArray, List.set_cons_zero, List.set_cons_succ, i64_w, i32_w]
        rfl
      refine one_ (i := 5) (N := some 135) (bb 15 4031) rfl rfl (by kernel_rfl) (by decide) (fun K hK => ?_)
      refine goes_ Try.func24 (by kernel_rfl) rfl #[.pointer (some ⟨b, 0, none⟩), .int .i64 t, .int .i64 q] (by rfl) rfl rfl (by (try simp only [List.map_toArray, List.map_cons, List.map_nil]); first | done | rfl | (go_simp; done) | (go_simp; omega)) ?_
      refine Calls.mono (peek_at HP.out.hose t q) ?_
      rintro e w' ⟨v9, rfl, hR, hB⟩
      refine ⟨_, rfl, ?_⟩
      obtain ⟨A9, n9, c9, rfl⟩ := R_sl hR
      have HC9 := Aside0.mk (R_to_C hR)
      replace HP := Aside0.mk (HP.out.below hB)
      replace HXB := Aside0.mk (blk_below HXB.out hB)
      clear hR hB
      refine hK.out _ _ (⟨(blk_cell HXB.out 1).trans rfl, (blk_cell HXB.out 2).trans rfl⟩) (fun hHeld => ?_)
      clear hK K
      refine norm_ (a' := ?_) ?_ ?_
      rotate_left
      · show Act.put _ (some 135) _ = _
        simp only [Act.put, List.setIfInBounds_toArray, List.set_cons_zero, List.set_cons_succ, i64_w, i32_w]
        rfl
      refine more_ (S' := fun w' => w'.cell? ⟨bx, 1, none⟩ = some (.int .i64 t) ∧ w'.cell? ⟨bx, 2, none⟩ = some (.int .i64 q) ∧ (convert 23 9 (.slice A9 n9 c9)).run Try.prog w' = .ok (.string (strOfNums (peekF rl t q))) w') (fun _ h => ⟨h.1, h.2.1⟩) (⟨(blk_cell HXB.out 1).trans rfl, (blk_cell HXB.out 2).trans rfl, cs HC9.out⟩) (fun hHeld => ?_)
      refine take_ (i := 6) (N := some 136) (v := ?_) (a' := ?_) (bb 15 4095) rfl rfl (by kernel_rfl) (fun _ _ _ h => h) (Or.inl ⟨by rfl, ?_⟩) hHeld ?_ ?_
      rotate_left
      · intro w' hSw
        obtain ⟨q0_, q1_, q2_⟩ := hSw
        go_simp
        with_reducible rfl
      rotate_left
      · simp only [Act.put, List.setIfInBounds_toArray, List.set_cons_zero, List.set_cons_succ, i64_w, i32_w]
        rfl
      refine one_ (i := 12) (N := some 142) (bb 15 8191) rfl rfl (by kernel_rfl) (by decide) (fun K hK => ?_)
      refine goes_ Try.func25 (by kernel_rfl) rfl #[.slice A rl.length c, .int .i64 t, .int .i64 q] (by rfl) rfl rfl (by (try simp only [List.map_toArray, List.map_cons, List.map_nil]); first | done | rfl | (go_simp; done) | (go_simp; omega)) ?_
      refine Calls.mono (rpeek_calls A c rl t q w' (Kd.F_now HP.out.row) HP.out.cap (by have := HQ.out; omega)) ?_
      rintro e w' ⟨A10, c10, rfl, hC, rfl⟩
      refine ⟨_, rfl, ?_⟩
      have HC10 := Aside0.mk hC
      clear hC
      refine hK.out _ _ (⟨(blk_cell HXB.out 1).trans rfl, (blk_cell HXB.out 2).trans rfl, cs HC9.out⟩) (fun hHeld => ?_)
      clear hK K
      refine norm_ (a' := ?_) ?_ ?_
      rotate_left
      · show Act.put _ (some 142) _ = _
        simp only [Act.put, List.setIfInBounds_toArray, List.set_cons_zero, List.set_cons_succ, i64_w, i32_w]
        rfl
      refine more_ (S' := fun w' => w'.cell? ⟨bx, 1, none⟩ = some (.int .i64 t) ∧ w'.cell? ⟨bx, 2, none⟩ = some (.int .i64 q) ∧ (convert 23 9 (.slice A9 n9 c9)).run Try.prog w' = .ok (.string (strOfNums (peekF rl t q))) w' ∧ (convert 23 9 (.slice A10 (peekF rl t q).length c10)).run Try.prog w' = .ok (.string (strOfNums (peekF rl t q))) w') (fun _ h => ⟨h.1, h.2.1, h.2.2.1⟩) (⟨(blk_cell HXB.out 1).trans rfl, (blk_cell HXB.out 2).trans rfl, cs HC9.out, cs HC10.out⟩) (fun hHeld => ?_)
      refine take_ (i := 13) (N := some 143) (v := ?_) (a' := ?_) (bb 15 16383) rfl rfl (by kernel_rfl) (fun _ _ _ h => h) (Or.inl ⟨by rfl, ?_⟩) hHeld ?_ ?_
      rotate_left
      · intro w' hSw
        obtain ⟨q0_, q1_, q2_, q3_⟩ := hSw
        go_simp
        with_reducible rfl
      rotate_left
      · simp only [Act.put, List.setIfInBounds_toArray, List.set_cons_zero, List.set_cons_succ, i64_w, i32_w]
        rfl
      refine pure_ (i := 14) (N := some 144) (v := ?_) (a' := ?_) (bb 15 32767) rfl rfl (by kernel_rfl) (fun _ _ _ h => h) (Or.inl ⟨by rfl, ?_⟩) ?_ ?_
      rotate_left
      · intro w'
        go_simp
        with_reducible rfl
      rotate_left
      · simp only [Act.put, List.setIfInBounds_toArray, List.set_cons_zero, List.set_cons_succ, i64_w, i32_w]
        rfl
      refine done_ (by kernel_rfl) ?_
      go_upto_region 32 with (go_at_call 26; refine (passed_at HP.out.hose).mono ?_; rintro e w' ⟨rfl, m, rfl⟩; have HP7 := Aside0.mk (HP.out.below (pw_below_drewN (Below.refl _ _) m)); generalize w'.drewN m = w7 at HP7 ⊢)
      refine start_ (n := 34) (S := fun w' => (convert 23 9 (.slice A rl.length c)).run Try.prog w' = .ok (.string (strOfNums rl)) w') (ds := []) (bb 34 0) (by kernel_rfl) rfl rfl ((HP7.out.below (below_drew (Below.refl _ _))).str) (fun hHeld => ?_)
      have HP8 := Aside0.mk (HP7.out.below (below_drew (Below.refl _ _)))
      generalize w7.drew = w8 at HP8 hHeld ⊢
      refine pure_ (i := 0) (N := some 150) (v := ?_) (a' := ?_) (bb 34 1) rfl rfl (by kernel_rfl) (fun _ _ _ h => h) (Or.inl ⟨by rfl, ?_⟩) ?_ ?_
      rotate_left
      · intro w'
        go_simp
        with_reducible rfl
      rotate_left
      · simp only [Act.put, List.setIfInBounds_toArray, List.set_cons_zero, List.set_cons_succ, i64_w, i32_w]
        rfl
      refine pure_ (i := 2) (N := some 152) (v := ?_) (a' := ?_) (bb 34 5) rfl rfl (by kernel_rfl) (fun _ _ _ h => h) (Or.inl ⟨by rfl, ?_⟩) ?_ ?_
      rotate_left
      · intro w'
        go_simp
        with_reducible rfl
      rotate_left
      · simp only [Act.put, List.setIfInBounds_toArray, List.set_cons_zero, List.set_cons_succ, i64_w, i32_w]
        rfl
      refine pure_ (i := 3) (N := some 153) (v := ?_) (a' := ?_) (bb 34 13) rfl rfl (by kernel_rfl) (fun _ _ _ h => h) (Or.inl ⟨by rfl, ?_⟩) ?_ ?_
      rotate_left
      · intro w'
        go_simp
        with_reducible rfl
      rotate_left
      · simp only [Act.put, List.setIfInBounds_toArray, List.set_cons_zero, List.set_cons_succ, i64_w, i32_w]
        rfl
      refine one_ (i := 1) (N := some 151) (bb 34 15) rfl rfl (by kernel_rfl) (by decide) (fun K hK => ?_)
      refine goes_ Try.func20 (by kernel_rfl) rfl #[.pointer (some ⟨b, 0, none⟩)] (by rfl) rfl rfl (by (try simp only [List.map_toArray, List.map_cons, List.map_nil]); first | done | rfl | (go_simp; done) | (go_simp; omega)) ?_
      refine Calls.mono (len_at HP8.out.hose) ?_
      rintro e w' ⟨rfl, rfl⟩
      refine ⟨_, rfl, ?_⟩
      refine hK.out _ _ (HP8.out.str) (fun hHeld => ?_)
      clear hK K
      refine norm_ (a' := ?_) ?_ ?_
      rotate_left
      · show Act.put _ (some 151) _ = _
        simp only [Act.put, List.setIfInBounds_toArray, List.set_cons_zero, List.set_cons_succ, i64_w, i32_w]
        rfl
      refine pure_ (i := 4) (N := some 154) (v := ?_) (a' := ?_) (bb 34 31) rfl rfl (by kernel_rfl) (fun _ _ _ h => h) (Or.inl ⟨by rfl, ?_⟩) ?_ ?_
      rotate_left
      · intro w'
        go_simp
        with_reducible rfl
      rotate_left
      · simp only [Act.put, List.setIfInBounds_toArray, List.set_cons_zero, List.set_cons_succ, i64_w, i32_w]
        rfl
      refine pure_ (i := 5) (N := some 155) (v := ?_) (a' := ?_) (bb 34 63) rfl rfl (by kernel_rfl) (fun _ _ _ h => h) (Or.inl ⟨by rfl, ?_⟩) ?_ ?_
      rotate_left
      · intro w'
        go_simp
        with_reducible rfl
      rotate_left
      · simp only [Act.put, List.setIfInBounds_toArray, List.set_cons_zero, List.set_cons_succ, i64_w, i32_w]
        rfl
      refine pure_ (i := 6) (N := some 156) (v := ?_) (a' := ?_) (bb 34 127) rfl rfl (by kernel_rfl) (fun _ _ _ h => h) (Or.inl ⟨by rfl, ?_⟩) ?_ ?_
      rotate_left
      · intro w'
        go_simp
        with_reducible rfl
      rotate_left
      · simp only [Act.put, List.setIfInBounds_toArray, List.set_cons_zero, List.set_cons_succ, i64_w, i32_w]
        rfl
      refine pure_ (i := 8) (N := some 158) (v := ?_) (a' := ?_) (bb 34 383) rfl rfl (by kernel_rfl) (fun _ _ _ h => h) (Or.inl ⟨by rfl, ?_⟩) ?_ ?_
      rotate_left
      · intro w'
        go_simp
        with_reducible rfl
      rotate_left
      · simp only [Act.put, List.setIfInBounds_toArray, List.set_cons_zero, List.set_cons_succ, i64_w, i32_w]
        rfl
      refine pure_ (i := 9) (N := some 159) (v := ?_) (a' := ?_) (bb 34 895) rfl rfl (by kernel_rfl) (fun _ _ _ h => h) (Or.inl ⟨by rfl, ?_⟩) ?_ ?_
      rotate_left
      · intro w'
        go_simp
        with_reducible rfl
      rotate_left
      · simp only [Act.put, List.setIfInBounds_toArray, List.set_cons_zero, List.set_cons_succ, i64_w, i32_w]
        rfl
      refine pure_ (i := 10) (N := some 160) (v := ?_) (a' := ?_) (bb 34 1919) rfl rfl (by kernel_rfl) (fun _ _ _ h => h) (Or.inl ⟨by rfl, ?_⟩) ?_ ?_
      rotate_left
      · intro w'
        go_simp
        with_reducible rfl
      rotate_left
      · simp only [Act.put, List.setIfInBounds_toArray, List.set_cons_zero, List.set_cons_succ, i64_w, i32_w]
        rfl
      refine pure_ (i := 11) (N := some 161) (v := ?_) (a' := ?_) (bb 34 3967) rfl rfl (by kernel_rfl) (fun _ _ _ h => h) (Or.inl ⟨by rfl, ?_⟩) ?_ ?_
      rotate_left
      · intro w'
        go_simp
        with_reducible rfl
      rotate_left
      · simp only [Act.put, List.setIfInBounds_toArray, List.set_cons_zero, List.set_cons_succ, i64_w, i32_w]
        rfl
      refine one_ (i := 7) (N := some 157) (bb 34 4095) rfl rfl (by kernel_rfl) (by decide) (fun K hK => ?_)
      refine goes_ Try.func27 (by kernel_rfl) rfl #[.pointer (some ⟨b, 0, none⟩)] (by rfl) rfl rfl (by (try simp only [List.map_toArray, List.map_cons, List.map_nil]); first | done | rfl | (go_simp; done) | (go_simp; omega)) ?_
      refine Calls.mono (room_at HP8.out.hose) ?_
      rintro e w' ⟨rfl, m2, rfl⟩
      refine ⟨_, rfl, ?_⟩
      replace HP8 := Aside0.mk (HP8.out.below (pw_below_drewN (Below.refl _ _) m2))
      refine hK.out _ _ (HP8.out.str) (fun hHeld => ?_)
      clear hK K
      refine norm_ (a' := ?_) ?_ ?_
      rotate_left
      · show Act.put _ (some 157) _ = _
        simp only [Act.put, List.setIfInBounds_toArray, List.set_cons_zero, List.set_cons_succ, i64_w, i32_w]
        rfl
      refine pure_ (i := 12) (N := some 162) (v := ?_) (a' := ?_) (bb 34 8191) rfl rfl (by kernel_rfl) (fun _ _ _ h => h) (Or.inl ⟨by rfl, ?_⟩) ?_ ?_
      rotate_left
      · intro w'
        go_simp
        with_reducible rfl
      rotate_left
      · simp only [Act.put, List.setIfInBounds_toArray, List.set_cons_zero, List.set_cons_succ, i64_w, i32_w]
        rfl
      refine pure_ (i := 13) (N := some 163) (v := ?_) (a' := ?_) (bb 34 16383) rfl rfl (by kernel_rfl) (fun _ _ _ h => h) (Or.inl ⟨by rfl, ?_⟩) ?_ ?_
      rotate_left
      · intro w'
        go_simp
        with_reducible rfl
      rotate_left
      · simp only [Act.put, List.setIfInBounds_toArray, List.set_cons_zero, List.set_cons_succ, i64_w, i32_w]
        rfl
      refine pure_ (i := 14) (N := some 164) (v := ?_) (a' := ?_) (bb 34 32767) rfl rfl (by kernel_rfl) (fun _ _ _ h => h) (Or.inl ⟨by rfl, ?_⟩) ?_ ?_
      rotate_left
      · intro w'
        go_simp
        with_reducible rfl
      rotate_left
      · simp only [Act.put, List.setIfInBounds_toArray, List.set_cons_zero, List.set_cons_succ, i64_w, i32_w]
        rfl
      refine pure_ (i := 15) (N := some 165) (v := ?_) (a' := ?_) (bb 34 65535) rfl rfl (by kernel_rfl) (fun _ _ _ h => h) (Or.inl ⟨by rfl, ?_⟩) ?_ ?_
      rotate_left
      · intro w'
        go_simp
        with_reducible rfl
      rotate_left
      · simp only [Act.put, List.setIfInBounds_toArray, List.set_cons_zero, List.set_cons_succ, i64_w, i32_w]
        rfl
      refine pure_ (i := 16) (N := some 166) (v := ?_) (a' := ?_) (bb 34 131071) rfl rfl (by kernel_rfl) (fun _ _ _ h => h) (Or.inl ⟨by rfl, ?_⟩) ?_ ?_
      rotate_left
      · intro w'
        go_simp
        with_reducible rfl
      rotate_left
      · simp only [Act.put, List.setIfInBounds_toArray, List.set_cons_zero, List.set_cons_succ, i64_w, i32_w]
        rfl
      refine pure_ (i := 17) (N := some 167) (v := ?_) (a' := ?_) (bb 34 262143) rfl rfl (by kernel_rfl) (fun _ _ _ h => h) (Or.inl ⟨by rfl, ?_⟩) ?_ ?_
      rotate_left
      · intro w'
        go_simp
        with_reducible rfl
      rotate_left
      · simp only [Act.put, List.setIfInBounds_toArray, List.set_cons_zero, List.set_cons_succ, i64_w, i32_w]
        rfl
      refine pure_ (i := 18) (N := some 168) (v := ?_) (a' := ?_) (bb 34 524287) rfl rfl (by kernel_rfl) (fun _ _ _ h => h) (Or.inl ⟨by rfl, ?_⟩) ?_ ?_
      rotate_left
      · intro w'
        go_simp
        with_reducible rfl
      rotate_left
      · simp only [Act.put, List.setIfInBounds_toArray, List.set_cons_zero, List.set_cons_succ, i64_w, i32_w]
        rfl
      refine pure_ (i := 19) (N := some 169) (v := ?_) (a' := ?_) (bb 34 1048575) rfl rfl (by kernel_rfl) (fun _ _ _ h => h) (Or.inl ⟨by rfl, ?_⟩) ?_ ?_
      rotate_left
      · intro w'
        go_simp
        with_reducible rfl
      rotate_left
      · simp only [Act.put, List.setIfInBounds_toArray, List.set_cons_zero, List.set_cons_succ, i64_w, i32_w]
        rfl
      refine pure_ (i := 20) (N := some 170) (v := ?_) (a' := ?_) (bb 34 2097151) rfl rfl (by kernel_rfl) (fun _ _ _ h => h) (Or.inl ⟨by rfl, ?_⟩) ?_ ?_
      rotate_left
      · intro w'
        go_simp
        with_reducible rfl
      rotate_left
      · simp only [Act.put, List.setIfInBounds_toArray, List.set_cons_zero, List.set_cons_succ, i64_w, i32_w]
        rfl
      refine pure_ (i := 21) (N := some 171) (v := ?_) (a' := ?_) (bb 34 4194303) rfl rfl (by kernel_rfl) (fun _ _ _ h => h) (Or.inl ⟨by rfl, ?_⟩) ?_ ?_
      rotate_left
      · intro w'
        go_simp
        with_reducible rfl
      rotate_left
      · simp only [Act.put, List.setIfInBounds_toArray, List.set_cons_zero, List.set_cons_succ, i64_w, i32_w]
        rfl
      refine pure_ (i := 22) (N := some 172) (v := ?_) (a' := ?_) (bb 34 8388607) rfl rfl (by kernel_rfl) (fun _ _ _ h => h) (Or.inl ⟨by rfl, ?_⟩) ?_ ?_
      rotate_left
      · intro w'
        go_simp
        with_reducible rfl
      rotate_left
      · simp only [Act.put, List.setIfInBounds_toArray, List.set_cons_zero, List.set_cons_succ, i64_w, i32_w]
        rfl
      refine pure_ (i := 23) (N := some 173) (v := ?_) (a' := ?_) (bb 34 16777215) rfl rfl (by kernel_rfl) (fun _ _ _ h => h) (Or.inl ⟨by rfl, ?_⟩) ?_ ?_
      rotate_left
      · intro w'
        go_simp
        with_reducible rfl
      rotate_left
      · simp only [Act.put, List.setIfInBounds_toArray, List.set_cons_zero, List.set_cons_succ, i64_w, i32_w]
        rfl
      refine pure_ (i := 24) (N := some 174) (v := ?_) (a' := ?_) (bb 34 33554431) rfl rfl (by kernel_rfl) (fun _ _ _ h => h) (Or.inl ⟨by rfl, ?_⟩) ?_ ?_
      rotate_left
      · intro w'
        go_simp
        with_reducible rfl
      rotate_left
      · simp only [Act.put, List.setIfInBounds_toArray, List.set_cons_zero, List.set_cons_succ, i64_w, i32_w]
        rfl
      refine pure_ (i := 25) (N := some 175) (v := ?_) (a' := ?_) (bb 34 67108863) rfl rfl (by kernel_rfl) (fun _ _ _ h => h) (Or.inl ⟨by rfl, ?_⟩) ?_ ?_
      rotate_left
      · intro w'
        go_simp
        with_reducible rfl
      rotate_left
      · simp only [Act.put, List.setIfInBounds_toArray, List.set_cons_zero, List.set_cons_succ, i64_w, i32_w]
        rfl
      refine pure_ (i := 26) (N := some 176) (v := ?_) (a' := ?_) (bb 34 134217727) rfl rfl (by kernel_rfl) (fun _ _ _ h => h) (Or.inl ⟨by rfl, ?_⟩) ?_ ?_
      rotate_left
      · intro w'
        go_simp
        with_reducible rfl
      rotate_left
      · simp only [Act.put, List.setIfInBounds_toArray, List.set_cons_zero, List.set_cons_succ, i64_w, i32_w]
        rfl
      refine pure_ (i := 27) (N := some 177) (v := ?_) (a' := ?_) (bb 34 268435455) rfl rfl (by kernel_rfl) (fun _ _ _ h => h) (Or.inl ⟨by rfl, ?_⟩) ?_ ?_
      rotate_left
      · intro w'
        go_simp
        with_reducible rfl
      rotate_left
      · simp only [Act.put, List.setIfInBounds_toArray, List.set_cons_zero, List.set_cons_succ, i64_w, i32_w]
        rfl
      refine pure_ (i := 30) (N := some 180) (v := ?_) (a' := ?_) (bb 34 1342177279) rfl rfl (by kernel_rfl) (fun _ _ _ h => h) (Or.inl ⟨by rfl, ?_⟩) ?_ ?_
      rotate_left
      · intro w'
        go_simp
        with_reducible rfl
      rotate_left
      · simp only [Act.put, List.setIfInBounds_toArray, List.set_cons_zero, List.set_cons_succ, i64_w, i32_w]
        rfl
      refine take_ (i := 31) (N := some 181) (v := ?_) (a' := ?_) (bb 34 3489660927) rfl rfl (by kernel_rfl) (fun _ _ _ h => h) (Or.inl ⟨by rfl, ?_⟩) hHeld ?_ ?_
      rotate_left
      · intro w' hSw
        go_simp
        with_reducible rfl
      rotate_left
      · simp only [Act.put, List.setIfInBounds_toArray, List.set_cons_zero, List.set_cons_succ, i64_w, i32_w]
        rfl
      refine one_ (i := 28) (N := some 178) (bb 34 3758096383) rfl rfl (by kernel_rfl) (by decide) (fun K hK => ?_)
      refine goes_ Try.func24 (by kernel_rfl) rfl #[.pointer (some ⟨b, 0, none⟩), .int .i64 0, .int .i64 (rl.length : Int)] (by rfl) rfl rfl (by (try simp only [List.map_toArray, List.map_cons, List.map_nil]); first | done | rfl | (go_simp; done) | (go_simp; omega)) ?_
      refine Calls.mono (peek_at HP8.out.hose 0 _) ?_
      rintro e w' ⟨v9, rfl, hR, hB⟩
      refine ⟨_, rfl, ?_⟩
      rw [peekF_all] at hR
      obtain ⟨A9, n9, c9, rfl⟩ := R_sl hR
      have HC9 := Aside0.mk (R_to_C hR)
      replace HP8 := Aside0.mk (HP8.out.below hB)
      clear hR hB
      refine hK.out _ _ (HP8.out.str) (fun hHeld => ?_)
      clear hK K
      refine norm_ (a' := ?_) ?_ ?_
      rotate_left
      · show Act.put _ (some 178) _ = _
        simp only [Act.put, List.setIfInBounds_toArray, List.set_cons_zero, List.set_cons_succ, i64_w, i32_w]
        rfl
      refine more_ (S' := fun w' => (convert 23 9 (.slice A rl.length c)).run Try.prog w' = .ok (.string (strOfNums rl)) w' ∧ (convert 23 9 (.slice A9 n9 c9)).run Try.prog w' = .ok (.string (strOfNums rl)) w') (fun _ h => h.1) (⟨HP8.out.str, cs HC9.out⟩) (fun hHeld => ?_)
      refine take_ (i := 29) (N := some 179) (v := ?_) (a' := ?_) (bb 34 4294967295) rfl rfl (by kernel_rfl) (fun _ _ _ h => h) (Or.inl ⟨by rfl, ?_⟩) hHeld ?_ ?_
      rotate_left
      · intro w' hSw
        obtain ⟨q0_, q1_⟩ := hSw
        go_simp
        with_reducible rfl
      rotate_left
      · simp only [Act.put, List.setIfInBounds_toArray, List.set_cons_zero, List.set_cons_succ, i64_w, i32_w]
        rfl
      refine pure_ (i := 32) (N := some 182) (v := ?_) (a' := ?_) (bb 34 8589934591) rfl rfl (by kernel_rfl) (fun _ _ _ h => h) (Or.inl ⟨by rfl, ?_⟩) ?_ ?_
      rotate_left
      · intro w'
        go_simp
        with_reducible rfl
      rotate_left
      · simp only [Act.put, List.setIfInBounds_toArray, List.set_cons_zero, List.set_cons_succ, i64_w, i32_w]
        rfl
      refine pure_ (i := 33) (N := some 183) (v := ?_) (a' := ?_) (bb 34 17179869183) rfl rfl (by kernel_rfl) (fun _ _ _ h => h) (Or.inl ⟨by rfl, ?_⟩) ?_ ?_
      rotate_left
      · intro w'
        go_simp
        with_reducible rfl
      rotate_left
      · simp only [Act.put, List.setIfInBounds_toArray, List.set_cons_zero, List.set_cons_succ, i64_w, i32_w]
        rfl
      refine done_ (by kernel_rfl) ?_
      go_wp2
      go_roundw
      case rel => exact ⟨kk + 1, A, c, rl, i1, o1, by go_num, rfl, rfl, rfl, ⟨by have := HQ.out; omega, S, HP8.out⟩⟩
      case measure => simp only [num]; have := HQ.out; omega
    have g0 : (d == 0) = false := beq_eq_false_iff_ne.2 q0
    have g1 : (d == 1) = false := beq_eq_false_iff_ne.2 q1
    have g2 : (d == 2) = false := beq_eq_false_iff_ne.2 q2
    have g3 : (d == 3) = false := beq_eq_false_iff_ne.2 q3
    clear q0 q1 q2 q3
    go_upto_region 32 with (go_at_call 26; refine (passed_at HP.out.hose).mono ?_; rintro e w' ⟨rfl, m, rfl⟩; have HP7 := Aside0.mk (HP.out.below (pw_below_drewN (Below.refl _ _) m)); generalize w2.drewN m = w7 at HP7 ⊢)
    refine start_ (n := 34) (S := fun w' => (convert 23 9 (.slice A rl.length c)).run Try.prog w' = .ok (.string (strOfNums rl)) w') (ds := []) (bb 34 0) (by kernel_rfl) rfl rfl ((HP7.out.below (below_drew (Below.refl _ _))).str) (fun hHeld => ?_)
    have HP8 := Aside0.mk (HP7.out.below (below_drew (Below.refl _ _)))
    generalize w7.drew = w8 at HP8 hHeld ⊢
    refine pure_ (i := 0) (N := some 150) (v := ?_) (a' := ?_) (bb 34 1) rfl rfl (by kernel_rfl) (fun _ _ _ h => h) (Or.inl ⟨by rfl, ?_⟩) ?_ ?_
    rotate_left
    · intro w'
      go_simp
      with_reducible rfl
    rotate_left
    · simp only [Act.put, List.setIfInBounds_toArray, List.set_cons_zero, List.set_cons_succ, i64_w, i32_w]
      rfl
    refine pure_ (i := 2) (N := some 152) (v := ?_) (a' := ?_) (bb 34 5) rfl rfl (by kernel_rfl) (fun _ _ _ h => h) (Or.inl ⟨by rfl, ?_⟩) ?_ ?_
    rotate_left
    · intro w'
      go_simp
      with_reducible rfl
    rotate_left
    · simp only [Act.put, List.setIfInBounds_toArray, List.set_cons_zero, List.set_cons_succ, i64_w, i32_w]
      rfl
    refine pure_ (i := 3) (N := some 153) (v := ?_) (a' := ?_) (bb 34 13) rfl rfl (by kernel_rfl) (fun _ _ _ h => h) (Or.inl ⟨by rfl, ?_⟩) ?_ ?_
    rotate_left
    · intro w'
      go_simp
      with_reducible rfl
    rotate_left
    · simp only [Act.put, List.setIfInBounds_toArray, List.set_cons_zero, List.set_cons_succ, i64_w, i32_w]
      rfl
    refine one_ (i := 1) (N := some 151) (bb 34 15) rfl rfl (by kernel_rfl) (by decide) (fun K hK => ?_)
    refine goes_ Try.func20 (by kernel_rfl) rfl #[.pointer (some ⟨b, 0, none⟩)] (by rfl) rfl rfl (by (try simp only [List.map_toArray, List.map_cons, List.map_nil]); first | done | rfl | (go_simp; done) | (go_simp; omega)) ?_
    refine Calls.mono (len_at HP8.out.hose) ?_
    rintro e w' ⟨rfl, rfl⟩
    refine ⟨_, rfl, ?_⟩
    refine hK.out _ _ (HP8.out.str) (fun hHeld => ?_)
    clear hK K
    refine norm_ (a' := ?_) ?_ ?_
    rotate_left
    · show Act.put _ (some 151) _ = _
      simp only [Act.put, List.setIfInBounds_toArray, List.set_cons_zero, List.set_cons_succ, i64_w, i32_w]
      rfl
    refine pure_ (i := 4) (N := some 154) (v := ?_) (a' := ?_) (bb 34 31) rfl rfl (by kernel_rfl) (fun _ _ _ h => h) (Or.inl ⟨by rfl, ?_⟩) ?_ ?_
    rotate_left
    · intro w'
      go_simp
      with_reducible rfl
    rotate_left
    · simp only [Act.put, List.setIfInBounds_toArray, List.set_cons_zero, List.set_cons_succ, i64_w, i32_w]
      rfl
    refine pure_ (i := 5) (N := some 155) (v := ?_) (a' := ?_) (bb 34 63) rfl rfl (by kernel_rfl) (fun _ _ _ h => h) (Or.inl ⟨by rfl, ?_⟩) ?_ ?_
    rotate_left
    · intro w'
      go_simp
      with_reducible rfl
    rotate_left
    · simp only [Act.put, List.setIfInBounds_toArray, List.set_cons_zero, List.set_cons_succ, i64_w, i32_w]
      rfl
    refine pure_ (i := 6) (N := some 156) (v := ?_) (a' := ?_) (bb 34 127) rfl rfl (by kernel_rfl) (fun _ _ _ h => h) (Or.inl ⟨by rfl, ?_⟩) ?_ ?_
    rotate_left
    · intro w'
      go_simp
      with_reducible rfl
    rotate_left
    · simp only [Act.put, List.setIfInBounds_toArray, List.set_cons_zero, List.set_cons_succ, i64_w, i32_w]
      rfl
    refine pure_ (i := 8) (N := some 158) (v := ?_) (a' := ?_) (bb 34 383) rfl rfl (by kernel_rfl) (fun _ _ _ h => h) (Or.inl ⟨by rfl, ?_⟩) ?_ ?_
    rotate_left
    · intro w'
      go_simp
      with_reducible rfl
    rotate_left
    · simp only [Act.put, List.setIfInBounds_toArray, List.set_cons_zero, List.set_cons_succ, i64_w, i32_w]
      rfl
    refine pure_ (i := 9) (N := some 159) (v := ?_) (a' := ?_) (bb 34 895) rfl rfl (by kernel_rfl) (fun _ _ _ h => h) (Or.inl ⟨by rfl, ?_⟩) ?_ ?_
    rotate_left
    · intro w'
      go_simp
      with_reducible rfl
    rotate_left
    · simp only [Act.put, List.setIfInBounds_toArray, List.set_cons_zero, List.set_cons_succ, i64_w, i32_w]
      rfl
    refine pure_ (i := 10) (N := some 160) (v := ?_) (a' := ?_) (bb 34 1919) rfl rfl (by kernel_rfl) (fun _ _ _ h => h) (Or.inl ⟨by rfl, ?_⟩) ?_ ?_
    rotate_left
    · intro w'
      go_simp
      with_reducible rfl
    rotate_left
    · simp only [Act.put, List.setIfInBounds_toArray, List.set_cons_zero, List.set_cons_succ, i64_w, i32_w]
      rfl
    refine pure_ (i := 11) (N := some 161) (v := ?_) (a' := ?_) (bb 34 3967) rfl rfl (by kernel_rfl) (fun _ _ _ h => h) (Or.inl ⟨by rfl, ?_⟩) ?_ ?_
    rotate_left
    · intro w'
      go_simp
      with_reducible rfl
    rotate_left
    · simp only [Act.put, List.setIfInBounds_toArray, List.set_cons_zero, List.set_cons_succ, i64_w, i32_w]
      rfl
    refine one_ (i := 7) (N := some 157) (bb 34 4095) rfl rfl (by kernel_rfl) (by decide) (fun K hK => ?_)
    refine goes_ Try.func27 (by kernel_rfl) rfl #[.pointer (some ⟨b, 0, none⟩)] (by rfl) rfl rfl (by (try simp only [List.map_toArray, List.map_cons, List.map_nil]); first | done | rfl | (go_simp; done) | (go_simp; omega)) ?_
    refine Calls.mono (room_at HP8.out.hose) ?_
    rintro e w' ⟨rfl, m2, rfl⟩
    refine ⟨_, rfl, ?_⟩
    replace HP8 := Aside0.mk (HP8.out.below (pw_below_drewN (Below.refl _ _) m2))
    refine hK.out _ _ (HP8.out.str) (fun hHeld => ?_)
    clear hK K
    refine norm_ (a' := ?_) ?_ ?_
    rotate_left
    · show Act.put _ (some 157) _ = _
      simp only [Act.put, List.setIfInBounds_toArray, List.set_cons_zero, List.set_cons_succ, i64_w, i32_w]
      rfl
    refine pure_ (i := 12) (N := some 162) (v := ?_) (a' := ?_) (bb 34 8191) rfl rfl (by kernel_rfl) (fun _ _ _ h => h) (Or.inl ⟨by rfl, ?_⟩) ?_ ?_
    rotate_left
    · intro w'
      go_simp
      with_reducible rfl
    rotate_left
    · simp only [Act.put, List.setIfInBounds_toArray, List.set_cons_zero, List.set_cons_succ, i64_w, i32_w]
      rfl
    refine pure_ (i := 13) (N := some 163) (v := ?_) (a' := ?_) (bb 34 16383) rfl rfl (by kernel_rfl) (fun _ _ _ h => h) (Or.inl ⟨by rfl, ?_⟩) ?_ ?_
    rotate_left
    · intro w'
      go_simp
      with_reducible rfl
    rotate_left
    · simp only [Act.put, List.setIfInBounds_toArray, List.set_cons_zero, List.set_cons_succ, i64_w, i32_w]
      rfl
    refine pure_ (i := 14) (N := some 164) (v := ?_) (a' := ?_) (bb 34 32767) rfl rfl (by kernel_rfl) (fun _ _ _ h => h) (Or.inl ⟨by rfl, ?_⟩) ?_ ?_
    rotate_left
    · intro w'
      go_simp
      with_reducible rfl
    rotate_left
    · simp only [Act.put, List.setIfInBounds_toArray, List.set_cons_zero, List.set_cons_succ, i64_w, i32_w]
      rfl
    refine pure_ (i := 15) (N := some 165) (v := ?_) (a' := ?_) (bb 34 65535) rfl rfl (by kernel_rfl) (fun _ _ _ h => h) (Or.inl ⟨by rfl, ?_⟩) ?_ ?_
    rotate_left
    · intro w'
      go_simp
      with_reducible rfl
    rotate_left
    · simp only [Act.put, List.setIfInBounds_toArray, List.set_cons_zero, List.set_cons_succ, i64_w, i32_w]
      rfl
    refine pure_ (i := 16) (N := some 166) (v := ?_) (a' := ?_) (bb 34 131071) rfl rfl (by kernel_rfl) (fun _ _ _ h => h) (Or.inl ⟨by rfl, ?_⟩) ?_ ?_
    rotate_left
    · intro w'
      go_simp
      with_reducible rfl
    rotate_left
    · simp only [Act.put, List.setIfInBounds_toArray, List.set_cons_zero, List.set_cons_succ, i64_w, i32_w]
      rfl
    refine pure_ (i := 17) (N := some 167) (v := ?_) (a' := ?_) (bb 34 262143) rfl rfl (by kernel_rfl) (fun _ _ _ h => h) (Or.inl ⟨by rfl, ?_⟩) ?_ ?_
    rotate_left
    · intro w'
      go_simp
      with_reducible rfl
    rotate_left
    · simp only [Act.put, List.setIfInBounds_toArray, List.set_cons_zero, List.set_cons_succ, i64_w, i32_w]
      rfl
    refine pure_ (i := 18) (N := some 168) (v := ?_) (a' := ?_) (bb 34 524287) rfl rfl (by kernel_rfl) (fun _ _ _ h => h) (Or.inl ⟨by rfl, ?_⟩) ?_ ?_
    rotate_left
    · intro w'
      go_simp
      with_reducible rfl
    rotate_left
    · simp only [Act.put, List.setIfInBounds_toArray, List.set_cons_zero, List.set_cons_succ, i64_w, i32_w]
      rfl
    refine pure_ (i := 19) (N := some 169) (v := ?_) (a' := ?_) (bb 34 1048575) rfl rfl (by kernel_rfl) (fun _ _ _ h => h) (Or.inl ⟨by rfl, ?_⟩) ?_ ?_
    rotate_left
    · intro w'
      go_simp
      with_reducible rfl
    rotate_left
    · simp only [Act.put, List.setIfInBounds_toArray, List.set_cons_zero, List.set_cons_succ, i64_w, i32_w]
      rfl
    refine pure_ (i := 20) (N := some 170) (v := ?_) (a' := ?_) (bb 34 2097151) rfl rfl (by kernel_rfl) (fun _ _ _ h => h) (Or.inl ⟨by rfl, ?_⟩) ?_ ?_
    rotate_left
    · intro w'
      go_simp
      with_reducible rfl
    rotate_left
    · simp only [Act.put, List.setIfInBounds_toArray, List.set_cons_zero, List.set_cons_succ, i64_w, i32_w]
      rfl
    refine pure_ (i := 21) (N := some 171) (v := ?_) (a' := ?_) (bb 34 4194303) rfl rfl (by kernel_rfl) (fun _ _ _ h => h) (Or.inl ⟨by rfl, ?_⟩) ?_ ?_
    rotate_left
    · intro w'
      go_simp
      with_reducible rfl
    rotate_left
    · simp only [Act.put, List.setIfInBounds_toArray, List.set_cons_zero, List.set_cons_succ, i64_w, i32_w]
      rfl
    refine pure_ (i := 22) (N := some 172) (v := ?_) (a' := ?_) (bb 34 8388607) rfl rfl (by kernel_rfl) (fun _ _ _ h => h) (Or.inl ⟨by rfl, ?_⟩) ?_ ?_
    rotate_left
    · intro w'
      go_simp
      with_reducible rfl
    rotate_left
    · simp only [Act.put, List.setIfInBounds_toArray, List.set_cons_zero, List.set_cons_succ, i64_w, i32_w]
      rfl
    refine pure_ (i := 23) (N := some 173) (v := ?_) (a' := ?_) (bb 34 16777215) rfl rfl (by kernel_rfl) (fun _ _ _ h => h) (Or.inl ⟨by rfl, ?_⟩) ?_ ?_
    rotate_left
    · intro w'
      go_simp
      with_reducible rfl
    rotate_left
    · simp only [Act.put, List.setIfInBounds_toArray, List.set_cons_zero, List.set_cons_succ, i64_w, i32_w]
      rfl
    refine pure_ (i := 24) (N := some 174) (v := ?_) (a' := ?_) (bb 34 33554431) rfl rfl (by kernel_rfl) (fun _ _ _ h => h) (Or.inl ⟨by rfl, ?_⟩) ?_ ?_
    rotate_left
    · intro w'
      go_simp
      with_reducible rfl
    rotate_left
    · simp only [Act.put, List.setIfInBounds_toArray, List.set_cons_zero, List.set_cons_succ, i64_w, i32_w]
      rfl
    refine pure_ (i := 25) (N := some 175) (v := ?_) (a' := ?_) (bb 34 67108863) rfl rfl (by kernel_rfl) (fun _ _ _ h => h) (Or.inl ⟨by rfl, ?_⟩) ?_ ?_
    rotate_left
    · intro w'
      go_simp
      with_reducible rfl
    rotate_left
    · simp only [Act.put, List.setIfInBounds_toArray, List.set_cons_zero, List.set_cons_succ, i64_w, i32_w]
      rfl
    refine pure_ (i := 26) (N := some 176) (v := ?_) (a' := ?_) (bb 34 134217727) rfl rfl (by kernel_rfl) (fun _ _ _ h => h) (Or.inl ⟨by rfl, ?_⟩) ?_ ?_
    rotate_left
    · intro w'
      go_simp
      with_reducible rfl
    rotate_left
    · simp only [Act.put, List.setIfInBounds_toArray, List.set_cons_zero, List.set_cons_succ, i64_w, i32_w]
      rfl
    refine pure_ (i := 27) (N := some 177) (v := ?_) (a' := ?_) (bb 34 268435455) rfl rfl (by kernel_rfl) (fun _ _ _ h => h) (Or.inl ⟨by rfl, ?_⟩) ?_ ?_
    rotate_left
    · intro w'
      go_simp
      with_reducible rfl
    rotate_left
    · simp only [Act.put, List.setIfInBounds_toArray, List.set_cons_zero, List.set_cons_succ, i64_w, i32_w]
      rfl
    refine pure_ (i := 30) (N := some 180) (v := ?_) (a' := ?_) (bb 34 1342177279) rfl rfl (by kernel_rfl) (fun _ _ _ h => h) (Or.inl ⟨by rfl, ?_⟩) ?_ ?_
    rotate_left
    · intro w'
      go_simp
      with_reducible rfl
    rotate_left
    · simp only [Act.put, List.setIfInBounds_toArray, List.set_cons_zero, List.set_cons_succ, i64_w, i32_w]
      rfl
    refine take_ (i := 31) (N := some 181) (v := ?_) (a' := ?_) (bb 34 3489660927) rfl rfl (by kernel_rfl) (fun _ _ _ h => h) (Or.inl ⟨by rfl, ?_⟩) hHeld ?_ ?_
    rotate_left
    · intro w' hSw
      go_simp
      with_reducible rfl
    rotate_left
    · simp only [Act.put, List.setIfInBounds_toArray, List.set_cons_zero, List.set_cons_succ, i64_w, i32_w]
      rfl
    refine one_ (i := 28) (N := some 178) (bb 34 3758096383) rfl rfl (by kernel_rfl) (by decide) (fun K hK => ?_)
    refine goes_ Try.func24 (by kernel_rfl) rfl #[.pointer (some ⟨b, 0, none⟩), .int .i64 0, .int .i64 (rl.length : Int)] (by rfl) rfl rfl (by (try simp only [List.map_toArray, List.map_cons, List.map_nil]); first | done | rfl | (go_simp; done) | (go_simp; omega)) ?_
    refine Calls.mono (peek_at HP8.out.hose 0 _) ?_
    rintro e w' ⟨v9, rfl, hR, hB⟩
    refine ⟨_, rfl, ?_⟩
    rw [peekF_all] at hR
    obtain ⟨A9, n9, c9, rfl⟩ := R_sl hR
    have HC9 := Aside0.mk (R_to_C hR)
    replace HP8 := Aside0.mk (HP8.out.below hB)
    clear hR hB
    refine hK.out _ _ (HP8.out.str) (fun hHeld => ?_)
    clear hK K
    refine norm_ (a' := ?_) ?_ ?_
    rotate_left
    · show Act.put _ (some 178) _ = _
      simp only [Act.put, List.setIfInBounds_toArray, List.set_cons_zero, List.set_cons_succ, i64_w, i32_w]
      rfl
    refine more_ (S' := fun w' => (convert 23 9 (.slice A rl.length c)).run Try.prog w' = .ok (.string (strOfNums rl)) w' ∧ (convert 23 9 (.slice A9 n9 c9)).run Try.prog w' = .ok (.string (strOfNums rl)) w') (fun _ h => h.1) (⟨HP8.out.str, cs HC9.out⟩) (fun hHeld => ?_)
    refine take_ (i := 29) (N := some 179) (v := ?_) (a' := ?_) (bb 34 4294967295) rfl rfl (by kernel_rfl) (fun _ _ _ h => h) (Or.inl ⟨by rfl, ?_⟩) hHeld ?_ ?_
    rotate_left
    · intro w' hSw
      obtain ⟨q0_, q1_⟩ := hSw
      go_simp
      with_reducible rfl
    rotate_left
    · simp only [Act.put, List.setIfInBounds_toArray, List.set_cons_zero, List.set_cons_succ, i64_w, i32_w]
      rfl
    refine pure_ (i := 32) (N := some 182) (v := ?_) (a' := ?_) (bb 34 8589934591) rfl rfl (by kernel_rfl) (fun _ _ _ h => h) (Or.inl ⟨by rfl, ?_⟩) ?_ ?_
    rotate_left
    · intro w'
      go_simp
      with_reducible rfl
    rotate_left
    · simp only [Act.put, List.setIfInBounds_toArray, List.set_cons_zero, List.set_cons_succ, i64_w, i32_w]
      rfl
    refine pure_ (i := 33) (N := some 183) (v := ?_) (a' := ?_) (bb 34 17179869183) rfl rfl (by kernel_rfl) (fun _ _ _ h => h) (Or.inl ⟨by rfl, ?_⟩) ?_ ?_
    rotate_left
    · intro w'
      go_simp
      with_reducible rfl
    rotate_left
    · simp only [Act.put, List.setIfInBounds_toArray, List.set_cons_zero, List.set_cons_succ, i64_w, i32_w]
      rfl
    refine done_ (by kernel_rfl) ?_
    go_wp2
    go_roundw
    case rel => exact ⟨kk + 1, A, c, rl, i1, o1, by go_num, rfl, rfl, rfl, ⟨by have := HQ.out; omega, S, HP8.out⟩⟩
    case measure => simp only [num]; have := HQ.out; omega
theorem towropelaw15_HosePlays.calls (a0 : Int) (A1 : Option Addr) (n1 c1 : Nat) (w : World) (h : Acts w A1 n1) (hn : n1 ≤ c1) (hm : n1 ≤ 9223372036854775807) :
    Calls Try.prog 4 #[.int .i64 a0, .slice A1 n1 c1] w fun e w' => e = .returned (.bool true) ∧ Below w.heap.size w w' := by
  by_cases c : a0 < 1 ∨ 1048576 < a0
  · exact plays_bad a0 A1 n1 c1 w h hn hm c
  · exact plays_good a0 A1 n1 c1 w h hn hm (by omega) (by omega)
end Go.Proofs.Ytfmfpofbefgbgaa.PHoseL
