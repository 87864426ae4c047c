/- The laws of port: live, PortNils. Conditions: each theorem's own. -/
import Derived.Test.YtimgfdkndlbfbaaHPort4
namespace Go.Proofs.Ytimgfdkndlbfbaa.PPortL
open Go.RowKit Go.Proofs.YtimgfdkndlbfbaaW.PrintWords Go.Proofs.YtimgfdkndlbfbaaW.PrintLast Go.Proofs.YtimgfdkndlbfbaaW.PrintMore Go.Proofs.Ytimgfdkndlbfbaa.HPort
set_option linter.unusedVariables false
set_option linter.unusedSimpArgs false
/-- A table of the law's own, and the world below it as it was. -/
structure Tw (w0 w : World) (b mb ma mj : Nat) (s : TS) : Prop where
  tb : Tb w0.heap.size w b mb ma mj s
  bl : Below w0.heap.size w0 w
theorem Tw.turn {w0 w w' : World} {b mb ma mj : Nat} {s s' : TS} (h : Tw w0 w b mb ma mj s) (hT : Tb w0.heap.size w' b mb ma mj s') (hV : Tv w w' b mb ma mj) : Tw w0 w' b mb ma mj s' := ⟨hT, hV.below h.bl h.bl.size h.tb.lo⟩
theorem Tw.below {w0 w w' : World} {b mb ma mj : Nat} {s : TS} (h : Tw w0 w b mb ma mj s) (hB : Below w.heap.size w w') : Tw w0 w' b mb ma mj s := ⟨h.tb.below hB, below_step h.bl hB⟩
theorem code_calls (n : Int) (w : World) : Calls Try.prog 46 #[.int .i64 n] w fun e w' => e = .returned (.int .i64 n) ∧ w = w' := by
  go_enter Try.func46, Try.ntmps46
  go_wp2
  go_ret
  exact ⟨rfl, rfl⟩
def st1 : TS := ts0 10 11
def st2 : TS := { st1 with last := 10 }
def st3 : TS := { st2 with fb := upd st2.fb (5, 10) (some 1), nb := one (st2.fb (5, 10)) st2.nb, fa := upd st2.fa 10 (some ((st2.fa 10).getD 0 + 1)) }
def st4 : TS := { st3 with last := 11 }
theorem ps1 : Ps st1 := ⟨by decide, by decide, by decide, by decide, by decide⟩
theorem ps3 : Ps st3 := ⟨by decide, by decide, by decide, by decide, by decide⟩
theorem ps4 : Ps st4 := ⟨by decide, by decide, by decide, by decide, by decide⟩
section
variable {w0 w : World} {b mb ma mj : Nat}
theorem pick1 (h : Tw w0 w b mb ma mj st1) : Calls Try.prog 54 #[.pointer (some ⟨b, 0, none⟩), .int .u32 5] w fun e w' => e = .returned (.tuple #[.int .u16 10, .int .i64 0]) ∧ Tw w0 w' b mb ma mj st2 := by
  refine (pick_at h.tb 5 0 ps1 ⟨by decide, by decide⟩ ⟨by decide, fun j hj => absurd hj (Nat.not_lt_zero _)⟩).mono ?_
  rintro e w' ⟨rfl, hT, hV⟩
  have e1 : pAt st1 0 = 10 := by decide
  rw [e1] at hT ⊢
  exact ⟨rfl, h.turn hT hV⟩
theorem bind2 (h : Tw w0 w b mb ma mj st2) : Calls Try.prog 55 #[.pointer (some ⟨b, 0, none⟩), .agg #[.int .u32 5, .int .u16 10], .int .i64 1] w fun e w' => e = .returned (.int .i64 0) ∧ Tw w0 w' b mb ma mj st3 := by
  refine (bind_in h.tb 5 10 1 ⟨by decide, by decide⟩ (by decide) (by decide) (by decide) (by decide)).mono ?_
  rintro e w' ⟨rfl, hT, hV⟩
  exact ⟨rfl, h.turn hT hV⟩
theorem pick3 (h : Tw w0 w b mb ma mj st3) : Calls Try.prog 54 #[.pointer (some ⟨b, 0, none⟩), .int .u32 5] w fun e w' => e = .returned (.tuple #[.int .u16 11, .int .i64 0]) ∧ Tw w0 w' b mb ma mj st4 := by
  refine (pick_at h.tb 5 0 ps3 ⟨by decide, by decide⟩ ⟨by decide, fun j hj => absurd hj (Nat.not_lt_zero _)⟩).mono ?_
  rintro e w' ⟨rfl, hT, hV⟩
  have e1 : pAt st3 0 = 11 := by decide
  rw [e1] at hT ⊢
  exact ⟨rfl, h.turn hT hV⟩
theorem pick4 (h : Tw w0 w b mb ma mj st4) : Calls Try.prog 54 #[.pointer (some ⟨b, 0, none⟩), .int .u32 5] w fun e w' => e = .returned (.tuple #[.int .u16 11, .int .i64 0]) ∧ Tw w0 w' b mb ma mj st4 := by
  have hf : ∀ j, j < 1 → takenF st4 5 (pAt st4 j) = true := fun j hj => by
    obtain rfl : j = 0 := by omega
    decide
  refine (pick_at h.tb 5 1 ps4 ⟨by decide, by decide⟩ ⟨by decide, hf⟩).mono ?_
  rintro e w' ⟨rfl, hT, hV⟩
  have e1 : pAt st4 1 = 11 := by decide
  rw [e1] at hT ⊢
  exact ⟨rfl, h.turn hT hV⟩
end
set_option maxRecDepth 100000 in
set_option maxHeartbeats 4000000 in
theorem live_calls (w : World) : Calls Try.prog 44 #[] w fun e w' => e = .returned (.bool true) ∧ Below w.heap.size w w' := by
  go_enter Try.func44, Try.ntmps44
  go_upto_region 4 with (first | (go_at_call 45; refine (new_good 10 11 _ (by decide) (by decide) (by decide)).mono ?_; rintro e w1 ⟨b, mb, ma, mj, rfl, hT, hB⟩; have L := Aside0.mk (show Tw w w1 b mb ma mj st1 from ⟨hT, hB⟩); clear hT hB) | (go_at_call 46; refine (code_calls _ _).mono ?_; rintro e w9 ⟨rfl, rfl⟩))
  go_upto_region 5 with (go_at_call 54; refine (pick1 L.out).mono ?_; rintro e w2 ⟨rfl, hT⟩; replace L := Aside0.mk hT; clear hT)
  go_upto_region 6 with (go_at_call 55; refine (bind2 L.out).mono ?_; rintro e w3 ⟨rfl, hT⟩; replace L := Aside0.mk hT; clear hT)
  go_upto_region 7 with (go_at_call 54; refine (pick3 L.out).mono ?_; rintro e w4 ⟨rfl, hT⟩; replace L := Aside0.mk hT; clear hT)
  go_upto_region 8 with (go_at_call 54; refine (pick4 L.out).mono ?_; rintro e w5 ⟨rfl, hT⟩; replace L := Aside0.mk hT; clear hT)
  go_wp2_with (go_at_call 46; refine (code_calls _ _).mono ?_; rintro e w9 ⟨rfl, rfl⟩)
  go_ret
  exact ⟨rfl, L.out.bl⟩
set_option maxRecDepth 100000 in
set_option maxHeartbeats 4000000 in
theorem towropelaw18_PortNils.calls (x0 x1 a p c d : Int) (w : World) : Calls Try.prog 10 #[.agg #[.int .i64 x0, .int .i64 x1, .int .u32 a, .int .u16 p, .int .u32 c, .int .u16 d]] w fun e w' => e = .returned (.bool true) ∧ Below w.heap.size w w' := by
  go_enter Try.func10, Try.ntmps10
  go_upto_region 2 with (fail)
  obtain ⟨hg, hB⟩ := boxed1 w (.cells #[.int .i64 x0, .int .i64 x1, .int .u32 a, .int .u16 p, .int .u32 c, .int .u16 d] 109)
  generalize w.alloc (.cells #[.int .i64 x0, .int .i64 x1, .int .u32 a, .int .u16 p, .int .u32 c, .int .u16 d] 109) = w1 at hg hB ⊢
  generalize w.heap.size = g at hg ⊢
  have HG := Aside0.mk hg
  have HB := Aside0.mk hB
  clear hg hB
  have z2 := (blk_cell HG.out 2).trans rfl
  have z3 := (blk_cell HG.out 3).trans rfl
  have z4 := (blk_cell HG.out 4).trans rfl
  have z5 := (blk_cell HG.out 5).trans rfl
  go_wp2_with (first | (go_at_call 46; refine (code_calls _ _).mono ?_; rintro e w9 ⟨rfl, rfl⟩) | ((first | (go_at_call 54; refine (nil_pick _ _).mono ?_) | (go_at_call 49; refine (nil_owner _ _ _).mono ?_) | (go_at_call 51; refine (nil_talks _ _ _ _ _).mono ?_) | (go_at_call 53; refine (nil_find _ _ _ _ _).mono ?_) | (go_at_call 57; refine (nil_len _).mono ?_) | (go_at_call 55; refine (nil_bind _ _ _ _).mono ?_) | (go_at_call 58; refine (nil_unbind _ _ _ _).mono ?_) | (go_at_call 56; refine (nil_join _ _ _ _ _ _).mono ?_) | (go_at_call 59; refine (nil_part _ _ _ _ _).mono ?_) | (go_at_call 44; refine (live_calls _).mono ?_)); rintro e w2 ⟨rfl, hB⟩; replace HG := Aside0.mk (blk_below HG.out hB); replace HB := Aside0.mk (below_step HB.out hB); clear hB z2 z3 z4 z5; have z2 := (blk_cell HG.out 2).trans rfl; have z3 := (blk_cell HG.out 3).trans rfl; have z4 := (blk_cell HG.out 4).trans rfl; have z5 := (blk_cell HG.out 5).trans rfl))
  go_ret
  exact ⟨rfl, HB.out⟩
end Go.Proofs.Ytimgfdkndlbfbaa.PPortL
