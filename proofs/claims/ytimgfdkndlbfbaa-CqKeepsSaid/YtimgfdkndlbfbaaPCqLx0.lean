/- The laws of cq: the page's example. Conditions: each theorem's own. -/
import Derived.Test.YtimgfdkndlbfbaaHCq8
import Derived.Test.YtimgfdkndlbfbaaPCqx1
namespace Go.Proofs.Ytimgfdkndlbfbaa.PCqL
open Go.RowKit Go.Proofs.YtimgfdkndlbfbaaW.PrintWords Go.Proofs.YtimgfdkndlbfbaaW.PrintLast Go.Proofs.YtimgfdkndlbfbaaW.PrintMore Go.Proofs.Ytimgfdkndlbfbaa.PCq Go.Proofs.Ytimgfdkndlbfbaa.HRng Go.Proofs.Ytimgfdkndlbfbaa.HReg Go.Proofs.Ytimgfdkndlbfbaa.HCq
set_option linter.unusedVariables false
set_option linter.unusedSimpArgs false
def x1 : S43 := ⟨1, 0, 0, 0, []⟩
def x2 : S43 := ⟨2, 0, 0, 0, []⟩
set_option maxRecDepth 100000 in
set_option maxHeartbeats 8000000 in
theorem code_calls (a : Int) (w : World) : Calls Try.prog 14 #[.int .i64 a] w fun e w' => e = .returned (.int .i64 a) ∧ w = w' := by
  go_enter Try.func14, Try.ntmps14
  go_wp2
  go_ret
  exact ⟨rfl, rfl⟩
theorem sx_lo {X : Nat → Prop} {B : Nat} {w : World} {rb eb db : Nat} {ovv : Value} {s : CS} (h : Cq X B w rb eb db ovv s) : ∀ k, Sx rb eb db ovv k → B ≤ k := fun k e => by
  obtain rfl | rfl | rfl | e := e
  · exact h.lo.1
  · exact h.lo.2.1
  · exact h.lo.2.2
  · exact Kd.N_base h.ov k e.symm
theorem post_live1 {B : Nat} {w : World} {rb eb db : Nat} {ovv : Value} {a0 : Int} (h : Cq (fun _ => False) B w rb eb db ovv ⟨2, 1, 0, 0, [z37, z37], [], [], a0, 0, 0, 0⟩) (hB : B ≤ w.heap.size) :
    Calls Try.prog 17 #[.pointer (some ⟨rb, 0, none⟩), .agg #[.int .u64 1, .int .i64 0, .int .u8 0, .int .i64 0, .slice none 0 0]] w fun e w' => e = .returned (.tuple #[]) ∧ ∃ v, Cq (fun _ => False) B w' rb eb db v ⟨2, 1, 0, 0, [z37, z37], [x1], [], a0, 0, wrap64 (0 + 1), 0⟩ ∧ Mv w w' rb eb db ovv v :=
  h.post x1 none 0 (Kd.C_nil _ _) (Nat.le_refl _) (Nat.zero_le _) (show 0 + 1 ≤ 1000000 by decide) hB
theorem post_live2 {B : Nat} {w : World} {rb eb db : Nat} {ovv : Value} {a0 a2 : Int} (h : Cq (fun _ => False) B w rb eb db ovv ⟨2, 1, 0, 0, [z37, z37], [x1], [], a0, 0, a2, 0⟩) (hB : B ≤ w.heap.size) :
    Calls Try.prog 17 #[.pointer (some ⟨rb, 0, none⟩), .agg #[.int .u64 2, .int .i64 0, .int .u8 0, .int .i64 0, .slice none 0 0]] w fun e w' => e = .returned (.tuple #[]) ∧ ∃ v, Cq (fun _ => False) B w' rb eb db v ⟨2, 1, 0, 0, [z37, z37], [x1], [x2], a0, 0, wrap64 (a2 + 1), 0⟩ ∧ Mv w w' rb eb db ovv v :=
  h.post x2 none 0 (Kd.C_nil _ _) (Nat.le_refl _) (Nat.zero_le _) (show 0 + 1 ≤ 1000000 by decide) hB
theorem wait_live {B : Nat} {w : World} {rb eb db : Nat} {ovv : Value} {a0 a2 : Int} (h : Cq (fun _ => False) B w rb eb db ovv ⟨2, 1, 0, 0, [z37, z37], [x1], [x2], a0, 0, a2, 0⟩) : Calls Try.prog 26 #[.pointer (some ⟨rb, 0, none⟩)] w fun e w' => e = .returned (.tuple #[.int .i64 2, .int .i64 1, .int .i64 1]) ∧ Below w.heap.size w w' :=
  h.waiting
theorem reap_live {B : Nat} {w : World} {rb eb db : Nat} {ovv : Value} {a0 a2 : Int} (h : Cq (fun _ => False) B w rb eb db ovv ⟨2, 1, 0, 0, [z37, z37], [x1], [x2], a0, 0, a2, 0⟩) (hB : B ≤ w.heap.size) : Calls Try.prog 18 #[.pointer (some ⟨rb, 0, none⟩), .int .i64 5] w fun e w' => ∃ (g c : Nat), e = .returned (.slice (some ⟨g, 0, none⟩) 1 c) ∧ w'.cell? ⟨g, 0, none⟩ = some (.int .u64 1) ∧ Kx w w' (Sx rb eb db ovv) := by
  refine (h.reap 5 (show 1 ≤ 1000000 by decide) hB 1 (show ((1 : Nat) : Int) = min (max 5 0) ((1 : Nat) : Int) by decide)).mono ?_
  rintro e w' ⟨vo, v, rfl, hN, hQ, hM⟩
  obtain ⟨g, cap, rfl, -⟩ := Kd.N_form hN (show 0 < 1 by decide)
  obtain ⟨c, hl, hx, hc, -⟩ := Kd.N_elem hN z43 0 (by decide) (show (0 : Int) < ((1 : Nat) : Int) by decide)
  obtain ⟨A4, c4, rfl, -, -⟩ := k43_openF hx
  exact ⟨g, cap, rfl, hc 0 _ rfl, hM.1⟩
theorem sub_live {B : Nat} {w1 w2 : World} {rb eb db : Nat} {A : Option Addr} {c : Nat} (h : Cq (fun _ => False) B w1 rb eb db (.slice none 0 0) ⟨2, 1, 0, 0, [], [], [], 0, 0, 0, 0⟩) (hb : Below w1.heap.size w1 w2) (ho : Kd.R k37 37 w2 w1.heap.size (fun _ => True) (.slice A 3 c) (List.replicate (3 : Int).toNat z37)) :
    Calls Try.prog 15 #[.pointer (some ⟨rb, 0, none⟩), .slice A 3 c] w2 fun e w' => e = .returned (.int .i64 2) ∧ Cq (fun _ => False) B w' rb eb db (.slice none 0 0) ⟨2, 1, 0, 0, [z37, z37], [], [], wrap64 (0 + 2), 0, 0, 0⟩ ∧ Kx w2 w' (Sx rb eb db (.slice none 0 0)) := by
  have hlt := h.lt
  have hr := Kd.R_reads' ho
  refine ((h.below hb).submit A 3 c (List.replicate (3 : Int).toNat z37) _ (Kd.R_F (Kd.R_bound ho)) hr.2.1 (fun k hk e => ?_) (fun i x hx => ?_) (by omega) 2 rfl).mono ?_
  · obtain e | e | e | e := e
    · have := hk.2.1; omega
    · have := hk.2.1; omega
    · have := hk.2.1; omega
    · exact nil_own k e
  · have := List.mem_of_getElem? hx
    rw [List.eq_of_mem_replicate this]
    decide
  · rintro e w' ⟨h1, h2, h3⟩
    exact ⟨h1, h2, h3⟩
set_option maxRecDepth 100000 in
set_option maxHeartbeats 8000000 in
theorem live_calls (w : World) : Calls Try.prog 12 #[] w fun e w' => e = .returned (.bool true) ∧ Below w.heap.size w w' := by
  have HNW := Aside0.mk (show Calls Try.prog 13 #[.int .i64 2, .int .i64 1] w (fun e w' => ∃ rb eb db : Nat, e = .returned (.tuple #[.pointer (some ⟨rb, 0, none⟩), .int .i64 0]) ∧ Cq (fun _ => False) w.heap.size w' rb eb db (.slice none 0 0) ⟨2, 1, 0, 0, [], [], [], 0, 0, 0, 0⟩ ∧ Below w.heap.size w w') from new_ok 2 1 (by decide) (by decide) w)
  go_enter Try.func12, Try.ntmps12
  go_upto_region 4 with (first | (go_at_call 13; (with_reducible refine HNW.out.mono ?_); rintro e1 w1 ⟨rb, eb, db, rfl, hQ, hB⟩; have HQ := Aside0.mk hQ; have HB := Aside0.mk hB; clear hQ hB; dsimp only) | (go_at_call 14; (with_reducible refine (code_calls _ _).mono ?_); rintro e2 w2 ⟨rfl, rfl⟩; dsimp only))
  go_upto_region 5 with (first | (go_at_call 15; (with_reducible refine HSB.out.mono ?_); rintro e3 w3 ⟨rfl, hQ3, hK3⟩; have HQ3 := Aside0.mk hQ3; have HK3 := Aside0.mk hK3; clear hQ3 hK3; dsimp only) | ((with_reducible refine gate_dst (N := 20) rfl ?_); refine Kd.R_make k37 (w0 := w1) w1.heap.size 37 rfl (N := 20) rfl 38 _ _ rfl (3 : Int) rfl rfl Try.underlying38 (.agg #[.int .u8 0, .int .u8 0, .int .i64 0, .int .u32 0, .int .u16 0, .int .i64 0, .int .i64 0, .int .i64 0, .int .u64 0, .int .u64 0, .slice none 0 0]) 88 full37 rfl (by decide) (by decide) z37 (ok := fun _ => True) (okp := fun _ => True) (k37_mkM w1 w1.heap.size (fun _ => True) z37 (Kd.R_nil _ _ _ _ _)) (fun _ hk => hk) trivial (by omega) (by decide) (Below.refl _ _) (Nat.le_refl _) ?_; intro v2 w2 ho hb hg hnew; obtain ⟨A2, c2, rfl⟩ := Kd.R_slice ho; have HSB := Aside0.mk (sub_live HQ.out hb ho); replace HB := Aside0.mk (below_step HB.out hb); clear ho hb hg hnew))
  have HB3 := Aside0.mk (HK3.out.to_below HB.out HB.out.size (sx_lo HQ.out))
  have HP1 := Aside0.mk (post_live1 HQ3.out HB3.out.size)
  clear HQ HB HK3 HSB
  go_upto_region 6 with (go_at_call 17; (with_reducible refine HP1.out.mono ?_); rintro e4 w4 ⟨rfl, v4, hQ4, hM4⟩; have HQ4 := Aside0.mk hQ4; have HB4 := Aside0.mk (hM4.1.to_below HB3.out HB3.out.size (sx_lo HQ3.out)); clear hQ4 hM4; dsimp only)
  have HP2 := Aside0.mk (post_live2 HQ4.out HB4.out.size)
  clear HQ3 HB3 HP1
  go_upto_region 7 with (go_at_call 17; (with_reducible refine HP2.out.mono ?_); rintro e5 w5 ⟨rfl, v5, hQ5, hM5⟩; have HQ5 := Aside0.mk hQ5; have HB5 := Aside0.mk (hM5.1.to_below HB4.out HB4.out.size (sx_lo HQ4.out)); clear hQ5 hM5; dsimp only)
  have HWT := Aside0.mk (wait_live HQ5.out)
  clear HQ4 HB4 HP2
  go_upto_region 8 with (go_at_call 26; (with_reducible refine HWT.out.mono ?_); rintro e6 w6 ⟨rfl, hB6⟩; have HQ6 := Aside0.mk (HQ5.out.below hB6); have HB6 := Aside0.mk (below_then HB5.out HB5.out.size hB6); clear hB6; dsimp only)
  have HRP := Aside0.mk (reap_live HQ6.out HB6.out.size)
  clear HQ5 HB5 HWT
  go_wp2_with (go_at_call 18; (with_reducible refine HRP.out.mono ?_); rintro e7 w7 ⟨g7, c7, rfl, r7, hK7⟩; have HB7 := Aside0.mk (hK7.to_below HB6.out HB6.out.size (sx_lo HQ6.out)); clear hK7; dsimp only)
  go_ret
  exact ⟨rfl, HB7.out⟩
end Go.Proofs.Ytimgfdkndlbfbaa.PCqL
