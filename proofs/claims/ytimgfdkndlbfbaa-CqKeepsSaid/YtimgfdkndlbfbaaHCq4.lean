/- cq: shift. Conditions: each theorem's own. -/
import Derived.Test.YtimgfdkndlbfbaaHCq3
namespace Go.Proofs.Ytimgfdkndlbfbaa.HCq
open Go.RowKit Go.Proofs.YtimgfdkndlbfbaaW.PrintWords Go.Proofs.YtimgfdkndlbfbaaW.PrintLast Go.Proofs.YtimgfdkndlbfbaaW.PrintMore Go.Proofs.Ytimgfdkndlbfbaa.PCq Go.Proofs.Ytimgfdkndlbfbaa.HRng Go.Proofs.Ytimgfdkndlbfbaa.HReg
set_option linter.unusedVariables false
set_option linter.unusedSimpArgs false
set_option linter.unusedSectionVars false
/-- From w to w' only the rings' blocks turned; the list beyond lies in a new block. -/
def Mv (w w' : World) (rb eb db : Nat) (ovv v : Value) : Prop := Kx w w' (Sx rb eb db ovv) ∧ ∀ k, v.ownBlock = some k → w.heap.size ≤ k
def num : Value → Nat
  | .int _ n => n.toNat
  | _ => 0
section
variable {X : Nat → Prop} {B : Nat} {w w' w2 : World} {rb eb db : Nat} {ovv v : Value} {s : CS}
/-- The list beyond is made anew. -/
theorem Cq.setOv (h : Cq X B w rb eb db ovv s) (hb : Below w.heap.size w w2) {xs : List S43} (hBw : B ≤ w.heap.size) (hN : Kd.N k43 43 w2 w.heap.size (fun k => (okn rb eb db X k ∧ k < w.heap.size) ∨ w.heap.size ≤ k) v xs) :
    Cq X B (w2.setCell ⟨rb, 6, none⟩ v) rb eb db v { s with ov := xs } ∧ Kx w (w2.setCell ⟨rb, 6, none⟩ v) (Sx rb eb db ovv) ∧ ∀ k, v.ownBlock = some k → w.heap.size ≤ k := by
  have hlt := h.lt
  have hne := h.ne
  have hbase := Kd.N_base hN
  have hset : ∀ k, k ≠ rb → (w2.setCell ⟨rb, 6, none⟩ v).heap[k]? = w2.heap[k]? := fun k hk => Below.heap_setCell _ _ _ _ hk
  have hok : ∀ k, okc rb eb db ovv X k → k < w.heap.size → okc rb eb db v X k := fun k hk hl => okc_of (okc_n hk).1 (fun e => by have := hbase k e.symm; omega)
  have hmv : ∀ k, k < w.heap.size → k ≠ rb → (w2.setCell ⟨rb, 6, none⟩ v).heap[k]? = w.heap[k]? := fun k hk hn => (hset k hn).trans (hb.block k hk)
  refine ⟨⟨?_, ?_, ?_, ?_, h.e1, h.d1, h.lo, fun k hk => ?_⟩, ?_, hbase⟩
  · rw [blk_set (blk_below h.blk hb) 6 v]
    unfold cellsR
    simp
  · exact ((h.q.mono (ok' := fun k => okc rb eb db ovv X k ∧ k < w.heap.size) (fun k a b => ⟨a, b⟩)).step (hmv eb hlt.2.1 (fun e => hne.1 e.symm)) (fun k hk hl => hmv k hl (fun e => hk.1.1 (.inl e)))).mono (fun k hk _ => hok k hk.1 hk.2)
  · exact ((h.c.mono (ok' := fun k => okc rb eb db ovv X k ∧ k < w.heap.size) (fun k a b => ⟨a, b⟩)).step (hmv db hlt.2.2 (fun e => hne.2.1 e.symm)) (fun k hk hl => hmv k hl (fun e => hk.1.1 (.inl e)))).mono (fun k hk _ => hok k hk.1 hk.2)
  · have h1 : Kd.N k43 43 w2 B (okn rb eb db X) v xs := Kd.N_mono (Kd.N_lower hN hBw) (fun k hk => hk.elim (fun a => a.1) (fun a => ⟨by omega, by omega, by omega, fun hx => by have := h.xs k hx; omega⟩))
    exact Kd.N_step h1 (fun k hk _ => hset k hk.1)
  · exact Nat.lt_of_lt_of_le (h.xs k hk) (by have := hb.size; simpa [World.setCell] using this)
  · exact (Kx.of_below hb _).set _ (.inl (.inl rfl)) _
/-- An element of the list beyond. -/
theorem Cq.elem (h : Cq X B w rb eb db ovv s) {i : Nat} (hi : i < s.ov.length) : ∃ (g cap : Nat) (x : S43) (A4 : Option Addr) (c4 : Nat), ovv = .slice (some ⟨g, 0, none⟩) s.ov.length cap ∧ s.ov[i]? = some x ∧ Kd.FK k43 w (okc rb eb db ovv X) x [.int .u64 x.f0, .int .i64 x.f1, .int .u8 x.f2, .int .i64 x.f3, .slice A4 x.f4.length c4] ∧
    w.cell? ⟨g, i * 5, none⟩ = some (.int .u64 x.f0) ∧ w.cell? ⟨g, i * 5 + 1, none⟩ = some (.int .i64 x.f1) ∧ w.cell? ⟨g, i * 5 + 2, none⟩ = some (.int .u8 x.f2) ∧ w.cell? ⟨g, i * 5 + 3, none⟩ = some (.int .i64 x.f3) ∧ w.cell? ⟨g, i * 5 + 4, none⟩ = some (.slice A4 x.f4.length c4) := by
  obtain ⟨g, cap, hv, -⟩ := Kd.N_form h.ov (by omega)
  have hN := h.ov
  rw [hv] at hN
  obtain ⟨c, hl, hx, hc, -⟩ := Kd.N_elem hN z43 (i : Int) (by omega) (by omega)
  obtain ⟨x, hxx⟩ : ∃ x, s.ov.getD ((i : Int)).toNat z43 = x := ⟨_, rfl⟩
  rw [hxx] at hx
  obtain ⟨A4, c4, rfl, -, -⟩ := k43_openF hx
  refine ⟨g, cap, x, A4, c4, hv, ?_, Foot.mono hx (fun k hk => okc_of hk.1 (fun e => hk.2 ?_)), hc 0 _ rfl, hc 1 _ rfl, hc 2 _ rfl, hc 3 _ rfl, hc 4 _ rfl⟩
  · rw [← hxx, Int.toNat_natCast, List.getD_eq_getElem?_getD, List.getElem?_eq_getElem hi]; rfl
  · rw [hv] at e
    simpa [Value.ownBlock] using e
end
section
variable {X : Nat → Prop} {B : Nat} {w : World} {rb eb db : Nat} {ovv : Value} {s : CS}
set_option maxRecDepth 100000 in
set_option maxHeartbeats 8000000 in
theorem Cq.shift (h : Cq X B w rb eb db ovv s) (hl : s.ov.length ≤ 1000000) (hBw : B ≤ w.heap.size) : Calls Try.prog 77 #[.pointer (some ⟨rb, 0, none⟩)] w fun e w' => e = .returned (.tuple #[]) ∧ ∃ v, Cq X B w' rb eb db v { s with c := s.c ++ s.ov.take (min s.ov.length (s.D - s.c.length)), ov := s.ov.drop (min s.ov.length (s.D - s.c.length)) } ∧ Mv w w' rb eb db ovv v := by
  obtain ⟨A, cv, hv, hcv, -⟩ := Kd.N_reads h.ov
  subst hv
  have hle := h.c.len
  have hd1 := h.d1
  have hrm := (h.below (below_drew (Below.refl _ _))).room43
  have hr6 := h.c6
  obtain ⟨nn, hnn⟩ : ∃ nn, min s.ov.length (s.D - s.c.length) = nn := ⟨_, rfl⟩
  rw [hnn]
  obtain ⟨rr, hrr⟩ : ∃ rr : Int, (s.D : Int) - (s.c.length : Int) = rr := ⟨_, rfl⟩
  rw [hrr] at hrm
  obtain ⟨ii, hii, iz0, iz1, iz2⟩ := info_parts full43
  have c1 := cut_to (P := Try.prog) 30 43 .i64 Try.underlying30 hii A s.ov.length cv (nn : Int) (by omega) (by omega) hcv
  have c2 := cut_from (P := Try.prog) 30 43 .i64 Try.underlying30 hii 5 iz1 A s.ov.length cv (nn : Int) (by omega) (by omega)
  rw [Int.toNat_natCast] at c1 c2
  obtain ⟨A2, hA2⟩ : ∃ A2, (if cv = nn then A else A.map (·.add (nn * 5))) = A2 := ⟨_, rfl⟩
  rw [hA2] at c2
  have HA2 := Aside0.mk hA2
  have e3 : ∀ W : World, (Builtin.min_ #[3, 3] 3 #[.int .i64 (s.ov.length : Int), .int .i64 rr]).run Try.prog W = .ok (.int .i64 (nn : Int)) W := by
    intro W
    rw [run_min_int2]
    all_goals (congr 2 <;> ((repeat' split) <;> omega))
  have HNN := Aside0.mk (And.intro hnn (And.intro hle (And.intro hl (And.intro hcv hBw))))
  have HRM := Aside0.mk hrm
  have HQ := Aside0.mk h
  have HQ1 := Aside0.mk (h.below (below_drew (Below.refl w.heap.size w)))
  have HB0 := Aside0.mk (below_drew (Below.refl w.heap.size w))
  generalize hm : s.ov.length = m at c1 c2 e3 hr6
  have HR6 := Aside0.mk (show w.drew.cell? ⟨rb, 6, none⟩ = some (.slice A m cv) from hr6)
  have HM := Aside0.mk hm
  clear h hcv hle hd1 hrm hnn hrr hii iz0 iz1 iz2 hA2 hl hBw hm hr6
  go_enter Try.func77, Try.ntmps77
  go_upto_region 0 with (fail)
  refine start_ (n := 11) (S := fun w' => w'.cell? ⟨rb, 6, none⟩ = some (.slice A m cv)) (ds := []) (bb 11 0) (by kernel_rfl) rfl rfl (HR6.out) (fun hHeld => ?_)
  generalize w.drew = w1 at HQ1 HRM HB0 hHeld ⊢
  refine pure_ (i := 0) (N := some 5) (v := ?_) (a' := ?_) (bb 11 1) rfl rfl (by kernel_rfl) (fun _ _ _ h => h) (Or.inl ⟨by rfl, ?_⟩) ?_ ?_
  rotate_left
  · intro w'
    go_simp
    with_reducible rfl
  rotate_left
  · simp only [Act.put, List.setIfInBounds_toArray, List.set_cons_zero, List.set_cons_succ, i64_w, i32_w]
    rfl
  refine pure_ (i := 1) (N := some 6) (v := ?_) (a' := ?_) (bb 11 3) rfl rfl (by kernel_rfl) (fun _ _ _ h => h) (Or.inl ⟨by rfl, ?_⟩) ?_ ?_
  rotate_left
  · intro w'
    go_simp
    with_reducible rfl
  rotate_left
  · simp only [Act.put, List.setIfInBounds_toArray, List.set_cons_zero, List.set_cons_succ, i64_w, i32_w]
    rfl
  refine pure_ (i := 2) (N := some 7) (v := ?_) (a' := ?_) (bb 11 7) rfl rfl (by kernel_rfl) (fun _ _ _ h => h) (Or.inl ⟨by rfl, ?_⟩) ?_ ?_
  rotate_left
  · intro w'
    go_simp
    with_reducible rfl
  rotate_left
  · simp only [Act.put, List.setIfInBounds_toArray, List.set_cons_zero, List.set_cons_succ, i64_w, i32_w]
    rfl
  refine take_ (i := 3) (N := some 8) (v := ?_) (a' := ?_) (bb 11 15) rfl rfl (by kernel_rfl) (fun _ _ _ h => h) (Or.inl ⟨by rfl, ?_⟩) hHeld ?_ ?_
  rotate_left
  · intro w' hSw
    have r6 := hSw
    go_simp
    with_reducible rfl
  rotate_left
  · simp only [Act.put, List.setIfInBounds_toArray, List.set_cons_zero, List.set_cons_succ, i64_w, i32_w]
    rfl
  refine pure_ (i := 4) (N := some 9) (v := ?_) (a' := ?_) (bb 11 31) rfl rfl (by kernel_rfl) (fun _ _ _ h => h) (Or.inl ⟨by rfl, ?_⟩) ?_ ?_
  rotate_left
  · intro w'
    go_simp
    with_reducible rfl
  rotate_left
  · simp only [Act.put, List.setIfInBounds_toArray, List.set_cons_zero, List.set_cons_succ, i64_w, i32_w]
    rfl
  refine pure_ (i := 5) (N := some 10) (v := ?_) (a' := ?_) (bb 11 63) rfl rfl (by kernel_rfl) (fun _ _ _ h => h) (Or.inl ⟨by rfl, ?_⟩) ?_ ?_
  rotate_left
  · intro w'
    go_simp
    with_reducible rfl
  rotate_left
  · simp only [Act.put, List.setIfInBounds_toArray, List.set_cons_zero, List.set_cons_succ, i64_w, i32_w]
    rfl
  refine pure_ (i := 6) (N := some 11) (v := ?_) (a' := ?_) (bb 11 127) rfl rfl (by kernel_rfl) (fun _ _ _ h => h) (Or.inl ⟨by rfl, ?_⟩) ?_ ?_
  rotate_left
  · intro w'
    go_simp
    with_reducible rfl
  rotate_left
  · simp only [Act.put, List.setIfInBounds_toArray, List.set_cons_zero, List.set_cons_succ, i64_w, i32_w]
    rfl
  refine pure_ (i := 7) (N := some 12) (v := ?_) (a' := ?_) (bb 11 255) rfl rfl (by kernel_rfl) (fun _ _ _ h => h) (Or.inl ⟨by rfl, ?_⟩) ?_ ?_
  rotate_left
  · intro w'
    go_simp
    with_reducible rfl
  rotate_left
  · simp only [Act.put, List.setIfInBounds_toArray, List.set_cons_zero, List.set_cons_succ, i64_w, i32_w]
    rfl
  refine one_ (i := 8) (N := some 13) (bb 11 511) rfl rfl (by kernel_rfl) (by decide) (fun K hK => ?_)
  refine goes_ Try.func96 (by kernel_rfl) rfl #[.pointer (some ⟨rb, 3, none⟩)] (by rfl) rfl rfl (by (try simp only [List.map_toArray, List.map_cons, List.map_nil]); first | done | rfl | (go_simp; done) | (go_simp; omega)) ?_
  refine Calls.mono (HRM.out) ?_
  rintro e w' ⟨rfl, hB⟩
  refine ⟨_, rfl, ?_⟩
  have HB1 := Aside0.mk hB
  clear hB
  refine hK.out _ _ (pw_cell_below HB1.out hHeld) (fun hHeld => ?_)
  clear hK K
  refine norm_ (a' := ?_) ?_ ?_
  rotate_left
  · show Act.put _ (some 13) _ = _
    simp only [Act.put, List.setIfInBounds_toArray, List.set_cons_zero, List.set_cons_succ, i64_w, i32_w]
    rfl
  refine pure_ (i := 9) (N := some 14) (v := ?_) (a' := ?_) (bb 11 1023) rfl rfl (by kernel_rfl) (fun _ _ _ h => h) (Or.inl ⟨by rfl, ?_⟩) ?_ ?_
  rotate_left
  · intro w'
    go_simp
    with_reducible rfl
  rotate_left
  · simp only [Act.put, List.setIfInBounds_toArray, List.set_cons_zero, List.set_cons_succ, i64_w, i32_w]
    rfl
  refine pure_ (i := 10) (N := some 2) (v := ?_) (a' := ?_) (bb 11 2047) rfl rfl (by kernel_rfl) (fun _ _ _ h => h) (Or.inl ⟨by rfl, ?_⟩) ?_ ?_
  rotate_left
  · intro w'
    go_simp
    with_reducible rfl
  rotate_left
  · simp only [Act.put, List.setIfInBounds_toArray, List.set_cons_zero, List.set_cons_succ, i64_w, i32_w]
    rfl
  refine done_ (by kernel_rfl) ?_
  clear hHeld
  have HK := Aside0.mk (below_step HB0.out HB1.out)
  replace HQ1 := Aside0.mk (HQ1.out.below HB1.out)
  have r6 := HQ1.out.c6
  rw [HM.out] at r6 HQ1
  clear HRM HB0 hHeld HB1 e3 HR6
  go_wp2
  clear r6
  have HKX := Aside0.mk (Kx.of_below HK.out (Sx rb eb db (.slice A m cv)))
  go_loopw [22] (fun iv wr => ∃ i : Nat, iv = .int .i64 i ∧ Aside0 (i ≤ nn ∧ Cq X B wr rb eb db (.slice A m cv) { s with c := s.c ++ s.ov.take i } ∧ Kx w wr (Sx rb eb db (.slice A m cv)))) (fun iv _ => nn - num iv)
  case atStart => exact ⟨0, rfl, ⟨Nat.zero_le _, by have h_ := HQ1.out; simpa using h_, HKX.out⟩⟩
  case round =>
    clear HQ1 HKX HK
    obtain ⟨i, rfl, ⟨hi, hQ, hKx⟩⟩ := hrel
    have hN := HNN.out
    have hM := HM.out
    by_cases hlt : i < nn
    · have b0 : decide ((i : Int) < (nn : Int)) = true := decide_eq_true (by omega)
      have b1 : decide (i < nn) = true := decide_eq_true hlt
      have b2 : (i < nn) = True := eq_true hlt
      have b3 : ((i : Int) < (nn : Int)) = True := eq_true (by omega)
      have w1_ : IntKind.i64.wrap ((i : Int) + 1) = (i : Int) + 1 := wid _ (by omega) (by omega)
      obtain ⟨g, cap, x, A4, c4, hv, hx, hF, z0, z1, z2, z3, z4⟩ := hQ.elem (i := i) (by show i < s.ov.length; omega)
      injection hv with hv1 hv2 hv3
      have HAV := Aside0.mk hv1
      clear hv1 hv2 hv3
      obtain rfl := HAV.out
      clear HAV
      generalize hL : x.f4.length = L at z4 hF
      have HXX := Aside0.mk (And.intro hx hL)
      have HF := Aside0.mk hF
      have HQ2 := Aside0.mk hQ
      have HKX := Aside0.mk hKx
      have HI := Aside0.mk hlt
      have HA3 := Aside0.mk (below_alloc (Below.refl wr.heap.size wr) (.cells #[.int .u64 x.f0, .int .i64 x.f1, .int .u8 x.f2, .int .i64 x.f3, .slice A4 L c4] 43))
      have HG3 := Aside0.mk (blk_new wr (.cells #[.int .u64 x.f0, .int .i64 x.f1, .int .u8 x.f2, .int .i64 x.f3, .slice A4 L c4] 43))
      have HLD := Aside0.mk (show (s.c ++ s.ov.take i).length < s.D by rw [List.length_append, List.length_take]; omega)
      clear hx hL hF hQ hKx hi hlt hN hM c2
      go_upto_region 4 with (fail)
      clear z0 z1 z2 z3 z4 c1
      obtain ⟨b4, hb4⟩ : ∃ b4, b4 = wr.heap.size := ⟨_, rfl⟩
      rw [← hb4] at HG3 ⊢
      clear hb4
      generalize wr.alloc (.cells #[.int .u64 x.f0, .int .i64 x.f1, .int .u8 x.f2, .int .i64 x.f3, .slice A4 L c4] 43) = w4 at HA3 HG3 ⊢
      have y0 := (blk_cell HG3.out 0).trans rfl
      have y1 := (blk_cell HG3.out 1).trans rfl
      have y2 := (blk_cell HG3.out 2).trans rfl
      have y3 := (blk_cell HG3.out 3).trans rfl
      have y4 := (blk_cell HG3.out 4).trans rfl
      have HBD := Aside0.mk (show Below wr.heap.size wr w4.drew from below_drew HA3.out)
      have hput := (HQ2.out.below HBD.out).put43 HLD.out x A4 c4 (by rw [HXX.out.2]; exact Foot.step HF.out (fun k _ hk => HBD.out.block k hk))
      rw [HXX.out.2] at hput
      have HPUT := Aside0.mk hput
      clear hput
      go_still_tail 4, (by kernel_rfl)
      change wpList _ _ _ _ _ (World.drew _)
      generalize w4.drew = w5 at HBD HPUT ⊢
      clear y0 y1 y2 y3 y4
      go_wp2_with (go_at_call 97; (with_reducible refine HPUT.out.mono ?_); rintro e5 w6 ⟨rfl, hQ6, hK6⟩; have HQ6 := Aside0.mk hQ6; have HK6 := Aside0.mk hK6; clear hQ6 hK6; dsimp only)
      go_roundw
      case rel => exact ⟨i + 1, by go_num, ⟨HI.out, by
        have h_ := HQ6.out
        rw [List.take_add_one, HXX.out.1]
        simpa only [Option.toList_some, List.append_assoc] using h_, (HKX.out.below HBD.out).trans HK6.out (fun k hk => .inl hk)⟩⟩
      case measure => simp only [num]; have := HI.out; omega
    · obtain rfl : i = nn := by omega
      have b0 : decide ((i : Int) < (i : Int)) = false := decide_eq_false (by omega)
      have b1 : decide (i < i) = false := decide_eq_false (by omega)
      have r6 := hQ.c6
      have hF := Kd.N_F hQ.ov
      have hcut := Kd.F_cut (c := cv) (m := i) (by rw [hM]; exact hF) (by show i ≤ s.ov.length; omega) (by show s.ov.length ≤ cv; omega)
      rw [List.length_drop, hM] at hcut
      replace hcut : Kd.F k43 wr (okn rb eb db X) A2 (m - i) (s.ov.drop i) := by rw [← HA2.out]; exact hcut
      have HCL := Aside0.mk (clone43 A2 (m - i) (cv - i) (s.ov.drop i) (okn rb eb db X) wr hcut (by omega) (by omega))
      have HQ2 := Aside0.mk hQ
      have HKX := Aside0.mk hKx
      have HBW := Aside0.mk (Nat.le_trans hN.2.2.2.2 hKx.size)
      clear hF hcut hQ hKx hi hlt hN hM c1
      go_wp2_with (go_at_call 98; (with_reducible refine HCL.out.mono ?_); rintro e7 w7 ⟨v7, rfl, hN7, hB7⟩; obtain ⟨A7, c7, rfl⟩ := Kd.N_slice hN7; have HN7 := Aside0.mk hN7; have HB7 := Aside0.mk hB7; have r6 := pw_cell_below hB7 r6; have fz := blk_frozen (blk_below HQ2.out.blk hB7) 6; clear hN7 hB7; dsimp only)
      (try simp only [Exit.inBlock, Exit.then])
      go_end0
      obtain ⟨hq, hk, hfr⟩ := HQ2.out.setOv HB7.out HBW.out (Kd.N_mono HN7.out (fun k hk => hk))
      simp only [List.length_drop] at hq hk hfr
      exact ⟨rfl, _, hq, HKX.out.trans hk (fun k hk => .inl hk), fun k hk => Nat.le_trans HKX.out.size (hfr k hk)⟩
end
end Go.Proofs.Ytimgfdkndlbfbaa.HCq
