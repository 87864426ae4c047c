/- cq: Post. Conditions: each theorem's own. -/
import Derived.Test.YtimgfdkndlbfbaaHCq4
namespace Go.Proofs.Ytimgfdkndlbfbaa.HCq
open Go.RowKit Go.Proofs.YtimgfdkndlbfbaaW.PrintWords Go.Proofs.YtimgfdkndlbfbaaW.PrintLast Go.Proofs.YtimgfdkndlbfbaaW.PrintMore Go.Proofs.Ytimgfdkndlbfbaa.PCq Go.Proofs.Ytimgfdkndlbfbaa.HRng Go.Proofs.Ytimgfdkndlbfbaa.HReg
set_option linter.unusedVariables false
set_option linter.unusedSimpArgs false
set_option linter.unusedSectionVars false
def shN (s : CS) : Nat := min s.ov.length (s.D - s.c.length)
/-- What is on the list goes into the ring. -/
def shS (s : CS) : CS := { s with c := s.c ++ s.ov.take (shN s), ov := s.ov.drop (shN s) }
section
variable {X : Nat → Prop} {B : Nat} {w w' w2 : World} {rb eb db : Nat} {ovv v : Value} {s : CS}
/-- The list beyond is appended to. -/
theorem Cq.appOv (h : Cq X B w rb eb db ovv s) (hg : w.grownBy w2 ovv.ownBlock) {xs : List S43} (hN : Kd.N k43 43 w2 B (okn rb eb db X) v xs) (hat : v.ownBlock = ovv.ownBlock ∨ ∃ b, v.ownBlock = some b ∧ w.heap.size ≤ b) :
    Cq X B (w2.setCell ⟨rb, 6, none⟩ v) rb eb db v { s with ov := xs } ∧ Kx w (w2.setCell ⟨rb, 6, none⟩ v) (Sx rb eb db ovv) ∧ ∀ k, v.ownBlock = some k → ovv.ownBlock = some k ∨ w.heap.size ≤ k := by
  have hlt := h.lt
  have hne := h.ne
  have how := h.own
  have hfr : ∀ k, v.ownBlock = some k → ovv.ownBlock = some k ∨ w.heap.size ≤ k := fun k hk => by
    rcases hat with e | ⟨b, e, hb⟩
    · exact .inl (e ▸ hk)
    · rw [hk] at e; injection e with e; subst e; exact .inr hb
  have hset : ∀ k, k ≠ rb → (w2.setCell ⟨rb, 6, none⟩ v).heap[k]? = w2.heap[k]? := fun k hk => Below.heap_setCell _ _ _ _ hk
  have hok : ∀ k, okc rb eb db ovv X k → k < w.heap.size → okc rb eb db v X k := fun k hk hl => okc_of (okc_n hk).1 (fun e => (hfr k e.symm).elim (fun e2 => (okc_n hk).2 e2.symm) (fun e2 => by omega))
  have hmv : ∀ k, k < w.heap.size → k ≠ rb → some k ≠ ovv.ownBlock → (w2.setCell ⟨rb, 6, none⟩ v).heap[k]? = w.heap[k]? := fun k hk hn ho => (hset k hn).trans (hg.block k hk ho)
  refine ⟨⟨?_, ?_, ?_, ?_, h.e1, h.d1, h.lo, fun k hk => ?_⟩, ?_, hfr⟩
  · rw [blk_set (blk_grown h.blk hg how.1) 6 v]
    unfold cellsR
    simp
  · exact ((h.q.mono (ok' := fun k => okc rb eb db ovv X k ∧ k < w.heap.size) (fun k a b => ⟨a, b⟩)).step (hmv eb hlt.2.1 (fun e => hne.1 e.symm) how.2.1) (fun k hk hl => hmv k hl (fun e => hk.1.1 (.inl e)) (okc_n hk.1).2)).mono (fun k hk _ => hok k hk.1 hk.2)
  · exact ((h.c.mono (ok' := fun k => okc rb eb db ovv X k ∧ k < w.heap.size) (fun k a b => ⟨a, b⟩)).step (hmv db hlt.2.2 (fun e => hne.2.1 e.symm) how.2.2) (fun k hk hl => hmv k hl (fun e => hk.1.1 (.inl e)) (okc_n hk.1).2)).mono (fun k hk _ => hok k hk.1 hk.2)
  · exact Kd.N_step hN (fun k hk _ => hset k hk.1)
  · exact Nat.lt_of_lt_of_le (h.xs k hk) (by have := hg.size; simpa [World.setCell] using this)
  · exact (Kx.trans (S2 := fun k => some k = ovv.ownBlock) (Kx.refl w (Sx rb eb db ovv)) ⟨hg.os, hg.tape, hg.output, hg.size, fun k hk hn => hg.block k hk hn⟩ (fun k e => .inl (.inr (.inr (.inr e))))).set _ (.inl (.inl rfl)) _
/-- A count is told anew. -/
theorem Cq.setK2 (h : Cq X B w rb eb db ovv s) (n : Int) : Cq X B (w.setCell ⟨rb, 9, none⟩ (.int .i64 n)) rb eb db ovv { s with k2 := n } := by
  have hne := h.ne
  have hset : ∀ k, k ≠ rb → (w.setCell ⟨rb, 9, none⟩ (.int .i64 n)).heap[k]? = w.heap[k]? := fun k hk => Below.heap_setCell _ _ _ _ hk
  refine ⟨?_, h.q.step (hset _ (fun e => hne.1 e.symm)) (fun k hk _ => hset k (fun e => hk.1 (.inl e))), h.c.step (hset _ (fun e => hne.2.1 e.symm)) (fun k hk _ => hset k (fun e => hk.1 (.inl e))), Kd.N_step h.ov (fun k hk _ => hset k hk.1), h.e1, h.d1, h.lo, fun k hk => by have := h.xs k hk; simpa [World.setCell] using this⟩
  rw [blk_set h.blk 9 _]
  unfold cellsR
  simp
end
section
variable {X : Nat → Prop} {B : Nat} {w : World} {rb eb db : Nat} {ovv : Value} {s : CS}
set_option maxRecDepth 100000 in
set_option maxHeartbeats 8000000 in
theorem nil17 (x : S43) (A : Option Addr) (c : Nat) (w : World) : Calls Try.prog 17 #[.pointer none, .agg #[.int .u64 x.f0, .int .i64 x.f1, .int .u8 x.f2, .int .i64 x.f3, .slice A x.f4.length c]] w fun e w' => e = .returned (.tuple #[]) ∧ Below w.heap.size w w' := by
  have HA := Aside0.mk (below_alloc (Below.refl w.heap.size w) (.cells #[.int .u64 x.f0, .int .i64 x.f1, .int .u8 x.f2, .int .i64 x.f3, .slice A x.f4.length c] 43))
  go_enter Try.func17, Try.ntmps17
  go_wp2
  refine bodyPost_ret (results_none rfl _ _ _) rfl ?_
  exact ⟨rfl, HA.out⟩
set_option maxRecDepth 100000 in
set_option maxHeartbeats 8000000 in
theorem Cq.post (h : Cq X B w rb eb db ovv s) (x : S43) (A : Option Addr) (c : Nat) (hx : Kd.C (Kd.int .u8) w A x.f4.length x.f4) (hc : x.f4.length ≤ c) (hxl : x.f4.length ≤ 1000000) (hl : s.ov.length + 1 ≤ 1000000) (hBw : B ≤ w.heap.size) :
    Calls Try.prog 17 #[.pointer (some ⟨rb, 0, none⟩), .agg #[.int .u64 x.f0, .int .i64 x.f1, .int .u8 x.f2, .int .i64 x.f3, .slice A x.f4.length c]] w fun e w' => e = .returned (.tuple #[]) ∧ ∃ v, Cq X B w' rb eb db v (shS { s with ov := s.ov ++ [x], k2 := wrap64 (s.k2 + 1) }) ∧ Mv w w' rb eb db ovv v := by
  obtain ⟨Ao, co, hv, -, -⟩ := Kd.N_reads h.ov
  subst hv
  have HCL := Aside0.mk (fun (W : World) (hW : Below w.heap.size w W) => HClone.calls A c x.f4 W (Kd.C_below hx hW) hc (by omega))
  have HA := Aside0.mk (below_alloc (Below.refl w.heap.size w) (.cells #[.int .u64 x.f0, .int .i64 x.f1, .int .u8 x.f2, .int .i64 x.f3, .slice A x.f4.length c] 43))
  have HG := Aside0.mk (blk_new w (.cells #[.int .u64 x.f0, .int .i64 x.f1, .int .u8 x.f2, .int .i64 x.f3, .slice A x.f4.length c] 43))
  have HQ := Aside0.mk h
  have HQ0 := Aside0.mk h
  have HLE := Aside0.mk (And.intro hl (And.intro hxl hBw))
  have wk : IntKind.i64.wrap (s.k2 + 1) = wrap64 (s.k2 + 1) := by rw [IntKind.wrap_i64, wrap64]
  generalize hL : x.f4.length = L at HCL HA HG ⊢
  generalize hm : s.ov.length = m at HQ ⊢
  have HL := Aside0.mk hL
  have HM := Aside0.mk hm
  clear h hx hc hxl hl hBw hL hm
  go_enter Try.func17, Try.ntmps17
  go_upto_region 2 with (fail)
  obtain ⟨bx, hbx⟩ : ∃ bx, bx = w.heap.size := ⟨_, rfl⟩
  have HBX := Aside0.mk hbx
  rw [← hbx] at HG ⊢
  clear hbx
  generalize w.alloc (.cells #[.int .u64 x.f0, .int .i64 x.f1, .int .u8 x.f2, .int .i64 x.f3, .slice A L c] 43) = w1 at HA HG ⊢
  replace HQ := Aside0.mk (HQ.out.below HA.out)
  have y4 := (blk_cell HG.out 4).trans rfl
  have fz := blk_frozen HG.out 4
  go_upto_region 3 with (go_at_call 74; (with_reducible refine (HCL.out _ HA.out).mono ?_); rintro e7 w7 ⟨v7, rfl, hR7, hB7⟩; have HSZ7 := Aside0.mk HA.out.size; obtain ⟨A7, c7, e7_⟩ := Kd.R_slice hR7; rw [HL.out] at e7_; subst e7_; replace HG := Aside0.mk (blk_below HG.out hB7); replace HQ := Aside0.mk (HQ.out.below hB7); replace HA := Aside0.mk (below_step HA.out hB7); have HR7 := Aside0.mk hR7; clear hR7 hB7 y4 fz; have y4 := (blk_cell HG.out 4).trans rfl; have fz := blk_frozen HG.out 4; dsimp only)
  have hbl : w.heap.size ≤ bx := by have h_ := HBX.out; omega
  have HR8 := Aside0.mk (Kd.R_far (Kd.R_types HR7.out HG.out (by decide)) (p := ⟨bx, 4, none⟩) (fun _ hk => hk.2) (.slice A7 L c7))
  replace HG := Aside0.mk (blk_set HG.out 4 (.slice A7 L c7))
  replace HA := Aside0.mk (HA.out.setCell (p := ⟨bx, 4, none⟩) hbl (.slice A7 L c7))
  clear y4 fz HQ
  generalize w7.setCell ⟨bx, 4, none⟩ (.slice A7 L c7) = w8 at HR8 HG HA ⊢
  have HNX : Aside0 (some bx ≠ (Value.slice Ao m co).ownBlock) := ⟨fun e => by have h1_ := Kd.N_lt HQ0.out.ov bx (by rw [HM.out]; exact e.symm); omega⟩
  have hr8 := Kd.R_reads' HR8.out
  rw [HL.out] at hr8
  have hF8 : Kd.FK k43 w8 (okc rb eb db (.slice Ao m co) X) x [.int .u64 x.f0, .int .i64 x.f1, .int .u8 x.f2, .int .i64 x.f3, .slice A7 L c7] := by
    have hQ0 := HQ0.out
    rw [HM.out] at hQ0
    have hf := Kd.R_F (Kd.R_bound HR8.out)
    rw [← HL.out] at hf
    have h1 := k43_mkF w8 (okc rb eb db (.slice Ao m co) X) x (A4 := A7) (c4 := c7) (by rw [HL.out]; exact hr8.2.1) (Kd.F_mono hf (fun k hk => okc_fresh hQ0 k (Nat.le_trans HSZ7.out hk.2.1)))
    rwa [HL.out] at h1
  have hD : Below w8.heap.size w8 w8.drew := below_drew (Below.refl _ _)
  have HFX := Aside0.mk (Foot.step hF8 (W1 := w8.drew) (fun k _ hk => hD.block k hk))
  have HG3 := Aside0.mk (blk_below HG.out hD)
  have HA3 := Aside0.mk (below_step HA.out hD)
  have HQ3 := Aside0.mk (HQ0.out.below HA3.out)
  rw [HM.out] at HQ3
  have HR6 := Aside0.mk HQ3.out.c6
  have HBW := Aside0.mk (Nat.le_trans HLE.out.2.2 HA3.out.size)
  have HLN := Aside0.mk (show (s.ov.length + 1) * 56 ≤ 140737488355328 by have := HLE.out; omega)
  clear hr8 hF8 hD HR8 HR7
  go_upto_region 3 with (fail)
  refine start_ (n := 11) (S := fun w' => w'.cell? ⟨rb, 6, none⟩ = some (.slice Ao m co) ∧ w'.cell? ⟨bx, 0, none⟩ = some (.int .u64 x.f0) ∧ w'.cell? ⟨bx, 1, none⟩ = some (.int .i64 x.f1) ∧ w'.cell? ⟨bx, 2, none⟩ = some (.int .u8 x.f2) ∧ w'.cell? ⟨bx, 3, none⟩ = some (.int .i64 x.f3) ∧ w'.cell? ⟨bx, 4, none⟩ = some (.slice A7 L c7)) (ds := [10]) (bb 11 0) (by kernel_rfl) rfl rfl (⟨HR6.out, (blk_cell HG3.out 0).trans rfl, (blk_cell HG3.out 1).trans rfl, (blk_cell HG3.out 2).trans rfl, (blk_cell HG3.out 3).trans rfl, (blk_cell HG3.out 4).trans rfl⟩) (fun hHeld => ?_)
  generalize w8.drew = w3 at HFX HG3 HA3 HQ3 HR6 HBW hHeld ⊢
  refine pure_ (i := 0) (N := some 10) (v := ?_) (a' := ?_) (bb 11 1) rfl rfl (by kernel_rfl) (fun _ _ _ h => h) (Or.inl ⟨by rfl, ?_⟩) ?_ ?_
  rotate_left
  · intro w'
    go_simp
    with_reducible rfl
  rotate_left
  · simp only [Act.put, List.setIfInBounds_toArray, List.set_cons_zero, List.set_cons_succ, i64_w, i32_w]
    rfl
  refine pure_ (i := 1) (N := some 11) (v := ?_) (a' := ?_) (bb 11 3) rfl rfl (by kernel_rfl) (fun _ _ _ h => h) (Or.inl ⟨by rfl, ?_⟩) ?_ ?_
  rotate_left
  · intro w'
    go_simp
    with_reducible rfl
  rotate_left
  · simp only [Act.put, List.setIfInBounds_toArray, List.set_cons_zero, List.set_cons_succ, i64_w, i32_w]
    rfl
  refine pure_ (i := 2) (N := some 12) (v := ?_) (a' := ?_) (bb 11 7) rfl rfl (by kernel_rfl) (fun _ _ _ h => h) (Or.inl ⟨by rfl, ?_⟩) ?_ ?_
  rotate_left
  · intro w'
    go_simp
    with_reducible rfl
  rotate_left
  · simp only [Act.put, List.setIfInBounds_toArray, List.set_cons_zero, List.set_cons_succ, i64_w, i32_w]
    rfl
  refine pure_ (i := 3) (N := some 13) (v := ?_) (a' := ?_) (bb 11 15) rfl rfl (by kernel_rfl) (fun _ _ _ h => h) (Or.inl ⟨by rfl, ?_⟩) ?_ ?_
  rotate_left
  · intro w'
    go_simp
    with_reducible rfl
  rotate_left
  · simp only [Act.put, List.setIfInBounds_toArray, List.set_cons_zero, List.set_cons_succ, i64_w, i32_w]
    rfl
  refine take_ (i := 4) (N := some 14) (v := ?_) (a' := ?_) (bb 11 31) rfl rfl (by kernel_rfl) (fun _ _ _ h => h) (Or.inl ⟨by rfl, ?_⟩) hHeld ?_ ?_
  rotate_left
  · intro w' hSw
    have z6 := hSw.1
    have z0 := hSw.2.1
    have z1 := hSw.2.2.1
    have z2 := hSw.2.2.2.1
    have z3 := hSw.2.2.2.2.1
    have z4 := hSw.2.2.2.2.2
    go_simp
    with_reducible rfl
  rotate_left
  · simp only [Act.put, List.setIfInBounds_toArray, List.set_cons_zero, List.set_cons_succ, i64_w, i32_w]
    rfl
  refine take_ (i := 5) (N := some 15) (v := ?_) (a' := ?_) (bb 11 63) rfl rfl (by kernel_rfl) (fun _ _ _ h => h) (Or.inl ⟨by rfl, ?_⟩) hHeld ?_ ?_
  rotate_left
  · intro w' hSw
    have z6 := hSw.1
    have z0 := hSw.2.1
    have z1 := hSw.2.2.1
    have z2 := hSw.2.2.2.1
    have z3 := hSw.2.2.2.2.1
    have z4 := hSw.2.2.2.2.2
    go_simp
    with_reducible rfl
  rotate_left
  · simp only [Act.put, List.setIfInBounds_toArray, List.set_cons_zero, List.set_cons_succ, i64_w, i32_w]
    rfl
  refine one_ (i := 6) (N := some 16) (bb 11 127) rfl rfl (by kernel_rfl) (by decide) (fun K hK => ?_)
  refine event_step (by rfl) (show _ = Result.ok (Next.value (.slice (some ⟨w3.heap.size, 0, none⟩) 1 1)) (World.alloc _ (.cells #[.int .u64 x.f0, .int .i64 x.f1, .int .u8 x.f2, .int .i64 x.f3, .slice A7 L c7] 43)) from by first | (go_simp; done) | (go_simp; rfl)) ?_
  refine hK.out _ _ (⟨pw_cell_below (below_alloc (Below.refl w3.heap.size w3) (.cells #[.int .u64 x.f0, .int .i64 x.f1, .int .u8 x.f2, .int .i64 x.f3, .slice A7 L c7] 43)) hHeld.1, pw_cell_below (below_alloc (Below.refl w3.heap.size w3) (.cells #[.int .u64 x.f0, .int .i64 x.f1, .int .u8 x.f2, .int .i64 x.f3, .slice A7 L c7] 43)) hHeld.2.1, pw_cell_below (below_alloc (Below.refl w3.heap.size w3) (.cells #[.int .u64 x.f0, .int .i64 x.f1, .int .u8 x.f2, .int .i64 x.f3, .slice A7 L c7] 43)) hHeld.2.2.1, pw_cell_below (below_alloc (Below.refl w3.heap.size w3) (.cells #[.int .u64 x.f0, .int .i64 x.f1, .int .u8 x.f2, .int .i64 x.f3, .slice A7 L c7] 43)) hHeld.2.2.2.1, pw_cell_below (below_alloc (Below.refl w3.heap.size w3) (.cells #[.int .u64 x.f0, .int .i64 x.f1, .int .u8 x.f2, .int .i64 x.f3, .slice A7 L c7] 43)) hHeld.2.2.2.2.1, pw_cell_below (below_alloc (Below.refl w3.heap.size w3) (.cells #[.int .u64 x.f0, .int .i64 x.f1, .int .u8 x.f2, .int .i64 x.f3, .slice A7 L c7] 43)) hHeld.2.2.2.2.2⟩) (fun hHeld => ?_)
  clear hK K
  refine norm_ (a' := ?_) ?_ ?_
  rotate_left
  · show Act.put _ (some 16) _ = _
    simp only [Act.put, List.setIfInBounds_toArray, List.set_cons_zero, List.set_cons_succ, i64_w, i32_w]
    rfl
  refine one_ (i := 7) (N := some 17) (bb 11 255) rfl rfl (by kernel_rfl) (by decide) (fun K hK => ?_)
  refine Kd.N_append_step k43 (w0 := w3) B (by rfl) (.tmp 14) (.tmp 16) 30 43 (.agg #[.int .u64 0, .int .i64 0, .int .u8 0, .int .i64 0, .slice none 0 0]) 56 rfl Try.underlying30 full43 rfl (by decide) (by decide) (.slice Ao m co) s.ov x [.int .u64 x.f0, .int .i64 x.f1, .int .u8 x.f2, .int .i64 x.f3, .slice A7 L c7] (okn rb eb db X) (okc rb eb db (.slice Ao m co) X) rfl rfl HFX.out (fun k hk => okc_n hk) (fun k hk => (okc_n (okc_fresh HQ3.out k hk)).1) HQ3.out.ov (Below.refl _ _) HBW.out HLN.out ?_
  intro v1 w4 hN4 hB4 hG4 hA4
  obtain ⟨A8, c8, rfl⟩ := Kd.N_slice hN4
  have HL8 := Aside0.mk (show (s.ov ++ [x]).length = m + 1 by rw [List.length_append, HM.out]; rfl)
  rw [HL8.out] at hN4 hA4 ⊢
  have HN4 := Aside0.mk hN4
  have HG4 := Aside0.mk hG4
  have HA4 := Aside0.mk hA4
  have rb6 := blk_grown HQ3.out.blk hG4 HQ3.out.own.1
  have r6 : w4.cell? ⟨rb, 6, none⟩ = some (.slice Ao m co) := (blk_cell rb6 6).trans rfl
  have hbx4 := blk_grown HG3.out hG4 HNX.out
  have fz6 := blk_frozen rb6 6
  clear rb6 hN4 hG4 hA4 hB4
  refine hK.out _ _ (⟨r6, (blk_cell hbx4 0).trans rfl, (blk_cell hbx4 1).trans rfl, (blk_cell hbx4 2).trans rfl, (blk_cell hbx4 3).trans rfl, (blk_cell hbx4 4).trans rfl⟩) (fun hHeld => ?_)
  clear hK K
  refine norm_ (a' := ?_) ?_ ?_
  rotate_left
  · show Act.put _ (some 17) _ = _
    simp only [Act.put, List.setIfInBounds_toArray, List.set_cons_zero, List.set_cons_succ, i64_w, i32_w]
    rfl
  refine pure_ (i := 8) (N := some 18) (v := ?_) (a' := ?_) (bb 11 511) rfl rfl (by kernel_rfl) (fun _ _ _ h => h) (Or.inl ⟨by rfl, ?_⟩) ?_ ?_
  rotate_left
  · intro w'
    go_simp
    with_reducible rfl
  rotate_left
  · simp only [Act.put, List.setIfInBounds_toArray, List.set_cons_zero, List.set_cons_succ, i64_w, i32_w]
    rfl
  refine pure_ (i := 9) (N := some 19) (v := ?_) (a' := ?_) (bb 11 1023) rfl rfl (by kernel_rfl) (fun _ _ _ h => h) (Or.inl ⟨by rfl, ?_⟩) ?_ ?_
  rotate_left
  · intro w'
    go_simp
    with_reducible rfl
  rotate_left
  · simp only [Act.put, List.setIfInBounds_toArray, List.set_cons_zero, List.set_cons_succ, i64_w, i32_w]
    rfl
  refine last_ (i := 10) (N := none) (bb 11 2047) rfl rfl (by kernel_rfl) (by decide) (fun K hK => ?_)
  refine skip_ (by rfl) rfl (show _ = Result.ok Next.skip (World.setCell (w4) (⟨rb, 6, none⟩) (.slice A8 (m + 1) c8)) from by first | (go_simp; done) | (go_simp; rfl)) ?_
  refine hK.out _ _ ?_
  clear hK K
  refine done_ (by kernel_rfl) ?_
  clear hHeld
  obtain ⟨hq5, hk5, hf5⟩ := HQ3.out.appOv HG4.out HN4.out HA4.out
  have HQ5 := Aside0.mk hq5
  have HK5 := Aside0.mk (Kx.trans (Kx.of_below HA3.out (Sx rb eb db (.slice Ao m co))) hk5 (fun k e => .inl e))
  have HF5 := Aside0.mk (fun k hk => (hf5 k hk).imp id (fun a => Nat.le_trans HA3.out.size a))
  have HBW5 := Aside0.mk (Nat.le_trans HBW.out hk5.size)
  clear hq5 hk5 hf5 HQ0 HCL HR6 HFX HG3
  generalize w4.setCell ⟨rb, 6, none⟩ (.slice A8 (m + 1) c8) = w5 at HQ5 HK5 HF5 HBW5 ⊢
  have r9 := HQ5.out.c9
  have fz := blk_frozen HQ5.out.blk 9
  simp only at r9
  go_upto_region 5 with (fail)
  have HQ6 := Aside0.mk (HQ5.out.setK2 (wrap64 (s.k2 + 1)))
  have HK6 := Aside0.mk (HK5.out.set ⟨rb, 9, none⟩ (.inl (.inl rfl)) (.int .i64 (wrap64 (s.k2 + 1))))
  have HBW6 := Aside0.mk (show B ≤ (w5.setCell ⟨rb, 9, none⟩ (.int .i64 (wrap64 (s.k2 + 1)))).heap.size by have := HBW5.out; simpa [World.setCell] using this)
  clear r9 fz HQ5 HK5 HBW5
  generalize w5.setCell ⟨rb, 9, none⟩ (.int .i64 (wrap64 (s.k2 + 1))) = w6 at HQ6 HK6 HBW6 ⊢
  have HSH := Aside0.mk (HQ6.out.shift (by have h_ := HL8.out; have h2_ := HLE.out.1; show (s.ov ++ [x]).length ≤ 1000000; rw [h_]; rw [HM.out] at h2_; omega) HBW6.out)
  go_wp2_with (go_at_call 77; (with_reducible refine HSH.out.mono ?_); rintro e9 w9 ⟨rfl, v9, hQ9, hM9⟩; have HQ9 := Aside0.mk hQ9; have HM9 := Aside0.mk hM9; clear hQ9 hM9; dsimp only)
  (try simp only [Exit.inBlock, Exit.then])
  go_end0
  refine ⟨rfl, v9, HQ9.out, HK6.out.trans HM9.out.1 (fun k hk => ?_), fun k hk => Nat.le_trans HK6.out.size (HM9.out.2 k hk)⟩
  obtain e | e | e | e := hk
  · exact .inl (.inl e)
  · exact .inl (.inr (.inl e))
  · exact .inl (.inr (.inr (.inl e)))
  · exact (HF5.out k e.symm).imp (fun a => .inr (.inr (.inr a.symm))) id
end
end Go.Proofs.Ytimgfdkndlbfbaa.HCq
