/- cq: Next. Conditions: each theorem's own. -/
import Derived.Test.YtimgfdkndlbfbaaHCq5
namespace Go.Proofs.Ytimgfdkndlbfbaa.HCq
open Go.RowKit Go.Proofs.YtimgfdkndlbfbaaW.PrintWords Go.Proofs.YtimgfdkndlbfbaaW.PrintLast Go.Proofs.YtimgfdkndlbfbaaW.PrintMore Go.Proofs.Ytimgfdkndlbfbaa.PCq Go.Proofs.Ytimgfdkndlbfbaa.HRng Go.Proofs.Ytimgfdkndlbfbaa.HReg
set_option linter.unusedVariables false
set_option linter.unusedSimpArgs false
set_option linter.unusedSectionVars false
section
variable {X : Nat → Prop} {B : Nat} {w : World} {rb eb db : Nat} {ovv : Value} {s : CS}
theorem Cq.more {w1 : World} {Y : Nat → Prop} (h : Cq X B w rb eb db ovv s) (hb : Below w.heap.size w w1) (hY : ∀ k, k < w.heap.size → Y k → X k) (hlt : ∀ k, Y k → k < w1.heap.size) : Cq Y B w1 rb eb db ovv s :=
  ⟨blk_below h.blk hb, ((h.q.mono (ok' := fun k => okc rb eb db ovv X k ∧ k < w.heap.size) (fun k a b => ⟨a, b⟩)).below hb).mono (fun k hk _ => ⟨hk.1.1, fun hy => hk.1.2 (hY k hk.2 hy)⟩),
    ((h.c.mono (ok' := fun k => okc rb eb db ovv X k ∧ k < w.heap.size) (fun k a b => ⟨a, b⟩)).below hb).mono (fun k hk _ => ⟨hk.1.1, fun hy => hk.1.2 (hY k hk.2 hy)⟩),
    Kd.N_mono (Kd.N_below (Kd.N_bound h.ov) hb) (fun k hk => ⟨hk.1.1, hk.1.2.1, hk.1.2.2.1, fun hy => hk.1.2.2.2 (hY k hk.2 hy)⟩), h.e1, h.d1, h.lo, hlt⟩
theorem Cq.setK1 (h : Cq X B w rb eb db ovv s) (n : Int) : Cq X B (w.setCell ⟨rb, 8, none⟩ (.int .i64 n)) rb eb db ovv { s with k1 := n } := by
  have hne := h.ne
  have hset : ∀ k, k ≠ rb → (w.setCell ⟨rb, 8, none⟩ (.int .i64 n)).heap[k]? = w.heap[k]? := fun k hk => Below.heap_setCell _ _ _ _ hk
  refine ⟨?_, h.q.step (hset _ (fun e => hne.1 e.symm)) (fun k hk _ => hset k (fun e => hk.1 (.inl e))), h.c.step (hset _ (fun e => hne.2.1 e.symm)) (fun k hk _ => hset k (fun e => hk.1 (.inl e))), Kd.N_step h.ov (fun k hk _ => hset k hk.1), h.e1, h.d1, h.lo, fun k hk => by have := h.xs k hk; simpa [World.setCell] using this⟩
  rw [blk_set h.blk 8 _]
  unfold cellsR
  simp
theorem Cq.setK3 (h : Cq X B w rb eb db ovv s) (n : Int) : Cq X B (w.setCell ⟨rb, 10, none⟩ (.int .i64 n)) rb eb db ovv { s with k3 := n } := by
  have hne := h.ne
  have hset : ∀ k, k ≠ rb → (w.setCell ⟨rb, 10, none⟩ (.int .i64 n)).heap[k]? = w.heap[k]? := fun k hk => Below.heap_setCell _ _ _ _ hk
  refine ⟨?_, h.q.step (hset _ (fun e => hne.1 e.symm)) (fun k hk _ => hset k (fun e => hk.1 (.inl e))), h.c.step (hset _ (fun e => hne.2.1 e.symm)) (fun k hk _ => hset k (fun e => hk.1 (.inl e))), Kd.N_step h.ov (fun k hk _ => hset k hk.1), h.e1, h.d1, h.lo, fun k hk => by have := h.xs k hk; simpa [World.setCell] using this⟩
  rw [blk_set h.blk 10 _]
  unfold cellsR
  simp
theorem Cq.setK0 (h : Cq X B w rb eb db ovv s) (n : Int) : Cq X B (w.setCell ⟨rb, 7, none⟩ (.int .i64 n)) rb eb db ovv { s with k0 := n } := by
  have hne := h.ne
  have hset : ∀ k, k ≠ rb → (w.setCell ⟨rb, 7, none⟩ (.int .i64 n)).heap[k]? = w.heap[k]? := fun k hk => Below.heap_setCell _ _ _ _ hk
  refine ⟨?_, h.q.step (hset _ (fun e => hne.1 e.symm)) (fun k hk _ => hset k (fun e => hk.1 (.inl e))), h.c.step (hset _ (fun e => hne.2.1 e.symm)) (fun k hk _ => hset k (fun e => hk.1 (.inl e))), Kd.N_step h.ov (fun k hk _ => hset k hk.1), h.e1, h.d1, h.lo, fun k hk => by have := h.xs k hk; simpa [World.setCell] using this⟩
  rw [blk_set h.blk 7 _]
  unfold cellsR
  simp
end
theorem wr64 (n : Int) : IntKind.i64.wrap n = wrap64 n := by rw [IntKind.wrap_i64, wrap64]
section
variable {X : Nat → Prop} {B : Nat} {w : World} {rb eb db : Nat} {ovv : Value} {s : CS}
set_option maxRecDepth 100000 in
set_option maxHeartbeats 8000000 in
theorem nil16 (w : World) : Calls Try.prog 16 #[.pointer none] w fun e w' => e = .returned (.tuple #[.agg #[.int .u8 0, .int .u8 0, .int .i64 0, .int .u32 0, .int .u16 0, .int .i64 0, .int .i64 0, .int .i64 0, .int .u64 0, .int .u64 0, .slice none 0 0], .bool false]) ∧ Below w.heap.size w w' := by
  have HA := Aside0.mk (below_alloc (Below.refl w.heap.size w) (.cells #[.int .u8 0, .int .u8 0, .int .i64 0, .int .u32 0, .int .u16 0, .int .i64 0, .int .i64 0, .int .i64 0, .int .u64 0, .int .u64 0, .slice none 0 0] 37))
  have HG := Aside0.mk (blk_new w (.cells #[.int .u8 0, .int .u8 0, .int .i64 0, .int .u32 0, .int .u16 0, .int .i64 0, .int .i64 0, .int .i64 0, .int .u64 0, .int .u64 0, .slice none 0 0] 37))
  go_enter Try.func16, Try.ntmps16
  go_upto_region 1 with (fail)
  obtain ⟨b2, hb2⟩ : ∃ b2, b2 = w.heap.size := ⟨_, rfl⟩
  have HB2 := Aside0.mk hb2
  rw [← hb2] at HG ⊢
  clear hb2
  generalize w.alloc (.cells #[.int .u8 0, .int .u8 0, .int .i64 0, .int .u32 0, .int .u16 0, .int .i64 0, .int .i64 0, .int .i64 0, .int .u64 0, .int .u64 0, .slice none 0 0] 37) = w1 at HA HG ⊢
  go_wp2_with ((with_reducible refine store_at (ad := ⟨b2, 0, none⟩) rfl 37 (.tmp 2) (.tmp 14) rfl b2 0 #[.int .u8 0, .int .u8 0, .int .i64 0, .int .u32 0, .int .u16 0, .int .i64 0, .int .i64 0, .int .i64 0, .int .u64 0, .int .u64 0, .slice none 0 0] rfl rfl rfl 37 #[.int .u8 0, .int .u8 0, .int .i64 0, .int .u32 0, .int .u16 0, .int .i64 0, .int .i64 0, .int .i64 0, .int .u64 0, .int .u64 0, .slice none 0 0] HG.out ?hi ?hz ?h1 ?_); (case hi => exact info37); (case hz => simp); (case h1 => simp [Value.oneCell']))
  have hsp : spl #[.int .u8 0, .int .u8 0, .int .i64 0, .int .u32 0, .int .u16 0, .int .i64 0, .int .i64 0, .int .i64 0, .int .u64 0, .int .u64 0, .slice none 0 0] 0 (#[.int .u8 0, .int .u8 0, .int .i64 0, .int .u32 0, .int .u16 0, .int .i64 0, .int .i64 0, .int .i64 0, .int .u64 0, .int .u64 0, .slice none 0 0] : Array Value).toList = #[.int .u8 0, .int .u8 0, .int .i64 0, .int .u32 0, .int .u16 0, .int .i64 0, .int .i64 0, .int .i64 0, .int .u64 0, .int .u64 0, .slice none 0 0] := spl_all rfl
  have hg2 : (w1.setRow b2 (spl #[.int .u8 0, .int .u8 0, .int .i64 0, .int .u32 0, .int .u16 0, .int .i64 0, .int .i64 0, .int .i64 0, .int .u64 0, .int .u64 0, .slice none 0 0] 0 (#[.int .u8 0, .int .u8 0, .int .i64 0, .int .u32 0, .int .u16 0, .int .i64 0, .int .i64 0, .int .i64 0, .int .u64 0, .int .u64 0, .slice none 0 0] : Array Value).toList)).heap[b2]? = some (.cells #[.int .u8 0, .int .u8 0, .int .i64 0, .int .u32 0, .int .u16 0, .int .i64 0, .int .i64 0, .int .i64 0, .int .u64 0, .int .u64 0, .slice none 0 0] 37 (0, 0)) := by rw [hsp]; exact setRow_heap w1 b2 _ _ 37 (0, 0) HG.out
  (try simp only [Exit.inBlock, Exit.then])
  refine bodyPost_ret (results_ct rfl _ _ b2 37 #[.int .u8 0, .int .u8 0, .int .i64 0, .int .u32 0, .int .u16 0, .int .i64 0, .int .i64 0, .int .i64 0, .int .u64 0, .int .u64 0, .slice none 0 0] (0, 0) _ rfl hg2 Try.underlying37 rfl info37) rfl ?_
  refine ⟨rfl, ?_⟩
  have h := (Kx.of_below HA.out (fun _ => False)).row b2 (.inr (by have h_ := HB2.out; omega)) (spl #[.int .u8 0, .int .u8 0, .int .i64 0, .int .u32 0, .int .u16 0, .int .i64 0, .int .i64 0, .int .i64 0, .int .u64 0, .int .u64 0, .slice none 0 0] 0 (#[.int .u8 0, .int .u8 0, .int .i64 0, .int .u32 0, .int .u16 0, .int .i64 0, .int .i64 0, .int .i64 0, .int .u64 0, .int .u64 0, .slice none 0 0] : Array Value).toList)
  exact ⟨h.os, h.tape, h.output, h.size, fun k hk => h.old k hk id⟩
set_option maxRecDepth 100000 in
set_option maxHeartbeats 8000000 in
theorem Cq.next_none (h : Cq X B w rb eb db ovv s) (hq : s.q = []) : Calls Try.prog 16 #[.pointer (some ⟨rb, 0, none⟩)] w fun e w' => e = .returned (.tuple #[.agg #[.int .u8 0, .int .u8 0, .int .i64 0, .int .u32 0, .int .u16 0, .int .i64 0, .int .i64 0, .int .i64 0, .int .u64 0, .int .u64 0, .slice none 0 0], .bool false]) ∧ Below w.heap.size w w' := by
  have HA := Aside0.mk (below_alloc (Below.refl w.heap.size w) (.cells #[.int .u8 0, .int .u8 0, .int .i64 0, .int .u32 0, .int .u16 0, .int .i64 0, .int .i64 0, .int .i64 0, .int .u64 0, .int .u64 0, .slice none 0 0] 37))
  have HG := Aside0.mk (blk_new w (.cells #[.int .u8 0, .int .u8 0, .int .i64 0, .int .u32 0, .int .u16 0, .int .i64 0, .int .i64 0, .int .i64 0, .int .u64 0, .int .u64 0, .slice none 0 0] 37))
  have r2 := pw_cell_below HA.out h.c2
  rw [hq] at r2
  simp only [List.length_nil] at r2
  clear h hq
  go_enter Try.func16, Try.ntmps16
  go_upto_region 1 with (fail)
  obtain ⟨b2, hb2⟩ : ∃ b2, b2 = w.heap.size := ⟨_, rfl⟩
  have HB2 := Aside0.mk hb2
  rw [← hb2] at HG ⊢
  clear hb2
  generalize w.alloc (.cells #[.int .u8 0, .int .u8 0, .int .i64 0, .int .u32 0, .int .u16 0, .int .i64 0, .int .i64 0, .int .i64 0, .int .u64 0, .int .u64 0, .slice none 0 0] 37) = w1 at HA HG r2 ⊢
  go_wp2_with ((with_reducible refine store_at (ad := ⟨b2, 0, none⟩) rfl 37 (.tmp 2) (.tmp 14) rfl b2 0 #[.int .u8 0, .int .u8 0, .int .i64 0, .int .u32 0, .int .u16 0, .int .i64 0, .int .i64 0, .int .i64 0, .int .u64 0, .int .u64 0, .slice none 0 0] rfl rfl rfl 37 #[.int .u8 0, .int .u8 0, .int .i64 0, .int .u32 0, .int .u16 0, .int .i64 0, .int .i64 0, .int .i64 0, .int .u64 0, .int .u64 0, .slice none 0 0] HG.out ?hi ?hz ?h1 ?_); (case hi => exact info37); (case hz => simp); (case h1 => simp [Value.oneCell']))
  have hsp : spl #[.int .u8 0, .int .u8 0, .int .i64 0, .int .u32 0, .int .u16 0, .int .i64 0, .int .i64 0, .int .i64 0, .int .u64 0, .int .u64 0, .slice none 0 0] 0 (#[.int .u8 0, .int .u8 0, .int .i64 0, .int .u32 0, .int .u16 0, .int .i64 0, .int .i64 0, .int .i64 0, .int .u64 0, .int .u64 0, .slice none 0 0] : Array Value).toList = #[.int .u8 0, .int .u8 0, .int .i64 0, .int .u32 0, .int .u16 0, .int .i64 0, .int .i64 0, .int .i64 0, .int .u64 0, .int .u64 0, .slice none 0 0] := spl_all rfl
  have hg2 : (w1.setRow b2 (spl #[.int .u8 0, .int .u8 0, .int .i64 0, .int .u32 0, .int .u16 0, .int .i64 0, .int .i64 0, .int .i64 0, .int .u64 0, .int .u64 0, .slice none 0 0] 0 (#[.int .u8 0, .int .u8 0, .int .i64 0, .int .u32 0, .int .u16 0, .int .i64 0, .int .i64 0, .int .i64 0, .int .u64 0, .int .u64 0, .slice none 0 0] : Array Value).toList)).heap[b2]? = some (.cells #[.int .u8 0, .int .u8 0, .int .i64 0, .int .u32 0, .int .u16 0, .int .i64 0, .int .i64 0, .int .i64 0, .int .u64 0, .int .u64 0, .slice none 0 0] 37 (0, 0)) := by rw [hsp]; exact setRow_heap w1 b2 _ _ 37 (0, 0) HG.out
  (try simp only [Exit.inBlock, Exit.then])
  refine bodyPost_ret (results_ct rfl _ _ b2 37 #[.int .u8 0, .int .u8 0, .int .i64 0, .int .u32 0, .int .u16 0, .int .i64 0, .int .i64 0, .int .i64 0, .int .u64 0, .int .u64 0, .slice none 0 0] (0, 0) _ rfl hg2 Try.underlying37 rfl info37) rfl ?_
  refine ⟨rfl, ?_⟩
  have h := (Kx.of_below HA.out (fun _ => False)).row b2 (.inr (by have h_ := HB2.out; omega)) (spl #[.int .u8 0, .int .u8 0, .int .i64 0, .int .u32 0, .int .u16 0, .int .i64 0, .int .i64 0, .int .i64 0, .int .u64 0, .int .u64 0, .slice none 0 0] 0 (#[.int .u8 0, .int .u8 0, .int .i64 0, .int .u32 0, .int .u16 0, .int .i64 0, .int .i64 0, .int .i64 0, .int .u64 0, .int .u64 0, .slice none 0 0] : Array Value).toList)
  exact ⟨h.os, h.tape, h.output, h.size, fun k hk => h.old k hk id⟩
set_option maxRecDepth 100000 in
set_option maxHeartbeats 8000000 in
theorem Cq.next (h : Cq X B w rb eb db ovv s) (x : S37) (r : List S37) (hq : s.q = x :: r) : Calls Try.prog 16 #[.pointer (some ⟨rb, 0, none⟩)] w fun e w' => ∃ (A : Option Addr) (c : Nat), e = .returned (.tuple #[.agg #[.int .u8 x.f0, .int .u8 x.f1, .int .i64 x.f2, .int .u32 x.f3, .int .u16 x.f4, .int .i64 x.f5, .int .i64 x.f6, .int .i64 x.f7, .int .u64 x.f8, .int .u64 x.f9, .slice A x.f10.length c], .bool true]) ∧ Kd.FK k37 w' (okc rb eb db ovv X) x [.int .u8 x.f0, .int .u8 x.f1, .int .i64 x.f2, .int .u32 x.f3, .int .u16 x.f4, .int .i64 x.f5, .int .i64 x.f6, .int .i64 x.f7, .int .u64 x.f8, .int .u64 x.f9, .slice A x.f10.length c] ∧ Cq X B w' rb eb db ovv { s with q := r, qf := (s.qf + 1) % s.E, k1 := wrap64 (s.k1 + 1) } ∧ Kx w w' (Sx rb eb db ovv) := by
  have HA := Aside0.mk (below_alloc (Below.refl w.heap.size w) (.cells #[.int .u8 0, .int .u8 0, .int .i64 0, .int .u32 0, .int .u16 0, .int .i64 0, .int .i64 0, .int .i64 0, .int .u64 0, .int .u64 0, .slice none 0 0] 37))
  have HG := Aside0.mk (blk_new w (.cells #[.int .u8 0, .int .u8 0, .int .i64 0, .int .u32 0, .int .u16 0, .int .i64 0, .int .i64 0, .int .i64 0, .int .u64 0, .int .u64 0, .slice none 0 0] 37))
  have HQ0 := Aside0.mk h
  have HQQ := Aside0.mk hq
  have HLT := Aside0.mk h.lt
  have HOW := Aside0.mk (fun k (hk : ovv.ownBlock = some k) => Kd.N_lt h.ov k hk)
  have HOB := Aside0.mk (fun k (hk : X k) => h.xs k hk)
  have r2 := pw_cell_below HA.out h.c2
  have r8 := pw_cell_below HA.out h.c8
  have hl : (s.q.length : Int) ≠ 0 := by rw [hq]; simp only [List.length_cons]; omega
  obtain ⟨m, hm⟩ : ∃ m : Int, (s.q.length : Int) = m := ⟨_, rfl⟩
  rw [hm] at r2 hl
  have d0 : (m == 0) = false := beq_eq_false_iff_ne.2 hl
  have d1 : decide (m = 0) = false := decide_eq_false hl
  have wk := wr64 (s.k1 + 1)
  clear h hq hm hl
  go_enter Try.func16, Try.ntmps16
  go_upto_region 1 with (fail)
  obtain ⟨b2, hb2⟩ : ∃ b2, b2 = w.heap.size := ⟨_, rfl⟩
  have HB2 := Aside0.mk hb2
  rw [← hb2] at HG ⊢
  clear hb2
  generalize w.alloc (.cells #[.int .u8 0, .int .u8 0, .int .i64 0, .int .u32 0, .int .u16 0, .int .i64 0, .int .i64 0, .int .i64 0, .int .u64 0, .int .u64 0, .slice none 0 0] 37) = w1 at HA HG r2 r8 ⊢
  have HQ := Aside0.mk (HQ0.out.more HA.out (Y := fun k => X k ∨ k = b2) (fun k hk hy => hy.elim id (fun e => by have h_ := HB2.out; omega)) (fun k hy => hy.elim (fun a => Nat.lt_of_lt_of_le (HOB.out k a) HA.out.size) (fun e => by rw [e]; exact blk_lt HG.out)))
  have fz := blk_frozen HQ.out.blk 8
  go_upto_region 4 with (fail)
  have HLT1 := Aside0.mk (blk_lt HG.out)
  have hrb2 : rb ≠ b2 := by have h1_ := HLT.out.1; have h2_ := HB2.out; omega
  replace HQ := Aside0.mk (HQ.out.setK1 (wrap64 (s.k1 + 1)))
  replace HG := Aside0.mk (blk_far HG.out (p := ⟨rb, 8, none⟩) (fun e => hrb2 e.symm) (.int .i64 (wrap64 (s.k1 + 1))))
  have HK := Aside0.mk ((Kx.of_below HA.out (Sx rb eb db ovv)).set ⟨rb, 8, none⟩ (.inl (.inl rfl)) (.int .i64 (wrap64 (s.k1 + 1))))
  clear r2 r8 fz d0 d1 wk hrb2
  generalize w1.setCell ⟨rb, 8, none⟩ (.int .i64 (wrap64 (s.k1 + 1))) = w2 at HQ HG HK ⊢
  have HNB : Aside0 (¬ Sx rb eb db ovv b2) := ⟨fun e => by
    have h1_ := HLT.out
    have h2_ := HB2.out
    obtain e | e | e | e := e
    · omega
    · omega
    · omega
    · have := HOW.out b2 e.symm; omega⟩
  have HTK := Aside0.mk (HQ.out.take37 x r HQQ.out)
  go_wp2_with (first | (go_at_call 76; (with_reducible refine HTK.out.mono ?_); rintro e5 w5 ⟨A, c, rfl, hF, hQ5, hK5⟩; have HF := Aside0.mk hF; have HQ5 := Aside0.mk hQ5; have HK5 := Aside0.mk hK5; clear hF hQ5 hK5; have HG5 := Aside0.mk ((HK5.out.old b2 (blk_lt HG.out) HNB.out).trans HG.out); generalize hL : x.f10.length = L at HF ⊢; have HL := Aside0.mk hL; clear hL; dsimp only) | ((with_reducible refine store_at (ad := ⟨b2, 0, none⟩) rfl 37 (.tmp 2) (.tmp 25) rfl b2 0 #[.int .u8 x.f0, .int .u8 x.f1, .int .i64 x.f2, .int .u32 x.f3, .int .u16 x.f4, .int .i64 x.f5, .int .i64 x.f6, .int .i64 x.f7, .int .u64 x.f8, .int .u64 x.f9, .slice A L c] rfl rfl rfl 37 #[.int .u8 0, .int .u8 0, .int .i64 0, .int .u32 0, .int .u16 0, .int .i64 0, .int .i64 0, .int .i64 0, .int .u64 0, .int .u64 0, .slice none 0 0] HG5.out ?hi ?hz ?h1 ?_); (case hi => exact info37); (case hz => simp); (case h1 => simp [Value.oneCell'])))
  have hsp : spl #[.int .u8 0, .int .u8 0, .int .i64 0, .int .u32 0, .int .u16 0, .int .i64 0, .int .i64 0, .int .i64 0, .int .u64 0, .int .u64 0, .slice none 0 0] 0 (#[.int .u8 x.f0, .int .u8 x.f1, .int .i64 x.f2, .int .u32 x.f3, .int .u16 x.f4, .int .i64 x.f5, .int .i64 x.f6, .int .i64 x.f7, .int .u64 x.f8, .int .u64 x.f9, .slice A L c] : Array Value).toList = #[.int .u8 x.f0, .int .u8 x.f1, .int .i64 x.f2, .int .u32 x.f3, .int .u16 x.f4, .int .i64 x.f5, .int .i64 x.f6, .int .i64 x.f7, .int .u64 x.f8, .int .u64 x.f9, .slice A L c] := spl_all rfl
  have hg2 : (w5.setRow b2 (spl #[.int .u8 0, .int .u8 0, .int .i64 0, .int .u32 0, .int .u16 0, .int .i64 0, .int .i64 0, .int .i64 0, .int .u64 0, .int .u64 0, .slice none 0 0] 0 (#[.int .u8 x.f0, .int .u8 x.f1, .int .i64 x.f2, .int .u32 x.f3, .int .u16 x.f4, .int .i64 x.f5, .int .i64 x.f6, .int .i64 x.f7, .int .u64 x.f8, .int .u64 x.f9, .slice A L c] : Array Value).toList)).heap[b2]? = some (.cells #[.int .u8 x.f0, .int .u8 x.f1, .int .i64 x.f2, .int .u32 x.f3, .int .u16 x.f4, .int .i64 x.f5, .int .i64 x.f6, .int .i64 x.f7, .int .u64 x.f8, .int .u64 x.f9, .slice A L c] 37 (0, 0)) := by rw [hsp]; exact setRow_heap w5 b2 _ _ 37 (0, 0) HG5.out
  (try simp only [Exit.inBlock, Exit.then])
  refine bodyPost_ret (results_ct rfl _ _ b2 37 #[.int .u8 x.f0, .int .u8 x.f1, .int .i64 x.f2, .int .u32 x.f3, .int .u16 x.f4, .int .i64 x.f5, .int .i64 x.f6, .int .i64 x.f7, .int .u64 x.f8, .int .u64 x.f9, .slice A L c] (0, 0) _ rfl hg2 Try.underlying37 rfl info37) rfl ?_
  have hk6 : Kx w5 (w5.setRow b2 (spl #[.int .u8 0, .int .u8 0, .int .i64 0, .int .u32 0, .int .u16 0, .int .i64 0, .int .i64 0, .int .i64 0, .int .u64 0, .int .u64 0, .slice none 0 0] 0 (#[.int .u8 x.f0, .int .u8 x.f1, .int .i64 x.f2, .int .u32 x.f3, .int .u16 x.f4, .int .i64 x.f5, .int .i64 x.f6, .int .i64 x.f7, .int .u64 x.f8, .int .u64 x.f9, .slice A L c] : Array Value).toList)) (fun k => k = b2) := (Kx.refl w5 (fun k => k = b2)).row b2 (.inl rfl) _
  have hq6 := HQ5.out.kx hk6 (fun k e => .inr e) (fun k hs e => HNB.out (e ▸ hs))
  refine ⟨A, c, by rw [HL.out]; rfl, ?_, hq6.reX (fun k _ hx => .inl hx) (fun k hx => ?_), (HK.out.trans HK5.out (fun k hk => .inl hk)).row b2 (.inr (by have h_ := HB2.out; omega)) _⟩
  · rw [HL.out]
    exact Foot.mono (Foot.step HF.out (fun k hk _ => setRow_other w5 b2 k _ (fun e => hk.2 (.inr e)))) (fun k hk => ⟨hk.1, fun hx => hk.2 (.inl hx)⟩)
  · exact hq6.xs k (.inl hx)
end
end Go.Proofs.Ytimgfdkndlbfbaa.HCq
