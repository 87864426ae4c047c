/- cq: the rings' state; put, take, room of a state. Conditions: each theorem's own. -/
import Derived.Test.YtimgfdkndlbfbaaHCq
import Derived.Test.YtimgfdkndlbfbaaHClone
namespace Go.Proofs.Ytimgfdkndlbfbaa.HCq
open Go.RowKit Go.Proofs.YtimgfdkndlbfbaaW.PrintWords Go.Proofs.YtimgfdkndlbfbaaW.PrintLast Go.Proofs.YtimgfdkndlbfbaaW.PrintMore Go.Proofs.Ytimgfdkndlbfbaa.PCq Go.Proofs.Ytimgfdkndlbfbaa.HRng Go.Proofs.Ytimgfdkndlbfbaa.HReg
set_option linter.unusedVariables false
set_option linter.unusedSimpArgs false
set_option linter.unusedSectionVars false
theorem results_tmp4 {fn : Func} {t u v x : Tmp} (h : fn.results = #[.tmp t, .tmp u, .tmp v, .tmp x]) (tmps : Array Value) (P : Program) (w : World) :
    (results fn tmps).run P w = .ok (.tuple #[tmps.getD t undef, tmps.getD u undef, tmps.getD v undef, tmps.getD x undef]) w := by
  simp [results, h, Result.andThen]
/-- What rings hold. -/
structure CS where
  E : Nat
  D : Nat
  qf : Nat
  cf : Nat
  q : List S37
  c : List S43
  ov : List S43
  k0 : Int
  k1 : Int
  k2 : Int
  k3 : Int
/-- The rings' own blocks. -/
def Sx (rb eb db : Nat) (ovv : Value) (k : Nat) : Prop := k = rb ∨ k = eb ∨ k = db ∨ some k = ovv.ownBlock
/-- Where what is held may lie: in none of the rings' blocks, in none of X. -/
def okc (rb eb db : Nat) (ovv : Value) (X : Nat → Prop) (k : Nat) : Prop := ¬ Sx rb eb db ovv k ∧ ¬ X k
def okn (rb eb db : Nat) (X : Nat → Prop) (k : Nat) : Prop := k ≠ rb ∧ k ≠ eb ∧ k ≠ db ∧ ¬ X k
theorem okc_n {rb eb db : Nat} {ovv : Value} {X : Nat → Prop} {k : Nat} (h : okc rb eb db ovv X k) : okn rb eb db X k ∧ some k ≠ ovv.ownBlock :=
  ⟨⟨fun e => h.1 (.inl e), fun e => h.1 (.inr (.inl e)), fun e => h.1 (.inr (.inr (.inl e))), h.2⟩, fun e => h.1 (.inr (.inr (.inr e)))⟩
theorem okc_of {rb eb db : Nat} {ovv : Value} {X : Nat → Prop} {k : Nat} (h : okn rb eb db X k) (h2 : some k ≠ ovv.ownBlock) : okc rb eb db ovv X k :=
  ⟨fun e => e.elim h.1 (fun e => e.elim h.2.1 (fun e => e.elim h.2.2.1 h2)), h.2.2.2⟩
def cellsR (eb db : Nat) (ovv : Value) (s : CS) : Array Value := #[.slice (some ⟨eb, 0, none⟩) s.E s.E, .int .i64 s.qf, .int .i64 s.q.length, .slice (some ⟨db, 0, none⟩) s.D s.D, .int .i64 s.cf, .int .i64 s.c.length, ovv, .int .i64 s.k0, .int .i64 s.k1, .int .i64 s.k2, .int .i64 s.k3]
structure Cq (X : Nat → Prop) (B : Nat) (w : World) (rb eb db : Nat) (ovv : Value) (s : CS) : Prop where
  blk : w.heap[rb]? = some (.cells (cellsR eb db ovv s) 147 (0, 0))
  q : Rng k37 37 w (okc rb eb db ovv X) eb s.E s.qf s.q
  c : Rng k43 43 w (okc rb eb db ovv X) db s.D s.cf s.c
  ov : Kd.N k43 43 w B (okn rb eb db X) ovv s.ov
  e1 : s.E ≤ 1024
  d1 : s.D ≤ 1024
  lo : B ≤ rb ∧ B ≤ eb ∧ B ≤ db
  xs : ∀ k, X k → k < w.heap.size
section
variable {X : Nat → Prop} {B : Nat} {w w' : World} {rb eb db : Nat} {ovv : Value} {s : CS}
theorem Cq.lt (h : Cq X B w rb eb db ovv s) : rb < w.heap.size ∧ eb < w.heap.size ∧ db < w.heap.size := ⟨blk_lt h.blk, h.q.lt, h.c.lt⟩
theorem Cq.ne (h : Cq X B w rb eb db ovv s) : rb ≠ eb ∧ rb ≠ db ∧ eb ≠ db := by
  obtain ⟨c1, h1, -⟩ := h.q.blk
  obtain ⟨c2, h2, -⟩ := h.c.blk
  exact ⟨blk_ne h.blk h1 (by decide), blk_ne h.blk h2 (by decide), blk_ne h1 h2 (by decide)⟩
theorem Cq.own (h : Cq X B w rb eb db ovv s) : some rb ≠ ovv.ownBlock ∧ some eb ≠ ovv.ownBlock ∧ some db ≠ ovv.ownBlock :=
  ⟨fun e => (h.ov.1 rb e.symm).1 rfl, fun e => (h.ov.1 eb e.symm).2.1 rfl, fun e => (h.ov.1 db e.symm).2.2.1 rfl⟩
theorem Cq.below (h : Cq X B w rb eb db ovv s) (hb : Below w.heap.size w w') : Cq X B w' rb eb db ovv s :=
  ⟨blk_below h.blk hb, h.q.below hb, h.c.below hb, Kd.N_below h.ov hb, h.e1, h.d1, h.lo, fun k hk => Nat.lt_of_lt_of_le (h.xs k hk) hb.size⟩
/-- Other blocks are called apart. -/
theorem Cq.reX {Y : Nat → Prop} (h : Cq X B w rb eb db ovv s) (hY : ∀ k, k < w.heap.size → Y k → X k) (hlt : ∀ k, Y k → k < w.heap.size) : Cq Y B w rb eb db ovv s :=
  ⟨h.blk, h.q.mono (fun k hk hl => ⟨hk.1, fun hy => hk.2 (hY k hl hy)⟩), h.c.mono (fun k hk hl => ⟨hk.1, fun hy => hk.2 (hY k hl hy)⟩), Kd.N_mono (Kd.N_bound h.ov) (fun k hk => ⟨hk.1.1, hk.1.2.1, hk.1.2.2.1, fun hy => hk.1.2.2.2 (hY k hk.2 hy)⟩), h.e1, h.d1, h.lo, hlt⟩
/-- Blocks of X alone, and new ones, are written. -/
theorem Cq.kx {T : Nat → Prop} (h : Cq X B w rb eb db ovv s) (hk : Kx w w' T) (hT : ∀ k, T k → X k) (hS : ∀ k, Sx rb eb db ovv k → ¬ T k) : Cq X B w' rb eb db ovv s := by
  have hlt := h.lt
  refine ⟨(hk.old rb hlt.1 (hS rb (.inl rfl))).trans h.blk, h.q.step (hk.old eb hlt.2.1 (hS eb (.inr (.inl rfl)))) (fun k ho hl => hk.old k hl (fun e => ho.2 (hT k e))), h.c.step (hk.old db hlt.2.2 (hS db (.inr (.inr (.inl rfl))))) (fun k ho hl => hk.old k hl (fun e => ho.2 (hT k e))), ?_, h.e1, h.d1, h.lo, fun k hx => Nat.lt_of_lt_of_le (h.xs k hx) hk.size⟩
  exact Kd.N_step h.ov (fun k ho hl => hk.old k hl (fun e => ho.2.2.2 (hT k e)))
theorem Cq.c0 (h : Cq X B w rb eb db ovv s) : w.cell? ⟨rb, 0, none⟩ = some (.slice (some ⟨eb, 0, none⟩) s.E s.E) := (blk_cell h.blk 0).trans rfl
theorem Cq.c1 (h : Cq X B w rb eb db ovv s) : w.cell? ⟨rb, 1, none⟩ = some (.int .i64 (s.qf : Int)) := (blk_cell h.blk 1).trans rfl
theorem Cq.c2 (h : Cq X B w rb eb db ovv s) : w.cell? ⟨rb, 2, none⟩ = some (.int .i64 (s.q.length : Int)) := (blk_cell h.blk 2).trans rfl
theorem Cq.c3 (h : Cq X B w rb eb db ovv s) : w.cell? ⟨rb, 3, none⟩ = some (.slice (some ⟨db, 0, none⟩) s.D s.D) := (blk_cell h.blk 3).trans rfl
theorem Cq.c4 (h : Cq X B w rb eb db ovv s) : w.cell? ⟨rb, 4, none⟩ = some (.int .i64 (s.cf : Int)) := (blk_cell h.blk 4).trans rfl
theorem Cq.c5 (h : Cq X B w rb eb db ovv s) : w.cell? ⟨rb, 5, none⟩ = some (.int .i64 (s.c.length : Int)) := (blk_cell h.blk 5).trans rfl
theorem Cq.c6 (h : Cq X B w rb eb db ovv s) : w.cell? ⟨rb, 6, none⟩ = some (ovv) := (blk_cell h.blk 6).trans rfl
theorem Cq.c7 (h : Cq X B w rb eb db ovv s) : w.cell? ⟨rb, 7, none⟩ = some (.int .i64 s.k0) := (blk_cell h.blk 7).trans rfl
theorem Cq.c8 (h : Cq X B w rb eb db ovv s) : w.cell? ⟨rb, 8, none⟩ = some (.int .i64 s.k1) := (blk_cell h.blk 8).trans rfl
theorem Cq.c9 (h : Cq X B w rb eb db ovv s) : w.cell? ⟨rb, 9, none⟩ = some (.int .i64 s.k2) := (blk_cell h.blk 9).trans rfl
theorem Cq.c10 (h : Cq X B w rb eb db ovv s) : w.cell? ⟨rb, 10, none⟩ = some (.int .i64 s.k3) := (blk_cell h.blk 10).trans rfl
theorem okc_fresh (h : Cq X B w rb eb db ovv s) (k : Nat) (hk : w.heap.size ≤ k) : okc rb eb db ovv X k := by
  have hlt := h.lt
  refine ⟨fun e => ?_, fun hx => by have := h.xs k hx; omega⟩
  obtain rfl | rfl | rfl | e := e
  · omega
  · omega
  · omega
  · have := Kd.N_lt h.ov k e.symm; omega
set_option maxRecDepth 100000 in
set_option maxHeartbeats 8000000 in
theorem Cq.put37 (h : Cq X B w rb eb db ovv s) (hlt : s.q.length < s.E) (x : S37) (A : Option Addr) (c : Nat) (hx : Kd.FK k37 w (okc rb eb db ovv X) x [.int .u8 x.f0, .int .u8 x.f1, .int .i64 x.f2, .int .u32 x.f3, .int .u16 x.f4, .int .i64 x.f5, .int .i64 x.f6, .int .i64 x.f7, .int .u64 x.f8, .int .u64 x.f9, .slice A x.f10.length c]) :
    Calls Try.prog 75 #[.pointer (some ⟨rb, 0, none⟩), .agg #[.int .u8 x.f0, .int .u8 x.f1, .int .i64 x.f2, .int .u32 x.f3, .int .u16 x.f4, .int .i64 x.f5, .int .i64 x.f6, .int .i64 x.f7, .int .u64 x.f8, .int .u64 x.f9, .slice A x.f10.length c]] w fun e w' => e = .returned (.tuple #[]) ∧ Cq X B w' rb eb db ovv { s with q := s.q ++ [x] } ∧ Kx w w' (Sx rb eb db ovv) := by
  have hne := h.ne
  have hl := h.lt
  have how := h.own
  refine (put37_calls rb eb s.E s.qf s.q.length (cellsR eb db ovv s) s.q (okc rb eb db ovv X) w h.blk rfl rfl rfl h.q rfl hlt h.e1 (fun k hk => ⟨fun e => hk.1 (e ▸ (.inr (.inl rfl))), fun e => hk.1 (.inl e)⟩) x A c hx).mono ?_
  rintro e w' ⟨rfl, hb, hR, hK⟩
  have hmv : ∀ k, okc rb eb db ovv X k → k < w.heap.size → w'.heap[k]? = w.heap[k]? := fun k hk hlt => hK.old k hlt (fun e => e.elim (fun e => hk.1 (.inl e)) (fun e => hk.1 (e ▸ (.inr (.inl rfl)))))
  refine ⟨rfl, ⟨?_, ?_, ?_, ?_, h.e1, h.d1, h.lo, fun k hk => Nat.lt_of_lt_of_le (h.xs k hk) hK.size⟩, hK.mono (fun k _ hk => hk.elim .inl (fun e => e ▸ (.inr (.inl rfl))))⟩
  · rw [hb]
    unfold cellsR
    simp
  · exact hR
  · exact h.c.step (hK.old db hl.2.2 (fun e => e.elim (fun e => hne.2.1 e.symm) (fun e => hne.2.2 e.symm))) hmv
  · exact Kd.N_step h.ov (fun k hk hlt => hK.old k hlt (fun e => e.elim hk.1 (fun e => hk.2.1 e)))
set_option maxRecDepth 100000 in
set_option maxHeartbeats 8000000 in
theorem Cq.take37 (h : Cq X B w rb eb db ovv s) (x : S37) (r : List S37) (hq : s.q = x :: r) :
    Calls Try.prog 76 #[.pointer (some ⟨rb, 0, none⟩)] w fun e w' => ∃ (A : Option Addr) (c : Nat), e = .returned (.agg #[.int .u8 x.f0, .int .u8 x.f1, .int .i64 x.f2, .int .u32 x.f3, .int .u16 x.f4, .int .i64 x.f5, .int .i64 x.f6, .int .i64 x.f7, .int .u64 x.f8, .int .u64 x.f9, .slice A x.f10.length c]) ∧ Kd.FK k37 w' (okc rb eb db ovv X) x [.int .u8 x.f0, .int .u8 x.f1, .int .i64 x.f2, .int .u32 x.f3, .int .u16 x.f4, .int .i64 x.f5, .int .i64 x.f6, .int .i64 x.f7, .int .u64 x.f8, .int .u64 x.f9, .slice A x.f10.length c] ∧ Cq X B w' rb eb db ovv { s with q := r, qf := (s.qf + 1) % s.E } ∧ Kx w w' (Sx rb eb db ovv) := by
  have hne := h.ne
  have hl := h.lt
  have how := h.own
  have hR0 := h.q
  rw [hq] at hR0
  refine (take37_calls rb eb s.E s.qf r.length (cellsR eb db ovv s) x r (okc rb eb db ovv X) w h.blk rfl rfl (by show some (Value.int .i64 (s.q.length : Int)) = _; rw [hq]; simp) hR0 rfl h.e1 (fun k hk => ⟨fun e => hk.1 (e ▸ (.inr (.inl rfl))), fun e => hk.1 (.inl e)⟩)).mono ?_
  rintro e w' ⟨A, c, rfl, hx, hb, hR, hK⟩
  have hmv : ∀ k, okc rb eb db ovv X k → k < w.heap.size → w'.heap[k]? = w.heap[k]? := fun k hk hlt => hK.old k hlt (fun e => e.elim (fun e => hk.1 (.inl e)) (fun e => hk.1 (e ▸ (.inr (.inl rfl)))))
  refine ⟨A, c, rfl, Foot.mono hx (fun k hk => hk.1), ⟨?_, ?_, ?_, ?_, h.e1, h.d1, h.lo, fun k hk => Nat.lt_of_lt_of_le (h.xs k hk) hK.size⟩, hK.mono (fun k _ hk => hk.elim .inl (fun e => e ▸ (.inr (.inl rfl))))⟩
  · rw [hb]
    unfold cellsR
    simp
  · exact hR.mono (fun k hk _ => hk.1)
  · exact h.c.step (hK.old db hl.2.2 (fun e => e.elim (fun e => hne.2.1 e.symm) (fun e => hne.2.2 e.symm))) hmv
  · exact Kd.N_step h.ov (fun k hk hlt => hK.old k hlt (fun e => e.elim hk.1 (fun e => hk.2.1 e)))
set_option maxRecDepth 100000 in
set_option maxHeartbeats 8000000 in
theorem Cq.room37 (h : Cq X B w rb eb db ovv s) : Calls Try.prog 73 #[.pointer (some ⟨rb, 0, none⟩)] w fun e w' => e = .returned (.int .i64 ((s.E : Int) - (s.q.length : Int))) ∧ Below w.heap.size w w' := by
  have hle := h.q.len
  have hE := h.e1
  have w1 : IntKind.i64.wrap ((s.E : Int) - (s.q.length : Int)) = (s.E : Int) - (s.q.length : Int) := wid _ (by omega) (by omega)
  have r0 := h.c0
  have r2 := h.c2
  have HB := Aside0.mk (Below.refl w.heap.size w)
  generalize s.q.length = m at w1 r2 ⊢
  generalize s.E = L at w1 r0 ⊢
  clear h hle hE
  go_enter Try.func73, Try.ntmps73
  go_upto_region 1 with (fail)
  go_quiet (fail)
  go_wp2
  go_ret
  exact ⟨rfl, pw_below_drewN (Below.refl _ _) _⟩
set_option maxRecDepth 100000 in
set_option maxHeartbeats 8000000 in
theorem Cq.put43 (h : Cq X B w rb eb db ovv s) (hlt : s.c.length < s.D) (x : S43) (A : Option Addr) (c : Nat) (hx : Kd.FK k43 w (okc rb eb db ovv X) x [.int .u64 x.f0, .int .i64 x.f1, .int .u8 x.f2, .int .i64 x.f3, .slice A x.f4.length c]) :
    Calls Try.prog 97 #[.pointer (some ⟨rb, 3, none⟩), .agg #[.int .u64 x.f0, .int .i64 x.f1, .int .u8 x.f2, .int .i64 x.f3, .slice A x.f4.length c]] w fun e w' => e = .returned (.tuple #[]) ∧ Cq X B w' rb eb db ovv { s with c := s.c ++ [x] } ∧ Kx w w' (Sx rb eb db ovv) := by
  have hne := h.ne
  have hl := h.lt
  have how := h.own
  refine (put43_calls rb db s.D s.cf s.c.length (cellsR eb db ovv s) s.c (okc rb eb db ovv X) w h.blk rfl rfl rfl h.c rfl hlt h.d1 (fun k hk => ⟨fun e => hk.1 (e ▸ (.inr (.inr (.inl rfl)))), fun e => hk.1 (.inl e)⟩) x A c hx).mono ?_
  rintro e w' ⟨rfl, hb, hR, hK⟩
  have hmv : ∀ k, okc rb eb db ovv X k → k < w.heap.size → w'.heap[k]? = w.heap[k]? := fun k hk hlt => hK.old k hlt (fun e => e.elim (fun e => hk.1 (.inl e)) (fun e => hk.1 (e ▸ (.inr (.inr (.inl rfl))))))
  refine ⟨rfl, ⟨?_, ?_, ?_, ?_, h.e1, h.d1, h.lo, fun k hk => Nat.lt_of_lt_of_le (h.xs k hk) hK.size⟩, hK.mono (fun k _ hk => hk.elim .inl (fun e => e ▸ (.inr (.inr (.inl rfl)))))⟩
  · rw [hb]
    unfold cellsR
    simp
  · exact h.q.step (hK.old eb hl.2.1 (fun e => e.elim (fun e => hne.1 e.symm) hne.2.2)) hmv
  · exact hR
  · exact Kd.N_step h.ov (fun k hk hlt => hK.old k hlt (fun e => e.elim hk.1 (fun e => hk.2.2.1 e)))
set_option maxRecDepth 100000 in
set_option maxHeartbeats 8000000 in
theorem Cq.take43 (h : Cq X B w rb eb db ovv s) (x : S43) (r : List S43) (hq : s.c = x :: r) :
    Calls Try.prog 78 #[.pointer (some ⟨rb, 3, none⟩)] w fun e w' => ∃ (A : Option Addr) (c : Nat), e = .returned (.agg #[.int .u64 x.f0, .int .i64 x.f1, .int .u8 x.f2, .int .i64 x.f3, .slice A x.f4.length c]) ∧ Kd.FK k43 w' (okc rb eb db ovv X) x [.int .u64 x.f0, .int .i64 x.f1, .int .u8 x.f2, .int .i64 x.f3, .slice A x.f4.length c] ∧ Cq X B w' rb eb db ovv { s with c := r, cf := (s.cf + 1) % s.D } ∧ Kx w w' (Sx rb eb db ovv) := by
  have hne := h.ne
  have hl := h.lt
  have how := h.own
  have hR0 := h.c
  rw [hq] at hR0
  refine (take43_calls rb db s.D s.cf r.length (cellsR eb db ovv s) x r (okc rb eb db ovv X) w h.blk rfl rfl (by show some (Value.int .i64 (s.c.length : Int)) = _; rw [hq]; simp) hR0 rfl h.d1 (fun k hk => ⟨fun e => hk.1 (e ▸ (.inr (.inr (.inl rfl)))), fun e => hk.1 (.inl e)⟩)).mono ?_
  rintro e w' ⟨A, c, rfl, hx, hb, hR, hK⟩
  have hmv : ∀ k, okc rb eb db ovv X k → k < w.heap.size → w'.heap[k]? = w.heap[k]? := fun k hk hlt => hK.old k hlt (fun e => e.elim (fun e => hk.1 (.inl e)) (fun e => hk.1 (e ▸ (.inr (.inr (.inl rfl))))))
  refine ⟨A, c, rfl, Foot.mono hx (fun k hk => hk.1), ⟨?_, ?_, ?_, ?_, h.e1, h.d1, h.lo, fun k hk => Nat.lt_of_lt_of_le (h.xs k hk) hK.size⟩, hK.mono (fun k _ hk => hk.elim .inl (fun e => e ▸ (.inr (.inr (.inl rfl)))))⟩
  · rw [hb]
    unfold cellsR
    simp
  · exact h.q.step (hK.old eb hl.2.1 (fun e => e.elim (fun e => hne.1 e.symm) hne.2.2)) hmv
  · exact hR.mono (fun k hk _ => hk.1)
  · exact Kd.N_step h.ov (fun k hk hlt => hK.old k hlt (fun e => e.elim hk.1 (fun e => hk.2.2.1 e)))
set_option maxRecDepth 100000 in
set_option maxHeartbeats 8000000 in
theorem Cq.room43 (h : Cq X B w rb eb db ovv s) : Calls Try.prog 96 #[.pointer (some ⟨rb, 3, none⟩)] w fun e w' => e = .returned (.int .i64 ((s.D : Int) - (s.c.length : Int))) ∧ Below w.heap.size w w' := by
  have hle := h.c.len
  have hE := h.d1
  have w1 : IntKind.i64.wrap ((s.D : Int) - (s.c.length : Int)) = (s.D : Int) - (s.c.length : Int) := wid _ (by omega) (by omega)
  have r0 := h.c3
  have r2 := h.c5
  have HB := Aside0.mk (Below.refl w.heap.size w)
  generalize s.c.length = m at w1 r2 ⊢
  generalize s.D = L at w1 r0 ⊢
  clear h hle hE
  go_enter Try.func96, Try.ntmps96
  go_upto_region 1 with (fail)
  go_quiet (fail)
  go_wp2
  go_ret
  exact ⟨rfl, pw_below_drewN (Below.refl _ _) _⟩
set_option maxRecDepth 100000 in
set_option maxHeartbeats 8000000 in
theorem Cq.waiting (h : Cq X B w rb eb db ovv s) : Calls Try.prog 26 #[.pointer (some ⟨rb, 0, none⟩)] w fun e w' => e = .returned (.tuple #[.int .i64 (s.q.length : Int), .int .i64 (s.c.length : Int), .int .i64 (s.ov.length : Int)]) ∧ Below w.heap.size w w' := by
  obtain ⟨A, c, hv⟩ := Kd.N_slice h.ov
  have r2 := h.c2
  have r5 := h.c5
  have r6 := h.c6
  rw [hv] at r6
  generalize s.q.length = m1 at r2 ⊢
  generalize s.c.length = m2 at r5 ⊢
  generalize s.ov.length = m3 at r6 ⊢
  clear h hv
  go_enter Try.func26, Try.ntmps26
  go_upto_region 3 with (fail)
  go_quiet (fail)
  go_wp2
  go_ret3
  exact ⟨rfl, pw_below_drewN (Below.refl _ _) _⟩
theorem Cq.counts (h : Cq X B w rb eb db ovv s) : Calls Try.prog 27 #[.pointer (some ⟨rb, 0, none⟩)] w fun e w' => e = .returned (.tuple #[.int .i64 s.k0, .int .i64 s.k1, .int .i64 s.k2, .int .i64 s.k3]) ∧ Below w.heap.size w w' := by
  have r7 := h.c7
  have r8 := h.c8
  have r9 := h.c9
  have r10 := h.c10
  clear h
  go_enter Try.func27, Try.ntmps27
  go_upto_region 3 with (fail)
  go_quiet (fail)
  go_wp2
  (try simp only [Exit.inBlock, Exit.then])
  refine bodyPost_ret (results_tmp4 rfl _ _ _) rfl ?_
  exact ⟨rfl, pw_below_drewN (Below.refl _ _) _⟩
end
end Go.Proofs.Ytimgfdkndlbfbaa.HCq
