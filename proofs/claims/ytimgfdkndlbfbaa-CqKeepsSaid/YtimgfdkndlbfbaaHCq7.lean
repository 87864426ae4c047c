/- cq: Reap. Conditions: each theorem's own. -/
import Derived.Test.YtimgfdkndlbfbaaHCq6
namespace Go.Proofs.Ytimgfdkndlbfbaa.HCq
open Go.RowKit Go.Proofs.YtimgfdkndlbfbaaW.PrintWords Go.Proofs.YtimgfdkndlbfbaaW.PrintLast Go.Proofs.YtimgfdkndlbfbaaW.PrintMore Go.Proofs.Ytimgfdkndlbfbaa.PCq Go.Proofs.Ytimgfdkndlbfbaa.HRng Go.Proofs.Ytimgfdkndlbfbaa.HReg
set_option linter.unusedVariables false
set_option linter.unusedSimpArgs false
set_option linter.unusedSectionVars false
section
variable {X : Nat → Prop} {B : Nat} {w w' : World} {rb eb db : Nat} {ovv : Value} {s : CS}
/-- Some blocks of X were written; others are called apart from now on. -/
theorem Cq.kxm {T Z : Nat → Prop} (h : Cq X B w rb eb db ovv s) (hk : Kx w w' T) (hT : ∀ k, T k → X k) (hS : ∀ k, Sx rb eb db ovv k → ¬ T k) (hZ : ∀ k, k < w.heap.size → Z k → X k) (hlt : ∀ k, Z k → k < w'.heap.size) : Cq Z B w' rb eb db ovv s := by
  have hl := h.lt
  refine ⟨(hk.old rb hl.1 (hS rb (.inl rfl))).trans h.blk, ?_, ?_, ?_, h.e1, h.d1, h.lo, hlt⟩
  · exact ((h.q.mono (ok' := fun k => okc rb eb db ovv X k ∧ k < w.heap.size) (fun k a b => ⟨a, b⟩)).step (hk.old eb hl.2.1 (hS eb (.inr (.inl rfl)))) (fun k ho hl => hk.old k hl (fun e => ho.1.2 (hT k e)))).mono (fun k hk _ => ⟨hk.1.1, fun hy => hk.1.2 (hZ k hk.2 hy)⟩)
  · exact ((h.c.mono (ok' := fun k => okc rb eb db ovv X k ∧ k < w.heap.size) (fun k a b => ⟨a, b⟩)).step (hk.old db hl.2.2 (hS db (.inr (.inr (.inl rfl))))) (fun k ho hl => hk.old k hl (fun e => ho.1.2 (hT k e)))).mono (fun k hk _ => ⟨hk.1.1, fun hy => hk.1.2 (hZ k hk.2 hy)⟩)
  · exact Kd.N_mono (Kd.N_step (Kd.N_bound h.ov) (fun k ho hl => hk.old k hl (fun e => ho.1.2.2.2 (hT k e)))) (fun k hk => ⟨hk.1.1, hk.1.2.1, hk.1.2.2.1, fun hy => hk.1.2.2.2 (hZ k hk.2 hy)⟩)
end
/-- Others apart: X, and a row's own block. -/
def Yx (X : Nat → Prop) (v : Value) (k : Nat) : Prop := X k ∨ some k = v.ownBlock
section
variable {X : Nat → Prop} {B : Nat} {w : World} {rb eb db : Nat} {ovv : Value} {s : CS}
theorem nil_own (k : Nat) : ¬ (some k = (Value.slice none 0 0).ownBlock) := fun e => by simp [Value.ownBlock] at e
set_option maxRecDepth 100000 in
set_option maxHeartbeats 8000000 in
theorem Cq.reap (h : Cq X B w rb eb db ovv s) (n : Int) (hl : s.ov.length ≤ 1000000) (hBw : B ≤ w.heap.size) (cnt : Nat) (hcnt : (cnt : Int) = min (max n 0) s.c.length) : Calls Try.prog 18 #[.pointer (some ⟨rb, 0, none⟩), .int .i64 n] w fun e w' => ∃ vo v, e = .returned vo ∧ Kd.N k43 43 w' w.heap.size (okc rb eb db v X) vo (s.c.take cnt) ∧
    Cq X B w' rb eb db v (shS { s with c := s.c.drop cnt, cf := (s.cf + cnt) % s.D, k3 := wrap64 (s.k3 + cnt) }) ∧ Mv w w' rb eb db ovv v := by
  have hle := h.c.len
  have hd1 := h.d1
  have r5 := h.c5
  obtain ⟨mx, hmx⟩ : ∃ mx, max n 0 = mx := ⟨_, rfl⟩
  rw [hmx] at hcnt
  have e1 : ∀ W : World, (Builtin.max_ #[3, 3] 3 #[.int .i64 n, .int .i64 0]).run Try.prog W = .ok (.int .i64 mx) W := by
    intro W
    rw [run_max_int2]
    all_goals (congr 2 <;> ((repeat' split) <;> omega))
  obtain ⟨cl, hcl⟩ : ∃ cl, s.c.length = cl := ⟨_, rfl⟩
  rw [hcl] at hcnt r5 hle
  have e2 : ∀ W : World, (Builtin.min_ #[3, 3] 3 #[.int .i64 mx, .int .i64 (cl : Int)]).run Try.prog W = .ok (.int .i64 (cnt : Int)) W := by
    intro W
    rw [run_min_int2]
    all_goals (congr 2 <;> ((repeat' split) <;> omega))
  have HH := Aside0.mk (And.intro (show cnt ≤ cl by omega) (And.intro hcl (And.intro hle (And.intro hd1 (And.intro hl hBw)))))
  have HQ := Aside0.mk h
  clear h hle hd1 hcnt hmx hcl hl hBw
  go_enter Try.func18, Try.ntmps18
  go_wp2
  clear r5 e1 e2
  go_loopw [5, 16] (fun ov iv wr => ∃ (i : Nat) (A : Option Addr) (co : Nat), iv = .int .i64 i ∧ ov = .slice A i co ∧ Aside0 (i ≤ cnt ∧ Cq (Yx X (.slice A i co)) B wr rb eb db ovv { s with c := s.c.drop i, cf := (s.cf + i) % s.D } ∧ Kd.N k43 43 wr w.heap.size (okc rb eb db ovv X) (.slice A i co) (s.c.take i) ∧ Kx w wr (Sx rb eb db ovv))) (fun _ iv _ => cnt - num iv)
  case atStart =>
    refine ⟨0, none, 0, rfl, rfl, ⟨Nat.zero_le _, ?_, Kd.N_nil _ _ _ _ _, Kx.refl _ _⟩⟩
    have h_ := HQ.out
    have hm : (s.cf + 0) % s.D = s.cf := by rw [Nat.add_zero]; exact Nat.mod_eq_of_lt h_.c.len.2
    rw [hm, List.drop_zero]
    exact h_.reX (fun k _ hy => hy.elim id (fun e => (nil_own k e).elim)) (fun k hy => hy.elim (h_.xs k) (fun e => (nil_own k e).elim))
  case round =>
    obtain ⟨i, A, co, rfl, rfl, ⟨hi, hQ, hN, hK⟩⟩ := hrel
    have hH := HH.out
    have w1_ : IntKind.i64.wrap ((i : Int) + 1) = (i : Int) + 1 := wid _ (by omega) (by omega)
    by_cases hlt : i < cnt
    · have b0 : decide ((i : Int) < (cnt : Int)) = true := decide_eq_true (by omega)
      have b1 : decide (i < cnt) = true := decide_eq_true hlt
      have hd : s.c.drop i = s.c[i]'(by omega) :: s.c.drop (i + 1) := List.drop_eq_getElem_cons (by omega)
      obtain ⟨x, hx⟩ : ∃ x, s.c[i]'(by omega) = x := ⟨_, rfl⟩
      rw [hx] at hd
      have hx2 : s.c[i]? = some x := by rw [List.getElem?_eq_getElem (by omega), hx]
      have HTK := Aside0.mk (hQ.take43 x (s.c.drop (i + 1)) hd)
      have HX := Aside0.mk hx2
      have HI := Aside0.mk (And.intro hlt hi)
      have HQ2 := Aside0.mk hQ
      have HN := Aside0.mk hN
      have HK := Aside0.mk hK
      have HTL := Aside0.mk (show (s.c.take i ++ [x]).length = i + 1 by rw [List.length_append, List.length_take]; simp; omega)
      have HTB := Aside0.mk (show ((s.c.take i).length + 1) * 56 ≤ 140737488355328 by rw [List.length_take]; omega)
      clear hi hQ hN hK hH hlt hd hx hx2
      go_wp2_with (first | (go_at_call 78; (with_reducible refine HTK.out.mono ?_); rintro e5 w5 ⟨A4, c4, rfl, hF, hQ5, hK5⟩; have HF := Aside0.mk hF; have HQ5 := Aside0.mk hQ5; have HK5 := Aside0.mk (HK.out.trans hK5 (fun k hk => .inl hk)); have HN5 := Aside0.mk (Kd.N_step HN.out (fun k ho hl => hK5.old k hl ho.1)); clear hF hQ5 hK5; generalize hL : x.f4.length = L at HF ⊢; have HL := Aside0.mk hL; clear hL; dsimp only) | ((with_reducible refine gate_builtin (b := .append) (xs := #[.tmp 18, .tmp 23]) rfl ?_); at_builtin; refine Kd.N_append k43 (w0 := w5) w.heap.size rfl (.tmp 18) (.tmp 23) 30 43 (.agg #[.int .u64 0, .int .i64 0, .int .u8 0, .int .i64 0, .slice none 0 0]) 56 rfl Try.underlying30 full43 rfl (by decide) (by decide) (.slice A i co) (s.c.take i) x [.int .u64 x.f0, .int .i64 x.f1, .int .u8 x.f2, .int .i64 x.f3, .slice A4 L c4] (okc rb eb db ovv X) (okc rb eb db ovv (Yx X (.slice A i co))) rfl rfl HF.out (fun k hk => ⟨⟨hk.1, fun hx => hk.2 (.inl hx)⟩, fun e => hk.2 (.inr e)⟩) (fun k hk => ⟨(okc_fresh HQ5.out k hk).1, fun hx => (okc_fresh HQ5.out k hk).2 (.inl hx)⟩) HN5.out (Below.refl _ _) HK5.out.size HTB.out ?_; intro v6 w6 hN6 hB6 hG6 hA6; obtain ⟨A6, c6, e6⟩ := Kd.N_slice hN6; rw [HTL.out] at e6; subst e6; have HN6 := Aside0.mk hN6; have HG6 := Aside0.mk hG6; have HA6 := Aside0.mk hA6; clear hN6 hB6 hG6 hA6; dsimp only))
      go_roundw
      case rel =>
        have hn5 := HN5.out
        have ha6 := HA6.out
        have hn6 := HN6.out
        have hkT : Kx w5 w6 (fun k => some k = (Value.slice A i co).ownBlock) := ⟨HG6.out.os, HG6.out.tape, HG6.out.output, HG6.out.size, fun k hk hn => HG6.out.block k hk hn⟩
        refine ⟨i + 1, A6, c6, by go_num, rfl, ⟨HI.out.1, ?_, ?_, HK5.out.trans hkT (fun k e => .inr (Kd.N_base hn5 k e.symm))⟩⟩
        · have h6 := HQ5.out.kxm (Z := Yx X (.slice A6 (i + 1) c6)) hkT (fun k e => .inr e) (fun k hs e => (hn5.1 k e.symm).1 hs) (fun k hk hz => hz.elim .inl (fun e => by
            rcases ha6 with e2 | ⟨b, e2, hb⟩
            · exact .inr (e.trans e2)
            · rw [e2] at e
              injection e with e
              omega)) (fun k hz => hz.elim (fun hx => Nat.lt_of_lt_of_le (HQ5.out.xs k (.inl hx)) HG6.out.size) (fun e => Kd.N_lt hn6 k e.symm))
          have hm : ((s.cf + i) % s.D + 1) % s.D = (s.cf + (i + 1)) % s.D := by rw [Nat.mod_add_mod, Nat.add_assoc]
          simp only [hm] at h6
          exact h6
        · rw [List.take_add_one, HX.out]
          exact hn6
      case measure => simp only [num]; have := HI.out; omega
    · obtain rfl : i = cnt := by omega
      have b0 : decide ((i : Int) < (i : Int)) = false := decide_eq_false (by omega)
      have b1 : decide (i < i) = false := decide_eq_false (by omega)
      have r10 := hQ.c10
      simp only at r10
      have fz := blk_frozen hQ.blk 10
      have wk := wr64 (s.k3 + (i : Int))
      have HQ2 := Aside0.mk hQ
      have HN := Aside0.mk hN
      have HK := Aside0.mk hK
      have HLL := Aside0.mk (And.intro hH.2.2.2.2.1 (Nat.le_trans hH.2.2.2.2.2 hK.size))
      clear hQ hN hK hH hi hlt
      go_upto_region 9 with (fail)
      have HQ3 := Aside0.mk (HQ2.out.setK3 (wrap64 (s.k3 + (i : Int))))
      have HK3 := Aside0.mk (HK.out.set ⟨rb, 10, none⟩ (.inl (.inl rfl)) (.int .i64 (wrap64 (s.k3 + (i : Int)))))
      have HN3 := Aside0.mk (Kd.N_step HN.out (w1 := wr.setCell ⟨rb, 10, none⟩ (.int .i64 (wrap64 (s.k3 + (i : Int))))) (fun k ho _ => Below.heap_setCell _ _ _ _ (fun e => ho.1 (.inl e))))
      have HBW := Aside0.mk (show B ≤ (wr.setCell ⟨rb, 10, none⟩ (.int .i64 (wrap64 (s.k3 + (i : Int))))).heap.size by have := HLL.out.2; simpa [World.setCell] using this)
      clear r10 fz wk HQ2 HN HK
      generalize wr.setCell ⟨rb, 10, none⟩ (.int .i64 (wrap64 (s.k3 + (i : Int)))) = w3 at HQ3 HK3 HN3 HBW ⊢
      have HSH := Aside0.mk (HQ3.out.shift HLL.out.1 HBW.out)
      go_wp2_with (go_at_call 77; (with_reducible refine HSH.out.mono ?_); rintro e9 w9 ⟨rfl, v9, hQ9, hM9⟩; have HQ9 := Aside0.mk hQ9; have HM9 := Aside0.mk hM9; clear hQ9 hM9; dsimp only)
      go_ret
      have hq9 := HQ9.out
      have hm9 := HM9.out
      refine ⟨.slice A i co, rfl, v9, Kd.N_mono (Kd.N_step (Kd.N_bound HN3.out) (fun k hk hl => hm9.1.old k hl hk.1.1)) (fun k hk => okc_of ⟨fun e => hk.1.1 (.inl e), fun e => hk.1.1 (.inr (.inl e)), fun e => hk.1.1 (.inr (.inr (.inl e))), hk.1.2⟩ (fun e => by have := hm9.2 k e.symm; have := hk.2; omega)), hq9.reX (fun k _ hx => .inl hx) (fun k hx => hq9.xs k (.inl hx)), HK3.out.trans hm9.1 (fun k hk => .inl hk), fun k hk => Nat.le_trans HK3.out.size (hm9.2 k hk)⟩
end
end Go.Proofs.Ytimgfdkndlbfbaa.HCq
