/- backlog's functions that turn a log: Take, Add, Ready, Drop; and all of them at nil. Conditions: each theorem's own. -/
import Derived.Test.YtimgfdkndlbfbaaHBk3
namespace Go.Proofs.Ytimgfdkndlbfbaa.HBk
open Go.RowKit Go.Proofs.YtimgfdkndlbfbaaW.PrintWords Go.Proofs.YtimgfdkndlbfbaaW.PrintLast Go.Proofs.YtimgfdkndlbfbaaW.PrintMore Go.Proofs.Ytimgfdkndlbfbaa.HExt
set_option linter.unusedVariables false
set_option linter.unusedSimpArgs false
theorem new_bad (m0 m1 : Int) (w : World) (h : m0 < 1 ∨ m1 < 1 ∨ 128 < m0 ∨ 128 < m1) : Calls Try.prog 29 #[.int .i64 m0, .int .i64 m1] w fun e w' => e = .returned (.tuple #[.pointer none, .int .i64 1]) ∧ w = w' := by
  obtain ⟨mn, hmn⟩ : ∃ mn, min m0 m1 = mn := ⟨_, rfl⟩
  obtain ⟨mx, hmx⟩ : ∃ mx, max m0 m1 = mx := ⟨_, rfl⟩
  by_cases c : mn < 1
  · have c0 : decide (mn < 1) = true := decide_eq_true c
    clear h c
    go_enter Try.func29, Try.ntmps29
    go_wp2
    go_ret2
    exact ⟨rfl, rfl⟩
  · have c0 : decide (mn < 1) = false := decide_eq_false c
    have c1 : decide (128 < mx) = true := decide_eq_true (by omega)
    clear h c
    go_enter Try.func29, Try.ntmps29
    go_wp2
    go_ret2
    exact ⟨rfl, rfl⟩
theorem append1_step {W : World} {ops : Array Oper} {rest : List Oper} {o : Oper} {a : Act} {Q : Exit → Act → World → Prop} (hgd : o.guard = none) (s x : Operand) (ho : o.op = .call { callee := .builtin .append, args := #[s, x], argTypes := #[88, 88] })
    {b0 : Nat} {v : Value} {xs : List Int} (g1 : Nat) (z : Int) (hs : a.eval s = v) (hx : a.eval x = .slice (some ⟨g1, 0, none⟩) 1 1) (hS : Sl b0 W v xs) (hb : b0 ≤ W.heap.size) (hl : xs.length ≤ 100000) (hc : W.cell? ⟨g1, 0, none⟩ = some (.int .i64 z))
    (h : ∀ v' w', Sl b0 w' v' (xs ++ [z]) → W.grownBy w' v.ownBlock → (v'.ownBlock = v.ownBlock ∨ ∃ k, v'.ownBlock = some k ∧ W.heap.size ≤ k) → wpList Try.prog ops Q rest (a.put o.dst v') w') : wpList Try.prog ops Q (o :: rest) a W := by
  obtain ⟨v', w', hr, h1, h2, h3⟩ := hS.append1 hb hl g1 z hc o.type
  refine wpList_plain hgd fun K hK => ?_
  unfold Oper.wp execOp
  simp only [ho, resolve, invoke, builtin, Sem.run_bind, Sem.run_pure, Result.andThen_ok, List.map_toArray, List.map_cons, List.map_nil, hs, hx, hr]
  exact hK _ _ (h v' w' h1 h2 h3)
theorem Mv.put {w w' : World} {b i : Nat} {vh vr vh' vr' u : Value} (h : Mv w w' b vh vr vh' vr') : Mv w (w'.setCell ⟨b, i, none⟩ u) b vh vr vh' vr' :=
  ⟨h.os, h.tape, h.output, Nat.le_trans h.size (by simp [World.setCell]), fun k h1 h2 h3 h4 => (Below.heap_setCell w' _ _ k h2).trans (h.old k h1 h2 h3 h4), h.h, h.r⟩
theorem Mv.below {w w1 w2 : World} {b : Nat} {vh vr vh' vr' : Value} (h : Mv w w1 b vh vr vh' vr') (hb : Below w1.heap.size w1 w2) : Mv w w2 b vh vr vh' vr' :=
  ⟨hb.os.trans h.os, hb.tape.trans h.tape, hb.output.trans h.output, Nat.le_trans h.size hb.size, fun k h1 h2 h3 h4 => (hb.block k (Nat.lt_of_lt_of_le h1 h.size)).trans (h.old k h1 h2 h3 h4), h.h, h.r⟩
theorem Mv.grown {w w1 w2 : World} {b : Nat} {vh vr vh' vr' : Value} {o : Option Nat} (h : Mv w w1 b vh vr vh' vr') (hg : w1.grownBy w2 o) (ho : ∀ k, o = some k → vh.ownBlock = some k ∨ vr.ownBlock = some k ∨ w.heap.size ≤ k) : Mv w w2 b vh vr vh' vr' :=
  ⟨hg.os.trans h.os, hg.tape.trans h.tape, hg.output.trans h.output, Nat.le_trans h.size hg.size, fun k h1 h2 h3 h4 => (hg.block k (Nat.lt_of_lt_of_le h1 h.size) (fun e => by
    rcases ho k e.symm with h' | h' | h'
    · exact h3 h'
    · exact h4 h'
    · omega)).trans (h.old k h1 h2 h3 h4), h.h, h.r⟩
theorem Mv.half {w w1 : World} {b : Nat} {vh vr vh' vr' u : Value} (h : Mv w w1 b vh vr vh' vr') (hu : ∀ k, u.ownBlock = some k → vh.ownBlock = some k ∨ w.heap.size ≤ k) : Mv w w1 b vh vr u vr' := ⟨h.os, h.tape, h.output, h.size, h.old, hu, h.r⟩
theorem Mv.ready {w w1 : World} {b : Nat} {vh vr vh' vr' u : Value} (h : Mv w w1 b vh vr vh' vr') (hu : ∀ k, u.ownBlock = some k → vr.ownBlock = some k ∨ w.heap.size ≤ k) : Mv w w1 b vh vr vh' u := ⟨h.os, h.tape, h.output, h.size, h.old, h.h, hu⟩
theorem Sl.apart {b0 : Nat} {w : World} {v : Value} {xs : List Int} (h : Sl b0 w v xs) {g : Nat} {t : TypeId} {cs : Array Value} (hg : w.heap[g]? = some (.cells cs t (0, 0))) (ht : t ≠ 3) : ∀ k, v.ownBlock = some k → k ≠ g := by
  obtain ⟨rfl, -⟩ | ⟨g', o, cap, cur, rfl, hg', hh, hr⟩ := h
  · intro k hk; cases hk
  · intro k hk
    have : g' = k := by simpa [Value.ownBlock] using hk
    subst this
    exact blk_ne hh hg (Ne.symm ht)
set_option maxRecDepth 100000 in
set_option maxHeartbeats 2000000 in
theorem take_some {b0 b : Nat} {w : World} {s : LS} {vh vr : Value} (h : Lg b0 w b s vh vr) (x : Int) (xs : List Int) (hr : s.r = x :: xs) (t0 : 0 ≤ s.tk) (t1 : s.tk ≤ 1000000) :
    Calls Try.prog 37 #[.pointer (some ⟨b, 0, none⟩)] w fun e w' => e = .returned (.tuple #[.int .i64 x, .bool true]) ∧ ∃ vr', Lg b0 w' b { s with r := xs, tk := s.tk + 1 } vh vr' ∧ Mv w w' b vh vr vh vr' := by
  obtain ⟨h0, h1, h2, h3, h4, h5, h6⟩ := h.cells
  have f3 := h.free 3
  have f5 := h.free 5
  obtain ⟨A1, c1, A2, c2, rfl, rfl⟩ := h.shapes
  have hrs := h.rs
  rw [hr] at hrs h3
  rw [hr]
  obtain ⟨v', hcut, hS, hO⟩ := hrs.tail
  obtain ⟨A3, c3, rfl, -, -⟩ := hS.shape
  obtain ⟨ad, e, hc⟩ := (Kd.reads_of_C (enc := Value.int .i64) (d := (0 : Int)) (h1 := fun _ => rfl) hrs.reads).2.2 (by simp)
  subst e
  have hx := hc 0 (by simp)
  rw [show ad.add 0 = ad by obtain ⟨g, o, q⟩ := ad; unfold Addr.add; split <;> simp_all] at hx
  simp only [List.getD_cons_zero] at hx
  have hn : ((x :: xs).length : Int) = (xs.length : Int) + 1 := by simp
  have d1 : (((x :: xs).length : Int) == 0) = false := beq_eq_false_iff_ne.2 (by omega)
  have d2 : ((x :: xs).length == 0) = false := rfl
  have d3 : (((x :: xs).length : Int) = 0) = False := eq_false (by omega)
  have d4 : (0 < (x :: xs).length) = True := eq_true (by simp)
  have e1 : IntKind.i64.wrap (s.tk + 1) = s.tk + 1 := wid _ (by omega) (by omega)
  have H := Aside0.mk h
  have HS := Aside0.mk hS
  have HO := Aside0.mk hO
  obtain ⟨n, hnn⟩ : ∃ n, (x :: xs).length = n := ⟨_, rfl⟩
  simp only [hnn] at d1 d2 d3 d4 hcut h3 ⊢
  rw [hnn] at HO
  have HN := Aside0.mk hnn
  clear h hr t0 t1 hrs hc hn hS hO hnn
  go_enter Try.func37, Try.ntmps37
  go_wp2
  go_ret2
  have hbk := H.out.blk
  refine ⟨rfl, _, ⟨blk_put (blk_put hbk 3 _ rfl) 5 _ rfl, H.out.lo, (H.out.hs.put hbk (by decide)).put (blk_set hbk 3 _) (by decide), (HS.out.put hbk (by decide)).put (blk_set hbk 3 _) (by decide), fun k hk hk2 => H.out.ap k hk (by have := HO.out k hk2; exact this)⟩, ?_⟩
  exact ((Mv.refl w b _ _).put.put).ready fun k hk => .inl (HO.out k hk)
theorem has_in {b0 : Nat} {w : World} {v : Value} {xs : List Int} (h : Sl b0 w v xs) {x : Int} (hx : x ∈ xs) : Calls Try.prog 80 #[v, .int .i64 x] w fun e w' => e = .returned (.bool true) ∧ w = w' := by
  have := contains_calls h x
  rwa [decide_eq_true hx] at this
theorem has_out {b0 : Nat} {w : World} {v : Value} {xs : List Int} (h : Sl b0 w v xs) {x : Int} (hx : x ∉ xs) : Calls Try.prog 80 #[v, .int .i64 x] w fun e w' => e = .returned (.bool false) ∧ w = w' := by
  have := contains_calls h x
  rwa [decide_eq_false hx] at this
set_option maxRecDepth 100000 in
set_option maxHeartbeats 2000000 in
theorem add_same {b0 b : Nat} {w : World} {s : LS} {vh vr : Value} (h : Lg b0 w b s vh vr) (x : Int) (hx : x ∈ s.h ∨ x ∈ s.r) :
    Calls Try.prog 31 #[.pointer (some ⟨b, 0, none⟩), .int .i64 x] w fun e w' => e = .returned (.int .i64 140) ∧ w = w' := by
  obtain ⟨h0, h1, h2, h3, h4, h5, h6⟩ := h.cells
  by_cases c : x ∈ s.h
  · have H1 := Aside0.mk (has_in h.hs c)
    clear h hx c
    go_enter Try.func31, Try.ntmps31
    go_wp2_with (go_at_call 80; refine H1.out.mono ?_; rintro e w2 ⟨rfl, rfl⟩)
    go_ret
    exact ⟨rfl, rfl⟩
  · have H1 := Aside0.mk (has_out h.hs c)
    have H2 := Aside0.mk (has_in h.rs (hx.resolve_left c))
    clear h hx c
    go_enter Try.func31, Try.ntmps31
    go_wp2_with (first | (go_at_call 80; refine H1.out.mono ?_; rintro e w2 ⟨rfl, rfl⟩) | (go_at_call 80; refine H2.out.mono ?_; rintro e w2 ⟨rfl, rfl⟩))
    go_ret
    exact ⟨rfl, rfl⟩
set_option maxRecDepth 100000 in
set_option maxHeartbeats 2000000 in
theorem add_full {b0 b : Nat} {w : World} {s : LS} {vh vr : Value} (h : Lg b0 w b s vh vr) (x : Int) (hx : x ∉ s.h) (hy : x ∉ s.r) (hf : s.m0 ≤ s.h.length ∨ s.m1 ≤ s.r.length) (t0 : 0 ≤ s.rf) (t1 : s.rf ≤ 1000000) :
    Calls Try.prog 31 #[.pointer (some ⟨b, 0, none⟩), .int .i64 x] w fun e w' => e = .returned (.int .i64 5) ∧ Lg b0 w' b { s with rf := s.rf + 1 } vh vr ∧ Mv w w' b vh vr vh vr := by
  obtain ⟨h0, h1, h2, h3, h4, h5, h6⟩ := h.cells
  have f6 := h.free 6
  obtain ⟨A1, c1, A2, c2, rfl, rfl⟩ := h.shapes
  have H1 := Aside0.mk (has_out h.hs hx)
  have H2 := Aside0.mk (has_out h.rs hy)
  have e1 : IntKind.i64.wrap (s.rf + 1) = s.rf + 1 := wid _ (by omega) (by omega)
  have H := Aside0.mk h
  clear hx hy t0 t1
  have fin : ∀ m, (e1 : IntKind.i64.wrap (s.rf + 1) = s.rf + 1) → Lg b0 ((w.drewN m).setCell ⟨b, 6, none⟩ (.int .i64 (s.rf + 1))) b { s with rf := s.rf + 1 } (.slice A1 s.h.length c1) (.slice A2 s.r.length c2) ∧ Mv w ((w.drewN m).setCell ⟨b, 6, none⟩ (.int .i64 (s.rf + 1))) b (.slice A1 s.h.length c1) (.slice A2 s.r.length c2) (.slice A1 s.h.length c1) (.slice A2 s.r.length c2) := fun m _ => by
    have hd := H.out.drewN m
    exact ⟨⟨blk_put hd.blk 6 _ rfl, hd.lo, hd.hs.put hd.blk (by decide), hd.rs.put hd.blk (by decide), hd.ap⟩, (Mv.drewN w m b _ _).put⟩
  have HF := Aside0.mk fin
  clear fin h
  by_cases c : s.m0 ≤ s.h.length
  · have d1 : decide (s.m0 ≤ (s.h.length : Int)) = true := decide_eq_true c
    clear hf c
    go_enter Try.func31, Try.ntmps31
    go_upto_region 5 with (first | (go_at_call 80; refine H1.out.mono ?_; rintro e w2 ⟨rfl, rfl⟩) | (go_at_call 80; refine H2.out.mono ?_; rintro e w2 ⟨rfl, rfl⟩))
    go_quiet (fail)
    go_wp2
    go_ret
    exact ⟨rfl, HF.out _ e1⟩
  · have d1 : decide (s.m0 ≤ (s.h.length : Int)) = false := decide_eq_false c
    have d2 : decide (s.m1 ≤ (s.r.length : Int)) = true := decide_eq_true (hf.resolve_left c)
    clear hf c
    go_enter Try.func31, Try.ntmps31
    go_upto_region 5 with (first | (go_at_call 80; refine H1.out.mono ?_; rintro e w2 ⟨rfl, rfl⟩) | (go_at_call 80; refine H2.out.mono ?_; rintro e w2 ⟨rfl, rfl⟩))
    go_quiet (fail)
    go_wp2
    go_ret
    exact ⟨rfl, HF.out _ e1⟩
/-- Behind an append to one of its slices (the other is o): the log's block and the other slice stand. -/
theorem Lg.kept_r {b0 b : Nat} {w w' : World} {s : LS} {vh vr : Value} (h : Lg b0 w b s vh vr) (o : Obj) (hG : (w.alloc o).grownBy w' vh.ownBlock) : w'.heap[b]? = some (.cells (HBk.cells s vh vr) 155 (0, 0)) ∧ Sl b0 w' vr s.r := by
  have hB := below_alloc (Below.refl w.heap.size w) o
  refine ⟨blk_grown (blk_below h.blk hB) hG (fun e => ?_), (h.rs.below hB).grown hG (fun k hk e => h.ap k e.symm hk)⟩
  exact h.hs.apart h.blk (by decide) b e.symm rfl
theorem Lg.kept_h {b0 b : Nat} {w w' : World} {s : LS} {vh vr : Value} (h : Lg b0 w b s vh vr) (o : Obj) (hG : (w.alloc o).grownBy w' vr.ownBlock) : w'.heap[b]? = some (.cells (HBk.cells s vh vr) 155 (0, 0)) ∧ Sl b0 w' vh s.h := by
  have hB := below_alloc (Below.refl w.heap.size w) o
  refine ⟨blk_grown (blk_below h.blk hB) hG (fun e => ?_), (h.hs.below hB).grown hG (fun k hk e => h.ap k hk e.symm)⟩
  exact h.rs.apart h.blk (by decide) b e.symm rfl
theorem log_cell {b : Nat} {w : World} {s : LS} {vh vr : Value} (h : w.heap[b]? = some (.cells (HBk.cells s vh vr) 155 (0, 0))) : w.cell? ⟨b, 2, none⟩ = some vh ∧ w.cell? ⟨b, 3, none⟩ = some vr ∧ w.cell? ⟨b, 4, none⟩ = some (.int .i64 s.ad) ∧ ∀ i, w.frozen? ⟨b, i, none⟩ = false :=
  ⟨(blk_cell h 2).trans rfl, (blk_cell h 3).trans rfl, (blk_cell h 4).trans rfl, blk_frozen h⟩
set_option maxRecDepth 100000 in
set_option maxHeartbeats 2000000 in
theorem add_in {b0 b : Nat} {w : World} {s : LS} {vh vr : Value} (h : Lg b0 w b s vh vr) (hb0 : b0 ≤ w.heap.size) (x : Int) (hx : x ∉ s.h) (hy : x ∉ s.r) (hf : (s.h.length : Int) < s.m0) (hg : (s.r.length : Int) < s.m1) (hl : s.h.length ≤ 1000) (t0 : 0 ≤ s.ad) (t1 : s.ad ≤ 1000000) :
    Calls Try.prog 31 #[.pointer (some ⟨b, 0, none⟩), .int .i64 x] w fun e w' => e = .returned (.int .i64 0) ∧ ∃ vh', Lg b0 w' b { s with h := s.h ++ [x], ad := s.ad + 1 } vh' vr ∧ Mv w w' b vh vr vh' vr := by
  obtain ⟨h0, h1, h2, h3, h4, h5, h6⟩ := h.cells
  have f2 := h.free 2
  have f4 := h.free 4
  obtain ⟨A1, c1, A2, c2, rfl, rfl⟩ := h.shapes
  have H1 := Aside0.mk (has_out h.hs hx)
  have H2 := Aside0.mk (has_out h.rs hy)
  have e1 : IntKind.i64.wrap (s.ad + 1) = s.ad + 1 := wid _ (by omega) (by omega)
  have d1 : decide (s.m0 ≤ (s.h.length : Int)) = false := decide_eq_false (by omega)
  have d2 : decide (s.m1 ≤ (s.r.length : Int)) = false := decide_eq_false (by omega)
  have H := Aside0.mk h
  have HL := Aside0.mk (And.intro hb0 hl)
  clear hx hy t0 t1 hf hg hl hb0 h
  go_enter Try.func31, Try.ntmps31
  go_upto_region 5 with (first | (go_at_call 80; refine H1.out.mono ?_; rintro e w2 ⟨rfl, rfl⟩) | (go_at_call 80; refine H2.out.mono ?_; rintro e w2 ⟨rfl, rfl⟩))
  go_quiet (fail)
  go_upto_region 8 with (fail)
  have HM := Aside0.mk (Mv.drewN w nq b (.slice A1 s.h.length c1) (.slice A2 s.r.length c2))
  have HH := Aside0.mk (H.out.drewN nq)
  have HB := Aside0.mk (show b0 ≤ (w.drewN nq).heap.size from HL.out.1)
  clear h0 h1 h2 h3 h4 h5 h6 f2 f4 H
  generalize w.drewN nq = w1 at HM HH HB ⊢
  obtain ⟨-, -, h2, h3, h4, -, -⟩ := HH.out.cells
  have f2 := HH.out.free 2
  have f4 := HH.out.free 4
  go_wp2_with (((with_reducible refine gate_builtin (b := .append) (xs := #[.tmp 59, .tmp 61]) rfl ?_); refine append1_step rfl (.tmp 59) (.tmp 61) rfl w1.heap.size x rfl rfl (HH.out.hs.below (below_alloc (Below.refl _ w1) _)) ?aa ?al ((blk_cell (blk_new w1 _) 0).trans rfl) ?_; (case aa => exact Nat.le_trans HB.out (below_alloc (Below.refl w1.heap.size w1) _).size); (case al => have := HL.out.2; omega); intro v3 w3 hS hG hO; obtain ⟨A3, c3, rfl, -, -⟩ := hS.shape; generalize (s.h ++ [x]).length = n3 at hS hO ⊢; have HK := Aside0.mk (HH.out.kept_r _ hG); obtain ⟨g2, g3, g4, gf⟩ := log_cell HK.out.1; have k2 := gf 2; have k4 := gf 4; have HM3 := Aside0.mk ((HM.out.below (below_alloc (Below.refl w1.heap.size w1) _)).grown hG (fun k hk => .inl hk)); have HS := Aside0.mk hS; have HO := Aside0.mk (And.intro hO (Nat.le_trans HM.out.size (below_alloc (Below.refl w1.heap.size w1) (.cells #[.int .i64 x] 3)).size)); clear hS hG hO gf h2 h3 h4 f2 f4))
  go_ret
  have hbk := HK.out.1
  have hp : ∀ k, (Value.slice A3 n3 c3).ownBlock = some k → (Value.slice A1 s.h.length c1).ownBlock = some k ∨ w.heap.size ≤ k := fun k hk => by
    rcases HO.out.1 with e | ⟨k', e, hle⟩
    · exact .inl (e ▸ hk)
    · rw [e] at hk
      injection hk with hk
      subst hk
      exact .inr (Nat.le_trans HO.out.2 hle)
  refine ⟨rfl, _, ⟨blk_put (blk_put hbk 2 _ rfl) 4 _ rfl, HH.out.lo, (HS.out.put hbk (by decide)).put (blk_set hbk 2 _) (by decide), (HK.out.2.put hbk (by decide)).put (blk_set hbk 2 _) (by decide), fun k hk hk2 => ?_⟩, (HM3.out.put.put).half hp⟩
  rcases HO.out.1 with e | ⟨k', e, hle⟩
  · exact HH.out.ap k (e ▸ hk) hk2
  · rw [e] at hk
    injection hk with hk
    subst hk
    have h1 := (HH.out.rs.low _ hk2).2
    have h2 := (below_alloc (Below.refl w1.heap.size w1) (.cells #[.int .i64 x] 3)).size
    omega
end Go.Proofs.Ytimgfdkndlbfbaa.HBk
