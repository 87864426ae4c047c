/- pool's reference: place, without, more. Conditions: each theorem's own. -/
import Derived.Test.YtfmfpofbefgbgaaHPoolR
namespace Go.Proofs.Ytfmfpofbefgbgaa.HPoolR
open Go.RowKit Go.Proofs.YtfmfpofbefgbgaaW.PrintWords Go.Proofs.YtfmfpofbefgbgaaW.PrintLast Go.Proofs.YtfmfpofbefgbgaaW.PrintMore Go.Proofs.Ytfmfpofbefgbgaa.HPoolS Go.Proofs.Ytfmfpofbefgbgaa.HPool Go.Proofs.Ytfmfpofbefgbgaa.PPoolL Go.Proofs.Ytfmfpofbefgbgaa.HReg Go.Proofs.Ytfmfpofbefgbgaa.HSl
set_option linter.unusedVariables false
set_option linter.unusedSimpArgs false
set_option linter.unusedSectionVars false
theorem append_run {o : Oper} {a : Act} {W w' : World} (s x : Operand) (ho : o.op = .call { callee := .builtin .append, args := #[s, x], argTypes := #[89, 89] }) {v vx v' : Value} (hs : a.eval s = v) (hx : a.eval x = vx) (hr : (Builtin.append_ #[89, 89] o.type #[v, vx]).run Try.prog W = .ok v' w') : (execOp a.eval o).run Try.prog W = .ok (.value v') w' := by
  unfold execOp
  simp only [ho, resolve, invoke, builtin, Sem.run_bind, Sem.run_pure, Result.andThen_ok, List.map_toArray, List.map_cons, List.map_nil, hs, hx, hr]
/-- Where a number stands; -1: it doesn't. -/
def plc (l : List Bu) (x : Int) : Int := if has l x then (l.findIdx (fun b => b.1 == x) : Int) else -1
theorem plc_at {l : List Bu} {x : Int} {k : Nat} (hk : k < l.length) (h : (l.getD k (0, 0)).1 = x) (hb : ∀ j, j < k → (l.getD j (0, 0)).1 ≠ x) : plc l x = (k : Int) := by
  have hg : ∀ j (hj : j < l.length), l.getD j (0, 0) = l[j] := fun j hj => by rw [List.getD_eq_getElem?_getD, List.getElem?_eq_getElem hj]; rfl
  rw [hg k hk] at h
  have hh : has l x = true := has_iff.2 ⟨l[k], List.getElem_mem _, h⟩
  obtain ⟨hlt, hid, -⟩ := has_at hh
  unfold plc
  rw [if_pos hh]
  generalize hK : l.findIdx (fun b => b.1 == x) = K at hlt hid ⊢
  rcases Nat.lt_trichotomy K k with e | e | e
  · exact absurd hid (hb K e)
  · rw [e]
  · have := List.not_of_lt_findIdx (p := fun b : Bu => b.1 == x) (xs := l) (i := k) (by omega)
    simp [h] at this
theorem plc_none {l : List Bu} {x : Int} (hb : ∀ j, j < l.length → (l.getD j (0, 0)).1 ≠ x) : plc l x = -1 := by
  unfold plc
  rw [if_neg]
  intro hh
  obtain ⟨hlt, hid, -⟩ := has_at hh
  exact hb _ hlt hid
theorem plc_neg (l : List Bu) (x : Int) : (decide (plc l x < 0)) = !has l x := by
  unfold plc
  cases has l x
  · rfl
  · simp
set_option maxRecDepth 100000 in
set_option maxHeartbeats 4000000 in
theorem place_calls (A : Option Addr) (n c : Nat) (l : List Bu) (hn : l.length = n) (hl : n ≤ 5000) (x : Int) (w : World) (h : Rb w (.slice A n c) l) : Calls Try.prog 78 #[.slice A n c, .int .i64 x] w fun e w' => e = .returned (.int .i64 (plc l x)) ∧ w = w' := by
  have HO := Aside0.mk h
  have HN := Aside0.mk (And.intro hn hl)
  clear h hn hl
  go_enter Try.func78, Try.ntmps78
  go_wp2
  go_loop [5] (fun i => ∃ k : Nat, i = .int .i64 k ∧ Aside0 (k ≤ n ∧ ∀ j, j < k → (l.getD j (0, 0)).1 ≠ x)) (fun i => n - num i)
  case atStart => exact ⟨0, rfl, ⟨Nat.zero_le _, fun j h => absurd h (Nat.not_lt_zero _)⟩⟩
  case round =>
    obtain ⟨k, rfl, ⟨hk, hb⟩⟩ := hrel
    have hnn := HN.out
    by_cases hlt : k < n
    · have c0 : decide ((k : Int) < (n : Int)) = true := decide_eq_true (by omega)
      have c1 : decide (k < n) = true := decide_eq_true hlt
      have c2 : (k < n) = True := eq_true hlt
      have c3 : ((k : Int) < (n : Int)) = True := eq_true (by omega)
      obtain ⟨ad2, rfl, hx, -⟩ := HO.out.get (show k < l.length by omega)
      have e1 : IntKind.i64.wrap ((k : Int) + 1) = (k : Int) + 1 := wid _ (by omega) (by omega)
      obtain ⟨y, hy⟩ : ∃ y, (l.getD k (0, 0)).1 = y := ⟨_, rfl⟩
      rw [hy] at hx
      by_cases hxy : y = x
      · have f0 : (y == x) = true := beq_iff_eq.2 hxy
        have f1 : decide (y = x) = true := decide_eq_true hxy
        have f2 : (y = x) = True := eq_true hxy
        have HK := Aside0.mk (plc_at (x := x) (show k < l.length by omega) (hy.trans hxy) hb)
        clear hk hb hlt hy hxy hnn
        go_wp2
        go_ret
        exact ⟨by rw [HK.out]; rfl, rfl⟩
      · have f0 : (y == x) = false := beq_eq_false_iff_ne.2 hxy
        have f1 : decide (y = x) = false := decide_eq_false hxy
        have f2 : (y = x) = False := eq_false hxy
        have HK : Aside0 (k + 1 ≤ n ∧ ∀ j, j < k + 1 → (l.getD j (0, 0)).1 ≠ x) := ⟨hlt, fun j h => by
          by_cases hj : j = k
          · subst hj; rw [hy]; exact hxy
          · exact hb j (by omega)⟩
        clear hk hb hlt hy hxy hnn
        go_wp2
        go_round
        case rel => exact ⟨k + 1, by go_num, HK⟩
        case measure => simp only [num]; have := HK.out.1; omega
    · have c0 : decide ((k : Int) < (n : Int)) = false := decide_eq_false (by omega)
      have c1 : decide (k < n) = false := decide_eq_false hlt
      have HK := Aside0.mk (plc_none (l := l) (x := x) (fun j h => hb j (by omega)))
      clear hk hb hlt hnn
      go_wp2
      go_ret
      exact ⟨by rw [HK.out]; rfl, rfl⟩
set_option maxRecDepth 100000 in
set_option maxHeartbeats 4000000 in
theorem more_calls (v0 : Value) (l : List Bu) (hl : l.length ≤ 5000) (x z : Int) (w : World) (h : Rb w v0 l) : Calls Try.prog 80 #[v0, .agg #[.int .i64 x, .int .i64 z]] w fun e w' => ∃ v, e = .returned v ∧ Rb w' v (l ++ [(x, z)]) ∧ Below w.heap.size w w' := by
  obtain ⟨A, c, rfl, -, -⟩ := h.shape
  have HB := Aside0.mk (below_alloc (Below.refl w.heap.size w) (.cells #[.int .i64 x, .int .i64 z] 105))
  have HG := Aside0.mk (blk_new w (.cells #[.int .i64 x, .int .i64 z] 105))
  have HR := Aside0.mk (h.below HB.out)
  have HL := Aside0.mk hl
  clear h hl
  generalize hn : l.length = n at HR HL
  have HN_ := Aside0.mk hn
  clear hn
  go_enter Try.func80, Try.ntmps80
  go_upto_region 1 with (fail)
  obtain ⟨g, hg⟩ : ∃ g, g = w.heap.size := ⟨_, rfl⟩
  have HGE := Aside0.mk hg
  rw [← hg] at HG ⊢
  clear hg
  generalize w.alloc (.cells #[.int .i64 x, .int .i64 z] 105) = w1 at HB HG HR ⊢
  refine start_ (n := 7) (S := fun w' => w'.heap[g]? = some (.cells #[.int .i64 x, .int .i64 z] 105 (0, 0))) (ds := []) (bb 7 0) (by kernel_rfl) rfl rfl (HG.out) (fun hHeld => ?_)
  have HG2 := Aside0.mk (show w1.drew.heap[g]? = _ from HG.out)
  have HR2 := Aside0.mk (HR.out.below (below_drew (Below.refl _ _)))
  have HBB := Aside0.mk (below_drew HB.out)
  clear HG HR HB
  generalize w1.drew = w2 at HG2 HR2 HBB hHeld ⊢
  have HB := Aside0.mk (Below.refl w2.heap.size w2)
  refine pure_ (i := 1) (N := some 6) (v := ?_) (a' := ?_) (bb 7 2) rfl rfl (by kernel_rfl) (fun _ _ _ h => h) (Or.inl ⟨by rfl, ?_⟩) ?_ ?_
  rotate_left
  · intro w'
    go_simp
    with_reducible rfl
  rotate_left
  · simp only [Act.put, List.setIfInBounds_toArray, List.set_cons_zero, List.set_cons_succ, i64_w, i32_w]
    rfl
  refine take_ (i := 3) (N := some 8) (v := ?_) (a' := ?_) (bb 7 10) rfl rfl (by kernel_rfl) (fun _ _ _ h => h) (Or.inl ⟨by rfl, ?_⟩) hHeld ?_ ?_
  rotate_left
  · intro w' hSw
    have z3 := (blk_cell hSw 0).trans rfl
    have z4 := (blk_cell hSw 1).trans rfl
    go_simp
    with_reducible rfl
  rotate_left
  · simp only [Act.put, List.setIfInBounds_toArray, List.set_cons_zero, List.set_cons_succ, i64_w, i32_w]
    rfl
  refine two_ (i := 0) (j := 4) (Ni := some 5) (Nj := some 9) (bb 7 11) (bb 7 26) rfl rfl rfl rfl (by kernel_rfl) (by decide) (by decide) (fun K hK => ?_) (fun K hK => ?_)
  · refine event_step (by rfl) (show _ = Result.ok (Next.value (.slice (some ⟨w2.heap.size, 0, none⟩) 0 0)) (World.alloc _ (.cells #[] 105)) from by first | (go_simp; done) | (go_simp; rfl)) ?_
    have hB_ := below_alloc (Below.refl w2.heap.size w2) (.cells #[] 105)
    have HO := Aside0.mk ((Ob.lit w2).mono HB.out.size)
    replace HB := Aside0.mk (below_step HB.out hB_)
    clear hB_
    generalize w2.alloc (.cells #[] 105) = w3 at HO HB hK ⊢
    refine hK.out _ _ (blk_below HG2.out HB.out) (fun hHeld => ?_)
    clear hK K
    refine norm_ (a' := ?_) ?_ ?_
    rotate_left
    · show Act.put _ (some 5) _ = _
      simp only [Act.put, List.setIfInBounds_toArray, List.set_cons_zero, List.set_cons_succ, i64_w, i32_w]
      rfl
    refine two_ (i := 2) (j := 4) (Ni := some 7) (Nj := some 9) (bb 7 15) (bb 7 27) rfl rfl rfl rfl (by kernel_rfl) (by decide) (by decide) (fun K hK => ?_) (fun K hK => ?_)
    · obtain ⟨v4, w4, hup, hO_, hG_⟩ := HO.out.append (HR2.out.below HB.out) HB.out.size (by have := HL.out; have := HN_.out; simp; omega) 89
      obtain ⟨A4, c4, rfl⟩ := hO_.shape
      refine value_ (v := _) (w1 := w4) (by rfl) rfl (append_run (.tmp 5) (.tmp 6) rfl rfl rfl hup) ?_
      replace HB := Aside0.mk (pw_below_grown HB.out _ HB.out.size hG_ (fun k hk => HO.out.low k hk))
      replace HO := Aside0.mk hO_
      clear hO_ hG_ hup
      refine hK.out _ _ (blk_below HG2.out HB.out) (fun hHeld => ?_)
      clear hK K
      refine norm_ (a' := ?_) ?_ ?_
      rotate_left
      · show Act.put _ (some 7) _ = _
        simp only [Act.put, List.setIfInBounds_toArray, List.set_cons_zero, List.set_cons_succ, i64_w, i32_w]
        rfl
      refine one_ (i := 4) (N := some 9) (bb 7 31) rfl rfl (by kernel_rfl) (by decide) (fun K hK => ?_)
      refine event_step (by rfl) (show _ = Result.ok (Next.value (.slice (some ⟨w4.heap.size, 0, none⟩) 1 1)) (World.alloc _ (.cells #[.int .i64 x, .int .i64 z] 105)) from by first | (go_simp; done) | (go_simp; rfl)) ?_
      have hB_ := below_alloc (Below.refl w4.heap.size w4) (.cells #[.int .i64 x, .int .i64 z] 105)
      have HNE : Aside0 (∀ k, (Value.slice A4 (([] : List Bu) ++ l).length c4).ownBlock = some k → w4.heap.size ≠ k) := ⟨fun k hk e => (by obtain ⟨cs_, hc_⟩ := own_typed HO.out k hk; have h2 := blk_lt hc_; omega)⟩
      replace HO := Aside0.mk (HO.out.below hB_)
      have HN := Aside0.mk (blk_new w4 (.cells #[.int .i64 x, .int .i64 z] 105))
      replace HB := Aside0.mk (below_step HB.out hB_)
      clear hB_
      generalize w4.alloc (.cells #[.int .i64 x, .int .i64 z] 105) = w5 at HN HB HO hK ⊢
      refine hK.out _ _ (blk_below HG2.out HB.out) (fun hHeld => ?_)
      clear hK K
      refine norm_ (a' := ?_) ?_ ?_
      rotate_left
      · show Act.put _ (some 9) _ = _
        simp only [Act.put, List.setIfInBounds_toArray, List.set_cons_zero, List.set_cons_succ, i64_w, i32_w]
        rfl
      refine one_ (i := 5) (N := some 10) (bb 7 63) rfl rfl (by kernel_rfl) (by decide) (fun K hK => ?_)
      obtain ⟨v6, w6, hup, hO_, hG_⟩ := HO.out.append (show Rb w5 (.slice (some ⟨w4.heap.size, 0, none⟩) 1 1) [(x, z)] from .inr ⟨w4.heap.size, 0, 1, _, rfl, HN.out, Nat.le_refl _, by decide, fun j hj => (by (obtain rfl : j = 0 := by simpa using hj); exact ⟨rfl, rfl⟩)⟩) HB.out.size (by have := HL.out; have := HN_.out; simp; omega) 89
      obtain ⟨A6, c6, rfl⟩ := hO_.shape
      refine value_ (v := _) (w1 := w6) (by rfl) rfl (append_run (.tmp 7) (.tmp 9) rfl rfl rfl hup) ?_
      replace HB := Aside0.mk (pw_below_grown HB.out _ HB.out.size hG_ (fun k hk => HO.out.low k hk))
      replace HO := Aside0.mk hO_
      clear hO_ hG_ hup
      refine hK.out _ _ (blk_below HG2.out HB.out) (fun hHeld => ?_)
      clear hK K
      refine norm_ (a' := ?_) ?_ ?_
      rotate_left
      · show Act.put _ (some 10) _ = _
        simp only [Act.put, List.setIfInBounds_toArray, List.set_cons_zero, List.set_cons_succ, i64_w, i32_w]
        rfl
      refine pure_ (i := 6) (N := some 4) (v := ?_) (a' := ?_) (bb 7 127) rfl rfl (by kernel_rfl) (fun _ _ _ h => h) (Or.inl ⟨by rfl, ?_⟩) ?_ ?_
      rotate_left
      · intro w'
        go_simp
        with_reducible rfl
      rotate_left
      · simp only [Act.put, List.setIfInBounds_toArray, List.set_cons_zero, List.set_cons_succ, i64_w, i32_w]
        rfl
      refine done_ (by kernel_rfl) ?_
      clear hHeld
      go_wp2
      go_ret
      exact ⟨_, rfl, by have := HO.out.reads; simpa using this, below_step HBB.out HB.out⟩
    · refine event_step (by rfl) (show _ = Result.ok (Next.value (.slice (some ⟨w3.heap.size, 0, none⟩) 1 1)) (World.alloc _ (.cells #[.int .i64 x, .int .i64 z] 105)) from by first | (go_simp; done) | (go_simp; rfl)) ?_
      have hB_ := below_alloc (Below.refl w3.heap.size w3) (.cells #[.int .i64 x, .int .i64 z] 105)
      have HNE : Aside0 (∀ k, (Value.slice (some ⟨w2.heap.size, 0, none⟩) 0 0).ownBlock = some k → w3.heap.size ≠ k) := ⟨fun k hk e => (by obtain ⟨cs_, hc_⟩ := own_typed HO.out k hk; have h2 := blk_lt hc_; omega)⟩
      replace HO := Aside0.mk (HO.out.below hB_)
      have HN := Aside0.mk (blk_new w3 (.cells #[.int .i64 x, .int .i64 z] 105))
      replace HB := Aside0.mk (below_step HB.out hB_)
      clear hB_
      generalize w3.alloc (.cells #[.int .i64 x, .int .i64 z] 105) = w4 at HN HB HO hK ⊢
      refine hK.out _ _ (blk_below HG2.out HB.out) (fun hHeld => ?_)
      clear hK K
      refine norm_ (a' := ?_) ?_ ?_
      rotate_left
      · show Act.put _ (some 9) _ = _
        simp only [Act.put, List.setIfInBounds_toArray, List.set_cons_zero, List.set_cons_succ, i64_w, i32_w]
        rfl
      refine one_ (i := 2) (N := some 7) (bb 7 31) rfl rfl (by kernel_rfl) (by decide) (fun K hK => ?_)
      obtain ⟨v4, w5, hup, hO_, hG_⟩ := HO.out.append (HR2.out.below HB.out) HB.out.size (by have := HL.out; have := HN_.out; simp; omega) 89
      obtain ⟨A4, c4, rfl⟩ := hO_.shape
      refine value_ (v := _) (w1 := w5) (by rfl) rfl (append_run (.tmp 5) (.tmp 6) rfl rfl rfl hup) ?_
      replace HN := Aside0.mk (blk_grown HN.out hG_ (fun e => HNE.out _ e.symm rfl))
      replace HB := Aside0.mk (pw_below_grown HB.out _ HB.out.size hG_ (fun k hk => HO.out.low k hk))
      replace HO := Aside0.mk hO_
      clear hO_ hG_ hup
      refine hK.out _ _ (blk_below HG2.out HB.out) (fun hHeld => ?_)
      clear hK K
      refine norm_ (a' := ?_) ?_ ?_
      rotate_left
      · show Act.put _ (some 7) _ = _
        simp only [Act.put, List.setIfInBounds_toArray, List.set_cons_zero, List.set_cons_succ, i64_w, i32_w]
        rfl
      refine one_ (i := 5) (N := some 10) (bb 7 63) rfl rfl (by kernel_rfl) (by decide) (fun K hK => ?_)
      obtain ⟨v6, w6, hup, hO_, hG_⟩ := HO.out.append (show Rb w5 (.slice (some ⟨w3.heap.size, 0, none⟩) 1 1) [(x, z)] from .inr ⟨w3.heap.size, 0, 1, _, rfl, HN.out, Nat.le_refl _, by decide, fun j hj => (by (obtain rfl : j = 0 := by simpa using hj); exact ⟨rfl, rfl⟩)⟩) HB.out.size (by have := HL.out; have := HN_.out; simp; omega) 89
      obtain ⟨A6, c6, rfl⟩ := hO_.shape
      refine value_ (v := _) (w1 := w6) (by rfl) rfl (append_run (.tmp 7) (.tmp 9) rfl rfl rfl hup) ?_
      replace HB := Aside0.mk (pw_below_grown HB.out _ HB.out.size hG_ (fun k hk => HO.out.low k hk))
      replace HO := Aside0.mk hO_
      clear hO_ hG_ hup
      refine hK.out _ _ (blk_below HG2.out HB.out) (fun hHeld => ?_)
      clear hK K
      refine norm_ (a' := ?_) ?_ ?_
      rotate_left
      · show Act.put _ (some 10) _ = _
        simp only [Act.put, List.setIfInBounds_toArray, List.set_cons_zero, List.set_cons_succ, i64_w, i32_w]
        rfl
      refine pure_ (i := 6) (N := some 4) (v := ?_) (a' := ?_) (bb 7 127) rfl rfl (by kernel_rfl) (fun _ _ _ h => h) (Or.inl ⟨by rfl, ?_⟩) ?_ ?_
      rotate_left
      · intro w'
        go_simp
        with_reducible rfl
      rotate_left
      · simp only [Act.put, List.setIfInBounds_toArray, List.set_cons_zero, List.set_cons_succ, i64_w, i32_w]
        rfl
      refine done_ (by kernel_rfl) ?_
      clear hHeld
      go_wp2
      go_ret
      exact ⟨_, rfl, by have := HO.out.reads; simpa using this, below_step HBB.out HB.out⟩
  · refine event_step (by rfl) (show _ = Result.ok (Next.value (.slice (some ⟨w2.heap.size, 0, none⟩) 1 1)) (World.alloc _ (.cells #[.int .i64 x, .int .i64 z] 105)) from by first | (go_simp; done) | (go_simp; rfl)) ?_
    have hB_ := below_alloc (Below.refl w2.heap.size w2) (.cells #[.int .i64 x, .int .i64 z] 105)
    have HN := Aside0.mk (blk_new w2 (.cells #[.int .i64 x, .int .i64 z] 105))
    replace HB := Aside0.mk (below_step HB.out hB_)
    clear hB_
    generalize w2.alloc (.cells #[.int .i64 x, .int .i64 z] 105) = w3 at HN HB hK ⊢
    refine hK.out _ _ (blk_below HG2.out HB.out) (fun hHeld => ?_)
    clear hK K
    refine norm_ (a' := ?_) ?_ ?_
    rotate_left
    · show Act.put _ (some 9) _ = _
      simp only [Act.put, List.setIfInBounds_toArray, List.set_cons_zero, List.set_cons_succ, i64_w, i32_w]
      rfl
    refine one_ (i := 0) (N := some 5) (bb 7 27) rfl rfl (by kernel_rfl) (by decide) (fun K hK => ?_)
    refine event_step (by rfl) (show _ = Result.ok (Next.value (.slice (some ⟨w3.heap.size, 0, none⟩) 0 0)) (World.alloc _ (.cells #[] 105)) from by first | (go_simp; done) | (go_simp; rfl)) ?_
    have hB_ := below_alloc (Below.refl w3.heap.size w3) (.cells #[] 105)
    have HO := Aside0.mk ((Ob.lit w3).mono HB.out.size)
    have HNE : Aside0 (∀ k, (Value.slice (some ⟨w3.heap.size, 0, none⟩) 0 0).ownBlock = some k → w2.heap.size ≠ k) := ⟨fun k hk e => (by have h1 : w3.heap.size = k := (by simpa [Value.ownBlock] using hk); have h2 := blk_lt HN.out; omega)⟩
    replace HN := Aside0.mk (blk_below HN.out hB_)
    replace HB := Aside0.mk (below_step HB.out hB_)
    clear hB_
    generalize w3.alloc (.cells #[] 105) = w4 at HO HB HN hK ⊢
    refine hK.out _ _ (blk_below HG2.out HB.out) (fun hHeld => ?_)
    clear hK K
    refine norm_ (a' := ?_) ?_ ?_
    rotate_left
    · show Act.put _ (some 5) _ = _
      simp only [Act.put, List.setIfInBounds_toArray, List.set_cons_zero, List.set_cons_succ, i64_w, i32_w]
      rfl
    refine one_ (i := 2) (N := some 7) (bb 7 31) rfl rfl (by kernel_rfl) (by decide) (fun K hK => ?_)
    obtain ⟨v4, w5, hup, hO_, hG_⟩ := HO.out.append (HR2.out.below HB.out) HB.out.size (by have := HL.out; have := HN_.out; simp; omega) 89
    obtain ⟨A4, c4, rfl⟩ := hO_.shape
    refine value_ (v := _) (w1 := w5) (by rfl) rfl (append_run (.tmp 5) (.tmp 6) rfl rfl rfl hup) ?_
    replace HN := Aside0.mk (blk_grown HN.out hG_ (fun e => HNE.out _ e.symm rfl))
    replace HB := Aside0.mk (pw_below_grown HB.out _ HB.out.size hG_ (fun k hk => HO.out.low k hk))
    replace HO := Aside0.mk hO_
    clear hO_ hG_ hup
    refine hK.out _ _ (blk_below HG2.out HB.out) (fun hHeld => ?_)
    clear hK K
    refine norm_ (a' := ?_) ?_ ?_
    rotate_left
    · show Act.put _ (some 7) _ = _
      simp only [Act.put, List.setIfInBounds_toArray, List.set_cons_zero, List.set_cons_succ, i64_w, i32_w]
      rfl
    refine one_ (i := 5) (N := some 10) (bb 7 63) rfl rfl (by kernel_rfl) (by decide) (fun K hK => ?_)
    obtain ⟨v6, w6, hup, hO_, hG_⟩ := HO.out.append (show Rb w5 (.slice (some ⟨w2.heap.size, 0, none⟩) 1 1) [(x, z)] from .inr ⟨w2.heap.size, 0, 1, _, rfl, HN.out, Nat.le_refl _, by decide, fun j hj => (by (obtain rfl : j = 0 := by simpa using hj); exact ⟨rfl, rfl⟩)⟩) HB.out.size (by have := HL.out; have := HN_.out; simp; omega) 89
    obtain ⟨A6, c6, rfl⟩ := hO_.shape
    refine value_ (v := _) (w1 := w6) (by rfl) rfl (append_run (.tmp 7) (.tmp 9) rfl rfl rfl hup) ?_
    replace HB := Aside0.mk (pw_below_grown HB.out _ HB.out.size hG_ (fun k hk => HO.out.low k hk))
    replace HO := Aside0.mk hO_
    clear hO_ hG_ hup
    refine hK.out _ _ (blk_below HG2.out HB.out) (fun hHeld => ?_)
    clear hK K
    refine norm_ (a' := ?_) ?_ ?_
    rotate_left
    · show Act.put _ (some 10) _ = _
      simp only [Act.put, List.setIfInBounds_toArray, List.set_cons_zero, List.set_cons_succ, i64_w, i32_w]
      rfl
    refine pure_ (i := 6) (N := some 4) (v := ?_) (a' := ?_) (bb 7 127) rfl rfl (by kernel_rfl) (fun _ _ _ h => h) (Or.inl ⟨by rfl, ?_⟩) ?_ ?_
    rotate_left
    · intro w'
      go_simp
      with_reducible rfl
    rotate_left
    · simp only [Act.put, List.setIfInBounds_toArray, List.set_cons_zero, List.set_cons_succ, i64_w, i32_w]
      rfl
    refine done_ (by kernel_rfl) ?_
    clear hHeld
    go_wp2
    go_ret
    exact ⟨_, rfl, by have := HO.out.reads; simpa using this, below_step HBB.out HB.out⟩
set_option maxRecDepth 100000 in
set_option maxHeartbeats 4000000 in
theorem without_calls (v0 : Value) (l : List Bu) (hl : l.length ≤ 5000) (k : Nat) (hk : k < l.length) (w : World) (h : Rb w v0 l) : Calls Try.prog 79 #[v0, .int .i64 k] w fun e w' => ∃ v, e = .returned v ∧ Rb w' v (l.take k ++ l.drop (k + 1)) ∧ Below w.heap.size w w' := by
  obtain ⟨va, ca, hRa⟩ := h.upto k (by omega)
  obtain ⟨vb, cb, hRb⟩ := h.from (k + 1) (by omega)
  obtain ⟨Aa, cpa, rfl, -, -⟩ := hRa.shape
  obtain ⟨Ab, cpb, rfl, -, -⟩ := hRb.shape
  obtain ⟨A, c, rfl, -, -⟩ := h.shape
  have e1 : IntKind.i64.wrap ((k : Int) + 1) = (k : Int) + 1 := wid _ (by omega) (by omega)
  have ca' := ca .i64
  have cb' := cb .i64
  rw [show ((k + 1 : Nat) : Int) = (k : Int) + 1 by omega] at cb'
  have HRa := Aside0.mk hRa
  have HRb := Aside0.mk hRb
  have HL : Aside0 ((l.take k).length + (l.drop (k + 1)).length ≤ 5000) := ⟨by rw [List.length_take, List.length_drop]; omega⟩
  generalize hna : (l.take k).length = na at ca' HRa HL
  generalize hnb : (l.drop (k + 1)).length = nb at cb' HRb HL
  generalize l.length = n at ca' cb'
  have HNA := Aside0.mk (And.intro hna hnb)
  clear h hl hk ca cb hRa hRb hna hnb
  have HBB := Aside0.mk (below_drew (Below.refl w.heap.size w))
  go_enter Try.func79, Try.ntmps79
  go_upto_region 1 with (fail)
  refine start_ (n := 11) (S := fun w' => True) (ds := []) (bb 11 0) (by kernel_rfl) rfl rfl (trivial) (fun hHeld => ?_)
  have HRa2 := Aside0.mk (HRa.out.below (below_drew (Below.refl _ _)))
  have HRb2 := Aside0.mk (HRb.out.below (below_drew (Below.refl _ _)))
  clear HRa HRb
  generalize w.drew = w2 at HRa2 HRb2 HBB hHeld ⊢
  have HB := Aside0.mk (Below.refl w2.heap.size w2)
  refine pure_ (i := 1) (N := some 6) (v := ?_) (a' := ?_) (bb 11 2) rfl rfl (by kernel_rfl) (fun _ _ _ h => h) (Or.inl ⟨by rfl, ?_⟩) ?_ ?_
  rotate_left
  · intro w'
    go_simp
    with_reducible rfl
  rotate_left
  · simp only [Act.put, List.setIfInBounds_toArray, List.set_cons_zero, List.set_cons_succ, i64_w, i32_w]
    rfl
  refine pure_ (i := 2) (N := some 7) (v := ?_) (a' := ?_) (bb 11 6) rfl rfl (by kernel_rfl) (fun _ _ _ h => h) (Or.inl ⟨by rfl, ?_⟩) ?_ ?_
  rotate_left
  · intro w'
    go_simp
    with_reducible rfl
  rotate_left
  · simp only [Act.put, List.setIfInBounds_toArray, List.set_cons_zero, List.set_cons_succ, i64_w, i32_w]
    rfl
  refine pure_ (i := 3) (N := some 8) (v := ?_) (a' := ?_) (bb 11 14) rfl rfl (by kernel_rfl) (fun _ _ _ h => h) (Or.inl ⟨by rfl, ?_⟩) ?_ ?_
  rotate_left
  · intro w'
    go_simp
    with_reducible rfl
  rotate_left
  · simp only [Act.put, List.setIfInBounds_toArray, List.set_cons_zero, List.set_cons_succ, i64_w, i32_w]
    rfl
  refine pure_ (i := 5) (N := some 10) (v := ?_) (a' := ?_) (bb 11 46) rfl rfl (by kernel_rfl) (fun _ _ _ h => h) (Or.inl ⟨by rfl, ?_⟩) ?_ ?_
  rotate_left
  · intro w'
    go_simp
    with_reducible rfl
  rotate_left
  · simp only [Act.put, List.setIfInBounds_toArray, List.set_cons_zero, List.set_cons_succ, i64_w, i32_w]
    rfl
  refine pure_ (i := 6) (N := some 11) (v := ?_) (a' := ?_) (bb 11 110) rfl rfl (by kernel_rfl) (fun _ _ _ h => h) (Or.inl ⟨by rfl, ?_⟩) ?_ ?_
  rotate_left
  · intro w'
    go_simp
    with_reducible rfl
  rotate_left
  · simp only [Act.put, List.setIfInBounds_toArray, List.set_cons_zero, List.set_cons_succ, i64_w, i32_w]
    rfl
  refine pure_ (i := 7) (N := some 12) (v := ?_) (a' := ?_) (bb 11 238) rfl rfl (by kernel_rfl) (fun _ _ _ h => h) (Or.inl ⟨by rfl, ?_⟩) ?_ ?_
  rotate_left
  · intro w'
    go_simp
    with_reducible rfl
  rotate_left
  · simp only [Act.put, List.setIfInBounds_toArray, List.set_cons_zero, List.set_cons_succ, i64_w, i32_w]
    rfl
  refine pure_ (i := 8) (N := some 13) (v := ?_) (a' := ?_) (bb 11 494) rfl rfl (by kernel_rfl) (fun _ _ _ h => h) (Or.inl ⟨by rfl, ?_⟩) ?_ ?_
  rotate_left
  · intro w'
    go_simp
    with_reducible rfl
  rotate_left
  · simp only [Act.put, List.setIfInBounds_toArray, List.set_cons_zero, List.set_cons_succ, i64_w, i32_w]
    rfl
  refine one_ (i := 0) (N := some 5) (bb 11 495) rfl rfl (by kernel_rfl) (by decide) (fun K hK => ?_)
  refine event_step (by rfl) (show _ = Result.ok (Next.value (.slice (some ⟨w2.heap.size, 0, none⟩) 0 0)) (World.alloc _ (.cells #[] 105)) from by first | (go_simp; done) | (go_simp; rfl)) ?_
  have hB_ := below_alloc (Below.refl w2.heap.size w2) (.cells #[] 105)
  have HO := Aside0.mk ((Ob.lit w2).mono HB.out.size)
  replace HB := Aside0.mk (below_step HB.out hB_)
  clear hB_
  generalize w2.alloc (.cells #[] 105) = w3 at HO HB hK ⊢
  refine hK.out _ _ (trivial) (fun hHeld => ?_)
  clear hK K
  refine norm_ (a' := ?_) ?_ ?_
  rotate_left
  · show Act.put _ (some 5) _ = _
    simp only [Act.put, List.setIfInBounds_toArray, List.set_cons_zero, List.set_cons_succ, i64_w, i32_w]
    rfl
  refine one_ (i := 4) (N := some 9) (bb 11 511) rfl rfl (by kernel_rfl) (by decide) (fun K hK => ?_)
  obtain ⟨v4, w4, hup, hO_, hG_⟩ := HO.out.append (HRa2.out.below HB.out) HB.out.size (by have := HL.out; have := HNA.out; simp only [List.length_nil]; omega) 89
  obtain ⟨A4, c4, rfl⟩ := hO_.shape
  refine value_ (v := _) (w1 := w4) (by rfl) rfl (append_run (.tmp 5) (.tmp 8) rfl rfl rfl hup) ?_
  replace HB := Aside0.mk (pw_below_grown HB.out _ HB.out.size hG_ (fun k hk => HO.out.low k hk))
  replace HO := Aside0.mk hO_
  clear hO_ hG_ hup
  refine hK.out _ _ (trivial) (fun hHeld => ?_)
  clear hK K
  refine norm_ (a' := ?_) ?_ ?_
  rotate_left
  · show Act.put _ (some 9) _ = _
    simp only [Act.put, List.setIfInBounds_toArray, List.set_cons_zero, List.set_cons_succ, i64_w, i32_w]
    rfl
  refine one_ (i := 9) (N := some 14) (bb 11 1023) rfl rfl (by kernel_rfl) (by decide) (fun K hK => ?_)
  obtain ⟨v6, w5, hup, hO_, hG_⟩ := HO.out.append (HRb2.out.below HB.out) HB.out.size (by have := HL.out; have := HNA.out; simp only [List.nil_append]; omega) 89
  obtain ⟨A6, c6, rfl⟩ := hO_.shape
  refine value_ (v := _) (w1 := w5) (by rfl) rfl (append_run (.tmp 9) (.tmp 13) rfl rfl rfl hup) ?_
  replace HB := Aside0.mk (pw_below_grown HB.out _ HB.out.size hG_ (fun k hk => HO.out.low k hk))
  replace HO := Aside0.mk hO_
  clear hO_ hG_ hup
  refine hK.out _ _ (trivial) (fun hHeld => ?_)
  clear hK K
  refine norm_ (a' := ?_) ?_ ?_
  rotate_left
  · show Act.put _ (some 14) _ = _
    simp only [Act.put, List.setIfInBounds_toArray, List.set_cons_zero, List.set_cons_succ, i64_w, i32_w]
    rfl
  refine pure_ (i := 10) (N := some 4) (v := ?_) (a' := ?_) (bb 11 2047) rfl rfl (by kernel_rfl) (fun _ _ _ h => h) (Or.inl ⟨by rfl, ?_⟩) ?_ ?_
  rotate_left
  · intro w'
    go_simp
    with_reducible rfl
  rotate_left
  · simp only [Act.put, List.setIfInBounds_toArray, List.set_cons_zero, List.set_cons_succ, i64_w, i32_w]
    rfl
  refine done_ (by kernel_rfl) ?_
  clear hHeld
  go_wp2
  go_ret
  exact ⟨_, rfl, by have := HO.out.reads; simpa using this, below_step HBB.out HB.out⟩
end Go.Proofs.Ytfmfpofbefgbgaa.HPoolR
