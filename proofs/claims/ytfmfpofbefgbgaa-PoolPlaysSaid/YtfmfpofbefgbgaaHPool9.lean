/- pool: Take and Give of a group. Conditions: each theorem's own. -/
import Derived.Test.YtfmfpofbefgbgaaHPool8
namespace Go.Proofs.Ytfmfpofbefgbgaa.HPool
open Go.RowKit Go.Proofs.YtfmfpofbefgbgaaW.PrintWords Go.Proofs.YtfmfpofbefgbgaaW.PrintLast Go.Proofs.YtfmfpofbefgbgaaW.PrintMore Go.Proofs.Ytfmfpofbefgbgaa.HMap Go.Proofs.Ytfmfpofbefgbgaa.HSl Go.Maps Go.ChangeMaps Go.MapKept Go.Proofs.Ytfmfpofbefgbgaa.HReg
set_option linter.unusedVariables false
set_option linter.unusedSimpArgs false
set_option linter.unusedSectionVars false
abbrev upd (f : Int → Option Bf) (a : Int) (v : Bf) : Int → Option Bf := fun x => if x = a then some v else f x
theorem at_at {α : Type} (f : Nat → α) (i : Nat) (x y : α) : at_ (at_ f i x) i y = at_ f i y := by
  funext j
  by_cases e : j = i
  · subst e; rw [at_eq, at_eq]
  · rw [at_ne _ _ e, at_ne _ _ e, at_ne _ _ e]
theorem Sl.head {b0 : Nat} {w : World} {v : Value} {x : Int} {xs : List Int} (h : Sl b0 w v (x :: xs)) : ∃ g o c, v = .slice (some ⟨g, o, none⟩) (xs.length + 1) c ∧ w.cell? ⟨g, o, none⟩ = some (.int .i64 x) ∧ g < w.heap.size := by
  obtain ⟨e, e2⟩ | ⟨g, o, cap, cur, e, hg, hh, hn, hm, hs, hj⟩ := h
  · cases e2
  · exact ⟨g, o, cap, e, (blk_cell hh _).trans (hj 0 (Nat.succ_pos _)), blk_lt hh⟩
set_option maxRecDepth 100000 in
set_option maxHeartbeats 16000000 in
theorem take_in {b0 pb : Nat} {w : World} {mp : Nat → Nat} {fv : Nat → Value} {s : Nat → Gp} (h : Pb b0 w pb mp fv s) (i : Nat) (hi : i < 16) (x : Int) (xs : List Int) (hn : (s i).fr = x :: xs) (hx : (Lit.int .i64 x).wf = true) (sz : Int) (ou : Bool) (hm : (s i).m x = some (sz, ou)) :
    Calls Try.prog 31 #[.pointer (some ⟨pb, 0, none⟩), .int .i64 i] w fun e w' => e = .returned (.tuple #[.int .i64 x, .int .i64 sz, .int .i64 0]) ∧ ∃ fv', Pb b0 w' pb mp fv' (at_ s i ⟨upd (s i).m x (sz, true), (s i).n, xs⟩) ∧ Pv w w' pb mp fv fv' := by
  have HC := Aside0.mk (of_in h i hi)
  have hF := h.F i hi
  rw [hn] at hF
  obtain ⟨ga, oa, c, hv, hld, hglt⟩ := Sl.head hF
  rw [hv] at hF
  obtain ⟨v, ht, hS, hO⟩ := hF.tail
  obtain ⟨A1, c1, hv1, -, -⟩ := hS.shape
  subst hv1
  obtain ⟨hz0, hz, hf⟩ := h.cell hi
  rw [hv] at hz
  have hpb := blk_lt h.blk.choose_spec.1
  obtain ⟨h1, V1⟩ := h.turnF hi (grown_refl w _) hS (fun k hk => .inl (by rw [hv]; exact hO k hk))
  have hl1 := h1.look1 hi hx
  have hc1 := (h1.cell hi).1
  simp only [at_eq, hm, Option.getD_some, List.length_cons] at hl1
  have HV := Aside0.mk V1
  have HP := Aside0.mk (And.intro h1 (And.intro hi (And.intro hx hm)))
  have HLC := Aside0.mk (And.intro hl1 hc1)
  have hpos : decide (xs.length + 1 = 0) = false := decide_eq_false (by omega)
  have hlt : (0 < xs.length + 1) = True := eq_true (Nat.succ_pos _)
  clear h hi hn hv hF h1 V1 hl1 hc1 hm hx hS hO
  go_enter Try.func31, Try.ntmps31
  go_upto_region 8 with (go_at_call 65; refine HC.out.mono ?_; rintro e w1 ⟨rfl, rfl⟩)
  clear hz0 hz hf hld hglt ht HC hpb
  generalize w.setCell ⟨pb, 2 * i + 1, none⟩ (.slice A1 xs.length c1) = w1 at HV HP HLC ⊢
  have hl := HLC.out.1
  have hc := HLC.out.2
  go_upto_region 9 with (fail)
  clear hl hc HLC
  have HB := Aside0.mk (below_alloc (Below.refl w1.heap.size w1) (.cells #[.int .i64 sz, .bool ou] 126))
  have HN := Aside0.mk (blk_new w1 (.cells #[.int .i64 sz, .bool ou] 126))
  obtain ⟨g9, hg9⟩ : ∃ g9, g9 = w1.heap.size := ⟨_, rfl⟩
  have HG := Aside0.mk (Nat.le_of_eq hg9.symm)
  rw [← hg9] at HN ⊢
  clear hg9
  generalize w1.alloc (.cells #[.int .i64 sz, .bool ou] 126) = w2 at HB HN ⊢
  have q1 := (blk_cell HN.out 1).trans rfl
  have q2 := blk_frozen HN.out 1
  go_upto_region 10 with (fail)
  clear q1 q2
  have HB2 := Aside0.mk (HB.out.setCell (p := ⟨g9, 1, none⟩) HG.out (.bool true))
  have HN2 := Aside0.mk (blk_set HN.out 1 (.bool true))
  clear HB HN
  generalize w2.setCell ⟨g9, 1, none⟩ (.bool true) = w3 at HB2 HN2 ⊢
  simp only [List.setIfInBounds_toArray, List.set_cons_zero, List.set_cons_succ] at HN2
  have HP3 := Aside0.mk ((HP.out.1.below HB2.out).below (below_drew (Below.refl _ _)))
  have HV3 := Aside0.mk (HV.out.trans ((Pv.of_below HB2.out).trans (Pv.of_below (below_drew (Below.refl _ _)))))
  have HN3 := Aside0.mk (show w3.drew.heap[g9]? = _ from HN2.out)
  have HI := Aside0.mk HP.out.2
  clear HP HV HB2 HN2
  refine start_ (n := 7) (S := fun w' => w'.cell? ⟨pb, 2 * i, none⟩ = some (.map (some (mp i))) ∧ w'.heap[g9]? = some (.cells #[.int .i64 sz, .bool true] 126 (0, 0))) (ds := [6]) (bb 7 0) (by kernel_rfl) rfl rfl (⟨(HP3.out.cell HI.out.1).1, HN3.out⟩) (fun hHeld => ?_)
  generalize w3.drew = w4 at HP3 HV3 HN3 hHeld ⊢
  refine pure_ (i := 0) (N := some 47) (v := ?_) (a' := ?_) (bb 7 1) rfl rfl (by kernel_rfl) (fun _ _ _ h => h) (Or.inl ⟨by rfl, ?_⟩) ?_ ?_
  rotate_left
  · intro w'
    go_simp
    with_reducible rfl
  rotate_left
  · simp only [Act.put, List.setIfInBounds_toArray, List.set_cons_zero, List.set_cons_succ, i64_w, i32_w]
    rfl
  refine pure_ (i := 1) (N := some 48) (v := ?_) (a' := ?_) (bb 7 3) rfl rfl (by kernel_rfl) (fun _ _ _ h => h) (Or.inl ⟨by rfl, ?_⟩) ?_ ?_
  rotate_left
  · intro w'
    go_simp
    with_reducible rfl
  rotate_left
  · simp only [Act.put, List.setIfInBounds_toArray, List.set_cons_zero, List.set_cons_succ, i64_w, i32_w]
    rfl
  refine pure_ (i := 2) (N := some 49) (v := ?_) (a' := ?_) (bb 7 7) rfl rfl (by kernel_rfl) (fun _ _ _ h => h) (Or.inl ⟨by rfl, ?_⟩) ?_ ?_
  rotate_left
  · intro w'
    go_simp
    with_reducible rfl
  rotate_left
  · simp only [Act.put, List.setIfInBounds_toArray, List.set_cons_zero, List.set_cons_succ, i64_w, i32_w]
    rfl
  refine take_ (i := 3) (N := some 50) (v := ?_) (a' := ?_) (bb 7 15) rfl rfl (by kernel_rfl) (fun _ _ _ h => h) (Or.inl ⟨by rfl, ?_⟩) hHeld ?_ ?_
  rotate_left
  · intro w' hSw
    obtain ⟨z1, z2⟩ := hSw
    have z3 := (blk_cell z2 0).trans rfl
    have z4 := (blk_cell z2 1).trans rfl
    go_simp
    with_reducible rfl
  rotate_left
  · simp only [Act.put, List.setIfInBounds_toArray, List.set_cons_zero, List.set_cons_succ, i64_w, i32_w]
    rfl
  refine pure_ (i := 4) (N := some 51) (v := ?_) (a' := ?_) (bb 7 31) rfl rfl (by kernel_rfl) (fun _ _ _ h => h) (Or.inl ⟨by rfl, ?_⟩) ?_ ?_
  rotate_left
  · intro w'
    go_simp
    with_reducible rfl
  rotate_left
  · simp only [Act.put, List.setIfInBounds_toArray, List.set_cons_zero, List.set_cons_succ, i64_w, i32_w]
    rfl
  refine take_ (i := 5) (N := some 52) (v := ?_) (a' := ?_) (bb 7 63) rfl rfl (by kernel_rfl) (fun _ _ _ h => h) (Or.inl ⟨by rfl, ?_⟩) hHeld ?_ ?_
  rotate_left
  · intro w' hSw
    obtain ⟨z1, z2⟩ := hSw
    have z3 := (blk_cell z2 0).trans rfl
    have z4 := (blk_cell z2 1).trans rfl
    go_simp
    with_reducible rfl
  rotate_left
  · simp only [Act.put, List.setIfInBounds_toArray, List.set_cons_zero, List.set_cons_succ, i64_w, i32_w]
    rfl
  obtain ⟨w5, hup, hT5, hG5⟩ := (HP3.out.setM HI.out.1 HI.out.2.1 (sz, true))
  refine last_ (i := 6) (N := none) (bb 7 127) rfl rfl (by kernel_rfl) (by decide) (fun K hK => ?_)
  refine skip_ (w1 := w5) (by rfl) rfl (by first | (go_simp; done) | (go_simp; rfl)) ?_
  refine hK.out _ _ ?_
  clear hK K
  refine done_ (by kernel_rfl) ?_
  clear hHeld hup
  have HT := Aside0.mk (show Pb b0 w5 pb mp (at_ fv i (.slice A1 xs.length c1)) (at_ s i ⟨upd (s i).m x (sz, true), (s i).n, xs⟩) by simpa only [at_at, at_eq, HI.out.2.2, Option.isSome_some, if_true] using hT5)
  have HV5 := Aside0.mk (HV3.out.trans (Pv.grown_map hG5 HI.out.1))
  have HN5 := Aside0.mk (blk_grown HN3.out hG5 (fun e => (HP3.out.M i HI.out.1).apart HN3.out (Option.some.inj e).symm))
  clear hT5 hG5 HP3 HV3 HN3
  go_upto_region 11 with (fail)
  refine start_ (n := 6) (S := fun w' => w'.heap[g9]? = some (.cells #[.int .i64 sz, .bool true] 126 (0, 0))) (ds := []) (bb 6 0) (by kernel_rfl) rfl rfl (HN5.out) (fun hHeld => ?_)
  refine pure_ (i := 0) (N := some 53) (v := ?_) (a' := ?_) (bb 6 1) rfl rfl (by kernel_rfl) (fun _ _ _ h => h) (Or.inl ⟨by rfl, ?_⟩) ?_ ?_
  rotate_left
  · intro w'
    go_simp
    with_reducible rfl
  rotate_left
  · simp only [Act.put, List.setIfInBounds_toArray, List.set_cons_zero, List.set_cons_succ, i64_w, i32_w]
    rfl
  refine pure_ (i := 1) (N := some 54) (v := ?_) (a' := ?_) (bb 6 3) rfl rfl (by kernel_rfl) (fun _ _ _ h => h) (Or.inl ⟨by rfl, ?_⟩) ?_ ?_
  rotate_left
  · intro w'
    go_simp
    with_reducible rfl
  rotate_left
  · simp only [Act.put, List.setIfInBounds_toArray, List.set_cons_zero, List.set_cons_succ, i64_w, i32_w]
    rfl
  refine take_ (i := 2) (N := some 55) (v := ?_) (a' := ?_) (bb 6 7) rfl rfl (by kernel_rfl) (fun _ _ _ h => h) (Or.inl ⟨by rfl, ?_⟩) hHeld ?_ ?_
  rotate_left
  · intro w' hSw
    have z3 := (blk_cell hSw 0).trans rfl
    have z4 := (blk_cell hSw 1).trans rfl
    go_simp
    with_reducible rfl
  rotate_left
  · simp only [Act.put, List.setIfInBounds_toArray, List.set_cons_zero, List.set_cons_succ, i64_w, i32_w]
    rfl
  refine pure_ (i := 3) (N := some 4) (v := ?_) (a' := ?_) (bb 6 15) rfl rfl (by kernel_rfl) (fun _ _ _ h => h) (Or.inl ⟨by rfl, ?_⟩) ?_ ?_
  rotate_left
  · intro w'
    go_simp
    with_reducible rfl
  rotate_left
  · simp only [Act.put, List.setIfInBounds_toArray, List.set_cons_zero, List.set_cons_succ, i64_w, i32_w]
    rfl
  refine pure_ (i := 4) (N := some 5) (v := ?_) (a' := ?_) (bb 6 31) rfl rfl (by kernel_rfl) (fun _ _ _ h => h) (Or.inl ⟨by rfl, ?_⟩) ?_ ?_
  rotate_left
  · intro w'
    go_simp
    with_reducible rfl
  rotate_left
  · simp only [Act.put, List.setIfInBounds_toArray, List.set_cons_zero, List.set_cons_succ, i64_w, i32_w]
    rfl
  refine pure_ (i := 5) (N := some 6) (v := ?_) (a' := ?_) (bb 6 63) rfl rfl (by kernel_rfl) (fun _ _ _ h => h) (Or.inl ⟨by rfl, ?_⟩) ?_ ?_
  rotate_left
  · intro w'
    go_simp
    with_reducible rfl
  rotate_left
  · simp only [Act.put, List.setIfInBounds_toArray, List.set_cons_zero, List.set_cons_succ, i64_w, i32_w]
    rfl
  refine done_ (by kernel_rfl) ?_
  clear hHeld
  go_wp2
  go_ret3
  exact ⟨rfl, _, HT.out.below (below_drew (Below.refl _ _)), HV5.out.trans (Pv.of_below (below_drew (Below.refl _ _)))⟩
theorem append1_step {W : World} {ops : Array Oper} {rest : List Oper} {o : Oper} {a : Act} {Q : Exit → Act → World → Prop} (hgd : o.guard = none) (s x : Operand) (ho : o.op = .call { callee := .builtin .append, args := #[s, x], argTypes := #[102, 102] })
    {b0 : Nat} {v : Value} {xs : List Int} (g1 : Nat) (z : Int) (hs : a.eval s = v) (hx : a.eval x = .slice (some ⟨g1, 0, none⟩) 1 1) (hS : Sl b0 W v xs) (hb : b0 ≤ W.heap.size) (hl : xs.length ≤ 100000) (hc : W.cell? ⟨g1, 0, none⟩ = some (.int .i64 z))
    (h : ∀ v' w', Sl b0 w' v' (xs ++ [z]) → W.grownBy w' v.ownBlock → (v'.ownBlock = v.ownBlock ∨ ∃ k, v'.ownBlock = some k ∧ W.heap.size ≤ k) → wpList Try.prog ops Q rest (a.put o.dst v') w') : wpList Try.prog ops Q (o :: rest) a W := by
  obtain ⟨v', w', hr, h1, h2, h3⟩ := hS.append1 hb hl g1 z hc o.type
  refine wpList_plain hgd fun K hK => ?_
  unfold Oper.wp execOp
  simp only [ho, resolve, invoke, builtin, Sem.run_bind, Sem.run_pure, Result.andThen_ok, List.map_toArray, List.map_cons, List.map_nil, hs, hx, hr]
  exact hK _ _ (h v' w' h1 h2 h3)
theorem own_new {v v' : Value} {n : Nat} (h : v'.ownBlock = v.ownBlock ∨ ∃ k, v'.ownBlock = some k ∧ n ≤ k) (k : Nat) (hk : v'.ownBlock = some k) : v.ownBlock = some k ∨ n ≤ k := by
  rcases h with e | ⟨k', e, hle⟩
  · exact .inl (e ▸ hk)
  · rw [e] at hk
    injection hk with hk
    subst hk
    exact .inr hle
theorem Pb.cellG {b0 pb : Nat} {w w' : World} {mp : Nat → Nat} {fv : Nat → Value} {s : Nat → Gp} (h : Pb b0 w pb mp fv s) {i : Nat} (hi : i < 16) (hG : w.grownBy w' (fv i).ownBlock) : w'.cell? ⟨pb, 2 * i, none⟩ = some (.map (some (mp i))) ∧ w'.cell? ⟨pb, 2 * i + 1, none⟩ = some (fv i) ∧ w'.frozen? ⟨pb, 2 * i + 1, none⟩ = false := by
  obtain ⟨cells, h1, h2, h3⟩ := h.blk
  have h1' := blk_grown h1 hG (h.pbF hi)
  exact ⟨(blk_cell h1' (2 * i)).trans (h3 i hi).1, (blk_cell h1' (2 * i + 1)).trans (h3 i hi).2, blk_frozen h1' _⟩
set_option maxRecDepth 100000 in
set_option maxHeartbeats 16000000 in
theorem give_none {b0 pb : Nat} {w : World} {mp : Nat → Nat} {fv : Nat → Value} {s : Nat → Gp} (h : Pb b0 w pb mp fv s) (i : Nat) (hi : i < 16) (id : Int) (hid : (Lit.int .i64 id).wf = true) (hno : (s i).m id = none ∨ ∃ sz, (s i).m id = some (sz, false)) :
    Calls Try.prog 33 #[.pointer (some ⟨pb, 0, none⟩), .int .i64 i, .int .i64 id] w fun e w' => e = .returned (.int .i64 6) ∧ Below w.heap.size w w' := by
  have hl := h.look2 hi hid
  have hc := (h.cell hi).1
  have HC := Aside0.mk (of_in h i hi)
  obtain ⟨sz, q, hg⟩ : ∃ sz q, (((s i).m id).getD (0, false) = (sz, false) ∧ ((s i).m id).isSome = q) := by
    rcases hno with e | ⟨sz, e⟩
    · exact ⟨0, false, by rw [e]; exact ⟨rfl, rfl⟩⟩
    · exact ⟨sz, true, by rw [e]; exact ⟨rfl, rfl⟩⟩
  rw [hg.1, hg.2] at hl
  generalize mp i = mi at hl hc
  have HB := Aside0.mk (below_alloc (Below.refl w.heap.size w) (.cells #[.int .i64 sz, .bool false] 126))
  have HN := Aside0.mk (blk_new w (.cells #[.int .i64 sz, .bool false] 126))
  clear hid h hi hno hg
  go_enter Try.func33, Try.ntmps33
  go_upto_region 5 with (go_at_call 65; refine HC.out.mono ?_; rintro e w1 ⟨rfl, rfl⟩)
  obtain ⟨g9, hg9⟩ : ∃ g9, g9 = w.heap.size := ⟨_, rfl⟩
  rw [← hg9] at HN ⊢
  clear hg9 hl hc HC
  generalize w.alloc (.cells #[.int .i64 sz, .bool false] 126) = w2 at HB HN ⊢
  have q0 := (blk_cell HN.out 0).trans rfl
  have q1 := (blk_cell HN.out 1).trans rfl
  cases q
  · go_wp2
    go_ret
    exact ⟨rfl, HB.out⟩
  · go_wp2
    go_ret
    exact ⟨rfl, HB.out⟩
set_option maxRecDepth 100000 in
set_option maxHeartbeats 16000000 in
theorem give_in {b0 pb : Nat} {w : World} {mp : Nat → Nat} {fv : Nat → Value} {s : Nat → Gp} (h : Pb b0 w pb mp fv s) (hb0 : b0 ≤ w.heap.size) (i : Nat) (hi : i < 16) (hlen : (s i).fr.length ≤ 100000) (id : Int) (hid : (Lit.int .i64 id).wf = true) (sz : Int) (hm : (s i).m id = some (sz, true)) :
    Calls Try.prog 33 #[.pointer (some ⟨pb, 0, none⟩), .int .i64 i, .int .i64 id] w fun e w' => e = .returned (.int .i64 0) ∧ ∃ fv', Pb b0 w' pb mp fv' (at_ s i ⟨upd (s i).m id (sz, false), (s i).n, (s i).fr ++ [id]⟩) ∧ Pv w w' pb mp fv fv' := by
  have hl := h.look2 hi hid
  have hc := (h.cell hi).1
  have HC := Aside0.mk (of_in h i hi)
  simp only [hm, Option.getD_some, Option.isSome_some] at hl
  have HB := Aside0.mk (below_alloc (Below.refl w.heap.size w) (.cells #[.int .i64 sz, .bool true] 126))
  have HN := Aside0.mk (blk_new w (.cells #[.int .i64 sz, .bool true] 126))
  have HI := Aside0.mk (And.intro hi (And.intro hid (And.intro hm (And.intro hb0 hlen))))
  have HP := Aside0.mk h
  clear hid h hi hm hb0 hlen
  go_enter Try.func33, Try.ntmps33
  go_upto_region 5 with (go_at_call 65; refine HC.out.mono ?_; rintro e w1 ⟨rfl, rfl⟩)
  obtain ⟨g9, hg9⟩ : ∃ g9, g9 = w.heap.size := ⟨_, rfl⟩
  have HG := Aside0.mk (Nat.le_of_eq hg9.symm)
  rw [← hg9] at HN ⊢
  clear hg9 hl hc HC
  generalize w.alloc (.cells #[.int .i64 sz, .bool true] 126) = w2 at HB HN ⊢
  have q0 := (blk_cell HN.out 0).trans rfl
  have q1 := (blk_cell HN.out 1).trans rfl
  have q2 := blk_frozen HN.out 1
  go_upto_region 8 with (fail)
  clear q0 q1 q2
  have HB2 := Aside0.mk (HB.out.setCell (p := ⟨g9, 1, none⟩) HG.out (.bool false))
  have HN2 := Aside0.mk (blk_set HN.out 1 (.bool false))
  clear HB HN
  generalize w2.setCell ⟨g9, 1, none⟩ (.bool false) = w3 at HB2 HN2 ⊢
  simp only [List.setIfInBounds_toArray, List.set_cons_zero, List.set_cons_succ] at HN2
  have HP3 := Aside0.mk ((HP.out.below HB2.out).below (below_drew (Below.refl _ _)))
  have HV3 := Aside0.mk ((Pv.of_below (mp := mp) (fv := fv) (pb := pb) HB2.out).trans (Pv.of_below (below_drew (Below.refl _ _))))
  have HN3 := Aside0.mk (show w3.drew.heap[g9]? = _ from HN2.out)
  clear HP HB2 HN2
  refine start_ (n := 7) (S := fun w' => w'.cell? ⟨pb, 2 * i, none⟩ = some (.map (some (mp i))) ∧ w'.heap[g9]? = some (.cells #[.int .i64 sz, .bool false] 126 (0, 0))) (ds := [6]) (bb 7 0) (by kernel_rfl) rfl rfl (⟨(HP3.out.cell HI.out.1).1, HN3.out⟩) (fun hHeld => ?_)
  generalize w3.drew = w4 at HP3 HV3 HN3 hHeld ⊢
  refine pure_ (i := 0) (N := some 37) (v := ?_) (a' := ?_) (bb 7 1) rfl rfl (by kernel_rfl) (fun _ _ _ h => h) (Or.inl ⟨by rfl, ?_⟩) ?_ ?_
  rotate_left
  · intro w'
    go_simp
    with_reducible rfl
  rotate_left
  · simp only [Act.put, List.setIfInBounds_toArray, List.set_cons_zero, List.set_cons_succ, i64_w, i32_w]
    rfl
  refine pure_ (i := 1) (N := some 38) (v := ?_) (a' := ?_) (bb 7 3) rfl rfl (by kernel_rfl) (fun _ _ _ h => h) (Or.inl ⟨by rfl, ?_⟩) ?_ ?_
  rotate_left
  · intro w'
    go_simp
    with_reducible rfl
  rotate_left
  · simp only [Act.put, List.setIfInBounds_toArray, List.set_cons_zero, List.set_cons_succ, i64_w, i32_w]
    rfl
  refine pure_ (i := 2) (N := some 39) (v := ?_) (a' := ?_) (bb 7 7) rfl rfl (by kernel_rfl) (fun _ _ _ h => h) (Or.inl ⟨by rfl, ?_⟩) ?_ ?_
  rotate_left
  · intro w'
    go_simp
    with_reducible rfl
  rotate_left
  · simp only [Act.put, List.setIfInBounds_toArray, List.set_cons_zero, List.set_cons_succ, i64_w, i32_w]
    rfl
  refine take_ (i := 3) (N := some 40) (v := ?_) (a' := ?_) (bb 7 15) rfl rfl (by kernel_rfl) (fun _ _ _ h => h) (Or.inl ⟨by rfl, ?_⟩) hHeld ?_ ?_
  rotate_left
  · intro w' hSw
    obtain ⟨z1, z2⟩ := hSw
    have z3 := (blk_cell z2 0).trans rfl
    have z4 := (blk_cell z2 1).trans rfl
    go_simp
    with_reducible rfl
  rotate_left
  · simp only [Act.put, List.setIfInBounds_toArray, List.set_cons_zero, List.set_cons_succ, i64_w, i32_w]
    rfl
  refine pure_ (i := 4) (N := some 41) (v := ?_) (a' := ?_) (bb 7 31) rfl rfl (by kernel_rfl) (fun _ _ _ h => h) (Or.inl ⟨by rfl, ?_⟩) ?_ ?_
  rotate_left
  · intro w'
    go_simp
    with_reducible rfl
  rotate_left
  · simp only [Act.put, List.setIfInBounds_toArray, List.set_cons_zero, List.set_cons_succ, i64_w, i32_w]
    rfl
  refine take_ (i := 5) (N := some 42) (v := ?_) (a' := ?_) (bb 7 63) rfl rfl (by kernel_rfl) (fun _ _ _ h => h) (Or.inl ⟨by rfl, ?_⟩) hHeld ?_ ?_
  rotate_left
  · intro w' hSw
    obtain ⟨z1, z2⟩ := hSw
    have z3 := (blk_cell z2 0).trans rfl
    have z4 := (blk_cell z2 1).trans rfl
    go_simp
    with_reducible rfl
  rotate_left
  · simp only [Act.put, List.setIfInBounds_toArray, List.set_cons_zero, List.set_cons_succ, i64_w, i32_w]
    rfl
  obtain ⟨w5, hup, hT5, hG5⟩ := (HP3.out.setM HI.out.1 HI.out.2.1 (sz, false))
  refine last_ (i := 6) (N := none) (bb 7 127) rfl rfl (by kernel_rfl) (by decide) (fun K hK => ?_)
  refine skip_ (w1 := w5) (by rfl) rfl (by first | (go_simp; done) | (go_simp; rfl)) ?_
  refine hK.out _ _ ?_
  clear hK K
  refine done_ (by kernel_rfl) ?_
  clear hHeld hup
  have HT := Aside0.mk (show Pb b0 w5 pb mp fv (at_ s i ⟨upd (s i).m id (sz, false), (s i).n, (s i).fr⟩) by simpa only [HI.out.2.2.1, Option.isSome_some, if_true] using hT5)
  have HV5 := Aside0.mk (HV3.out.trans (Pv.grown_map hG5 HI.out.1))
  clear hT5 hG5 HP3 HV3 HN3
  have HF := Aside0.mk (HT.out.F i HI.out.1)
  have HO := Aside0.mk HI.out.2.2.2
  obtain ⟨A1, c1, hv, -, -⟩ := HF.out.shape
  rw [at_eq] at hv
  have hz := (HT.out.cell HI.out.1).2.1
  have hf := (HT.out.cell HI.out.1).2.2
  rw [hv] at hz
  have HVV := Aside0.mk hv
  rw [hv, at_eq] at HF
  simp only at hz HF
  clear hv
  go_wp2_with (((with_reducible refine gate_builtin (b := .append) (xs := #[.tmp 47, .tmp 49]) rfl ?_); refine append1_step rfl (.tmp 47) (.tmp 49) rfl w5.heap.size id rfl rfl (HF.out.below (below_alloc (Below.refl _ w5) _)) ?aa ?al ((blk_cell (blk_new w5 _) 0).trans rfl) ?_; (case aa => exact Nat.le_trans HO.out.1 (Nat.le_trans HV5.out.size (below_alloc (Below.refl w5.heap.size w5) _).size)); (case al => exact HO.out.2); intro v3 w6 hS hG hO; obtain ⟨A3, c3, rfl, -, -⟩ := hS.shape; generalize ((s i).fr ++ [id]).length = n3 at hS hO ⊢; have hG1 : (w5.alloc (.cells #[.int .i64 id] 3)).grownBy w6 (fv i).ownBlock := (by rw [HVV.out]; exact hG); have T6 := Aside0.mk ((HT.out.below (below_alloc (Below.refl w5.heap.size w5) _)).turnF HI.out.1 hG1 hS (fun k hk => by rw [HVV.out]; exact own_new hO k hk)); obtain ⟨-, k1, k2⟩ := (HT.out.below (below_alloc (Below.refl w5.heap.size w5) (.cells #[.int .i64 id] 3))).cellG HI.out.1 hG1; clear hS hG hO hz hf hG1))
  go_ret
  exact ⟨rfl, _, by simpa only [at_at, at_eq] using T6.out.1, (HV5.out.trans (Pv.of_below (below_alloc (Below.refl w5.heap.size w5) _))).trans T6.out.2⟩
end Go.Proofs.Ytfmfpofbefgbgaa.HPool
