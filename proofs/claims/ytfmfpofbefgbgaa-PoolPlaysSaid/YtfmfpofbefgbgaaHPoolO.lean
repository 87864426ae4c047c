/- pool: the law's own row of pairs (group, number), apart from the pool. Conditions: each theorem's own. -/
import Derived.Test.YtfmfpofbefgbgaaPPoolLx0
import Derived.ChangeKeysEq
namespace Go.Proofs.Ytfmfpofbefgbgaa.PPoolL
open Go.RowKit Go.Proofs.YtfmfpofbefgbgaaW.PrintWords Go.Proofs.YtfmfpofbefgbgaaW.PrintLast Go.Proofs.YtfmfpofbefgbgaaW.PrintMore Go.Proofs.Ytfmfpofbefgbgaa.HPoolS Go.Proofs.Ytfmfpofbefgbgaa.HPool
set_option linter.unusedVariables false
set_option linter.unusedSimpArgs false
theorem info55 : (Try.prog.info? 55).map (fun i => (i.zero.map (·.cells.size), i.size, i.bytes)) = some (some 2, 2, 16) := by kernel_rfl
theorem part0 (a b : Int) (W : World) : (part 3 #[.int .i64 a, .int .i64 b] (0 * 1)).run Try.prog W = .ok (.int .i64 a) W := by kernel_rfl
theorem part1 (a b : Int) (W : World) : (part 3 #[.int .i64 a, .int .i64 b] (1 * 1)).run Try.prog W = .ok (.int .i64 b) W := by kernel_rfl
theorem equal55 (a b c d : Int) (W : World) : (Op.equalIn 10000 55 (.agg #[.int .i64 a, .int .i64 b]) (.agg #[.int .i64 c, .int .i64 d])).run Try.prog W = .ok (a == c && b == d) W := by
  have hn : ∃ i, Try.prog.info? 3 = some i := by
    cases h : Try.prog.info? 3 with
    | none =>
      have e : (Try.prog.info? 3).isSome = true := by kernel_rfl
      rw [h] at e; cases e
    | some i => exact ⟨i, rfl⟩
  obtain ⟨i, hi⟩ := hn
  have hc : Try.prog.cellsOf 3 = 1 := by kernel_rfl
  rw [run_equalIn_array W 9999 _ _ Try.underlying55 hi, hc, show List.range 2 = [0, 1] from rfl]
  simp only [Op.eqItems, Sem.run_bind, part0, part1, Result.andThen_ok, run_equalIn_int (P := Try.prog) W 9998 3 .i64 .i64 _ _ Try.underlying3]
  have hb := run_equalIn_int (P := Try.prog) W 9998 3 .i64 .i64 b d Try.underlying3
  have p1 : ∀ (a b : Int), (part 3 #[.int .i64 a, .int .i64 b] 1).run Try.prog W = .ok (.int .i64 b) W := fun a b => part1 a b W
  cases (a == c)
  · simp
  · simp only [Bool.not_true, Bool.false_eq_true, if_false, Sem.run_bind, Sem.run_pure, part1, p1, Result.andThen_ok, hb]
    cases (b == d) <;> simp [p1, hb]
theorem eql55 (a b c d : Int) (W : World) : (binOp .eql 55 (.agg #[.int .i64 a, .int .i64 b]) (.agg #[.int .i64 c, .int .i64 d])).run Try.prog W = .ok (.bool (a == c && b == d)) W := by
  rw [run_eql_struct, equal55]
  rfl
theorem neq55 (a b c d : Int) (W : World) : (binOp .neq 55 (.agg #[.int .i64 a, .int .i64 b]) (.agg #[.int .i64 c, .int .i64 d])).run Try.prog W = .ok (.bool (!(a == c && b == d))) W := by
  rw [run_neq_struct, equal55]
  rfl
/-- A row of pairs of the law's own. -/
def flat (l : List (Int × Int)) : List Value := l.flatMap (fun p => [.int .i64 p.1, .int .i64 p.2])
theorem flat_len (l : List (Int × Int)) : (flat l).length = l.length * 2 := by
  unfold flat
  induction l with
  | nil => rfl
  | cons p r ih => rw [List.flatMap_cons, List.length_append, ih]; simp; omega
theorem flat_append (l : List (Int × Int)) (p : Int × Int) : flat (l ++ [p]) = flat l ++ [.int .i64 p.1, .int .i64 p.2] := by
  unfold flat
  rw [List.flatMap_append]
  simp
theorem flat_get : ∀ (l : List (Int × Int)) (j : Nat), j < l.length → (flat l)[j * 2]? = some (.int .i64 (l.getD j (0, 0)).1) ∧ (flat l)[j * 2 + 1]? = some (.int .i64 (l.getD j (0, 0)).2)
  | [], j, h => absurd h (Nat.not_lt_zero _)
  | p :: r, 0, h => ⟨rfl, rfl⟩
  | p :: r, j + 1, h => by
    have := flat_get r j (by simpa using h)
    have e : flat (p :: r) = .int .i64 p.1 :: .int .i64 p.2 :: flat r := rfl
    rw [e, show (j + 1) * 2 = j * 2 + 1 + 1 by omega, show j * 2 + 1 + 1 + 1 = (j * 2 + 1) + 1 + 1 by omega]
    simpa using this
def Pr (b0 : Nat) (w : World) (v : Value) (l : List (Int × Int)) : Prop := w.ownsRow b0 55 2 v l.length (flat l)
section
variable {b0 : Nat} {w w' : World} {v : Value} {l : List (Int × Int)}
theorem Pr.nil (b0 : Nat) (w : World) : Pr b0 w (.slice none 0 0) [] := ⟨rfl, .inl ⟨rfl, rfl⟩⟩
theorem Pr.shape (h : Pr b0 w v l) : ∃ A c, v = .slice A l.length c := by
  obtain ⟨-, ⟨rfl, h0⟩ | ⟨g, cap, cur, rfl, -⟩⟩ := h
  · exact ⟨none, 0, by rw [h0]⟩
  · exact ⟨_, _, rfl⟩
theorem Pr.keep (h : Pr b0 w v l) (hk : ∀ k cs, v.ownBlock = some k → w.heap[k]? = some (.cells cs 55 (0, 0)) → w'.heap[k]? = w.heap[k]?) : Pr b0 w' v l := own_move h (fun k hk2 => by
  obtain ⟨cs, hc⟩ := own_typed h k hk2
  exact hk k cs hk2 hc)
theorem Pr.below (h : Pr b0 w v l) (hb : Below w.heap.size w w') : Pr b0 w' v l := h.keep fun k cs _ hc => hb.block k (blk_lt hc)
theorem Pr.kq (h : Pr b0 w v l) (hb : Kq w w') : Pr b0 w' v l := h.keep fun k cs _ hc => (hb.old k cs 55 hc (by decide) (by decide)).trans hc.symm
theorem Pr.low (h : Pr b0 w v l) : ∀ k, v.ownBlock = some k → b0 ≤ k ∧ ∃ cs, w.heap[k]? = some (.cells cs 55 (0, 0)) := by
  obtain ⟨-, ⟨rfl, -⟩ | ⟨g, cap, cur, rfl, hb, hh, -⟩⟩ := h
  · intro k hk; cases hk
  · intro k hk
    have : g = k := by simpa [Value.ownBlock] using hk
    subst this
    exact ⟨hb, _, hh⟩
theorem Pr.mono {b1 : Nat} (h : Pr b0 w v l) (hb : b1 ≤ b0) : Pr b1 w v l := by
  obtain ⟨h1, h2 | ⟨g, cap, cur, e, hg, hr⟩⟩ := h
  · exact ⟨h1, .inl h2⟩
  · exact ⟨h1, .inr ⟨g, cap, cur, e, Nat.le_trans hb hg, hr⟩⟩
theorem Pr.get {A : Option Addr} {n c : Nat} (h : Pr b0 w (.slice A n c) l) {j : Nat} (hj : j < l.length) : ∃ ad, A = some ad ∧ w.cell? (ad.add (j * 2)) = some (.int .i64 (l.getD j (0, 0)).1) ∧ w.cell? ⟨(ad.add (j * 2)).block, (ad.add (j * 2)).off + 1, none⟩ = some (.int .i64 (l.getD j (0, 0)).2) := by
  obtain ⟨-, ⟨e, h0⟩ | ⟨g, cap, cur, e, hb, hh, hn, hc, hs, ht⟩⟩ := h
  · omega
  · injection e with e1 e2 e3
    subst e1
    obtain ⟨f0, f1⟩ := flat_get l j hj
    have hg : ∀ i, i < l.length * 2 → cur[i]? = (flat l)[i]? := fun i hi => by
      rw [← ht, List.getElem?_take, if_pos hi]
      simp
    refine ⟨_, rfl, ?_, ?_⟩
    · rw [Addr.add_lit, Nat.zero_add, blk_cell hh, hg _ (by omega), f0]
    · rw [Addr.add_lit, Nat.zero_add]
      show w.cell? ⟨g, j * 2 + 1, none⟩ = _
      rw [blk_cell hh, hg _ (by omega), f1]
theorem Pr.append1 (h : Pr b0 w v l) (hb : b0 ≤ w.heap.size) (hl : l.length ≤ 100000) (g1 : Nat) (x y : Int) (hx : w.cell? ⟨g1, 0, none⟩ = some (.int .i64 x)) (hy : w.cell? ⟨g1, 1, none⟩ = some (.int .i64 y)) (ty : TypeId) :
    ∃ v' w', (Builtin.append_ #[49, 49] ty #[v, .slice (some ⟨g1, 0, none⟩) 1 1]).run Try.prog w = .ok v' w' ∧ Pr b0 w' v' (l ++ [(x, y)]) ∧ w.grownBy w' v.ownBlock := by
  cases hi : Try.prog.info? 55 with
  | none => have := info55; rw [hi] at this; cases this
  | some i =>
    have hz := info55
    rw [hi] at hz
    simp only [Option.map_some, Option.some.injEq, Prod.mk.injEq] at hz
    obtain ⟨hz0, hz1, hz2⟩ := hz
    obtain ⟨z, hz3, hz4⟩ := Option.map_eq_some_iff.1 hz0
    obtain ⟨v', w', hr, ho, hg, -⟩ := run_append_own (P := Try.prog) w b0 49 ty 55 i z 2 16 Try.underlying49 hi hz3 hz1 hz2 hz4 (by decide) v l.length (flat l) h ⟨g1, 0, none⟩ 1 1 [.int .i64 x, .int .i64 y] rfl
      (fun j u hj => by
        match j, hj with
        | 0, hj => rw [Addr.add_lit, hx]; simpa using hj
        | 1, hj => rw [Addr.add_lit, hy]; simpa using hj) (fun u hu => by
          rcases List.mem_cons.1 hu with e | e
          · rw [e]; rfl
          · rw [List.mem_singleton.1 e]; rfl) (by simp only [maxLen]; omega) (by omega) hb
    refine ⟨v', w', hr, ?_, hg⟩
    show w'.ownsRow b0 55 2 v' (l ++ [(x, y)]).length (flat (l ++ [(x, y)]))
    rw [flat_append, List.length_append]
    exact ho
end
theorem append2_step {W : World} {ops : Array Oper} {rest : List Oper} {o : Oper} {a : Act} {Q : Exit → Act → World → Prop} (hgd : o.guard = none) (s x : Operand) (ho : o.op = .call { callee := .builtin .append, args := #[s, x], argTypes := #[49, 49] })
    {b0 : Nat} {v : Value} {l : List (Int × Int)} (g1 : Nat) (p q : Int) (hs : a.eval s = v) (hx : a.eval x = .slice (some ⟨g1, 0, none⟩) 1 1) (hS : Pr b0 W v l) (hb : b0 ≤ W.heap.size) (hl : l.length ≤ 100000) (hc : W.cell? ⟨g1, 0, none⟩ = some (.int .i64 p)) (hd : W.cell? ⟨g1, 1, none⟩ = some (.int .i64 q))
    (h : ∀ v' w', Pr b0 w' v' (l ++ [(p, q)]) → W.grownBy w' v.ownBlock → wpList Try.prog ops Q rest (a.put o.dst v') w') : wpList Try.prog ops Q (o :: rest) a W := by
  obtain ⟨v', w', hr, h1, h2⟩ := hS.append1 hb hl g1 p q hc hd o.type
  refine wpList_plain hgd fun K hK => ?_
  unfold Oper.wp execOp
  simp only [ho, resolve, invoke, builtin, Sem.run_bind, Sem.run_pure, Result.andThen_ok, List.map_toArray, List.map_cons, List.map_nil, hs, hx, hr]
  exact hK _ _ (h v' w' h1 h2)
theorem Tq.grown {w0 w w' : World} {pb : Nat} {r : RS} {o : Option Nat} (h : Tq w0 w pb r) (hg : w.grownBy w' o) (ho : ∀ k, o = some k → w0.heap.size ≤ k ∧ ∃ cs, w.heap[k]? = some (.cells cs 55 (0, 0))) : Tq w0 w' pb r := by
  obtain ⟨mp, fv, s, hP, hR⟩ := h.ex
  obtain ⟨cells, h1, h2, h3⟩ := hP.blk
  refine ⟨⟨mp, fv, s, ⟨⟨cells, blk_grown h1 hg (fun e => ?_), h2, h3⟩, hP.lo, fun i hi => (hP.M i hi).grown hg (fun e => ?_), fun i hi => (hP.F i hi).grown hg (fun k hk e => ?_), hP.apM, hP.apF⟩, hR⟩, pw_below_grown h.bl o h.bl.size hg (fun k hk => (ho k hk).1)⟩
  · obtain ⟨-, cs, hc⟩ := ho pb e.symm
    rw [hc] at h1
    cases h1
  · obtain ⟨-, cs, hc⟩ := ho _ e.symm
    exact (hP.M i hi).apart hc rfl
  · obtain ⟨-, cs, hc⟩ := ho _ e.symm
    obtain ⟨cur, hc2⟩ := Sl.own_cells (hP.F i hi) hk
    rw [hc] at hc2
    cases hc2
/-- The law's list tells who is out. -/
structure Ow (r : RS) (l : List (Int × Int)) : Prop where
  nd : l.Nodup
  mem : ∀ g id, (g, id) ∈ l ↔ ¬ Out g ∧ has (r g.toNat).2 id = true
theorem Ow.nil : Ow r0 [] := ⟨List.nodup_nil, fun g id => ⟨fun h => (by cases h), fun h => (by have := h.2; cases this)⟩⟩
theorem at_toNat {α : Type} (f : Nat → α) (g : Int) (x : α) : at_ f g.toNat x g.toNat = x := at_eq _ _ _
theorem Ow.same {r r' : RS} {l : List (Int × Int)} (h : Ow r l) (hr : ∀ i, (r' i).2 = (r i).2) : Ow r' l := ⟨h.nd, fun g id => by rw [h.mem, hr]⟩
theorem Ow.prov {r : RS} {l : List (Int × Int)} (h : Ow r l) (g f n z : Int) : Ow (provR r g f n z).1 l := by
  refine h.same fun i => ?_
  unfold provR
  split
  · rfl
  · split
    · rfl
    · split
      · rfl
      · show (at_ r g.toNat _ i).2 = _
        by_cases e : i = g.toNat
        · subst e; rw [at_eq]
        · rw [at_ne _ _ e]
theorem Ow.rem {r : RS} {l : List (Int × Int)} (h : Ow r l) (g n : Int) : Ow (remR r g n).1 l := by
  refine h.same fun i => ?_
  unfold remR
  split
  · rfl
  · show (at_ r g.toNat _ i).2 = _
    by_cases e : i = g.toNat
    · subst e; rw [at_eq]
    · rw [at_ne _ _ e]
theorem nat_eq {g g' : Int} (h : ¬ Out g) (h' : ¬ Out g') (e : g.toNat = g'.toNat) : g = g' := by unfold Out at h h'; omega
/-- Taken: it was not out; now it is. -/
theorem Ow.take {w0 w : World} {pb : Nat} {r : RS} {l : List (Int × Int)} (h : Ow r l) (hT : Tq w0 w pb r) (g : Int) (h0 : (takeR r g).2.2.2 = 0) : (g, (takeR r g).2.1) ∉ l ∧ Ow (takeR r g).1 (l ++ [(g, (takeR r g).2.1)]) := by
  unfold takeR at h0 ⊢
  by_cases hg : Out g
  · rw [if_pos hg] at h0; cases h0
  rw [if_neg hg] at h0 ⊢
  obtain ⟨mp, fv, s, hP, hR⟩ := hT.ex
  obtain ⟨i, rfl, hi⟩ := nat_of hg
  have hRi := hR i hi
  simp only [Int.toNat_natCast] at h0 ⊢
  cases hF : (r i).1 with
  | nil => rw [hF] at h0; cases h0
  | cons b F =>
    rw [hF] at hRi
    simp only
    have hno : has (r i).2 b.1 = false := by
      cases hq : has (r i).2 b.1 with
      | false => rfl
      | true =>
        obtain ⟨c, hc, e⟩ := has_iff.1 hq
        exact absurd e.symm (Rl.ne hRi.nd (List.mem_cons_self ..) hc)
    have hnm : ((i : Int), b.1) ∉ l := fun hm => by
      have := ((h.mem _ _).1 hm).2
      rw [Int.toNat_natCast, hno] at this
      cases this
    refine ⟨hnm, ?_, fun g' id' => ?_⟩
    · rw [List.nodup_append]
      refine ⟨h.nd, by simp, fun a ha c hc e => ?_⟩
      rw [List.mem_singleton.1 hc] at e
      exact hnm (e ▸ ha)
    · rw [List.mem_append, h.mem, List.mem_singleton, Prod.mk.injEq]
      constructor
      · rintro (⟨e1, e2⟩ | ⟨rfl, rfl⟩)
        · refine ⟨e1, ?_⟩
          by_cases e : g'.toNat = i
          · rw [e, at_eq]
            rw [e] at e2
            obtain ⟨c, hc, e3⟩ := has_iff.1 e2
            exact has_iff.2 ⟨c, List.mem_append_left _ hc, e3⟩
          · rw [at_ne _ _ e]; exact e2
        · refine ⟨hg, ?_⟩
          rw [Int.toNat_natCast, at_eq]
          exact has_iff.2 ⟨b, List.mem_append_right _ (List.mem_singleton.2 rfl), rfl⟩
      · rintro ⟨e1, e2⟩
        by_cases e : g'.toNat = i
        · rw [e, at_eq] at e2
          obtain ⟨c, hc, e3⟩ := has_iff.1 e2
          rcases List.mem_append.1 hc with hc | hc
          · exact .inl ⟨e1, by rw [e]; exact has_iff.2 ⟨c, hc, e3⟩⟩
          · rw [List.mem_singleton.1 hc] at e3
            refine .inr ⟨?_, e3.symm⟩
            unfold Out at e1
            omega
        · rw [at_ne _ _ e] at e2
          exact .inl ⟨e1, e2⟩
theorem Ow.take_no {r : RS} {l : List (Int × Int)} (h : Ow r l) (g : Int) (h0 : (takeR r g).2.2.2 ≠ 0) : Ow (takeR r g).1 l := by
  unfold takeR at h0 ⊢
  by_cases hg : Out g
  · rw [if_pos hg]; exact h
  rw [if_neg hg] at h0 ⊢
  cases hF : (r g.toNat).1 with
  | nil => exact h
  | cons b F => rw [hF] at h0; exact absurd rfl h0
/-- Given back: it was out, once. -/
theorem Ow.give {w0 w : World} {pb : Nat} {r : RS} {l : List (Int × Int)} (h : Ow r l) (hT : Tq w0 w pb r) (g id : Int) (h0 : (giveR r g id).2 = 0) : (g, id) ∈ l ∧ Ow (giveR r g id).1 (l.filter (fun p => p ≠ (g, id))) := by
  unfold giveR at h0 ⊢
  by_cases hg : Out g
  · rw [if_pos hg] at h0; cases h0
  rw [if_neg hg] at h0 ⊢
  obtain ⟨mp, fv, s, hP, hR⟩ := hT.ex
  obtain ⟨i, rfl, hi⟩ := nat_of hg
  have hRi := hR i hi
  simp only [Int.toNat_natCast] at h0 ⊢
  by_cases hh : has (r i).2 id = true
  · rw [if_pos hh]
    obtain ⟨hlt, hid2, hsp⟩ := has_at hh
    generalize hK : (r i).2.findIdx (fun b => b.1 == id) = K at hlt hid2 hsp ⊢
    generalize (r i).2.getD K (0, 0) = b at hid2 hsp ⊢
    have hmem : ∀ id', has ((r i).2.take K ++ (r i).2.drop (K + 1)) id' = true ↔ has (r i).2 id' = true ∧ id' ≠ id := by
      intro id'
      have hnd := hRi.nd
      rw [List.map_append, List.nodup_append] at hnd
      have hO := hnd.2.1
      rw [hsp, List.map_append, List.map_cons, List.nodup_append, List.nodup_cons] at hO
      obtain ⟨-, ⟨hb2, -⟩, hb1⟩ := hO
      constructor
      · intro hm
        obtain ⟨c, hc, e⟩ := has_iff.1 hm
        refine ⟨has_iff.2 ⟨c, ?_, e⟩, fun e2 => ?_⟩
        · rw [hsp]
          rcases List.mem_append.1 hc with hc | hc
          · exact List.mem_append_left _ hc
          · exact List.mem_append_right _ (List.mem_cons_of_mem _ hc)
        · have e3 : c.1 = b.1 := by rw [e, e2, hid2]
          rcases List.mem_append.1 hc with hc | hc
          · exact hb1 _ (List.mem_map_of_mem hc) _ (List.mem_cons_self ..) e3
          · exact hb2 (e3 ▸ List.mem_map_of_mem hc)
      · rintro ⟨hm, hne⟩
        obtain ⟨c, hc, e⟩ := has_iff.1 hm
        rw [hsp] at hc
        refine has_iff.2 ⟨c, ?_, e⟩
        rcases List.mem_append.1 hc with hc | hc
        · exact List.mem_append_left _ hc
        · rcases List.mem_cons.1 hc with hc | hc
          · rw [hc, hid2] at e; exact absurd e.symm hne
          · exact List.mem_append_right _ hc
    refine ⟨(h.mem _ _).2 ⟨hg, by rw [Int.toNat_natCast]; exact hh⟩, h.nd.filter _, fun g' id' => ?_⟩
    rw [List.mem_filter, h.mem]
    have hq : (decide ((g', id') ≠ ((i : Int), id)) = true) ↔ ¬ (g' = i ∧ id' = id) := by simp only [ne_eq, Prod.mk.injEq, decide_eq_true_eq]
    rw [hq]
    simp only
    by_cases e : g'.toNat = i
    · rw [e, at_eq, hmem]
      constructor
      · rintro ⟨⟨e1, e2⟩, e3⟩
        refine ⟨e1, e2, fun e4 => e3 ⟨by unfold Out at e1; omega, e4⟩⟩
      · rintro ⟨e1, e2, e3⟩
        exact ⟨⟨e1, e2⟩, fun e4 => e3 e4.2⟩
    · rw [at_ne _ _ e]
      constructor
      · rintro ⟨e1, -⟩; exact e1
      · intro e1; exact ⟨e1, fun e4 => e (by rw [e4.1, Int.toNat_natCast])⟩
  · rw [if_neg hh] at h0; cases h0
theorem Ow.give_no {r : RS} {l : List (Int × Int)} (h : Ow r l) (g id : Int) (h0 : (giveR r g id).2 ≠ 0) : Ow (giveR r g id).1 l := by
  unfold giveR at h0 ⊢
  by_cases hg : Out g
  · rw [if_pos hg]; exact h
  rw [if_neg hg] at h0 ⊢
  by_cases hh : has (r g.toNat).2 id = true
  · rw [if_pos hh] at h0; exact absurd rfl h0
  · rw [if_neg hh]; exact h
/-- One taken out of a list without twins. -/
theorem filter_len {l : List (Int × Int)} (hnd : l.Nodup) {p : Int × Int} (hp : p ∈ l) : (l.filter (fun q => q ≠ p)).length + 1 = l.length := by
  induction l with
  | nil => cases hp
  | cons a r ih =>
    rw [List.nodup_cons] at hnd
    by_cases e : a = p
    · subst e
      have : r.filter (fun q => q ≠ a) = r := by
        rw [List.filter_eq_self]
        intro q hq
        simp only [ne_eq, decide_eq_true_eq]
        intro e; exact hnd.1 (e ▸ hq)
      rw [List.filter_cons]
      simp only [ne_eq, not_true, decide_false, Bool.false_eq_true, if_false, List.length_cons]
      simp only [ne_eq] at this
      rw [this]
    · rcases List.mem_cons.1 hp with h | h
      · exact absurd h.symm e
      · have := ih hnd.2 h
        rw [List.filter_cons]
        simp only [ne_eq, e, not_false_iff, decide_true, if_true, List.length_cons]
        simp only [ne_eq] at this
        omega
end Go.Proofs.Ytfmfpofbefgbgaa.PPoolL
