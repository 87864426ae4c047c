/- pool: each act of a law's own pool, against the document's lists. Conditions: each theorem's own. -/
import Derived.Test.YtfmfpofbefgbgaaHPoolS
namespace Go.Proofs.Ytfmfpofbefgbgaa.HPoolS
open Go.RowKit Go.Proofs.YtfmfpofbefgbgaaW.PrintWords Go.Proofs.YtfmfpofbefgbgaaW.PrintLast Go.Proofs.YtfmfpofbefgbgaaW.PrintMore Go.Proofs.Ytfmfpofbefgbgaa.HPool Go.Proofs.Ytfmfpofbefgbgaa.HSl Go.Maps Go.ChangeMaps Go.MapKept
set_option linter.unusedVariables false
set_option linter.unusedSimpArgs false
abbrev RS := Nat → List Bu × List Bu
def Out (g : Int) : Prop := g < 0 ∨ 15 < g
instance (g : Int) : Decidable (Out g) := inferInstanceAs (Decidable (_ ∨ _))
instance (f n z : Int) : Decidable (Bad f n z) := inferInstanceAs (Decidable (_ ∨ _))
/-- Rows of other kinds stay as they were. -/
structure Kq (w w' : World) : Prop where
  os : w'.os = w.os
  tape : w'.tape = w.tape
  output : w'.output = w.output
  size : w.heap.size ≤ w'.heap.size
  old : ∀ (k : Nat) (cs : Array Value) (t : TypeId), w.heap[k]? = some (.cells cs t (0, 0)) → t ≠ 3 → t ≠ 121 → w'.heap[k]? = some (.cells cs t (0, 0))
theorem Kq.of_below {w w' : World} (h : Below w.heap.size w w') : Kq w w' := ⟨h.os, h.tape, h.output, h.size, fun k cs t hk _ _ => blk_below hk h⟩
theorem Kq.refl (w : World) : Kq w w := Kq.of_below (Below.refl _ _)
theorem Kq.trans {w w1 w2 : World} (h : Kq w w1) (h2 : Kq w1 w2) : Kq w w2 := ⟨h2.os.trans h.os, h2.tape.trans h.tape, h2.output.trans h.output, Nat.le_trans h.size h2.size, fun k cs t hk h3 h4 => h2.old k cs t (h.old k cs t hk h3 h4) h3 h4⟩
theorem Kq.of_pv {b0 pb : Nat} {w w' : World} {mp : Nat → Nat} {fv fv' : Nat → Value} {s : Nat → Gp} (h : Pb b0 w pb mp fv s) (hV : Pv w w' pb mp fv fv') : Kq w w' := by
  refine ⟨hV.os, hV.tape, hV.output, hV.size, fun k cs t hk h3 h4 => (hV.old k (blk_lt hk) (fun e => ?_) (fun i hi e => ?_) (fun i hi e => ?_)).trans hk⟩
  · obtain ⟨cells, h1, -⟩ := h.blk
    rw [← e, hk] at h1
    injection h1 with h1
    injection h1 with _ h1
    exact h4 h1
  · exact (h.M i hi).apart hk e.symm
  · obtain ⟨cur, hc⟩ := Sl.own_cells (h.F i hi) e
    rw [hk] at hc
    injection hc with hc
    injection hc with _ hc
    exact h3 hc
/-- A pool of the law's own. -/
structure Tq (w0 w : World) (pb : Nat) (r : RS) : Prop where
  ex : ∃ mp fv s, Pb w0.heap.size w pb mp fv s ∧ ∀ i, i < 16 → Rl (s i) (r i).1 (r i).2
  bl : Below w0.heap.size w0 w
theorem Tq.below {w0 w w' : World} {pb : Nat} {r : RS} (h : Tq w0 w pb r) (hB : Below w.heap.size w w') : Tq w0 w' pb r := by
  obtain ⟨mp, fv, s, hP, hR⟩ := h.ex
  exact ⟨⟨mp, fv, s, hP.below hB, hR⟩, below_step h.bl hB⟩
theorem Tq.turn {w0 w w' : World} {pb : Nat} {r : RS} {mp : Nat → Nat} {fv fv' : Nat → Value} {s : Nat → Gp} {i : Nat} {g' : Gp} {x : List Bu × List Bu} (h : Tq w0 w pb r) (hP : Pb w0.heap.size w pb mp fv s) (hR : ∀ i, i < 16 → Rl (s i) (r i).1 (r i).2)
    (hP' : Pb w0.heap.size w' pb mp fv' (at_ s i g')) (hV : Pv w w' pb mp fv fv') (hx : Rl g' x.1 x.2) : Tq w0 w' pb (at_ r i x) ∧ Kq w w' := by
  refine ⟨⟨⟨mp, fv', _, hP', fun j hj => ?_⟩, hV.below hP h.bl h.bl.size⟩, Kq.of_pv hP hV⟩
  by_cases e : j = i
  · subst e; rw [at_eq, at_eq]; exact hx
  · rw [at_ne _ _ e, at_ne _ _ e]; exact hR j hj
theorem new_q (w : World) : Calls Try.prog 29 #[] w fun e w' => ∃ pb, e = .returned (.pointer (some ⟨pb, 0, none⟩)) ∧ Tq w w' pb (fun _ => ([], [])) ∧ Below w.heap.size w w' := by
  refine (new_calls w).mono ?_
  rintro e w' ⟨g0, rfl, hN⟩
  exact ⟨g0, rfl, ⟨⟨_, _, _, hN.pb, fun i hi => Rl.nil⟩, hN.bl⟩, hN.bl⟩
section
variable {w0 w : World} {pb : Nat} {r : RS}
theorem nat_of {g : Int} (h : ¬ Out g) : ∃ i : Nat, g = i ∧ i < 16 := ⟨g.toNat, by unfold Out at h; omega, by unfold Out at h; omega⟩
theorem of_out' (g : Int) (h : Out g) (w : World) : Calls Try.prog 65 #[.pointer (some ⟨pb, 0, none⟩), .int .i64 g] w fun e w' => e = .returned (.tuple #[.pointer none, .int .i64 1]) ∧ w = w' := of_out pb g w (by unfold Out at h; omega)
/-- Provide. -/
def provR (r : RS) (g f n z : Int) : RS × Int :=
  if Out g ∨ Bad f n z then (r, 1)
  else if (List.range n.toNat).any (fun j => has (r g.toNat).1 (f + (j : Int)) || has (r g.toNat).2 (f + (j : Int))) then (r, 140)
  else if 1024 < (r g.toNat).1.length + (r g.toNat).2.length + n.toNat then (r, 5)
  else (at_ r g.toNat ((r g.toNat).1 ++ fresh f z n.toNat, (r g.toNat).2), 0)
theorem provide_q (h : Tq w0 w pb r) (g f n z : Int) : Calls Try.prog 30 #[.pointer (some ⟨pb, 0, none⟩), .int .i64 g, .int .i64 f, .int .i64 n, .int .i64 z] w fun e w' => e = .returned (.int .i64 (provR r g f n z).2) ∧ Tq w0 w' pb (provR r g f n z).1 ∧ Kq w w' := by
  unfold provR
  by_cases hg : Out g
  · rw [if_pos (.inl hg)]
    refine (provide_bad (of_out' g hg) (by decide) f n z w).mono ?_
    rintro e w' ⟨rfl, rfl⟩
    exact ⟨rfl, h, Kq.refl _⟩
  obtain ⟨mp, fv, s, hP, hR⟩ := h.ex
  obtain ⟨i, rfl, hi⟩ := nat_of hg
  by_cases hb : Bad f n z
  · rw [if_pos (.inr hb)]
    refine (provide_arg hP i hi f n z hb).mono ?_
    rintro e w' ⟨rfl, rfl⟩
    exact ⟨rfl, h, Kq.refl _⟩
  rw [if_neg (by rintro (e | e); exact hg e; exact hb e)]
  unfold Bad at hb
  obtain ⟨c, rfl⟩ : ∃ c : Nat, n = c := ⟨n.toNat, by omega⟩
  have hRi := hR i hi
  have hl := hRi.n
  have hc := hRi.cap
  have hfl : (s i).fr.length = (r i).1.length := by rw [hRi.fr, List.length_map]
  simp only [Int.toNat_natCast]
  refine (provide_any hP h.bl.size i hi ⟨hc, by omega⟩ f z c ⟨by omega, by omega⟩ ⟨by omega, by omega⟩ ⟨by omega, by omega⟩).mono ?_
  have hany : (List.range c).any (fun j => has (r i).1 (f + (j : Int)) || has (r i).2 (f + (j : Int))) = true ↔ ∃ j : Nat, j < c ∧ ((s i).m (f + j)).isSome = true := by
    rw [List.any_eq_true]
    constructor
    · rintro ⟨j, hj, e⟩
      exact ⟨j, List.mem_range.1 hj, (hRi.some_iff _).trans e⟩
    · rintro ⟨j, hj, e⟩
      exact ⟨j, List.mem_range.2 hj, (hRi.some_iff _).symm.trans e⟩
  rintro e w' (⟨rfl, hex, hB⟩ | ⟨rfl, hno, hful, hB⟩ | ⟨rfl, hno, hfit, fv', hP', hV⟩)
  · rw [if_pos (hany.2 hex)]
    exact ⟨rfl, h.below hB, Kq.of_below hB⟩
  · rw [if_neg (fun e => by obtain ⟨j, hj, e2⟩ := hany.1 e; rw [hno j hj] at e2; cases e2), if_pos (by omega)]
    exact ⟨rfl, h.below hB, Kq.of_below hB⟩
  · rw [if_neg (fun e => by obtain ⟨j, hj, e2⟩ := hany.1 e; rw [hno j hj] at e2; cases e2), if_neg (by omega)]
    exact ⟨rfl, h.turn hP hR hP' hV (hRi.prov f z c hno hfit ⟨by omega, by omega⟩)⟩
/-- Take. -/
def takeR (r : RS) (g : Int) : RS × Int × Int × Int :=
  if Out g then (r, 0, 0, 1)
  else match (r g.toNat).1 with
    | [] => (r, 0, 0, 6)
    | b :: F => (at_ r g.toNat (F, (r g.toNat).2 ++ [b]), b.1, b.2, 0)
theorem wfB {b : Int} (h : 0 ≤ b ∧ b ≤ 65536) : (Lit.int .i64 b).wf = true := wf_small (by omega) (by omega)
theorem take_q (h : Tq w0 w pb r) (g : Int) : Calls Try.prog 31 #[.pointer (some ⟨pb, 0, none⟩), .int .i64 g] w fun e w' => e = .returned (.tuple #[.int .i64 (takeR r g).2.1, .int .i64 (takeR r g).2.2.1, .int .i64 (takeR r g).2.2.2]) ∧ Tq w0 w' pb (takeR r g).1 ∧ Kq w w' := by
  unfold takeR
  by_cases hg : Out g
  · rw [if_pos hg]
    refine (take_bad (of_out' g hg) (by decide) w).mono ?_
    rintro e w' ⟨rfl, rfl⟩
    exact ⟨rfl, h, Kq.refl _⟩
  rw [if_neg hg]
  obtain ⟨mp, fv, s, hP, hR⟩ := h.ex
  obtain ⟨i, rfl, hi⟩ := nat_of hg
  have hRi := hR i hi
  simp only [Int.toNat_natCast]
  obtain ⟨F, hF⟩ : ∃ F, (r i).1 = F := ⟨_, rfl⟩
  rw [hF] at hRi ⊢
  cases F with
  | nil =>
    refine (take_none hP i hi (by rw [hRi.fr]; rfl)).mono ?_
    rintro e w' ⟨rfl, rfl⟩
    exact ⟨rfl, h, Kq.refl _⟩
  | cons b F =>
    refine (take_in hP i hi b.1 (F.map Prod.fst) (by rw [hRi.fr]; rfl) (wfB (hRi.wf b (List.mem_append_left _ (List.mem_cons_self ..)))) b.2 false (hRi.inF b (List.mem_cons_self ..))).mono ?_
    rintro e w' ⟨rfl, fv', hP', hV⟩
    exact ⟨rfl, h.turn hP hR hP' hV hRi.take⟩
/-- Give. -/
def giveR (r : RS) (g id : Int) : RS × Int :=
  if Out g then (r, 1)
  else if has (r g.toNat).2 id then
    (at_ r g.toNat ((r g.toNat).1 ++ [(r g.toNat).2.getD ((r g.toNat).2.findIdx (fun b => b.1 == id)) (0, 0)], (r g.toNat).2.take ((r g.toNat).2.findIdx (fun b => b.1 == id)) ++ (r g.toNat).2.drop ((r g.toNat).2.findIdx (fun b => b.1 == id) + 1)), 0)
  else (r, 6)
theorem has_at {O : List Bu} {id : Int} (h : has O id = true) : O.findIdx (fun b => b.1 == id) < O.length ∧ (O.getD (O.findIdx (fun b => b.1 == id)) (0, 0)).1 = id ∧ O = O.take (O.findIdx (fun b => b.1 == id)) ++ O.getD (O.findIdx (fun b => b.1 == id)) (0, 0) :: O.drop (O.findIdx (fun b => b.1 == id) + 1) := by
  obtain ⟨b, hb, e⟩ := has_iff.1 h
  have hlt : O.findIdx (fun b => b.1 == id) < O.length := List.findIdx_lt_length_of_exists ⟨b, hb, beq_iff_eq.2 e⟩
  have hg : O.getD (O.findIdx (fun b => b.1 == id)) (0, 0) = O[O.findIdx (fun b => b.1 == id)] := by rw [List.getD_eq_getElem?_getD, List.getElem?_eq_getElem hlt]; rfl
  have hp : (fun b : Bu => b.1 == id) O[O.findIdx (fun b => b.1 == id)] = true := List.findIdx_getElem (p := fun b : Bu => b.1 == id)
  refine ⟨hlt, by rw [hg]; exact beq_iff_eq.1 hp, ?_⟩
  rw [hg, List.getElem_cons_drop, List.take_append_drop]
theorem give_q (h : Tq w0 w pb r) (g id : Int) (hid : (Lit.int .i64 id).wf = true) : Calls Try.prog 33 #[.pointer (some ⟨pb, 0, none⟩), .int .i64 g, .int .i64 id] w fun e w' => e = .returned (.int .i64 (giveR r g id).2) ∧ Tq w0 w' pb (giveR r g id).1 ∧ Kq w w' := by
  unfold giveR
  by_cases hg : Out g
  · rw [if_pos hg]
    refine (give_bad (of_out' g hg) (by decide) id w).mono ?_
    rintro e w' ⟨rfl, rfl⟩
    exact ⟨rfl, h, Kq.refl _⟩
  rw [if_neg hg]
  obtain ⟨mp, fv, s, hP, hR⟩ := h.ex
  obtain ⟨i, rfl, hi⟩ := nat_of hg
  have hRi := hR i hi
  simp only [Int.toNat_natCast]
  by_cases hh : has (r i).2 id = true
  · rw [if_pos hh]
    obtain ⟨hlt, hid2, hsp⟩ := has_at hh
    generalize hK : (r i).2.findIdx (fun b => b.1 == id) = K at hlt hid2 hsp ⊢
    generalize (r i).2.getD K (0, 0) = b at hid2 hsp ⊢
    have hR2 : Rl (s i) (r i).1 ((r i).2.take K ++ b :: (r i).2.drop (K + 1)) := by rw [← hsp]; exact hRi
    have hcap := hRi.cap
    have hn := hRi.n
    subst hid2
    refine (give_in hP h.bl.size i hi (by rw [hRi.fr, List.length_map]; omega) b.1 hid b.2 (hR2.inO b (List.mem_append_right _ (List.mem_cons_self ..)))).mono ?_
    rintro e w' ⟨rfl, fv', hP', hV⟩
    refine ⟨rfl, h.turn hP hR hP' hV ?_⟩
    rw [hRi.fr]
    exact hR2.give
  · rw [if_neg hh]
    refine (give_none hP i hi id hid (hRi.out_iff id (by simpa using hh))).mono ?_
    rintro e w' ⟨rfl, hB⟩
    exact ⟨rfl, h.below hB, Kq.of_below hB⟩
/-- Remove. -/
def remR (r : RS) (g n : Int) : RS × Int × Int :=
  if Out g ∨ n < 0 then (r, 0, 1)
  else (at_ r g.toNat ((r g.toNat).1.drop (min n.toNat (r g.toNat).1.length), (r g.toNat).2), (min n.toNat (r g.toNat).1.length : Nat), 0)
theorem remove_q (h : Tq w0 w pb r) (g n : Int) : Calls Try.prog 34 #[.pointer (some ⟨pb, 0, none⟩), .int .i64 g, .int .i64 n] w fun e w' => e = .returned (.tuple #[.int .i64 (remR r g n).2.1, .int .i64 (remR r g n).2.2]) ∧ Tq w0 w' pb (remR r g n).1 ∧ Kq w w' := by
  unfold remR
  by_cases hg : Out g
  · rw [if_pos (.inl hg)]
    refine (remove_bad (of_out' g hg) (by decide) n w).mono ?_
    rintro e w' ⟨rfl, rfl⟩
    exact ⟨rfl, h, Kq.refl _⟩
  obtain ⟨mp, fv, s, hP, hR⟩ := h.ex
  obtain ⟨i, rfl, hi⟩ := nat_of hg
  have hRi := hR i hi
  by_cases hn : n < 0
  · rw [if_pos (.inr hn)]
    refine (remove_arg hP i hi n hn).mono ?_
    rintro e w' ⟨rfl, rfl⟩
    exact ⟨rfl, h, Kq.refl _⟩
  rw [if_neg (by rintro (e | e); exact hg e; exact hn e)]
  simp only [Int.toNat_natCast]
  obtain ⟨M, hM⟩ : ∃ M, min n.toNat (r i).1.length = M := ⟨_, rfl⟩
  rw [hM]
  have hcap := hRi.cap
  have hn2 := hRi.n
  have hfl : (s i).fr.length = (r i).1.length := by rw [hRi.fr, List.length_map]
  have hnd : (s i).fr.Nodup := by
    rw [hRi.fr]
    have := hRi.nd
    rw [List.map_append, List.nodup_append] at this
    exact this.1
  refine (remove_in hP h.bl.size i hi hnd (fun x hx => ?_) (by omega) n (by omega) M (by split <;> omega)).mono ?_
  · rw [hRi.fr] at hx
    obtain ⟨b, hb, rfl⟩ := List.mem_map.1 hx
    exact ⟨by rw [hRi.inF b hb]; rfl, wfB (hRi.wf b (List.mem_append_left _ hb))⟩
  · rintro e w' ⟨rfl, fv', hP', hV⟩
    exact ⟨rfl, h.turn hP hR hP' hV (hRi.remove M (by omega))⟩
/-- State, Free, Out. -/
def stR (r : RS) (g id : Int) : Int := if Out g then 0 else if has (r g.toNat).1 id then 1 else if has (r g.toNat).2 id then 2 else 0
theorem state_q (h : Tq w0 w pb r) (g id : Int) (hid : (Lit.int .i64 id).wf = true) : Calls Try.prog 55 #[.pointer (some ⟨pb, 0, none⟩), .int .i64 g, .int .i64 id] w fun e w' => e = .returned (.int .i64 (stR r g id)) ∧ Below w.heap.size w w' := by
  unfold stR
  by_cases hg : Out g
  · rw [if_pos hg]
    refine (state_bad (of_out' g hg) (by decide) id w).mono ?_
    rintro e w' ⟨rfl, rfl⟩
    exact ⟨rfl, Below.refl _ _⟩
  rw [if_neg hg]
  obtain ⟨mp, fv, s, hP, hR⟩ := h.ex
  obtain ⟨i, rfl, hi⟩ := nat_of hg
  have hRi := hR i hi
  refine (state_in hP i hi id hid).mono ?_
  rintro e w' ⟨rfl, hB⟩
  rw [hRi.state id]
  exact ⟨rfl, hB⟩
theorem free_out (h : Tq w0 w pb r) (g : Int) (hg : Out g) : Calls Try.prog 57 #[.pointer (some ⟨pb, 0, none⟩), .int .i64 g] w fun e w' => e = .returned (.slice none 0 0) ∧ w = w' := free_bad (of_out' g hg) (by decide) w
theorem out_out (h : Tq w0 w pb r) (g : Int) (hg : Out g) : Calls Try.prog 58 #[.pointer (some ⟨pb, 0, none⟩), .int .i64 g] w fun e w' => e = .returned (.int .i64 0) ∧ w = w' := out_bad (of_out' g hg) (by decide) w
theorem free_q (h : Tq w0 w pb r) (i : Nat) (hi : i < 16) : Calls Try.prog 57 #[.pointer (some ⟨pb, 0, none⟩), .int .i64 i] w fun e w' => ∃ v, e = .returned v ∧ Sl w.heap.size w' v ((r i).1.map Prod.fst) ∧ Below w.heap.size w w' := by
  obtain ⟨mp, fv, s, hP, hR⟩ := h.ex
  have hRi := hR i hi
  have hcap := hRi.cap
  have hn2 := hRi.n
  have hfl : (s i).fr.length = (r i).1.length := by rw [hRi.fr, List.length_map]
  rw [← hRi.fr]
  exact free_in hP i hi (by omega)
theorem out_q (h : Tq w0 w pb r) (i : Nat) (hi : i < 16) : Calls Try.prog 58 #[.pointer (some ⟨pb, 0, none⟩), .int .i64 i] w fun e w' => e = .returned (.int .i64 (r i).2.length) ∧ Below w.heap.size w w' := by
  obtain ⟨mp, fv, s, hP, hR⟩ := h.ex
  have hRi := hR i hi
  have hcap := hRi.cap
  have hn2 := hRi.n
  have hfl : (s i).fr.length = (r i).1.length := by rw [hRi.fr, List.length_map]
  have e1 : ((r i).2.length : Int) = ((s i).n : Int) - ((s i).fr.length : Int) := by omega
  rw [e1]
  exact out_in hP i hi ⟨by omega, by omega⟩
end
end Go.Proofs.Ytfmfpofbefgbgaa.HPoolS
