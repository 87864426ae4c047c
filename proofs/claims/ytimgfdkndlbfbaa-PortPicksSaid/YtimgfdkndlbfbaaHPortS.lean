/- port's program beside its reference: what the maps hold is what the lists hold. Conditions: each theorem's own. -/
import Derived.Test.YtimgfdkndlbfbaaHPortR4
import Derived.Test.YtimgfdkndlbfbaaPPortLx0
namespace Go.Proofs.Ytimgfdkndlbfbaa.HPortS
open Go.RowKit Go.Proofs.YtimgfdkndlbfbaaW.PrintWords Go.Proofs.YtimgfdkndlbfbaaW.PrintLast Go.Proofs.YtimgfdkndlbfbaaW.PrintMore Go.Proofs.Ytimgfdkndlbfbaa.HPort Go.Proofs.Ytimgfdkndlbfbaa.HPortR Go.Proofs.Ytimgfdkndlbfbaa.PRp Go.Proofs.Ytimgfdkndlbfbaa.PPortL
set_option linter.unusedVariables false
set_option linter.unusedSimpArgs false
set_option linter.unusedSectionVars false
section
variable {α β : Type} [DecidableEq β] {f : α → β} {v : α → Int} {l : List α} {x : α} {y : β}
/-- A list read as a map. -/
def look (f : α → β) (v : α → Int) (l : List α) (y : β) : Option Int := (l.find? (fun x => decide (f x = y))).map v
theorem look_isSome : (look f v l y).isSome = l.any (fun x => decide (f x = y)) := by unfold look; rw [Option.isSome_map, List.isSome_find?]
theorem look_none (h : (look f v l y).isSome = false) : ∀ x, x ∈ l → f x ≠ y := by
  intro x hx e
  rw [look_isSome, List.any_eq_false] at h
  exact h x hx (decide_eq_true e)
theorem look_snoc (h : (look f v l (f x)).isSome = false) : look f v (l ++ [x]) = upd (look f v l) (f x) (some (v x)) := by
  funext y
  have hn := look_none h
  unfold upd
  by_cases e : y = f x
  · subst e
    rw [if_pos rfl]
    unfold look
    rw [List.find?_append, List.find?_eq_none.2 (fun z hz => by simpa using hn z hz)]
    simp
  · rw [if_neg e]
    unfold look
    rw [List.find?_append]
    have : ¬ f x = y := fun h => e h.symm
    cases l.find? (fun x => decide (f x = y)) <;> simp [this]
theorem nd_inj (h : (l.map f).Nodup) {i j : Nat} (hi : i < l.length) (hj : j < l.length) (e : f l[i] = f l[j]) : i = j := by
  have h2 := List.pairwise_iff_getElem.1 h
  by_cases h3 : i < j
  · have := h2 i j (by simpa using hi) (by simpa using hj) h3
    simp at this
    exact absurd e this
  · by_cases h4 : j < i
    · have := h2 j i (by simpa using hj) (by simpa using hi) h4
      simp at this
      exact absurd e.symm this
    · omega
theorem look_some (hn : (l.map f).Nodup) (h : (look f v l y).isSome = true) : ∃ (i : Nat) (hi : i < l.length), f l[i] = y ∧ look f v l y = some (v l[i]) ∧ ∀ j (hj : j < l.length), f l[j] = y → j = i := by
  unfold look at h ⊢
  cases hq : l.find? (fun x => decide (f x = y)) with
  | none => rw [hq] at h; simp at h
  | some x =>
    have h1 := List.find?_some hq
    have h2 := List.mem_of_find?_eq_some hq
    obtain ⟨i, hi, e⟩ := List.getElem_of_mem h2
    have h3 : f x = y := of_decide_eq_true h1
    refine ⟨i, hi, by rw [e]; exact h3, by rw [e]; rfl, fun j hj e2 => nd_inj hn hj hi (by rw [e, e2, h3])⟩
theorem erase_f : ∀ {l : List α} {k : Nat} (hn : (l.map f).Nodup) (hk : k < l.length), l.eraseIdx k = l.filter (fun p => decide (f p ≠ f l[k]))
  | [], k, _, hk => absurd hk (Nat.not_lt_zero _)
  | p :: ps, 0, hn, _ => by
    simp only [List.map_cons, List.nodup_cons] at hn
    rw [List.eraseIdx_cons_zero, List.filter_cons_of_neg (by simp)]
    symm
    refine List.filter_eq_self.2 (fun q hq => decide_eq_true fun e => hn.1 ?_)
    have e' : f q = f p := e
    rw [← e']
    exact List.mem_map_of_mem hq
  | p :: ps, k + 1, hn, hk => by
    simp only [List.map_cons, List.nodup_cons] at hn
    have hk' : k < ps.length := by simpa using hk
    have hp : f p ≠ f ps[k] := fun e => hn.1 (by rw [e]; exact List.mem_map_of_mem (List.getElem_mem hk'))
    rw [List.eraseIdx_cons_succ, List.filter_cons_of_pos (by simpa using hp), erase_f hn.2 hk']
    rfl
theorem look_erase (hn : (l.map f).Nodup) {k : Nat} (hk : k < l.length) : look f v (l.eraseIdx k) = upd (look f v l) (f l[k]) none := by
  funext y
  rw [erase_f hn hk]
  unfold look upd
  rw [List.find?_filter]
  by_cases e : y = f l[k]
  · rw [if_pos e, List.find?_eq_none.2 (fun z hz => by simp [e])]
    rfl
  · rw [if_neg e]
    congr 2
    funext z
    by_cases e2 : f z = y
    · simp [e2, e]
    · simp [e2]
end
def kE' (x : S175) : En := (x.f0.f0, x.f0.f1)
def kQ' (x : S177) : Qd := ((x.f0.f0.f0, x.f0.f0.f1), (x.f0.f1.f0, x.f0.f1.f1))
def cnt (l : List S175) (p : Int) : Nat := (l.filter (fun x => x.f0.f1 == p)).length
theorem isE_is (a p : Int) : isE a p = fun x => decide (kE' x = (a, p)) := by
  funext x; unfold isE kE'; rw [Bool.eq_iff_iff]; simp
theorem isQ_is (a p c d : Int) : isQ a p c d = fun x => decide (kQ' x = ((a, p), (c, d))) := by
  funext x; unfold isQ kQ'; rw [Bool.eq_iff_iff]; simp
theorem fbL_is (l : List S175) (a p : Int) : fbL l a p = look kE' (·.f1) l (a, p) := by unfold fbL look; rw [isE_is]
theorem fjL_is (l : List S177) (a p c d : Int) : fjL l a p c d = look kQ' (·.f1) l ((a, p), (c, d)) := by unfold fjL look; rw [isQ_is]
/-- The maps hold what the lists hold. -/
structure Rel (s : TS) (l : List S175) (l' : List S177) : Prop where
  nd : (l.map kE').Nodup
  fb : s.fb = look kE' (·.f1) l
  nb : s.nb = l.length
  few : l.length ≤ 1024
  fa : ∀ p, (s.fa p).getD 0 = (cnt l p : Int)
  nd' : (l'.map kQ').Nodup
  fj : s.fj = look kQ' (·.f1) l'
  nj : s.nj = l'.length
  few' : l'.length ≤ 1024
theorem cnt_le (l : List S175) (p : Int) : cnt l p ≤ l.length := List.length_filter_le _ _
theorem cnt_app (l m : List S175) (p : Int) : cnt (l ++ m) p = cnt l p + cnt m p := by unfold cnt; rw [List.filter_append, List.length_append]
theorem cnt_one (x : S175) (p : Int) : cnt [x] p = if x.f0.f1 = p then 1 else 0 := by
  unfold cnt
  by_cases h : x.f0.f1 = p
  · simp [h]
  · simp [h]
theorem cnt_erase (l : List S175) {k : Nat} (hk : k < l.length) (p : Int) : cnt l p = cnt (l.eraseIdx k) p + if l[k].f0.f1 = p then 1 else 0 := by
  have h1 : l = l.take k ++ ([l[k]] ++ l.drop (k + 1)) := by
    rw [List.singleton_append, ← List.drop_eq_getElem_cons hk, List.take_append_drop]
  rw [List.eraseIdx_eq_take_drop_succ, cnt_app, ← cnt_one]
  have h2 := congrArg (fun z => cnt z p) h1
  simp only [cnt_app] at h2
  omega
theorem cnt_pos (l : List S175) (p : Int) : decide (0 < (cnt l p : Int)) = l.any (fun x => x.f0.f1 == p) := by
  rw [Bool.eq_iff_iff, decide_eq_true_eq, List.any_eq_true]
  unfold cnt
  constructor
  · intro h
    obtain ⟨x, hx⟩ := List.exists_mem_of_length_pos (show 0 < (l.filter (fun x => x.f0.f1 == p)).length by omega)
    exact ⟨x, (List.mem_filter.1 hx).1, (List.mem_filter.1 hx).2⟩
  · rintro ⟨x, hx, h⟩
    have h3 : 0 < (l.filter (fun x => x.f0.f1 == p)).length := List.length_pos_of_mem (List.mem_filter.2 ⟨hx, h⟩)
    omega
theorem any_or {α : Type} (l : List α) (f g : α → Bool) : (l.any f || l.any g) = l.any (fun x => f x || g x) := by
  induction l with
  | nil => rfl
  | cons x xs ih => simp only [List.any_cons, ← ih]; cases f x <;> cases g x <;> cases xs.any f <;> cases xs.any g <;> rfl
section
variable {s : TS} {l : List S175} {l' : List S177}
theorem Rel.taken (h : Rel s l l') (a p : Int) : takenF s a p = l.any (tkL a p) := by
  unfold takenF
  by_cases ha : a = 0
  · rw [if_pos ha, h.fa, cnt_pos]
    congr 1
    funext x
    unfold tkL
    simp [ha]
  · rw [if_neg ha, h.fb, ← fbL_is, ← fbL_is]
    unfold fbL
    rw [Option.isSome_map, Option.isSome_map, List.isSome_find?, List.isSome_find?, any_or]
    congr 1
    funext x
    unfold tkL isE
    rw [Bool.eq_iff_iff]
    simp [ha]
    constructor
    · rintro (⟨h1, h2⟩ | ⟨h1, h2⟩)
      · exact ⟨h2, .inl h1⟩
      · exact ⟨h2, .inr h1⟩
    · rintro ⟨h1, h2 | h2⟩
      · exact .inl ⟨h2, h1⟩
      · exact .inr ⟨h2, h1⟩
theorem Rel.fbl (h : Rel s l l') (a p : Int) : s.fb (a, p) = fbL l a p := by rw [h.fb, fbL_is]
theorem Rel.fjl (h : Rel s l l') (a p c d : Int) : s.fj ((a, p), (c, d)) = fjL l' a p c d := by rw [h.fj, fjL_is]
theorem Rel.owner (h : Rel s l l') (a p : Int) : ownerF s a p = ownL l a p := by unfold ownerF ownL; rw [h.fbl, h.fbl]
theorem Rel.free (h : Rel s l l') {a p : Int} (ht : takenF s a p = false) : (s.fb (a, p)).isSome = false := by
  rw [h.taken, List.any_eq_false] at ht
  rw [h.fb, look_isSome, List.any_eq_false]
  intro x hx e
  refine ht x hx ?_
  have e := of_decide_eq_true e
  unfold kE' at e
  injection e with e1 e2
  unfold tkL
  simp [e1, e2]
theorem Rel.cnt_ok (h : Rel s l l') (p : Int) : 0 ≤ (s.fa p).getD 0 ∧ (s.fa p).getD 0 ≤ 1000000 := by
  rw [h.fa]; have := cnt_le l p; have := h.few; omega
theorem Rel.bind (h : Rel s l l') {a p : Int} (o : Int) (ht : takenF s a p = false) (hn : s.nb < 1024) : Rel { s with fb := upd s.fb (a, p) (some o), nb := one (s.fb (a, p)) s.nb, fa := upd s.fa p (some ((s.fa p).getD 0 + 1)) } (l ++ [⟨⟨a, p⟩, o⟩]) l' := by
  have hf := h.free ht
  have hnb := h.nb
  refine ⟨?_, ?_, ?_, ?_, ?_, h.nd', h.fj, h.nj, h.few'⟩
  · rw [List.map_append, List.nodup_append]
    refine ⟨h.nd, by simp, ?_⟩
    intro y hy z hz e
    simp only [List.map_cons, List.map_nil, List.mem_singleton] at hz
    subst hz
    obtain ⟨x, hx, rfl⟩ := List.mem_map.1 hy
    rw [h.fb] at hf
    exact look_none hf x hx e
  · show upd s.fb (a, p) (some o) = _
    rw [h.fb] at hf ⊢
    exact (look_snoc (x := (⟨⟨a, p⟩, o⟩ : S175)) hf).symm
  · show one (s.fb (a, p)) s.nb = _
    unfold one; rw [hf, List.length_append]; simp [hnb]
  · rw [List.length_append]; simp only [List.length_singleton]; omega
  · intro q
    show (upd s.fa p (some ((s.fa p).getD 0 + 1)) q).getD 0 = _
    rw [cnt_app, cnt_one]
    unfold upd
    by_cases e : q = p
    · rw [if_pos e, if_pos e.symm, h.fa, e]; simp
    · rw [if_neg e, if_neg (fun e2 => e e2.symm), h.fa]; simp
theorem Rel.unbind (h : Rel s l l') {k : Nat} (hk : k < l.length) {a p : Int} (e : kE' l[k] = (a, p)) : Rel { s with fb := upd s.fb (a, p) none, nb := less (s.fb (a, p)) s.nb, fa := upd s.fa p (some ((s.fa p).getD 0 - 1)) } (l.eraseIdx k) l' := by
  have hnb := h.nb
  have hs : (s.fb (a, p)).isSome = true := by
    rw [h.fb, look_isSome, List.any_eq_true]; exact ⟨l[k], List.getElem_mem hk, decide_eq_true e⟩
  have hlen : (l.eraseIdx k).length = l.length - 1 := by rw [List.length_eraseIdx, if_pos hk]
  refine ⟨h.nd.sublist ((List.eraseIdx_sublist l k).map _), ?_, ?_, ?_, ?_, h.nd', h.fj, h.nj, h.few'⟩
  · show upd s.fb (a, p) none = _
    rw [look_erase h.nd hk, e, h.fb]
  · show less (s.fb (a, p)) s.nb = _
    unfold less; rw [hs, hlen, ← hnb]; rfl
  · have := h.few; omega
  · intro q
    show (upd s.fa p (some ((s.fa p).getD 0 - 1)) q).getD 0 = _
    have hc := cnt_erase l hk q
    have e2 : l[k].f0.f1 = p := congrArg Prod.snd e
    rw [e2] at hc
    unfold upd
    by_cases e : q = p
    · subst e
      rw [if_pos rfl] at hc ⊢
      rw [h.fa, hc]; simp
    · rw [if_neg (fun e2 => e e2.symm)] at hc
      rw [if_neg e, h.fa, hc]; simp
theorem Rel.join (h : Rel s l l') {a p c d : Int} (o : Int) (hf : (s.fj ((a, p), (c, d))).isSome = false) (hn : s.nj < 1024) : Rel { s with fj := upd s.fj ((a, p), (c, d)) (some o), nj := one (s.fj ((a, p), (c, d))) s.nj } l (l' ++ [⟨⟨⟨a, p⟩, ⟨c, d⟩⟩, o⟩]) := by
  have hnj := h.nj
  refine ⟨h.nd, h.fb, h.nb, h.few, h.fa, ?_, ?_, ?_, ?_⟩
  · rw [List.map_append, List.nodup_append]
    refine ⟨h.nd', by simp, ?_⟩
    intro y hy z hz e
    simp only [List.map_cons, List.map_nil, List.mem_singleton] at hz
    subst hz
    obtain ⟨x, hx, rfl⟩ := List.mem_map.1 hy
    rw [h.fj] at hf
    exact look_none hf x hx e
  · show upd s.fj ((a, p), (c, d)) (some o) = _
    rw [h.fj] at hf ⊢
    exact (look_snoc (x := (⟨⟨⟨a, p⟩, ⟨c, d⟩⟩, o⟩ : S177)) hf).symm
  · show one (s.fj ((a, p), (c, d))) s.nj = _
    unfold one; rw [hf, List.length_append]; simp [hnj]
  · rw [List.length_append]; simp only [List.length_singleton]; omega
theorem Rel.part (h : Rel s l l') {k : Nat} (hk : k < l'.length) {a p c d : Int} (e : kQ' l'[k] = ((a, p), (c, d))) : Rel { s with fj := upd s.fj ((a, p), (c, d)) none, nj := less (s.fj ((a, p), (c, d))) s.nj } l (l'.eraseIdx k) := by
  have hnj := h.nj
  have hs : (s.fj ((a, p), (c, d))).isSome = true := by
    rw [h.fj, look_isSome, List.any_eq_true]; exact ⟨l'[k], List.getElem_mem hk, decide_eq_true e⟩
  have hlen : (l'.eraseIdx k).length = l'.length - 1 := by rw [List.length_eraseIdx, if_pos hk]
  refine ⟨h.nd, h.fb, h.nb, h.few, h.fa, h.nd'.sublist ((List.eraseIdx_sublist l' k).map _), ?_, ?_, ?_⟩
  · show upd s.fj ((a, p), (c, d)) none = _
    rw [look_erase h.nd' hk, e, h.fj]
  · show less (s.fj ((a, p), (c, d))) s.nj = _
    unfold less; rw [hs, hlen, ← hnj]; rfl
  · have := h.few'; omega
theorem Rel.last (h : Rel s l l') (v : Int) : Rel { s with last := v } l l' := ⟨h.nd, h.fb, h.nb, h.few, h.fa, h.nd', h.fj, h.nj, h.few'⟩
end
end Go.Proofs.Ytimgfdkndlbfbaa.HPortS
