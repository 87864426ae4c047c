/- pool: a group against the document's two lists (free, out). Conditions: each theorem's own. -/
import Derived.Test.YtfmfpofbefgbgaaHPool11
namespace Go.Proofs.Ytfmfpofbefgbgaa.HPoolS
open Go.RowKit Go.Proofs.Ytfmfpofbefgbgaa.HPool
set_option linter.unusedVariables false
set_option linter.unusedSimpArgs false
abbrev Bu := Int × Int
structure Rl (g : Gp) (F O : List Bu) : Prop where
  fr : g.fr = F.map Prod.fst
  nd : ((F ++ O).map Prod.fst).Nodup
  inF : ∀ b ∈ F, g.m b.1 = some (b.2, false)
  inO : ∀ b ∈ O, g.m b.1 = some (b.2, true)
  no : ∀ id, id ∉ (F ++ O).map Prod.fst → g.m id = none
  n : g.n = F.length + O.length
  cap : g.n ≤ 1024
  wf : ∀ b ∈ F ++ O, 0 ≤ b.1 ∧ b.1 ≤ 65536
theorem Rl.nil : Rl ⟨fun _ => none, 0, []⟩ [] [] := ⟨rfl, List.nodup_nil, by simp, by simp, fun _ _ => rfl, rfl, Nat.zero_le _, by simp⟩
section
variable {g : Gp} {F O : List Bu}
/-- What turns a group: the entries' members stay, in some order. -/
theorem Rl.turn {g' : Gp} {F' O' : List Bu} (h : Rl g F O) (hp : (F' ++ O').Perm (F ++ O)) (hfr : g'.fr = F'.map Prod.fst) (hF : ∀ b ∈ F', g'.m b.1 = some (b.2, false)) (hO : ∀ b ∈ O', g'.m b.1 = some (b.2, true)) (hno : ∀ id, g.m id = none → g'.m id = none) (hn : g'.n = g.n) : Rl g' F' O' := by
  have hl : F'.length + O'.length = F.length + O.length := by have := hp.length_eq; simpa using this
  refine ⟨hfr, ((hp.map _).nodup_iff).2 h.nd, hF, hO, fun id hid => hno id (h.no id (fun hm => hid ((hp.map _).mem_iff.2 hm))), by rw [hn, h.n, hl], by rw [hn]; exact h.cap, fun b hb => h.wf b (hp.mem_iff.1 hb)⟩
theorem Rl.ne {l1 l2 : List Bu} (h : ((l1 ++ l2).map Prod.fst).Nodup) {a b : Bu} (ha : a ∈ l1) (hb : b ∈ l2) : a.1 ≠ b.1 := by
  rw [List.map_append, List.nodup_append] at h
  exact h.2.2 _ (List.mem_map_of_mem ha) _ (List.mem_map_of_mem hb)
theorem Rl.take {b : Bu} {F' : List Bu} (h : Rl g (b :: F') O) : Rl ⟨upd g.m b.1 (b.2, true), g.n, F'.map Prod.fst⟩ F' (O ++ [b]) := by
  have hp : (F' ++ (O ++ [b])).Perm (b :: F' ++ O) := by
    rw [← List.append_assoc]
    exact (List.perm_append_comm).trans (List.Perm.refl _)
  have hnd : ((b :: (F' ++ O)).map Prod.fst).Nodup := h.nd
  have hne : ∀ c ∈ F' ++ O, c.1 ≠ b.1 := fun c hc e => by
    rw [List.map_cons, List.nodup_cons] at hnd
    exact hnd.1 (e ▸ List.mem_map_of_mem hc)
  refine h.turn hp rfl (fun c hc => ?_) (fun c hc => ?_) (fun id hid => ?_) rfl
  · show (if c.1 = b.1 then _ else _) = _
    rw [if_neg (hne c (List.mem_append_left _ hc))]
    exact h.inF c (List.mem_cons_of_mem _ hc)
  · show (if c.1 = b.1 then _ else _) = _
    rcases List.mem_append.1 hc with hc | hc
    · rw [if_neg (hne c (List.mem_append_right _ hc))]; exact h.inO c hc
    · rw [List.mem_singleton.1 hc, if_pos rfl]
  · show (if id = b.1 then _ else _) = _
    rw [if_neg, hid]
    intro e
    have := h.inF b (List.mem_cons_self ..)
    rw [← e, hid] at this
    cases this
theorem Rl.give {b : Bu} {O1 O2 : List Bu} (h : Rl g F (O1 ++ b :: O2)) : Rl ⟨upd g.m b.1 (b.2, false), g.n, F.map Prod.fst ++ [b.1]⟩ (F ++ [b]) (O1 ++ O2) := by
  have hp : ((F ++ [b]) ++ (O1 ++ O2)).Perm (F ++ (O1 ++ b :: O2)) := by
    rw [List.append_assoc]
    exact List.Perm.append_left F (show (b :: (O1 ++ O2)).Perm (O1 ++ b :: O2) from List.perm_middle.symm)
  have hnd : ((b :: (F ++ (O1 ++ O2))).map Prod.fst).Nodup := by
    have hq : (b :: (F ++ (O1 ++ O2))).Perm (F ++ (O1 ++ b :: O2)) := (List.perm_middle.symm).trans (List.Perm.append_left F List.perm_middle.symm)
    exact ((hq.map _).nodup_iff).2 h.nd
  have hne : ∀ c ∈ F ++ (O1 ++ O2), c.1 ≠ b.1 := fun c hc e => by
    rw [List.map_cons, List.nodup_cons] at hnd
    exact hnd.1 (e ▸ List.mem_map_of_mem hc)
  refine h.turn hp (by simp) (fun c hc => ?_) (fun c hc => ?_) (fun id hid => ?_) rfl
  · show (if c.1 = b.1 then _ else _) = _
    rcases List.mem_append.1 hc with hc | hc
    · rw [if_neg (hne c (List.mem_append_left _ hc))]; exact h.inF c hc
    · rw [List.mem_singleton.1 hc, if_pos rfl]
  · show (if c.1 = b.1 then _ else _) = _
    rw [if_neg (hne c (List.mem_append_right _ hc))]
    exact h.inO c (by rcases List.mem_append.1 hc with e | e; exact List.mem_append_left _ e; exact List.mem_append_right _ (List.mem_cons_of_mem _ e))
  · show (if id = b.1 then _ else _) = _
    rw [if_neg, hid]
    intro e
    have := h.inO b (List.mem_append_right _ (List.mem_cons_self ..))
    rw [← e, hid] at this
    cases this
theorem Rl.remove (h : Rl g F O) (M : Nat) (hM : M ≤ F.length) : Rl (remF g M) (F.drop M) O := by
  have hfr := h.fr
  have hsub : (F.drop M ++ O).Sublist (F ++ O) := (List.drop_sublist M F).append (List.Sublist.refl O)
  have hsplit : ((F.take M ++ (F.drop M ++ O)).map Prod.fst).Nodup := by rw [← List.append_assoc, List.take_append_drop]; exact h.nd
  have hnt : ∀ c ∈ F.drop M ++ O, c.1 ∉ g.fr.take M := fun c hc hm => by
    rw [hfr, ← List.map_take] at hm
    obtain ⟨a, ha, e⟩ := List.mem_map.1 hm
    exact Rl.ne hsplit ha hc e
  refine ⟨by show g.fr.drop M = _; rw [hfr, List.map_drop], h.nd.sublist (hsub.map _), fun c hc => ?_, fun c hc => ?_, fun id hid => ?_, ?_, Nat.le_trans (Nat.sub_le _ _) h.cap, fun b hb => h.wf b (hsub.subset hb)⟩
  · show (if c.1 ∈ g.fr.take M then none else g.m c.1) = _
    rw [if_neg (hnt c (List.mem_append_left _ hc))]
    exact h.inF c ((List.drop_sublist M F).subset hc)
  · show (if c.1 ∈ g.fr.take M then none else g.m c.1) = _
    rw [if_neg (hnt c (List.mem_append_right _ hc))]
    exact h.inO c hc
  · show (if id ∈ g.fr.take M then none else g.m id) = _
    by_cases ht : id ∈ g.fr.take M
    · rw [if_pos ht]
    · rw [if_neg ht]
      refine h.no id (fun hm => ?_)
      rw [← List.take_append_drop M F, List.append_assoc, List.map_append, List.mem_append, List.map_take, ← hfr] at hm
      exact hm.elim ht hid
  · show g.n - M = _
    rw [h.n, List.length_drop]
    omega
/-- k buffers of size z, from f on. -/
def fresh (f z : Int) (k : Nat) : List Bu := (List.range k).map (fun j : Nat => (f + (j : Int), z))
theorem mem_fresh {f z : Int} {k : Nat} {b : Bu} : b ∈ fresh f z k ↔ ∃ j : Nat, j < k ∧ b = (f + (j : Int), z) := by
  simp [fresh, List.mem_range, eq_comm]
theorem Rl.prov (h : Rl g F O) (f z : Int) (k : Nat) (hno : ∀ j : Nat, j < k → g.m (f + j) = none) (hk : g.n + k ≤ 1024) (hf : 0 ≤ f ∧ f + k ≤ 65536) : Rl (HPool.prov g f z k) (F ++ fresh f z k) O := by
  have hout : ∀ c ∈ F ++ O, ¬ (f ≤ c.1 ∧ c.1 < f + k) := fun c hc hb => by
    have := hno (c.1 - f).toNat (by omega)
    rw [show f + ((c.1 - f).toNat : Int) = c.1 by omega] at this
    rcases List.mem_append.1 hc with hc | hc
    · rw [h.inF c hc] at this; cases this
    · rw [h.inO c hc] at this; cases this
  have hfresh : ((fresh f z k).map Prod.fst).Nodup := by
    unfold fresh
    rw [List.map_map, List.nodup_iff_pairwise_ne, List.pairwise_map]
    exact List.Pairwise.imp (fun {a b} hab => by show f + (a : Int) ≠ f + (b : Int); omega) (List.nodup_iff_pairwise_ne.1 (List.nodup_range (n := k)))
  refine ⟨?_, ?_, fun c hc => ?_, fun c hc => ?_, fun id hid => ?_, ?_, hk, fun b hb => ?_⟩
  · show g.fr ++ _ = _
    rw [h.fr, List.map_append]
    unfold fresh
    rw [List.map_map]
    rfl
  · have hq : (fresh f z k ++ (F ++ O)).Perm (F ++ fresh f z k ++ O) := by
      rw [← List.append_assoc]
      exact List.Perm.append_right O List.perm_append_comm
    refine ((hq.map _).nodup_iff).1 ?_
    rw [List.map_append, List.nodup_append]
    refine ⟨hfresh, h.nd, fun a ha b hb e => ?_⟩
    subst e
    obtain ⟨c, hc, rfl⟩ := List.mem_map.1 hb
    obtain ⟨c2, hc2, e2⟩ := List.mem_map.1 ha
    obtain ⟨j, hj, rfl⟩ := mem_fresh.1 hc2
    refine hout c hc ?_
    simp only at e2
    omega
  · show (if f ≤ c.1 ∧ c.1 < f + k then _ else _) = _
    rcases List.mem_append.1 hc with hc | hc
    · rw [if_neg (hout c (List.mem_append_left _ hc))]; exact h.inF c hc
    · obtain ⟨j, hj, rfl⟩ := mem_fresh.1 hc
      simp only
      rw [if_pos (by omega)]
  · show (if f ≤ c.1 ∧ c.1 < f + k then _ else _) = _
    rw [if_neg (hout c (List.mem_append_right _ hc))]; exact h.inO c hc
  · show (if f ≤ id ∧ id < f + k then _ else _) = _
    rw [if_neg]
    · refine h.no id (fun hm => hid ?_)
      obtain ⟨c, hc, rfl⟩ := List.mem_map.1 hm
      refine List.mem_map_of_mem ?_
      rcases List.mem_append.1 hc with hc | hc
      · exact List.mem_append_left _ (List.mem_append_left _ hc)
      · exact List.mem_append_right _ hc
    · intro hb
      refine hid (List.mem_map.2 ⟨(id, z), List.mem_append_left _ (List.mem_append_right _ (mem_fresh.2 ⟨(id - f).toNat, by omega, ?_⟩)), rfl⟩)
      rw [show f + ((id - f).toNat : Int) = id by omega]
  · show g.n + k = _
    rw [h.n, List.length_append]
    simp [fresh]
    omega
  · rcases List.mem_append.1 hb with hb | hb
    · rcases List.mem_append.1 hb with hb | hb
      · exact h.wf b (List.mem_append_left _ hb)
      · obtain ⟨j, hj, rfl⟩ := mem_fresh.1 hb
        simp only
        omega
    · exact h.wf b (List.mem_append_right _ hb)
/-- A number among the buffers. -/
def has (l : List Bu) (id : Int) : Bool := l.any (fun b => b.1 == id)
theorem has_iff {l : List Bu} {id : Int} : has l id = true ↔ ∃ b ∈ l, b.1 = id := by simp [has]
theorem Rl.state (h : Rl g F O) (id : Int) : stF (g.m id) = if has F id then 1 else if has O id then 2 else 0 := by
  unfold stF
  by_cases hF : has F id = true
  · obtain ⟨b, hb, rfl⟩ := has_iff.1 hF
    rw [if_pos hF, h.inF b hb]
    rfl
  · rw [if_neg hF]
    by_cases hO : has O id = true
    · obtain ⟨b, hb, rfl⟩ := has_iff.1 hO
      rw [if_pos hO, h.inO b hb]
      rfl
    · rw [if_neg hO, h.no id (fun hm => ?_)]
      · rfl
      obtain ⟨c, hc, e⟩ := List.mem_map.1 hm
      rcases List.mem_append.1 hc with hc | hc
      · exact hF (has_iff.2 ⟨c, hc, e⟩)
      · exact hO (has_iff.2 ⟨c, hc, e⟩)
theorem Rl.some_iff (h : Rl g F O) (id : Int) : (g.m id).isSome = (has F id || has O id) := by
  have := h.state id
  unfold stF at this
  cases hm : g.m id with
  | none =>
    rw [hm] at this
    cases h1 : has F id <;> cases h2 : has O id <;> simp_all
  | some v =>
    rw [hm] at this
    cases h1 : has F id <;> cases h2 : has O id <;> simp_all
    split at this <;> omega
theorem Rl.out_iff (h : Rl g F O) (id : Int) (hO : has O id = false) : g.m id = none ∨ ∃ sz, g.m id = some (sz, false) := by
  have := h.state id
  rw [hO] at this
  cases hm : g.m id with
  | none => exact .inl rfl
  | some v =>
    obtain ⟨sz, ou⟩ := v
    cases ou
    · exact .inr ⟨sz, rfl⟩
    · rw [hm] at this
      unfold stF at this
      cases h1 : has F id <;> simp_all
end
end Go.Proofs.Ytfmfpofbefgbgaa.HPoolS
