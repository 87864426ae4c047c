/- Maps of the call's own, told by a function (what each key holds) and a count: read, written, deleted from, counted. Conditions: each theorem's own. -/
import Derived.Test.YtfmfpofbefgbgaaHExt
import Derived.Maps.Own
import Derived.DeepKeys4
namespace Go.Proofs.Ytfmfpofbefgbgaa.HMap
open Go.RowKit Go.Maps Go.ChangeMaps Go.MapKept
set_option linter.unusedVariables false
set_option linter.unusedSimpArgs false
set_option linter.unusedSectionVars false
/-- The keys of a type: how each is spelled, which of them may be. -/
structure Ky (P : Program) (k : TypeId) (α : Type) where
  enc : α → Value
  ok : α → Prop
  law : Keyed P k
  key : ∀ a, ok a → ∃ l, keyOf P k (enc a) = some l
  inj : ∀ a b, enc a = enc b → a = b
section
variable {P : Program} {k t e ty : TypeId} {α β : Type} {K : Ky P k α} {ev : β → Value} {w w' : World} {b n : Nat} {f : α → Option β}
/-- Block b is a map that holds f, n entries. -/
def Mf (K : Ky P k α) (ev : β → Value) (w : World) (b : Nat) (f : α → Option β) (n : Nat) : Prop :=
  ∃ es clock, w.heap[b]? = some (.map es clock) ∧ es.size = n ∧ es.toList.Pairwise (fun x y => x.key ≠ y.key) ∧
    (∀ x ∈ es.toList, ∃ a v, K.ok a ∧ x.key = K.enc a ∧ x.val = ev v ∧ f a = some v) ∧ ∀ a v, K.ok a → f a = some v → ∃ x ∈ es.toList, x.key = K.enc a
theorem Mf.lt (h : Mf K ev w b f n) : b < w.heap.size := by
  obtain ⟨es, clock, hb, -⟩ := h
  exact (Array.getElem?_eq_some_iff.1 hb).1
theorem Mf.keep (h : Mf K ev w b f n) (hk : w'.heap[b]? = w.heap[b]?) : Mf K ev w' b f n := by
  obtain ⟨es, clock, hb, r⟩ := h
  exact ⟨es, clock, hk.trans hb, r⟩
theorem Mf.below (h : Mf K ev w b f n) (hb : Below w.heap.size w w') : Mf K ev w' b f n := h.keep (hb.block b h.lt)
theorem Mf.put {g i : Nat} {ts : TypeId} {cs : Array Value} {u : Value} (h : Mf K ev w b f n) (hg : w.heap[g]? = some (.cells cs ts (0, 0))) : Mf K ev (w.setCell ⟨g, i, none⟩ u) b f n := by
  refine h.keep (Below.heap_setCell w _ _ b ?_)
  obtain ⟨es, clock, hb, -⟩ := h
  rintro rfl
  rw [hg] at hb
  cases hb
/-- A map's block is none of a row's. -/
theorem Mf.apart {g : Nat} {ts : TypeId} {cs : Array Value} (h : Mf K ev w b f n) (hg : w.heap[g]? = some (.cells cs ts (0, 0))) : b ≠ g := by
  obtain ⟨es, clock, hb, -⟩ := h
  rintro rfl
  rw [hg] at hb
  cases hb
theorem Mf.grown (h : Mf K ev w b f n) {row : Option Nat} (hg : w.grownBy w' row) (hne : some b ≠ row) : Mf K ev w' b f n := h.keep (hg.block b h.lt hne)
theorem Mf.congr {g : α → Option β} (h : Mf K ev w b f n) (hf : ∀ a, K.ok a → f a = g a) : Mf K ev w b g n := by
  obtain ⟨es, clock, hb, h1, h2, h3, h4⟩ := h
  refine ⟨es, clock, hb, h1, h2, fun x hx => ?_, fun a v ha hv => h4 a v ha (by rw [hf a ha]; exact hv)⟩
  obtain ⟨a, v, ha, h5, h6, h7⟩ := h3 x hx
  exact ⟨a, v, ha, h5, h6, by rw [← hf a ha]; exact h7⟩
/-- A new map holds nothing. -/
theorem Mf.made (K : Ky P k α) (ev : β → Value) (w : World) : Mf K ev (w.alloc (.map #[] 0)) w.heap.size (fun _ => none) 0 :=
  ⟨#[], 0, (MapKept.heap_alloc w _).1, rfl, List.Pairwise.nil, (fun x hx => by cases hx), (fun a v _ h => by cases h)⟩
theorem find_ (h : Mf K ev w b f n) {es : Array MapEntry} {clock : Nat} (hb : w.heap[b]? = some (.map es clock)) {a : α} (ha : K.ok a) :
    ((Instr.findKey k (K.enc a) es.toList).run P w = .ok none w ∧ f a = none ∧ ∀ x ∈ es.toList, x.key ≠ K.enc a) ∨ ∃ j x v, (Instr.findKey k (K.enc a) es.toList).run P w = .ok (some (j, ev v)) w ∧ es.toList[j]? = some x ∧ x.key = K.enc a ∧ x.val = ev v ∧ f a = some v := by
  obtain ⟨es', clock', hb', h1, h2, h3, h4⟩ := h
  rw [hb] at hb'
  injection hb' with hb'
  injection hb' with e1 e2
  subst e1
  obtain ⟨l, hl⟩ := K.key a ha
  rcases K.law.find w hl es.toList (fun x hx => by obtain ⟨a', v, ha', hk, -⟩ := h3 x hx; rw [hk]; exact K.key a' ha') with ⟨r1, r2⟩ | ⟨j, x, r1, r2, r3⟩
  · refine .inl ⟨r1, ?_, r2⟩
    cases hf : f a with
    | none => rfl
    | some v =>
      obtain ⟨x, hx, hxk⟩ := h4 a v ha hf
      exact absurd hxk (r2 x hx)
  · obtain ⟨a', v, ha', hk, hv, hf⟩ := h3 x (List.mem_of_getElem? r2)
    have : a' = a := K.inj _ _ (hk.symm.trans r3)
    subst this
    exact .inr ⟨j, x, v, by rw [r1, hv], r2, r3, hv, hf⟩
/-- 'm[a]', with ok or without. -/
theorem Mf.look (h : Mf K ev w b f n) (c : Bool) (ht : P.underlying t = some (.map k e)) {z : Value} (hz : (zeroValue e).run P w = .ok z w) {a : α} (ha : K.ok a) :
    (Instr.lookup t (.map (some b)) (K.enc a) c).run P w = .ok (if c then .tuple #[(f a).elim z ev, .bool (f a).isSome] else (f a).elim z ev) w := by
  have h0 := h
  obtain ⟨es, clock, hb, -⟩ := h
  obtain ⟨l, hl⟩ := K.key a ha
  rcases find_ h0 hb ha with ⟨r1, r2, -⟩ | ⟨j, x, v, r1, r2, r3, r4, r5⟩
  · simp [Instr.lookup, run_underlying ht, MapKept.run_getObj_map hb, K.law.check w _ hl, r1, hz, Result.andThen, r2]
  · simp [Instr.lookup, run_underlying ht, MapKept.run_getObj_map hb, K.law.check w _ hl, r1, Result.andThen, r5]
theorem grown_block {es : Array MapEntry} {clock : Nat} (hb : w.heap[b]? = some (.map es clock)) (o : Obj) : w.grownBy (setBlock w b o) (some b) :=
  ⟨rfl, rfl, rfl, by simp [setBlock], fun i _ hi => heap_setBlock_other hb _ (fun e => hi (by rw [e]))⟩
/-- 'len(m)'. -/
theorem Mf.len (h : Mf K ev w b f n) (ht : P.underlying t = some (.map k e)) : (Builtin.len_ #[t] ty #[.map (some b)]).run P w = .ok (.int .i64 n) w := by
  obtain ⟨es, clock, hb, rfl, -⟩ := h
  simp [Builtin.len_, run_underlying ht, MapKept.run_getObj_map hb, Result.andThen, goInt]
variable [DecidableEq α]
/-- 'm[a] = v'. -/
theorem Mf.update (h : Mf K ev w b f n) (ht : P.underlying t = some (.map k e)) {a : α} (ha : K.ok a) (v : β) :
    ∃ w', (Instr.mapUpdate t (.map (some b)) (K.enc a) (ev v)).run P w = .ok () w' ∧ Mf K ev w' b (fun x => if x = a then some v else f x) (if (f a).isSome then n else n + 1) ∧ w.grownBy w' (some b) := by
  have h0 := h
  have hlt := h.lt
  obtain ⟨es, clock, hb, h1, h2, h3, h4⟩ := h
  obtain ⟨l, hl⟩ := K.key a ha
  rcases find_ h0 hb ha with ⟨r1, r2, r3⟩ | ⟨j, x, v0, r1, r2, r3, r4, r5⟩
  · refine ⟨setBlock w b (.map (es.push ⟨K.enc a, ev v, clock⟩) (clock + 1)), ?_, ⟨es.push ⟨K.enc a, ev v, clock⟩, clock + 1, heap_setBlock_same hb _, ?_, ?_, ?_, ?_⟩, grown_block hb _⟩
    · simp [Instr.mapUpdate, run_underlying ht, MapKept.run_getObj_map hb, K.law.check w false hl, r1, MapKept.run_setObj_map _ hb, Result.andThen, setBlock]
    · simp [r2, h1]
    · rw [Array.toList_push, List.pairwise_append]
      refine ⟨h2, by simp, fun x hx y hy => ?_⟩
      rw [List.mem_singleton.1 hy]
      exact r3 x hx
    · intro x hx
      rw [Array.toList_push, List.mem_append] at hx
      rcases hx with hx | hx
      · obtain ⟨a', v', ha', hk, hv, hf⟩ := h3 x hx
        refine ⟨a', v', ha', hk, hv, ?_⟩
        have hne : a' ≠ a := fun e => r3 x hx (by rw [hk, e])
        simp [hne, hf]
      · rw [List.mem_singleton.1 hx]
        exact ⟨a, v, ha, rfl, rfl, by simp⟩
    · intro a' v' ha' hf
      rw [Array.toList_push]
      by_cases hq : a' = a
      · subst hq
        exact ⟨_, List.mem_append_right _ (List.mem_singleton.2 rfl), rfl⟩
      · simp only [hq, if_false] at hf
        obtain ⟨x, hx, hk⟩ := h4 a' v' ha' hf
        exact ⟨x, List.mem_append_left _ hx, hk⟩
  · have hjl : j < es.toList.length := (List.getElem?_eq_some_iff.1 r2).1
    have hj : es[j]? = some x := by simpa using r2
    have hlist : (es.modify j (fun e' => { e' with key := K.enc a, val := ev v })).toList = es.toList.set j { x with key := K.enc a, val := ev v } := by rw [Array.toList_modify, modify_eq_set _ _ _ _ r2]
    have hget : ∀ (i : Nat) (y : MapEntry), es.toList[i]? = some y → i ≠ j → y.key ≠ K.enc a := fun i y hy hij => by
      have hil : i < es.toList.length := (List.getElem?_eq_some_iff.1 hy).1
      have hp := List.pairwise_iff_getElem.1 h2
      rw [List.getElem?_eq_getElem hil] at hy
      rw [List.getElem?_eq_getElem hjl] at r2
      injection hy with hy
      injection r2 with r2
      rw [← hy, ← r3, ← r2]
      rcases Nat.lt_or_gt_of_ne hij with h | h
      · exact hp i j hil hjl h
      · exact (hp j i hjl hil h).symm
    refine ⟨setBlock w b (.map (es.modify j (fun e' => { e' with key := K.enc a, val := ev v })) clock), ?_, ⟨_, clock, heap_setBlock_same hb _, ?_, ?_, ?_, ?_⟩, grown_block hb _⟩
    · simp [Instr.mapUpdate, run_underlying ht, MapKept.run_getObj_map hb, K.law.check w false hl, r1, hj, r3, K.law.stays w hl, MapKept.run_setObj_map _ hb, Result.andThen, setBlock]
    · simp [r5, h1]
    · rw [hlist, List.pairwise_iff_getElem]
      have hp := List.pairwise_iff_getElem.1 h2
      intro i i' hi hi' hlt'
      simp only [List.length_set] at hi hi'
      have hxk : es.toList[j].key = K.enc a := by rw [List.getElem?_eq_getElem hjl] at r2; injection r2 with r2; rw [r2, r3]
      simp only [List.getElem_set]
      by_cases c1 : j = i <;> by_cases c2 : j = i'
      · omega
      · subst c1
        simp only [if_true, c2, if_false]
        have := hp j i' hjl hi' hlt'
        rw [hxk] at this
        exact this
      · subst c2
        simp only [if_true, c1, if_false]
        have := hp i j hi hjl hlt'
        rw [hxk] at this
        exact this
      · simp only [c1, c2, if_false]
        exact hp i i' hi hi' hlt'
    · intro y hy
      rw [hlist] at hy
      obtain ⟨i, hi, rfl⟩ := List.getElem_of_mem hy
      simp only [List.length_set] at hi
      simp only [List.getElem_set]
      by_cases c1 : j = i
      · subst c1
        simp only [if_true]
        exact ⟨a, v, ha, rfl, rfl, by simp⟩
      · simp only [c1, if_false]
        obtain ⟨a', v', ha', hk, hv, hf⟩ := h3 _ (List.getElem_mem hi)
        refine ⟨a', v', ha', hk, hv, ?_⟩
        have hne : a' ≠ a := fun e => hget i _ (List.getElem?_eq_getElem hi) (fun e => c1 e.symm) (by rw [hk, e])
        simp [hne, hf]
    · intro a' v' ha' hf
      rw [hlist]
      by_cases hq : a' = a
      · subst hq
        exact ⟨{ x with key := K.enc a', val := ev v }, List.mem_iff_getElem.2 ⟨j, by simpa using hjl, by simp⟩, rfl⟩
      · simp only [hq, if_false] at hf
        obtain ⟨y, hy, hk⟩ := h4 a' v' ha' hf
        obtain ⟨i, hi, rfl⟩ := List.getElem_of_mem hy
        have hij : j ≠ i := fun e => by
          subst e
          rw [List.getElem?_eq_getElem hjl] at r2
          injection r2 with r2
          rw [r2, r3] at hk
          exact hq (K.inj _ _ hk).symm
        exact ⟨es.toList[i], List.mem_iff_getElem.2 ⟨i, by simpa using hi, by simp [List.getElem_set, hij]⟩, hk⟩
/-- 'delete(m, a)'. -/
theorem Mf.delete (h : Mf K ev w b f n) (ht : P.underlying t = some (.map k e)) {a : α} (ha : K.ok a) :
    ∃ w', (Builtin.delete_ #[t, k] ty #[.map (some b), K.enc a]).run P w = .ok (.tuple #[]) w' ∧ Mf K ev w' b (fun x => if x = a then none else f x) (if (f a).isSome then n - 1 else n) ∧ w.grownBy w' (some b) := by
  have h0 := h
  have hlt := h.lt
  obtain ⟨es, clock, hb, h1, h2, h3, h4⟩ := h
  obtain ⟨l, hl⟩ := K.key a ha
  rcases find_ h0 hb ha with ⟨r1, r2, r3⟩ | ⟨j, x, v0, r1, r2, r3, r4, r5⟩
  · refine ⟨setBlock w b (.map es clock), ?_, ⟨es, clock, heap_setBlock_same hb _, ?_, h2, ?_, ?_⟩, grown_block hb _⟩
    · simp [Builtin.delete_, run_underlying ht, MapKept.run_getObj_map hb, K.law.check w _ hl, r1, MapKept.run_setObj_map _ hb, Result.andThen, setBlock]
    · simp [r2, h1]
    · intro y hy
      obtain ⟨a', v', ha', hk, hv, hf⟩ := h3 y hy
      have hne : a' ≠ a := fun e => r3 y hy (by rw [hk, e])
      exact ⟨a', v', ha', hk, hv, by simp [hne, hf]⟩
    · intro a' v' ha' hf
      by_cases hq : a' = a
      · subst hq; simp at hf
      · simp only [hq, if_false] at hf
        exact h4 a' v' ha' hf
  · have hjl : j < es.toList.length := (List.getElem?_eq_some_iff.1 r2).1
    have hjs : j < es.size := by simpa using hjl
    have hsub : (es.eraseIdxIfInBounds j).toList = es.toList.eraseIdx j := by
      unfold Array.eraseIdxIfInBounds
      rw [dif_pos hjs]
      simp
    have hne : ∀ y ∈ es.toList.eraseIdx j, y.key ≠ K.enc a := fun y hy => by
      obtain ⟨i, hij, hi⟩ := List.mem_eraseIdx_iff_getElem?.1 hy
      have hil : i < es.toList.length := (List.getElem?_eq_some_iff.1 hi).1
      have hp := List.pairwise_iff_getElem.1 h2
      rw [List.getElem?_eq_getElem hil] at hi
      rw [List.getElem?_eq_getElem hjl] at r2
      injection hi with hi
      injection r2 with r2
      rw [← hi, ← r3, ← r2]
      rcases Nat.lt_or_gt_of_ne hij with h | h
      · exact hp i j hil hjl h
      · exact (hp j i hjl hil h).symm
    refine ⟨setBlock w b (.map (es.eraseIdxIfInBounds j) clock), ?_, ⟨_, clock, heap_setBlock_same hb _, ?_, ?_, ?_, ?_⟩, grown_block hb _⟩
    · simp [Builtin.delete_, run_underlying ht, MapKept.run_getObj_map hb, K.law.check w _ hl, r1, MapKept.run_setObj_map _ hb, Result.andThen, setBlock]
    · have e1 : (es.eraseIdxIfInBounds j).size = (es.eraseIdxIfInBounds j).toList.length := by rw [Array.length_toList]
      rw [e1, hsub, List.length_eraseIdx, if_pos hjl]
      simp [r5, h1]
    · rw [hsub]; exact h2.sublist (List.eraseIdx_sublist _ _)
    · intro y hy
      rw [hsub] at hy
      obtain ⟨a', v', ha', hk, hv, hf⟩ := h3 y ((List.eraseIdx_sublist _ _).subset hy)
      have : a' ≠ a := fun e => hne y hy (by rw [hk, e])
      exact ⟨a', v', ha', hk, hv, by simp [this, hf]⟩
    · intro a' v' ha' hf
      rw [hsub]
      by_cases hq : a' = a
      · subst hq; simp at hf
      · simp only [hq, if_false] at hf
        obtain ⟨y, hy, hk⟩ := h4 a' v' ha' hf
        obtain ⟨i, hi, rfl⟩ := List.getElem_of_mem hy
        refine ⟨es.toList[i], List.mem_eraseIdx_iff_getElem?.2 ⟨i, fun e => ?_, List.getElem?_eq_getElem hi⟩, hk⟩
        subst e
        rw [List.getElem?_eq_getElem hi] at r2
        injection r2 with r2
        rw [r2, r3] at hk
        exact hq (K.inj _ _ hk).symm
end
end Go.Proofs.Ytfmfpofbefgbgaa.HMap
