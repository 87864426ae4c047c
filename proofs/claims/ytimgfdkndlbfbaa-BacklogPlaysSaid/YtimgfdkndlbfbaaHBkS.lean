/- The reference of backlog beside the program's plain functions (addF, readyF, dropF, takeF): the list of pairs holds what the log holds. Conditions: each theorem's own. -/
import Derived.Test.YtimgfdkndlbfbaaHBkR5
namespace Go.Proofs.Ytimgfdkndlbfbaa.HBkR
open Go.RowKit Go.Proofs.YtimgfdkndlbfbaaW.PrintWords Go.Proofs.YtimgfdkndlbfbaaW.PrintLast Go.Proofs.YtimgfdkndlbfbaaW.PrintMore Go.Proofs.Ytimgfdkndlbfbaa.HBk Go.Proofs.Ytimgfdkndlbfbaa.PBackL
set_option linter.unusedVariables false
set_option linter.unusedSimpArgs false
def idsA (l : List (Int × Bool)) (t : Bool) : List Int := (l.filter (fun p => p.2 == t)).map (·.1)
theorem idsF_all (l : List (Int × Bool)) (t : Bool) (n : Nat) (h : l.length = n) : idsF l t n = idsA l t := by
  subst h
  unfold idsF idsA
  rw [List.take_length]
/-- The list of pairs holds what the log holds. -/
structure Rel (s : LS) (l : List (Int × Bool)) : Prop where
  nd : (l.map (·.1)).Nodup
  h : s.h = idsA l false
  r : s.r = idsA l true
theorem idsA_mem {l : List (Int × Bool)} {t : Bool} {x : Int} : x ∈ idsA l t ↔ (x, t) ∈ l := by
  unfold idsA
  simp only [List.mem_map, List.mem_filter, beq_iff_eq]
  constructor
  · rintro ⟨⟨a, b⟩, ⟨h1, rfl⟩, rfl⟩; exact h1
  · intro h; exact ⟨(x, t), ⟨h, rfl⟩, rfl⟩
theorem mem_fst {l : List (Int × Bool)} {x : Int} : x ∈ l.map (·.1) ↔ x ∈ idsA l false ∨ x ∈ idsA l true := by
  simp only [idsA_mem, List.mem_map]
  constructor
  · rintro ⟨⟨a, b⟩, h, rfl⟩
    cases b
    · exact .inl h
    · exact .inr h
  · rintro (h | h)
    · exact ⟨_, h, rfl⟩
    · exact ⟨_, h, rfl⟩
theorem idsA_len (l : List (Int × Bool)) : (idsA l false).length + (idsA l true).length = l.length := by
  induction l with
  | nil => rfl
  | cons p ps ih =>
    obtain ⟨a, b⟩ := p
    unfold idsA at ih ⊢
    cases b <;> simp at ih ⊢ <;> omega
theorem idsA_snoc (l : List (Int × Bool)) (x : Int) (b t : Bool) : idsA (l ++ [(x, b)]) t = if b == t then idsA l t ++ [x] else idsA l t := by
  unfold idsA
  rw [List.filter_append]
  by_cases h : (b == t) = true
  · simp [h]
  · simp only [Bool.not_eq_true] at h; simp [h]
/-- Where x stands. -/
theorem find_at {l : List (Int × Bool)} {x : Int} (h : x ∈ l.map (·.1)) : ∃ k : Nat, ix (l.map (·.1)) x = (k : Int) ∧ k < l.length ∧ (l.getD k (0, false)).1 = x := by
  obtain ⟨h1, h2⟩ := ix_mem h
  refine ⟨_, h1, by simpa using h2, ?_⟩
  have h3 : (l.map (·.1)).idxOf x < l.length := by simpa using h2
  have h4 := List.getElem_idxOf h2
  have h5 : (l.map (·.1)).idxOf x < l.length := by simpa using h2
  rw [List.getElem_map] at h4
  rw [List.getD_eq_getElem?_getD, List.getElem?_eq_getElem h5]
  exact h4
theorem erase_filter : ∀ {l : List (Int × Bool)} {k : Nat} {x : Int}, (l.map (·.1)).Nodup → k < l.length → (l.getD k (0, false)).1 = x → l.eraseIdx k = l.filter (fun p => decide (p.1 ≠ x))
  | [], k, x, _, hk, _ => absurd hk (Nat.not_lt_zero _)
  | p :: ps, 0, x, hn, _, hx => by
    simp only [List.map_cons, List.nodup_cons] at hn
    have hx' : p.1 = x := by simpa using hx
    rw [List.eraseIdx_cons_zero, List.filter_cons_of_neg (by simp [hx'])]
    symm
    refine List.filter_eq_self.2 (fun q hq => decide_eq_true fun e => hn.1 ?_)
    rw [hx', ← e]
    exact List.mem_map_of_mem hq
  | p :: ps, k + 1, x, hn, hk, hx => by
    simp only [List.map_cons, List.nodup_cons] at hn
    have hk' : k < ps.length := by simpa using hk
    have hx' : (ps.getD k (0, false)).1 = x := by simpa using hx
    have hp : p.1 ≠ x := fun e => hn.1 (by
      rw [e, ← hx', List.getD_eq_getElem?_getD, List.getElem?_eq_getElem hk']
      exact List.mem_map_of_mem (List.getElem_mem hk'))
    rw [List.eraseIdx_cons_succ, List.filter_cons_of_pos (by simp [hp]), erase_filter hn.2 hk' hx']
theorem idsA_filter (l : List (Int × Bool)) (x : Int) (t : Bool) : idsA (l.filter (fun p => decide (p.1 ≠ x))) t = (idsA l t).filter (fun y => decide (y ≠ x)) := by
  unfold idsA
  rw [List.filter_map, List.filter_filter, List.filter_filter]
  congr 1
  refine List.filter_congr fun p _ => ?_
  simp only [Function.comp]
  exact Bool.and_comm _ _
theorem idsA_nodup {l : List (Int × Bool)} (h : (l.map (·.1)).Nodup) (t : Bool) : (idsA l t).Nodup := h.sublist (List.Sublist.map _ List.filter_sublist)
theorem idsA_erase {l : List (Int × Bool)} {k : Nat} {x : Int} (hn : (l.map (·.1)).Nodup) (hk : k < l.length) (hx : (l.getD k (0, false)).1 = x) (t : Bool) : idsA (l.eraseIdx k) t = out (idsA l t) x := by
  rw [erase_filter hn hk hx, idsA_filter, out_filter (idsA_nodup hn t)]
theorem out_self {xs : List Int} {x : Int} (h : x ∉ xs) : out xs x = xs := if_neg h
theorem Rel.len {s : LS} {l : List (Int × Bool)} (h : Rel s l) : s.h.length + s.r.length = l.length := by rw [h.h, h.r]; exact idsA_len l
theorem Rel.mem {s : LS} {l : List (Int × Bool)} (h : Rel s l) {x : Int} : x ∈ l.map (·.1) ↔ x ∈ s.h ∨ x ∈ s.r := by rw [h.h, h.r]; exact mem_fst
theorem Rel.erase {s : LS} {l : List (Int × Bool)} (h : Rel s l) {k : Nat} {x : Int} (hk : k < l.length) (hx : (l.getD k (0, false)).1 = x) : Rel { s with h := out s.h x, r := out s.r x } (l.eraseIdx k) := by
  refine ⟨?_, ?_, ?_⟩
  · exact h.nd.sublist ((List.eraseIdx_sublist l k).map _)
  · show out s.h x = _; rw [idsA_erase h.nd hk hx, h.h]
  · show out s.r x = _; rw [idsA_erase h.nd hk hx, h.r]
theorem Rel.snoc {s : LS} {l : List (Int × Bool)} (h : Rel s l) {x : Int} (hx : x ∉ l.map (·.1)) (b : Bool) : Rel { s with h := if b then s.h else s.h ++ [x], r := if b then s.r ++ [x] else s.r } (l ++ [(x, b)]) := by
  refine ⟨?_, ?_, ?_⟩
  · rw [List.map_append]
    have hp : (l.map (·.1) ++ [(x, b)].map (·.1)).Perm (x :: l.map (·.1)) := List.perm_append_singleton _ _
    rw [hp.nodup_iff, List.nodup_cons]
    exact ⟨hx, h.nd⟩
  · show _ = idsA (l ++ [(x, b)]) false; rw [idsA_snoc, h.h]; cases b <;> rfl
  · show _ = idsA (l ++ [(x, b)]) true; rw [idsA_snoc, h.r]; cases b <;> rfl
theorem at_ready {l : List (Int × Bool)} {k : Nat} {x : Int} (hn : (l.map (·.1)).Nodup) (hk : k < l.length) (hx : (l.getD k (0, false)).1 = x) : x ∈ idsA l (l.getD k (0, false)).2 ∧ x ∉ idsA l (!(l.getD k (0, false)).2) := by
  have hg : l.getD k (0, false) = l[k] := by rw [List.getD_eq_getElem?_getD, List.getElem?_eq_getElem hk]; rfl
  rw [hg] at hx ⊢
  constructor
  · rw [idsA_mem, ← hx]; exact List.getElem_mem hk
  · rw [idsA_mem]
    intro hm
    obtain ⟨j, hj, e⟩ := List.mem_iff_getElem.1 hm
    have hjk : j = k := by
      have hp := List.pairwise_iff_getElem.1 hn
      have e1 : (l.map (·.1))[j]'(by simpa using hj) = (l.map (·.1))[k]'(by simpa using hk) := by simp [e, hx]
      rcases Nat.lt_trichotomy j k with h | h | h
      · exact absurd e1 (hp j k _ _ h)
      · exact h
      · exact absurd e1.symm (hp k j _ _ h)
    subst hjk
    rw [e] at hg
    have := congrArg Prod.snd e
    simp at this
section
variable {w : World} {b0 : Nat} {A : Option Addr} {n c k : Nat} {s : LS} {l : List (Int × Bool)}
theorem Rw.of (hR : Kd.R dd 159 w b0 (fun _ => True) (.slice A n c) l) (hr : Rel s l) (hJ : Jn s k) (hk : k ≤ 300) : Rw w A n c l ∧ l.length = n := by
  obtain ⟨A', c', e, hl, hc⟩ := Kd.R_reads hR
  injection e with e1 e2 e3
  have h1 := hr.len
  have h2 := hJ.ln
  refine ⟨Rw.of_R hR (by omega), e2.symm⟩
theorem radd_sim (hR : Kd.R dd 159 w b0 (fun _ => True) (.slice A n c) l) (hr : Rel s l) (hJ : Jn s k) (hk : k ≤ 300) (hb0 : b0 ≤ w.heap.size) (x : Int) :
    Calls Try.prog 32 #[rv s.m0 s.m1 A n c s.ad s.tk s.rf, .int .i64 x] w fun e w' => ∃ A' n' c' l', e = .returned (.tuple #[rv (addF s x).1.m0 (addF s x).1.m1 A' n' c' (addF s x).1.ad (addF s x).1.tk (addF s x).1.rf, .int .i64 (addF s x).2]) ∧ Kd.R dd 159 w' b0 (fun _ => True) (.slice A' n' c') l' ∧ Rel (addF s x).1 l' ∧ Below w.heap.size w w' := by
  obtain ⟨hw, hln⟩ := Rw.of hR hr hJ hk
  have hlen := hr.len
  have j1 := hJ.ln; have j2 := hJ.a0; have j3 := hJ.a1; have j4 := hJ.f0; have j5 := hJ.f1
  unfold addF
  by_cases c1 : x ∈ s.h ∨ x ∈ s.r
  · rw [if_pos c1]
    obtain ⟨q, hq, hq2, -⟩ := find_at (hr.mem.2 c1)
    refine (radd_same s.m0 s.m1 A n c s.ad s.tk s.rf l hln hw.few x q hq w (Ones.of_C hw.C)).mono ?_
    rintro e w' ⟨rfl, hB⟩
    exact ⟨A, n, c, l, rfl, Kd.R_below hR hB, hr, hB⟩
  · rw [if_neg c1]
    have hx : x ∉ l.map (·.1) := fun e => c1 (hr.mem.1 e)
    have hn1 : (idsF l false n).length = s.h.length := by rw [idsF_all l false n hln, ← hr.h]
    have hn2 : (idsF l true n).length = s.r.length := by rw [idsF_all l true n hln, ← hr.r]
    by_cases c2 : s.m0 ≤ s.h.length ∨ s.m1 ≤ s.r.length
    · rw [if_pos c2]
      by_cases c3 : s.m0 ≤ (s.h.length : Int)
      · refine (radd_full1 s.m0 s.m1 A n c s.ad s.tk s.rf l x _ _ hx hn1 hn2 c3 (by omega) (by omega) w hw).mono ?_
        rintro e w' ⟨rfl, hB⟩
        exact ⟨A, n, c, l, rfl, Kd.R_below hR hB, ⟨hr.nd, hr.h, hr.r⟩, hB⟩
      · refine (radd_full2 s.m0 s.m1 A n c s.ad s.tk s.rf l x _ _ hx hn1 hn2 ⟨c3, c2.resolve_left c3⟩ (by omega) (by omega) w hw).mono ?_
        rintro e w' ⟨rfl, hB⟩
        exact ⟨A, n, c, l, rfl, Kd.R_below hR hB, ⟨hr.nd, hr.h, hr.r⟩, hB⟩
    · rw [if_neg c2]
      refine (radd_in s.m0 s.m1 A n c s.ad s.tk s.rf l x _ _ hx hn1 hn2 (fun e => c2 (.inl e)) (fun e => c2 (.inr e)) (by omega) (by omega) (by omega) w hw).mono ?_
      rintro e w' ⟨A', c', rfl, hR', hB⟩
      have h3 := hr.snoc hx false
      exact ⟨A', n + 1, c', _, rfl, Kd.R_lower hR' hb0, ⟨h3.nd, h3.h, h3.r⟩, hB⟩
theorem rready_sim (hR : Kd.R dd 159 w b0 (fun _ => True) (.slice A n c) l) (hr : Rel s l) (hJ : Jn s k) (hk : k ≤ 300) (hb0 : b0 ≤ w.heap.size) (x : Int) :
    Calls Try.prog 34 #[rv s.m0 s.m1 A n c s.ad s.tk s.rf, .int .i64 x] w fun e w' => ∃ A' n' c' l', e = .returned (.tuple #[rv (readyF s x).1.m0 (readyF s x).1.m1 A' n' c' (readyF s x).1.ad (readyF s x).1.tk (readyF s x).1.rf, .int .i64 (readyF s x).2]) ∧ Kd.R dd 159 w' b0 (fun _ => True) (.slice A' n' c') l' ∧ Rel (readyF s x).1 l' ∧ Below w.heap.size w w' := by
  obtain ⟨hw, hln⟩ := Rw.of hR hr hJ hk
  by_cases c0 : x ∈ l.map (·.1)
  · obtain ⟨q, hq, hq2, hq3⟩ := find_at c0
    obtain ⟨a1, a2⟩ := at_ready hr.nd hq2 hq3
    cases hb : (l.getD q (0, false)).2 with
    | true =>
      rw [hb] at a1 a2
      have hn : x ∉ s.h := by rw [hr.h]; exact a2
      unfold readyF
      rw [if_neg hn]
      refine (rready_twice s.m0 s.m1 A n c s.ad s.tk s.rf l hln hw.few x q hq (by omega) hb w (Ones.of_C hw.C)).mono ?_
      rintro e w' ⟨rfl, hB⟩
      exact ⟨A, n, c, l, rfl, Kd.R_below hR hB, hr, hB⟩
    | false =>
      rw [hb] at a1 a2
      have hn : x ∈ s.h := by rw [hr.h]; exact a1
      have hn2 : x ∉ s.r := by rw [hr.r]; exact a2
      unfold readyF
      rw [if_pos hn]
      refine (rready_some s.m0 s.m1 A n c s.ad s.tk s.rf l x q hq (by omega) hb w hw).mono ?_
      rintro e w' ⟨A', c', rfl, hR', hB⟩
      have h2 := hr.erase hq2 hq3
      have h3 := h2.snoc (x := x) (by
        rw [h2.mem]
        rintro (e | e)
        · exact out_gone (by rw [hr.h]; exact idsA_nodup hr.nd _) x e
        · exact out_gone (by rw [hr.r]; exact idsA_nodup hr.nd _) x e) true
      refine ⟨A', n, c', _, rfl, Kd.R_lower hR' hb0, ⟨h3.nd, h3.h, ?_⟩, hB⟩
      have := h3.r
      simp only [if_true, out_self hn2] at this
      exact this
  · have hn : x ∉ s.h := fun e => c0 (hr.mem.2 (.inl e))
    unfold readyF
    rw [if_neg hn]
    refine (rready_none s.m0 s.m1 A n c s.ad s.tk s.rf l hln hw.few x c0 w (Ones.of_C hw.C)).mono ?_
    rintro e w' ⟨rfl, hB⟩
    exact ⟨A, n, c, l, rfl, Kd.R_below hR hB, hr, hB⟩
theorem rdrop_sim (hR : Kd.R dd 159 w b0 (fun _ => True) (.slice A n c) l) (hr : Rel s l) (hJ : Jn s k) (hk : k ≤ 300) (hb0 : b0 ≤ w.heap.size) (x : Int) :
    Calls Try.prog 36 #[rv s.m0 s.m1 A n c s.ad s.tk s.rf, .int .i64 x] w fun e w' => ∃ A' n' c' l', e = .returned (.tuple #[rv (dropF s x).1.m0 (dropF s x).1.m1 A' n' c' (dropF s x).1.ad (dropF s x).1.tk (dropF s x).1.rf, .bool (dropF s x).2]) ∧ Kd.R dd 159 w' b0 (fun _ => True) (.slice A' n' c') l' ∧ Rel (dropF s x).1 l' ∧ Below w.heap.size w w' := by
  obtain ⟨hw, hln⟩ := Rw.of hR hr hJ hk
  by_cases c0 : x ∈ l.map (·.1)
  · obtain ⟨q, hq, hq2, hq3⟩ := find_at c0
    have hb : (dropF s x).2 = true := by
      show (decide (x ∈ s.h) || decide (x ∈ s.r)) = true
      rcases hr.mem.1 c0 with e | e <;> simp [e]
    rw [hb]
    refine (rdrop_some s.m0 s.m1 A n c s.ad s.tk s.rf l x q hq (by omega) w hw).mono ?_
    rintro e w' ⟨A', c', rfl, hR', hB⟩
    exact ⟨A', n - 1, c', _, rfl, Kd.R_lower hR' hb0, hr.erase hq2 hq3, hB⟩
  · have h1 : x ∉ s.h := fun e => c0 (hr.mem.2 (.inl e))
    have h2 : x ∉ s.r := fun e => c0 (hr.mem.2 (.inr e))
    have hb : (dropF s x).2 = false := by
      show (decide (x ∈ s.h) || decide (x ∈ s.r)) = false
      simp [h1, h2]
    rw [hb]
    refine (rdrop_none s.m0 s.m1 A n c s.ad s.tk s.rf l hln hw.few x c0 w (Ones.of_C hw.C)).mono ?_
    rintro e w' ⟨rfl, hB⟩
    refine ⟨A, n, c, l, rfl, Kd.R_below hR hB, ⟨hr.nd, ?_, ?_⟩, hB⟩
    · show out s.h x = _; rw [out_self h1]; exact hr.h
    · show out s.r x = _; rw [out_self h2]; exact hr.r
theorem rtake_sim (hR : Kd.R dd 159 w b0 (fun _ => True) (.slice A n c) l) (hr : Rel s l) (hJ : Jn s k) (hk : k ≤ 300) (hb0 : b0 ≤ w.heap.size) :
    Calls Try.prog 38 #[rv s.m0 s.m1 A n c s.ad s.tk s.rf] w fun e w' => ∃ A' n' c' l', e = .returned (.tuple #[rv (takeF s).1.m0 (takeF s).1.m1 A' n' c' (takeF s).1.ad (takeF s).1.tk (takeF s).1.rf, .int .i64 (takeF s).2.1, .bool (takeF s).2.2]) ∧ Kd.R dd 159 w' b0 (fun _ => True) (.slice A' n' c') l' ∧ Rel (takeF s).1 l' ∧ Below w.heap.size w w' := by
  obtain ⟨hw, hln⟩ := Rw.of hR hr hJ hk
  have j4 := hJ.t0; have j5 := hJ.t1
  unfold takeF
  split
  · rename_i e0
    refine (rtake_none s.m0 s.m1 A n c s.ad s.tk s.rf l hln hw.few (by rw [idsF_all l true n hln, ← hr.r]; exact e0) w (Ones.of_C hw.C)).mono ?_
    rintro e w' ⟨rfl, hB⟩
    exact ⟨A, n, c, l, rfl, Kd.R_below hR hB, hr, hB⟩
  · rename_i x xs e0
    have hm : x ∈ l.map (·.1) := hr.mem.2 (.inr (by rw [e0]; exact List.mem_cons_self))
    obtain ⟨q, hq, hq2, hq3⟩ := find_at hm
    refine (rtake_some s.m0 s.m1 A n c s.ad s.tk s.rf l x xs q (by rw [idsF_all l true n hln, ← hr.r]; exact e0) hq (by omega) (by omega) (by omega) w hw).mono ?_
    rintro e w' ⟨A', c', rfl, hR', hB⟩
    have h2 := hr.erase hq2 hq3
    have hxr : x ∈ idsA l true := by rw [← hr.r, e0]; exact List.mem_cons_self
    have hxh : x ∉ s.h := by
      rw [hr.h]
      obtain ⟨a1, a2⟩ := at_ready hr.nd hq2 hq3
      cases hb : (l.getD q (0, false)).2 with
      | true => rw [hb] at a2; exact a2
      | false => rw [hb] at a2; exact absurd hxr a2
    refine ⟨A', n - 1, c', _, rfl, Kd.R_lower hR' hb0, ⟨h2.nd, ?_, ?_⟩, hB⟩
    · have := h2.h; simp only [out_self hxh] at this; exact this
    · have := h2.r
      have ho : out s.r x = xs := by rw [e0]; unfold out rem; simp
      simp only [ho] at this
      exact this
end
end Go.Proofs.Ytimgfdkndlbfbaa.HBkR
