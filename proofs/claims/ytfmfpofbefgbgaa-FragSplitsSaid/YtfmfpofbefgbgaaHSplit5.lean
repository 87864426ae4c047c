/- What the pieces of frag.Split are: plain. Conditions: each theorem's own. -/
import Derived.Test.YtfmfpofbefgbgaaHSplit3
namespace Go.Proofs.Ytfmfpofbefgbgaa.HSplit
open Go.RowKit Go.Proofs.YtfmfpofbefgbgaaW.PrintWords Go.Proofs.YtfmfpofbefgbgaaW.PrintLast Go.Proofs.YtfmfpofbefgbgaaW.PrintMore Go.Proofs.Ytfmfpofbefgbgaa.PFrb Go.Proofs.Ytfmfpofbefgbgaa.HCar
set_option linter.unusedVariables false
set_option linter.unusedSimpArgs false
/-- One piece: from a on. -/
structure Pc (p : S68) (mtu : Int) (a : Nat) (x : S68) : Prop where
  len : lenP x ≤ mtu
  off : x.f4 = p.f4 + (a : Int) / 8
  ok : chk x = 0
  data : x.f10 = (p.f10.drop a).take x.f10.length
  room : a + x.f10.length ≤ p.f10.length
/-- The pieces from a on. -/
def Good (p : S68) (mtu : Int) : Nat → List S68 → Prop
  | a, [] => a = p.f10.length
  | a, x :: r => Pc p mtu a x ∧ (r ≠ [] → x.f10.length % 8 = 0 ∧ x.f3 = true) ∧ (r = [] → x.f3 = p.f3) ∧ Good p mtu (a + x.f10.length) r
theorem piece_room (p : S68) (c : List Int) (mtu : Int) (a : Nat) (h0 : 68 ≤ mtu ∧ mtu ≤ 65535) (hk : chk p = 0) (hc : c.length ≤ 40 ∧ c.length % 4 = 0) (ha : a < p.f10.length) (h8 : (piece p c mtu a).f4 ≤ 8191) :
    Pc p mtu a (piece p c mtu a) ∧ 0 < (piece p c mtu a).f10.length ∧ (a + (piece p c mtu a).f10.length < p.f10.length → (piece p c mtu a).f10.length % 8 = 0 ∧ (piece p c mtu a).f3 = true) ∧ (a + (piece p c mtu a).f10.length = p.f10.length → (piece p c mtu a).f3 = p.f3) := by
  obtain ⟨k0, k1, k2, k3, k4⟩ := chk_zero hk
  have ho : (if 0 < a then c else p.f9).length ≤ 40 ∧ (if 0 < a then c else p.f9).length % 4 = 0 := by split <;> omega
  obtain ⟨o, hoo⟩ : ∃ o, (if 0 < a then c else p.f9) = o := ⟨_, rfl⟩
  have hp : piece p c mtu a = if mtu < 20 + (o.length : Int) + (p.f10.drop a).length then { p with f3 := true, f4 := p.f4 + (a : Int) / 8, f9 := o, f10 := (p.f10.drop a).take (room mtu o.length) } else { p with f4 := p.f4 + (a : Int) / 8, f9 := o, f10 := p.f10.drop a } := by
    unfold piece
    simp only [hoo]
  rw [hoo] at ho
  have hd : (p.f10.drop a).length = p.f10.length - a := List.length_drop ..
  rw [hp] at h8 ⊢
  by_cases hm : mtu < 20 + (o.length : Int) + (p.f10.drop a).length
  · rw [if_pos hm] at h8 ⊢
    simp only at h8 ⊢
    have hr : (room mtu o.length : Int) = (mtu - 20 - o.length) / 8 * 8 := by unfold room; omega
    have ht : ((p.f10.drop a).take (room mtu o.length)).length = room mtu o.length := by rw [List.length_take, hd]; omega
    refine ⟨⟨?_, rfl, ?_, ?_, ?_⟩, ?_, ?_, ?_⟩
    · unfold lenP; simp only [ht]; omega
    · unfold chk lenP
      simp only [ht]
      rw [if_neg (by omega), if_neg (by omega)]
    · simp only [ht]
    · simp only [ht]; omega
    · rw [ht]; omega
    · intro _
      exact ⟨by rw [ht]; omega, trivial⟩
    · intro e
      rw [ht] at e
      omega
  · rw [if_neg hm] at h8 ⊢
    simp only at h8 ⊢
    refine ⟨⟨?_, rfl, ?_, ?_, ?_⟩, ?_, ?_, ?_⟩
    · unfold lenP; simp only; omega
    · unfold chk lenP
      simp only
      rw [if_neg (by omega), if_neg (by omega)]
    · simp only [List.take_length]
    · simp only [hd]; omega
    · rw [hd]; omega
    · intro e
      rw [hd] at e
      omega
    · intro _
      trivial
theorem pcs_good (p : S68) (c : List Int) (mtu : Int) (h0 : 68 ≤ mtu ∧ mtu ≤ 65535) (hk : chk p = 0) (hc : c.length ≤ 40 ∧ c.length % 4 = 0) : ∀ (k a : Nat) (out l : List S68), a ≤ p.f10.length → p.f10.length - a < k → pcs p c mtu k a out = some l → ∃ l', l = out ++ l' ∧ Good p mtu a l' := by
  intro k
  induction k with
  | zero => intro a out l _ h _; omega
  | succ k ih =>
    intro a out l ha hk2 h
    unfold pcs at h
    by_cases hlt : a < p.f10.length
    · rw [if_pos hlt] at h
      by_cases h8 : 8191 < (piece p c mtu a).f4
      · rw [if_pos h8] at h; cases h
      · rw [if_neg h8] at h
        obtain ⟨hP, hpos, hmid, hend⟩ := piece_room p c mtu a h0 hk hc hlt (by omega)
        have hroom := hP.room
        obtain ⟨l', rfl, hg⟩ := ih _ _ _ hroom (by omega) h
        refine ⟨piece p c mtu a :: l', by rw [List.append_assoc]; rfl, hP, ?_, ?_, hg⟩
        · intro hne
          refine hmid ?_
          cases l' with
          | nil => exact absurd rfl hne
          | cons y r =>
            have hy := hg.1.room
            rcases Nat.lt_or_ge (a + (piece p c mtu a).f10.length) p.f10.length with hh | hh
            · exact hh
            · exfalso
              rw [pcs_end p c mtu k _ _ (by omega)] at h
              simp at h
        · intro hnil
          subst hnil
          exact hend hg
    · rw [if_neg hlt] at h
      injection h with h
      exact ⟨[], by rw [h, List.append_nil], by show a = _; omega⟩
/-- What Split answers without an error. -/
theorem split_good (p : S68) (mtu : Int) (hb : HCar.bytes p.f9 = true) (h : (splitT p mtu).2 = 0) : (68 ≤ mtu ∧ mtu ≤ 65535) ∧ Good p mtu 0 (splitT p mtu).1 := by
  unfold splitT splitF at h ⊢
  by_cases h0 : chk p = 0
  · rw [if_neg (by omega)] at h ⊢
    by_cases h1 : mtu < 68 ∨ 65535 < mtu
    · rw [if_pos h1] at h; exact absurd h (by decide)
    · rw [if_neg h1] at h ⊢
      refine ⟨by omega, ?_⟩
      by_cases h2 : lenP p ≤ mtu
      · rw [if_pos h2]
        exact ⟨⟨h2, by simp, h0, by rw [List.drop_zero, List.take_length], by omega⟩, fun e => absurd rfl e, fun _ => rfl, by show 0 + p.f10.length = p.f10.length; omega⟩
      · rw [if_neg h2] at h ⊢
        by_cases h3 : p.f2 = true
        · rw [if_pos h3] at h; exact absurd h (by decide)
        · rw [if_neg h3] at h ⊢
          obtain ⟨c, e, hcar, hc40, hc4⟩ := carF_some p.f9 hb (chk_zero h0).2.2.1
          have hT : carT p.f9 = (c, e) := by unfold carT; rw [hcar]; rfl
          rw [hT] at h ⊢
          simp only at h ⊢
          by_cases h4 : e = 0
          · rw [if_neg (by omega)] at h ⊢
            cases hp : pcs p c mtu (p.f10.length + 1) 0 [] with
            | none => rw [hp] at h; exact absurd h (by decide)
            | some l =>
              obtain ⟨l', rfl, hg⟩ := pcs_good p c mtu (by omega) h0 ⟨hc40, hc4⟩ _ 0 [] l (by omega) (by omega) hp
              exact hg
          · rw [if_pos h4] at h
            exact absurd h h4
  · rw [if_pos h0] at h
    exact absurd h h0
/-- A piece that is cut again stays. -/
theorem split_again {p x : S68} {mtu : Int} {a : Nat} (h : Pc p mtu a x) (h0 : 68 ≤ mtu ∧ mtu ≤ 65535) : splitT x mtu = ([x], 0) := by
  unfold splitT splitF
  rw [if_neg (by rw [h.ok]; decide), if_neg (by omega), if_pos h.len]
/-- All pieces' data. -/
theorem good_data (p : S68) (mtu : Int) : ∀ (l : List S68) (a : Nat), Good p mtu a l → (l.map (·.f10)).flatten = p.f10.drop a
  | [], a, h => by rw [show a = p.f10.length from h]; simp
  | x :: r, a, h => by
    obtain ⟨hP, -, -, hr⟩ := h
    rw [List.map_cons, List.flatten_cons, good_data p mtu r _ hr, ← List.drop_drop]
    conv => lhs; lhs; rw [hP.data]
    rw [List.take_append_drop]
/-- An error: nothing is told. -/
theorem split_bad (p : S68) (mtu : Int) (h : (splitT p mtu).2 ≠ 0) : (splitT p mtu).1 = [] := by
  unfold splitT splitF at h ⊢
  split
  · rfl
  · split
    · rfl
    · split
      · rename_i h0 h1 h2; rw [if_neg h0, if_neg h1, if_pos h2] at h; exact absurd rfl h
      · split
        · rfl
        · split
          · rfl
          · rename_i h0 h1 h2 h3 h4
            rw [if_neg h0, if_neg h1, if_neg h2, if_neg h3, if_neg h4] at h
            split
            · rfl
            · rename_i l hl; rw [hl] at h; exact absurd rfl h
/-- What stands at a place. -/
theorem good_at {p : S68} {mtu : Int} {l : List S68} {a i : Nat} (hi : i < l.length) (h : Good p mtu a (l.drop i)) :
    Pc p mtu a (rd_T68 l (i : Int)) ∧ (i + 1 < l.length → (rd_T68 l (i : Int)).f10.length % 8 = 0 ∧ (rd_T68 l (i : Int)).f3 = true) ∧ (i + 1 = l.length → (rd_T68 l (i : Int)).f3 = p.f3) ∧ Good p mtu (a + (rd_T68 l (i : Int)).f10.length) (l.drop (i + 1)) := by
  have hx : rd_T68 l (i : Int) = l[i] := by unfold rd_T68; simp [List.getD_eq_getElem?_getD, hi]
  rw [List.drop_eq_getElem_cons hi] at h
  rw [hx]
  obtain ⟨h1, h2, h3, h4⟩ := h
  refine ⟨h1, fun e => h2 fun hn => ?_, fun e => h3 ?_, h4⟩
  · have := congrArg List.length hn
    rw [List.length_drop, List.length_nil] at this
    omega
  · exact List.drop_eq_nil_of_le (by omega)
theorem good_end {p : S68} {mtu : Int} {l : List S68} {a i : Nat} (hi : ¬ i < l.length) (h : Good p mtu a (l.drop i)) : a = p.f10.length := by
  rw [List.drop_eq_nil_of_le (by omega)] at h
  exact h
/-- A piece that is cut again stays: the machine's side. -/
theorem again_calls {p : S68} {a0 a1 : Int} {a2 a3 : Bool} {a4 a5 a6 a7 a8 : Int} {A9 : Option Addr} {N9 c9 : Nat} {l9 : List Int} {A10 : Option Addr} {N10 c10 : Nat} {l10 : List Int} {mtu : Int} {a : Nat} (w : World)
    (hP : Pc p mtu a ⟨a0, a1, a2, a3, a4, a5, a6, a7, a8, l9, l10⟩) (h0 : 68 ≤ mtu ∧ mtu ≤ 65535)
    (hn9 : l9.length = N9) (hr9 : Kd.C (Kd.int .u8) w A9 N9 l9) (hc9 : N9 ≤ c9) (hn10 : l10.length = N10) (hr10 : Kd.C (Kd.int .u8) w A10 N10 l10) (hc10 : N10 ≤ c10) :
    Calls Try.prog 40 #[.agg #[.int .u8 a0, .int .u16 a1, .bool a2, .bool a3, .int .i64 a4, .int .u8 a5, .int .u8 a6, .int .u32 a7, .int .u32 a8, .slice A9 N9 c9, .slice A10 N10 c10], .int .i64 mtu] w (Ans w ([⟨a0, a1, a2, a3, a4, a5, a6, a7, a8, l9, l10⟩], 0)) := by
  have hz := chk_zero hP.ok
  have hl : 20 + (l9.length : Int) + l10.length ≤ mtu := hP.len
  have := split_one a0 a1 a2 a3 a4 a5 a6 a7 a8 A9 N9 c9 l9 A10 N10 c10 l10 mtu [] 0 w hn9 hr9 hc9 hn10 hr10 hc10 (show l9.length ≤ 100000 ∧ l10.length ≤ 100000 from ⟨by omega, by omega⟩) hP.ok (by omega) hP.len
  rwa [show splitF ⟨a0, a1, a2, a3, a4, a5, a6, a7, a8, l9, l10⟩ mtu [] 0 = ([⟨a0, a1, a2, a3, a4, a5, a6, a7, a8, l9, l10⟩], 0) from by
    unfold splitF
    rw [if_neg (by rw [hP.ok]; decide), if_neg (by omega), if_pos hP.len]] at this
end Go.Proofs.Ytfmfpofbefgbgaa.HSplit
