/- port: each act by the program and by its reference. Conditions: each theorem's own. -/
import Derived.Test.YtimgfdkndlbfbaaHPortS
namespace Go.Proofs.Ytimgfdkndlbfbaa.HPortS2
open Go.RowKit Go.Proofs.YtimgfdkndlbfbaaW.PrintWords Go.Proofs.YtimgfdkndlbfbaaW.PrintLast Go.Proofs.YtimgfdkndlbfbaaW.PrintMore Go.Proofs.Ytimgfdkndlbfbaa.HPort Go.Proofs.Ytimgfdkndlbfbaa.HPortR Go.Proofs.Ytimgfdkndlbfbaa.PRp Go.Proofs.Ytimgfdkndlbfbaa.PPortL Go.Proofs.Ytimgfdkndlbfbaa.HPortS
set_option linter.unusedVariables false
set_option linter.unusedSimpArgs false
set_option linter.unusedSectionVars false
/-- The reference's rows, the call's own from B on. -/
structure Rb (B : Nat) (w : World) (A : Option Addr) (n c : Nat) (l : List S175) (A' : Option Addr) (n' c' : Nat) (l' : List S177) : Prop where
  R : Kd.R k175 175 w B (fun _ => True) (.slice A n c) l
  R' : Kd.R k177 177 w B (fun _ => True) (.slice A' n' c') l'
section
variable {B : Nat} {w w' : World} {A : Option Addr} {n c : Nat} {l : List S175} {A' : Option Addr} {n' c' : Nat} {l' : List S177} {s : TS}
theorem Rb.len (h : Rb B w A n c l A' n' c' l') : l.length = n ∧ l'.length = n' := by
  obtain ⟨A1, c1, e, hl, hc⟩ := Kd.R_reads h.R
  injection e with e1 e2 e3
  obtain ⟨A2, c2, f, hl2, hc2⟩ := Kd.R_reads h.R'
  injection f with f1 f2 f3
  exact ⟨e2.symm, f2.symm⟩
theorem Rb.rw (h : Rb B w A n c l A' n' c' l') (hr : Rel s l l') : Rw w A n c l A' n' c' l' := by
  obtain ⟨A1, c1, e, hl, hc⟩ := Kd.R_reads h.R
  injection e with e1 e2 e3
  obtain ⟨A2, c2, f, hl2, hc2⟩ := Kd.R_reads h.R'
  injection f with f1 f2 f3
  subst e1 e2 e3 f1 f2 f3
  have h1 := hr.few
  have h2 := hr.few'
  exact ⟨hc, rfl, hl, by omega, hc2, rfl, hl2, by omega⟩
theorem Rb.below (h : Rb B w A n c l A' n' c' l') (hb : Below w.heap.size w w') : Rb B w' A n c l A' n' c' l' := ⟨Kd.R_below h.R hb, Kd.R_below h.R' hb⟩
theorem Tb.same {b0 b mb ma mj : Nat} (h : Tb b0 w b mb ma mj s) (hB : Below w.heap.size w w') : Tb b0 w' b mb ma mj s ∧ Tv w w' b mb ma mj := ⟨h.below hB, Tv.of_below hB⟩
end
/-- A step's growth. -/
def Gr (s s1 : TS) : Prop := s1.low = s.low ∧ s1.high = s.high ∧ s1.nb ≤ s.nb + 1 ∧ s1.nj ≤ s.nj + 1
theorem Gr.refl (s : TS) : Gr s s := ⟨rfl, rfl, Nat.le_succ _, Nat.le_succ _⟩
theorem one_le (o : Option Int) (n : Nat) : one o n ≤ n + 1 := by unfold one; split <;> omega
theorem less_le (o : Option Int) (n : Nat) : less o n ≤ n + 1 := by unfold less; split <;> omega
/-- What is known of a table and its reference. -/
structure Ok (s : TS) (l : List S175) (l' : List S177) : Prop where
  rel : Rel s l l'
  ps : Ps s
/-- What Bind does, by both. -/
def ByBind (B b mb ma mj : Nat) (s : TS) (l : List S175) (l' : List S177) (a p o : Int) (s1 : TS) (l1 : List S175) (l1' : List S177) (cd : Int) : Prop :=
  (∀ w, Tb B w b mb ma mj s → Calls Try.prog 55 #[.pointer (some ⟨b, 0, none⟩), .agg #[.int .u32 a, .int .u16 p], .int .i64 o] w fun e w' => e = .returned (.int .i64 cd) ∧ Tb B w' b mb ma mj s1 ∧ Tv w w' b mb ma mj) ∧
  (∀ (w : World) (A : Option Addr) (n co : Nat) (A' : Option Addr) (n' co' : Nat), Rb B w A n co l A' n' co' l' → B ≤ w.heap.size → Calls Try.prog 84 #[rt s.low s.high s.last A n co A' n' co', .agg #[.int .u32 a, .int .u16 p], .int .i64 o] w fun e w' => ∃ A1 n1 co1 A1' n1' co1', e = .returned (.tuple #[rt s1.low s1.high s1.last A1 n1 co1 A1' n1' co1', .int .i64 cd]) ∧ Rb B w' A1 n1 co1 l1 A1' n1' co1' l1' ∧ Below w.heap.size w w') ∧ Ok s1 l1 l1' ∧ Gr s s1
theorem by_Bind (B b mb ma mj : Nat) {s : TS} {l : List S175} {l' : List S177} (h : Ok s l l') {a p o : Int} (ho : okE (a, p)) : ∃ s1 l1 l1' cd, ByBind B b mb ma mj s l l' a p o s1 l1 l1' cd := by
  by_cases hp : p = 0
  · exact by
      refine ⟨s, l, l', 8, fun w hT => ?_, fun w A n co A' n' co' hR hB => ?_, h, Gr.refl s⟩
      · refine (bind_zero hT a p o ho hp).mono ?_
        rintro e w' ⟨rfl, hb⟩
        exact ⟨rfl, Tb.same hT hb⟩
      · refine (rbind_zero s.low s.high s.last (hR.rw h.rel) a p o hp).mono ?_
        rintro e w' ⟨rfl, hb⟩
        exact ⟨A, n, co, A', n', co', rfl, hR.below hb, hb⟩
  · cases hx : takenF s a p with
    | true =>
      refine ⟨s, l, l', 140, fun w hT => ?_, fun w A n co A' n' co' hR hB => ?_, h, Gr.refl s⟩
      · refine (bind_same hT a p o ho hp hx).mono ?_
        rintro e w' ⟨rfl, hb⟩
        exact ⟨rfl, Tb.same hT hb⟩
      · refine (rbind_taken s.low s.high s.last (hR.rw h.rel) a p o hp (by rw [← h.rel.taken]; exact hx)).mono ?_
        rintro e w' ⟨rfl, hb⟩
        exact ⟨A, n, co, A', n', co', rfl, hR.below hb, hb⟩
    | false =>
      by_cases hn : 1024 ≤ s.nb
      · exact by
          refine ⟨s, l, l', 5, fun w hT => ?_, fun w A n co A' n' co' hR hB => ?_, h, Gr.refl s⟩
          · refine (bind_full hT a p o ho hp hx hn).mono ?_
            rintro e w' ⟨rfl, hb⟩
            exact ⟨rfl, Tb.same hT hb⟩
          · refine (rbind_full s.low s.high s.last (hR.rw h.rel) a p o hp (by rw [← h.rel.taken]; exact hx) (by have h1 := h.rel.nb; have h2 := hR.len.1; omega)).mono ?_
            rintro e w' ⟨rfl, hb⟩
            exact ⟨A, n, co, A', n', co', rfl, hR.below hb, hb⟩
      · have hn := Nat.lt_of_not_le hn
        refine ⟨_, _, l', 0, fun w hT => ?_, fun w A n co A' n' co' hR hB => ?_, ⟨h.rel.bind o hx hn, ⟨h.ps.l0, h.ps.lh, h.ps.h1, h.ps.a0, h.ps.a1⟩⟩, ⟨rfl, rfl, one_le _ _, Nat.le_succ _⟩⟩
        · exact bind_in hT a p o ho hp hx hn (h.rel.cnt_ok p)
        · refine (rbind_in s.low s.high s.last (hR.rw h.rel) a p o hp (by rw [← h.rel.taken]; exact hx) (by have h1 := h.rel.nb; have h2 := hR.len.1; omega)).mono ?_
          rintro e w' ⟨A1, c1, rfl, hR1, hb⟩
          exact ⟨A1, _, c1, A', n', co', rfl, ⟨Kd.R_lower hR1 hB, Kd.R_below hR.R' hb⟩, hb⟩
/-- What Unbind does, by both. -/
def ByUnbind (B b mb ma mj : Nat) (s : TS) (l : List S175) (l' : List S177) (a p o : Int) (s1 : TS) (l1 : List S175) (l1' : List S177) (cd : Int) : Prop :=
  (∀ w, Tb B w b mb ma mj s → Calls Try.prog 58 #[.pointer (some ⟨b, 0, none⟩), .agg #[.int .u32 a, .int .u16 p], .int .i64 o] w fun e w' => e = .returned (.int .i64 cd) ∧ Tb B w' b mb ma mj s1 ∧ Tv w w' b mb ma mj) ∧
  (∀ (w : World) (A : Option Addr) (n co : Nat) (A' : Option Addr) (n' co' : Nat), Rb B w A n co l A' n' co' l' → B ≤ w.heap.size → Calls Try.prog 85 #[rt s.low s.high s.last A n co A' n' co', .agg #[.int .u32 a, .int .u16 p], .int .i64 o] w fun e w' => ∃ A1 n1 co1 A1' n1' co1', e = .returned (.tuple #[rt s1.low s1.high s1.last A1 n1 co1 A1' n1' co1', .int .i64 cd]) ∧ Rb B w' A1 n1 co1 l1 A1' n1' co1' l1' ∧ Below w.heap.size w w') ∧ Ok s1 l1 l1' ∧ Gr s s1
theorem by_Unbind (B b mb ma mj : Nat) {s : TS} {l : List S175} {l' : List S177} (h : Ok s l l') {a p o : Int} (ho : okE (a, p)) : ∃ s1 l1 l1' cd, ByUnbind B b mb ma mj s l l' a p o s1 l1 l1' cd := by
  cases hq : (s.fb (a, p)).isSome with
  | false =>
    have hq' := hq
    rw [h.rel.fb] at hq'
    have hz := look_none hq'
    have hz' : ∀ j (hj : j < l.length), (isE a p l[j] && l[j].f1 == o) = false := fun j hj => by
      rw [isE_is]; simp [hz l[j] (List.getElem_mem hj)]
    refine ⟨s, l, l', 6, fun w hT => ?_, fun w A n co A' n' co' hR hB => ?_, h, Gr.refl s⟩
    · refine (unbind_none hT a p o ho hq).mono ?_
      rintro e w' ⟨rfl, hb⟩
      exact ⟨rfl, Tb.same hT hb⟩
    · refine (runbind_none s.low s.high s.last (hR.rw h.rel) a p o hz').mono ?_
      rintro e w' ⟨rfl, hb⟩
      exact ⟨A, n, co, A', n', co', rfl, hR.below hb, hb⟩
  | true =>
    have hq' := hq
    rw [h.rel.fb] at hq'
    obtain ⟨k, hk, e1, e2, e3⟩ := look_some h.rel.nd hq'
    rw [← h.rel.fb] at e2
    by_cases hne : (s.fb (a, p)).getD 0 = o
    · have e4 : l[k].f1 = o := by rw [e2] at hne; exact hne
      have hk1 : (isE a p l[k] && l[k].f1 == o) = true := by rw [isE_is]; simp [e1, e4]
      have hz : ∀ j (hj : j < l.length), j < k → (isE a p l[j] && l[j].f1 == o) = false := fun j hj hlt => by
        rw [isE_is]
        have : kE' l[j] ≠ (a, p) := fun e => by have := e3 j hj e; omega
        simp [this]
      refine ⟨_, _, l', 0, fun w hT => ?_, fun w A n co A' n' co' hR hB => ?_, ⟨h.rel.unbind hk e1, ⟨h.ps.l0, h.ps.lh, h.ps.h1, h.ps.a0, h.ps.a1⟩⟩, ⟨rfl, rfl, less_le _ _, Nat.le_succ _⟩⟩
      · exact unbind_out hT a p o ho hq hne (h.rel.cnt_ok p)
      · refine (runbind_out s.low s.high s.last (hR.rw h.rel) a p o k (by have := hR.len.1; omega) ⟨hk, hk1⟩ hz).mono ?_
        rintro e w' ⟨A1, c1, rfl, hR1, hb⟩
        exact ⟨A1, _, c1, A', n', co', rfl, ⟨Kd.R_lower hR1 hB, Kd.R_below hR.R' hb⟩, hb⟩
    · have hz : ∀ j (hj : j < l.length), (isE a p l[j] && l[j].f1 == o) = false := fun j hj => by
        rw [isE_is]
        by_cases e : kE' l[j] = (a, p)
        · have := e3 j hj e
          subst this
          have : l[j].f1 ≠ o := fun e5 => hne (by rw [e2]; exact e5)
          simp [this]
        · simp [e]
      refine ⟨s, l, l', 6, fun w hT => ?_, fun w A n co A' n' co' hR hB => ?_, h, Gr.refl s⟩
      · refine (unbind_other hT a p o ho hq hne).mono ?_
        rintro e w' ⟨rfl, hb⟩
        exact ⟨rfl, Tb.same hT hb⟩
      · refine (runbind_none s.low s.high s.last (hR.rw h.rel) a p o hz).mono ?_
        rintro e w' ⟨rfl, hb⟩
        exact ⟨A, n, co, A', n', co', rfl, hR.below hb, hb⟩
/-- What Join does, by both. -/
def ByJoin (B b mb ma mj : Nat) (s : TS) (l : List S175) (l' : List S177) (a p c d o : Int) (s1 : TS) (l1 : List S175) (l1' : List S177) (cd : Int) : Prop :=
  (∀ w, Tb B w b mb ma mj s → Calls Try.prog 56 #[.pointer (some ⟨b, 0, none⟩), .agg #[.int .u32 a, .int .u16 p, .int .u32 c, .int .u16 d], .int .i64 o] w fun e w' => e = .returned (.int .i64 cd) ∧ Tb B w' b mb ma mj s1 ∧ Tv w w' b mb ma mj) ∧
  (∀ (w : World) (A : Option Addr) (n co : Nat) (A' : Option Addr) (n' co' : Nat), Rb B w A n co l A' n' co' l' → B ≤ w.heap.size → Calls Try.prog 87 #[rt s.low s.high s.last A n co A' n' co', .agg #[.int .u32 a, .int .u16 p, .int .u32 c, .int .u16 d], .int .i64 o] w fun e w' => ∃ A1 n1 co1 A1' n1' co1', e = .returned (.tuple #[rt s1.low s1.high s1.last A1 n1 co1 A1' n1' co1', .int .i64 cd]) ∧ Rb B w' A1 n1 co1 l1 A1' n1' co1' l1' ∧ Below w.heap.size w w') ∧ Ok s1 l1 l1' ∧ Gr s s1
theorem by_Join (B b mb ma mj : Nat) {s : TS} {l : List S175} {l' : List S177} (h : Ok s l l') {a p c d o : Int} (ho : okQ ((a, p), (c, d))) : ∃ s1 l1 l1' cd, ByJoin B b mb ma mj s l l' a p c d o s1 l1 l1' cd := by
  by_cases hp : p = 0
  · exact by
      refine ⟨s, l, l', 8, fun w hT => ?_, fun w A n co A' n' co' hR hB => ?_, h, Gr.refl s⟩
      · refine (join_zero1 hT a p c d o ho hp).mono ?_
        rintro e w' ⟨rfl, hb⟩
        exact ⟨rfl, Tb.same hT hb⟩
      · refine (rjoin_zero1 s.low s.high s.last (hR.rw h.rel) a p c d o hp).mono ?_
        rintro e w' ⟨rfl, hb⟩
        exact ⟨A, n, co, A', n', co', rfl, hR.below hb, hb⟩
  · by_cases hd : d = 0
    · exact by
        refine ⟨s, l, l', 8, fun w hT => ?_, fun w A n co A' n' co' hR hB => ?_, h, Gr.refl s⟩
        · refine (join_zero2 hT a p c d o ho hp hd).mono ?_
          rintro e w' ⟨rfl, hb⟩
          exact ⟨rfl, Tb.same hT hb⟩
        · refine (rjoin_zero2 s.low s.high s.last (hR.rw h.rel) a p c d o hp hd).mono ?_
          rintro e w' ⟨rfl, hb⟩
          exact ⟨A, n, co, A', n', co', rfl, hR.below hb, hb⟩
    · cases hq : (s.fj ((a, p), (c, d))).isSome with
      | true =>
        refine ⟨s, l, l', 140, fun w hT => ?_, fun w A n co A' n' co' hR hB => ?_, h, Gr.refl s⟩
        · refine (join_same hT a p c d o ho hp hd hq).mono ?_
          rintro e w' ⟨rfl, hb⟩
          exact ⟨rfl, Tb.same hT hb⟩
        · refine (rjoin_there s.low s.high s.last (hR.rw h.rel) a p c d o hp hd (by rw [← h.rel.fjl]; exact hq)).mono ?_
          rintro e w' ⟨rfl, hb⟩
          exact ⟨A, n, co, A', n', co', rfl, hR.below hb, hb⟩
      | false =>
        by_cases hn : 1024 ≤ s.nj
        · exact by
            refine ⟨s, l, l', 5, fun w hT => ?_, fun w A n co A' n' co' hR hB => ?_, h, Gr.refl s⟩
            · refine (join_full hT a p c d o ho hp hd hq hn).mono ?_
              rintro e w' ⟨rfl, hb⟩
              exact ⟨rfl, Tb.same hT hb⟩
            · refine (rjoin_full s.low s.high s.last (hR.rw h.rel) a p c d o hp hd (by rw [← h.rel.fjl]; exact hq) (by have h1 := h.rel.nj; have h2 := hR.len.2; omega)).mono ?_
              rintro e w' ⟨rfl, hb⟩
              exact ⟨A, n, co, A', n', co', rfl, hR.below hb, hb⟩
        · have hn := Nat.lt_of_not_le hn
          refine ⟨_, l, _, 0, fun w hT => ?_, fun w A n co A' n' co' hR hB => ?_, ⟨h.rel.join o hq hn, ⟨h.ps.l0, h.ps.lh, h.ps.h1, h.ps.a0, h.ps.a1⟩⟩, ⟨rfl, rfl, Nat.le_succ _, one_le _ _⟩⟩
          · exact join_in hT a p c d o ho hp hd hq hn
          · refine (rjoin_in s.low s.high s.last (hR.rw h.rel) a p c d o hp hd (by rw [← h.rel.fjl]; exact hq) (by have h1 := h.rel.nj; have h2 := hR.len.2; omega)).mono ?_
            rintro e w' ⟨A1, c1, rfl, hR1, hb⟩
            exact ⟨A, n, co, A1, _, c1, rfl, ⟨Kd.R_below hR.R hb, Kd.R_lower hR1 hB⟩, hb⟩
/-- What Part does, by both. -/
def ByPart (B b mb ma mj : Nat) (s : TS) (l : List S175) (l' : List S177) (a p c d : Int) (s1 : TS) (l1 : List S175) (l1' : List S177) (cd : Int) : Prop :=
  (∀ w, Tb B w b mb ma mj s → Calls Try.prog 59 #[.pointer (some ⟨b, 0, none⟩), .agg #[.int .u32 a, .int .u16 p, .int .u32 c, .int .u16 d]] w fun e w' => e = .returned (.int .i64 cd) ∧ Tb B w' b mb ma mj s1 ∧ Tv w w' b mb ma mj) ∧
  (∀ (w : World) (A : Option Addr) (n co : Nat) (A' : Option Addr) (n' co' : Nat), Rb B w A n co l A' n' co' l' → B ≤ w.heap.size → Calls Try.prog 88 #[rt s.low s.high s.last A n co A' n' co', .agg #[.int .u32 a, .int .u16 p, .int .u32 c, .int .u16 d]] w fun e w' => ∃ A1 n1 co1 A1' n1' co1', e = .returned (.tuple #[rt s1.low s1.high s1.last A1 n1 co1 A1' n1' co1', .int .i64 cd]) ∧ Rb B w' A1 n1 co1 l1 A1' n1' co1' l1' ∧ Below w.heap.size w w') ∧ Ok s1 l1 l1' ∧ Gr s s1
theorem by_Part (B b mb ma mj : Nat) {s : TS} {l : List S175} {l' : List S177} (h : Ok s l l') {a p c d : Int} (ho : okQ ((a, p), (c, d))) : ∃ s1 l1 l1' cd, ByPart B b mb ma mj s l l' a p c d s1 l1 l1' cd := by
  cases hq : (s.fj ((a, p), (c, d))).isSome with
  | false =>
    have hq' := hq
    rw [h.rel.fj] at hq'
    have hz := look_none hq'
    have hz' : ∀ j (hj : j < l'.length), isQ a p c d l'[j] = false := fun j hj => by
      rw [isQ_is]; exact decide_eq_false (hz l'[j] (List.getElem_mem hj))
    refine ⟨s, l, l', 6, fun w hT => ?_, fun w A n co A' n' co' hR hB => ?_, h, Gr.refl s⟩
    · refine (part_none hT a p c d ho hq).mono ?_
      rintro e w' ⟨rfl, hb⟩
      exact ⟨rfl, Tb.same hT hb⟩
    · refine (rpart_none s.low s.high s.last (hR.rw h.rel) a p c d hz').mono ?_
      rintro e w' ⟨rfl, hb⟩
      exact ⟨A, n, co, A', n', co', rfl, hR.below hb, hb⟩
  | true =>
    have hq' := hq
    rw [h.rel.fj] at hq'
    obtain ⟨k, hk, e1, e2, e3⟩ := look_some h.rel.nd' hq'
    have hk1 : isQ a p c d l'[k] = true := by rw [isQ_is]; exact decide_eq_true e1
    have hz : ∀ j (hj : j < l'.length), j < k → isQ a p c d l'[j] = false := fun j hj hlt => by
      rw [isQ_is]; exact decide_eq_false (fun e => by have := e3 j hj e; omega)
    refine ⟨_, l, _, 0, fun w hT => ?_, fun w A n co A' n' co' hR hB => ?_, ⟨h.rel.part hk e1, ⟨h.ps.l0, h.ps.lh, h.ps.h1, h.ps.a0, h.ps.a1⟩⟩, ⟨rfl, rfl, Nat.le_succ _, less_le _ _⟩⟩
    · exact part_out hT a p c d ho hq
    · refine (rpart_out s.low s.high s.last (hR.rw h.rel) a p c d k (by have := hR.len.2; omega) ⟨hk, hk1⟩ hz).mono ?_
      rintro e w' ⟨A1, c1, rfl, hR1, hb⟩
      exact ⟨A, n, co, A1, _, c1, rfl, ⟨Kd.R_below hR.R hb, Kd.R_lower hR1 hB⟩, hb⟩
/-- Where a port stands in the row of those that are tried. -/
theorem at_pos {s : TS} (h : Ps s) {k : Nat} (hk : (k : Int) < s.high - s.low + 1) : (s.last < pAt s k ∧ (k : Int) = pAt s k - s.last - 1) ∨ (pAt s k ≤ s.last ∧ (k : Int) = pAt s k - s.low + (s.high - s.last)) := by
  have h1 := h.l0; have h2 := h.lh; have h3 := h.h1; have h4 := h.a0; have h5 := h.a1
  unfold pAt
  by_cases hc : s.last - s.low + 1 + (k : Int) < s.high - s.low + 1
  · rw [Int.emod_eq_of_lt (by omega) hc]; left; omega
  · have e : (s.last - s.low + 1 + (k : Int)) % (s.high - s.low + 1) = s.last - s.low + 1 + (k : Int) - (s.high - s.low + 1) := by
      rw [← Int.sub_emod_right, Int.emod_eq_of_lt (by omega) (by omega)]
    rw [e]; right; omega
theorem pos_at {s : TS} (h : Ps s) {p : Int} (h0 : s.low ≤ p) (h1 : p ≤ s.high) : ∃ k : Nat, (k : Int) < s.high - s.low + 1 ∧ pAt s k = p := by
  have h2 := h.lh; have h4 := h.a0; have h5 := h.a1
  by_cases hc : s.last < p
  · refine ⟨(p - s.last - 1).toNat, by omega, ?_⟩
    unfold pAt
    rw [Int.emod_eq_of_lt (by omega) (by omega)]; omega
  · refine ⟨(p - s.low + (s.high - s.last)).toNat, by omega, ?_⟩
    unfold pAt
    rw [show s.last - s.low + 1 + (((p - s.low + (s.high - s.last)).toNat : Nat) : Int) = (p - s.low) + (s.high - s.low + 1) by omega, Int.add_emod_right, Int.emod_eq_of_lt (by omega) (by omega)]; omega
theorem first_of (f : Nat → Bool) : ∀ n, (∀ j, j < n → f j = true) ∨ ∃ k, k < n ∧ f k = false ∧ ∀ j, j < k → f j = true
  | 0 => .inl (fun j hj => absurd hj (Nat.not_lt_zero _))
  | n + 1 => by
    rcases first_of f n with h | ⟨k, h1, h2, h3⟩
    · cases hf : f n with
      | true => exact .inl (fun j hj => by rcases Nat.lt_or_eq_of_le (Nat.le_of_lt_succ hj) with h4 | h4; exact h j h4; rw [h4]; exact hf)
      | false => exact .inr ⟨n, Nat.lt_succ_self _, hf, h⟩
    · exact .inr ⟨k, Nat.lt_succ_of_lt h1, h2, h3⟩
def ByPick (B b mb ma mj : Nat) (s : TS) (l : List S175) (l' : List S177) (a : Int) (s1 : TS) (pt cd : Int) : Prop :=
  (∀ w, Tb B w b mb ma mj s → Calls Try.prog 54 #[.pointer (some ⟨b, 0, none⟩), .int .u32 a] w fun e w' => e = .returned (.tuple #[.int .u16 pt, .int .i64 cd]) ∧ Tb B w' b mb ma mj s1 ∧ Tv w w' b mb ma mj) ∧
  (∀ (w : World) (A : Option Addr) (n co : Nat) (A' : Option Addr) (n' co' : Nat), Rb B w A n co l A' n' co' l' → B ≤ w.heap.size → Calls Try.prog 86 #[rt s.low s.high s.last A n co A' n' co', .int .u32 a] w fun e w' => e = .returned (.tuple #[rt s1.low s1.high s1.last A n co A' n' co', .int .u16 pt, .int .i64 cd]) ∧ Rb B w' A n co l A' n' co' l' ∧ Below w.heap.size w w') ∧ Ok s1 l l' ∧ Gr s s1
theorem by_Pick (B b mb ma mj : Nat) {s : TS} {l : List S175} {l' : List S177} (h : Ok s l l') {a : Int} (ha : (Lit.int .u32 a).wf = true) : ∃ s1 pt cd, ByPick B b mb ma mj s l l' a s1 pt cd ∧ ((cd = 0 ∧ s.low ≤ pt ∧ pt ≤ s.high ∧ takenF s a pt = false ∧ s1 = { s with last := pt }) ∨ (cd = 5 ∧ pt = 0 ∧ s1 = s)) := by
  have h1 := h.ps.l0; have h2 := h.ps.lh; have h3 := h.ps.h1; have h4 := h.ps.a0; have h5 := h.ps.a1
  rcases first_of (fun k => takenF s a (pAt s k)) (s.high - s.low + 1).toNat with hf | ⟨k, hk, hf, hj⟩
  · refine ⟨s, 0, 5, ⟨fun w hT => ?_, fun w A n co A' n' co' hR hB => ?_, h, Gr.refl s⟩, .inr ⟨rfl, rfl, rfl⟩⟩
    · refine (pick_full hT a h.ps ha (fun j hj => hf j (by omega))).mono ?_
      rintro e w' ⟨rfl, hb⟩
      exact ⟨rfl, Tb.same hT hb⟩
    · refine (rpick_full s.low s.high s.last (hR.rw h.rel) a ⟨h1, h3⟩ (fun r p q0 q1 _ _ => ?_)).mono ?_
      · obtain ⟨j, hj, e⟩ := pos_at h.ps q0 q1
        rw [← h.rel.taken, ← e]
        exact hf j (by omega)
      · rintro e w' ⟨rfl, hb⟩
        exact ⟨rfl, hR.below hb, hb⟩
  · have hk' : (k : Int) < s.high - s.low + 1 := by omega
    have hb := h.ps.at_ k
    have hpos := at_pos h.ps hk'
    generalize hP : pAt s k = P at hb hpos
    have hf : takenF s a P = false := by rw [← hP]; exact hf
    refine ⟨{ s with last := P }, P, 0, ⟨fun w hT => ?_, fun w A n co A' n' co' hR hB => ?_, ⟨h.rel.last P, ⟨h1, h2, h3, hb.1, hb.2⟩⟩, ⟨rfl, rfl, Nat.le_succ _, Nat.le_succ _⟩⟩, .inl ⟨rfl, hb.1, hb.2, hf, rfl⟩⟩
    · have := pick_at hT a k h.ps ⟨ha, hk'⟩ ⟨by rw [hP]; exact hf, hj⟩
      rw [hP] at this
      exact this
    · refine (rpick_at s.low s.high s.last (hR.rw h.rel) a P (if s.last < P then 0 else 1) ⟨h1, h3, by split <;> omega, hb.1, hb.2⟩ (fun r p q0 q1 q2 q3 => ?_) ⟨?_, by rw [← h.rel.taken]; exact hf⟩).mono ?_
      · obtain ⟨j, hj1, e⟩ := pos_at h.ps q0 q1
        have hpj := at_pos h.ps hj1
        rw [e] at hpj
        rw [← h.rel.taken, ← e]
        refine hj j ?_
        unfold cand at q3
        by_cases c1 : s.last < P
        · rw [if_pos c1] at q2
          have q4 : decide (r = 0) = true := decide_eq_true (by omega)
          rw [q4] at q3
          have q5 : s.last < p := by simpa using q3
          omega
        · rw [if_neg c1] at q2
          by_cases c2 : r = 0
          · rw [decide_eq_true c2] at q3
            have q5 : s.last < p := by simpa using q3
            omega
          · rw [decide_eq_false c2] at q3
            have q5 : ¬ s.last < p := by simpa using q3
            omega
      · unfold cand
        by_cases c1 : s.last < P
        · simp [c1]
        · simp [c1]
      · rintro e w' ⟨rfl, hb⟩
        exact ⟨rfl, hR.below hb, hb⟩
end Go.Proofs.Ytimgfdkndlbfbaa.HPortS2
