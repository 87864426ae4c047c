/- frag.Carried by hand (a loop with a label); octet.Pad by a contract that is handed over. Conditions: each theorem's own. -/
import Derived.Test.YtfmfpofbefgbgaaHExt
import Derived.ArgAppend
import Derived.WalkSpells
import Derived.WalkLawsBesides
import Derived.WalkMore
import Derived.Laws.OwnMore
namespace Go.Proofs.Ytfmfpofbefgbgaa.HCar
open Go.RowKit Go.Proofs.YtfmfpofbefgbgaaW.PrintWords Go.Proofs.YtfmfpofbefgbgaaW.PrintLast Go.Proofs.YtfmfpofbefgbgaaW.PrintMore Go.Proofs.Ytfmfpofbefgbgaa.HExt
set_option linter.unusedVariables false
set_option linter.unusedSimpArgs false
theorem info5 : (Try.prog.info? 5).map (fun i => (i.zero, i.size, i.bytes)) = some (some (.int .u8 0), 1, 1) := by kernel_rfl
theorem wid (n : Int) (h0 : -4611686018427387904 ≤ n) (h1 : n ≤ 4611686018427387904) : IntKind.i64.wrap n = n := by simp [IntKind.wrap, IntKind.bits, IntKind.signed]; omega
/-- A row of bytes of the call's own. -/
def Ub (b0 : Nat) (w : World) (v : Value) (l : List Int) : Prop := w.ownsRow b0 5 1 v l.length (encs (Value.int .u8) l)
section
variable {b0 : Nat} {w w' : World} {v : Value} {l : List Int}
theorem Ub.nil (b0 : Nat) (w : World) : Ub b0 w (.slice none 0 0) [] := ⟨rfl, .inl ⟨rfl, rfl⟩⟩
theorem Ub.shape (h : Ub b0 w v l) : ∃ A c, v = .slice A l.length c ∧ l.length ≤ c := by
  obtain ⟨-, ⟨rfl, h0⟩ | ⟨g, cap, cur, rfl, -, -, hn, -⟩⟩ := h
  · exact ⟨none, 0, by rw [h0], by omega⟩
  · exact ⟨_, _, rfl, hn⟩
theorem Ub.low (h : Ub b0 w v l) : ∀ k, v.ownBlock = some k → b0 ≤ k := by
  obtain ⟨-, ⟨rfl, -⟩ | ⟨g, cap, cur, rfl, hb, hh, -⟩⟩ := h
  · intro k hk; cases hk
  · intro k hk
    have : g = k := by simpa [Value.ownBlock] using hk
    omega
theorem Ub.R (h : Ub b0 w v l) : Kd.R (Kd.int .u8) 5 w b0 (fun _ => True) v l := Kd.R_of_own (enc := Value.int .u8) (h1 := fun _ => rfl) h (ok := fun _ => True) (fun _ _ => trivial)
theorem Ub.reads {A : Option Addr} {n c : Nat} (h : Ub b0 w (.slice A n c) l) : Kd.C (Kd.int .u8) w A n l := by
  obtain ⟨e, -, h2⟩ := Kd.R_reads' h.R
  subst e
  exact h2
/-- Bytes behind a row of the call's own. -/
theorem Ub.append {A : Option Addr} {m : List Int} {c : Nat} (h : Ub b0 w v l) (hx : Kd.C (Kd.int .u8) w A m.length m) (hm : 0 < m.length) (hb : b0 ≤ w.heap.size) (hl : l.length + m.length ≤ 100000) (ty : TypeId) :
    ∃ v' w', (Builtin.append_ #[23, 23] ty #[v, .slice A m.length c]).run Try.prog w = .ok v' w' ∧ Ub b0 w' v' (l ++ m) ∧ w.grownBy w' v.ownBlock := by
  obtain ⟨i, hi, hz0, hz1, hz2⟩ := info_parts info5
  obtain ⟨ad, rfl, hc⟩ := (Kd.reads_of_C (enc := Value.int .u8) (d := (0 : Int)) (h1 := fun _ => rfl) hx).2.2 hm
  obtain ⟨v', w', hr, ho, hg, -⟩ := run_append_own (P := Try.prog) w b0 23 ty 5 i (.int .u8 0) 1 1 Try.underlying23 hi hz0 hz1 hz2 rfl (by decide) v l.length (encs (Value.int .u8) l) h ad m.length c (encs (Value.int .u8) m) (by simp [encs])
    (fun j u hu => by
      have hjl : j < m.length := by have := (List.getElem?_eq_some_iff.1 hu).1; simpa [encs] using this
      rw [encs_get (d := 0) m j hjl] at hu
      rw [hc j hjl]
      exact hu) (fun u hu => by
        unfold encs at hu
        obtain ⟨x, -, rfl⟩ := List.mem_map.1 hu
        rfl) (by simp only [maxLen]; omega) (by omega) hb
  refine ⟨v', w', hr, ?_, hg⟩
  show w'.ownsRow b0 5 1 v' (l ++ m).length (encs (Value.int .u8) (l ++ m))
  rw [show encs (Value.int .u8) (l ++ m) = encs (Value.int .u8) l ++ encs (Value.int .u8) m by simp [encs], List.length_append]
  exact ho
end
theorem appU_step {W : World} {ops : Array Oper} {rest : List Oper} {o : Oper} {a : Act} {Q : Exit → Act → World → Prop} (hgd : o.guard = none) (s x : Operand) (ho : o.op = .call { callee := .builtin .append, args := #[s, x], argTypes := #[23, 23] })
    {b0 c : Nat} {v : Value} {l m : List Int} {A : Option Addr} (hs : a.eval s = v) (hx : a.eval x = .slice A m.length c) (hO : Ub b0 W v l) (hR : Kd.C (Kd.int .u8) W A m.length m) (hm : 0 < m.length) (hb : b0 ≤ W.heap.size) (hl : l.length + m.length ≤ 100000)
    (h : ∀ v' w', Ub b0 w' v' (l ++ m) → W.grownBy w' v.ownBlock → wpList Try.prog ops Q rest (a.put o.dst v') w') : wpList Try.prog ops Q (o :: rest) a W := by
  obtain ⟨v', w', hr, h1, h2⟩ := hO.append (c := c) hR hm hb hl o.type
  refine wpList_plain hgd fun K hK => ?_
  unfold Oper.wp execOp
  simp only [ho, resolve, invoke, builtin, Sem.run_bind, Sem.run_pure, Result.andThen_ok, List.map_toArray, List.map_cons, List.map_nil, hs, hx, hr]
  exact hK _ _ (h v' w' h1 h2)
/-- Which options each piece has; none: they have no form. -/
def car (l out : List Int) : Option (List Int) :=
  match l with
  | [] => some out
  | x :: r =>
    if x = 0 then some out
    else if x = 1 then car r out
    else if h : 2 ≤ r.length + 1 ∧ 2 ≤ r.getD 0 0 ∧ r.getD 0 0 ≤ (r.length : Int) + 1 then car ((x :: r).drop (r.getD 0 0).toNat) (if 128 ≤ x then out ++ (x :: r).take (r.getD 0 0).toNat else out)
    else none
termination_by l.length
decreasing_by
  · simp
  · have h2 := h.2.1
    have h3 := h.2.2
    rw [List.length_drop, List.length_cons]
    omega
theorem car_nil (out : List Int) : car [] out = some out := by rw [car]
theorem car_end (r out : List Int) : car (0 :: r) out = some out := by rw [car]; rfl
theorem car_pad (r out : List Int) : car (1 :: r) out = car r out := by rw [car]; rfl
theorem car_bad (x : Int) (r out : List Int) (h0 : x ≠ 0) (h1 : x ≠ 1) (h : ¬ (2 ≤ r.length + 1 ∧ 2 ≤ r.getD 0 0 ∧ r.getD 0 0 ≤ (r.length : Int) + 1)) : car (x :: r) out = none := by
  rw [car, if_neg h0, if_neg h1, dif_neg h]
theorem car_more (x : Int) (r out : List Int) (h0 : x ≠ 0) (h1 : x ≠ 1) (h : 2 ≤ r.length + 1 ∧ 2 ≤ r.getD 0 0 ∧ r.getD 0 0 ≤ (r.length : Int) + 1) : car (x :: r) out = car ((x :: r).drop (r.getD 0 0).toNat) (if 128 ≤ x then out ++ (x :: r).take (r.getD 0 0).toNat else out) := by
  rw [car, if_neg h0, if_neg h1, dif_pos h]
end Go.Proofs.Ytfmfpofbefgbgaa.HCar
