/- A row used as a ring of elements of several cells: what it holds, one put behind, the first taken. Conditions: each theorem's own. -/
import Derived.Test.YtimgfdkndlbfbaaHExt
import Derived.Laws.CopyRow
import Derived.Laws.Tables
namespace Go.Proofs.Ytimgfdkndlbfbaa.HRng
open Go.RowKit Go.Proofs.YtimgfdkndlbfbaaW.PrintWords Go.Proofs.YtimgfdkndlbfbaaW.PrintLast Go.Proofs.YtimgfdkndlbfbaaW.PrintMore Go.Proofs.YtimgfdkndlbfbaaW.PrintWords.Kd
set_option linter.unusedVariables false
set_option linter.unusedSimpArgs false
set_option linter.unusedSectionVars false
/-- The cells of a row with some of them written over. -/
def spl (cur : Array Value) (off : Nat) (cs : List Value) : Array Value := (cur.toList.take off ++ cs ++ cur.toList.drop (off + cs.length)).toArray
theorem spl_size {cur : Array Value} {off : Nat} {cs : List Value} (h : off + cs.length ≤ cur.size) : (spl cur off cs).size = cur.size := by
  simp [spl]; omega
theorem spl_in {cur : Array Value} {off : Nat} {cs : List Value} (h : off + cs.length ≤ cur.size) {i : Nat} (hi : i < cs.length) : (spl cur off cs)[off + i]? = cs[i]? := by
  simp only [spl, List.getElem?_toArray, List.append_assoc]
  rw [List.getElem?_append_right (by simp; omega)]
  simp only [List.length_take, Array.length_toList, show min off cur.size = off by omega, Nat.add_sub_cancel_left]
  rw [List.getElem?_append_left hi]
theorem spl_out {cur : Array Value} {off : Nat} {cs : List Value} (h : off + cs.length ≤ cur.size) {i : Nat} (hi : i < off ∨ off + cs.length ≤ i) : (spl cur off cs)[i]? = cur[i]? := by
  simp only [spl, List.getElem?_toArray, List.append_assoc]
  rcases hi with hi | hi
  · rw [List.getElem?_append_left (by simp; omega), List.getElem?_take_of_lt hi, Array.getElem?_toList]
  · rw [List.getElem?_append_right (by simp; omega), List.getElem?_append_right (by simp; omega), List.getElem?_drop]
    simp only [List.length_take, Array.length_toList]
    rw [show off + cs.length + (i - min off cur.size - cs.length) = i by omega, Array.getElem?_toList]
theorem spl_all {cur : Array Value} {cs : List Value} (h : cs.length = cur.size) : spl cur 0 cs = cs.toArray := by
  simp only [spl, List.take_zero, List.nil_append, Nat.zero_add, h]
  rw [← Array.length_toList, List.drop_length, List.append_nil]
/-- A store of several cells into a row, anywhere. -/
theorem run_store_at {P : Program} (w : World) (g off : Nat) (t ty : TypeId) (cur cells : Array Value) (hg : w.heap[g]? = some (.cells cur t (0, 0))) (hi : (P.info? ty).map (·.size) = some cells.size) (ho : off + cells.size ≤ cur.size) (h1 : cells.all (·.oneCell') = true) :
    (storeVar ty ⟨g, off, none⟩ (.agg cells)).run P w = .ok () (w.setRow g (spl cur off cells.toList)) := by
  have := run_storeCells_at P g off t cells.toList 0 cur w hg (by simp; omega) (fun v hv => (Array.all_eq_true_iff_forall_mem.1 h1) v (by simpa using hv))
  cases hq : P.info? ty with
  | none => simp [hq] at hi
  | some i =>
    have hs : cells.size = i.size := by simp [hq] at hi; omega
    simp [storeVar, sizeOf, typeInfo, hq, Value.cells, hs, this, spl]
theorem store_at {P : Program} {o : Oper} {a : Act} {w : World} {ops : Array Oper} {rest : List Oper} {Q : Exit → Act → World → Prop} (hgd : o.guard = none) (ty : TypeId) (x y : Operand) (ho : o.op = .store ty x y) (g off : Nat) (cells : Array Value) {ad : Addr} (hx : a.eval x = .pointer (some ad)) (had : ad = ⟨g, off, none⟩) (hy : a.eval y = .agg cells)
    (t : TypeId) (cur : Array Value) (hg : w.heap[g]? = some (.cells cur t (0, 0))) (hi : (P.info? ty).map (·.size) = some cells.size) (hof : off + cells.size ≤ cur.size) (h1 : cells.all (·.oneCell') = true)
    (h : wpList P ops Q rest (a.put o.dst undef) (w.setRow g (spl cur off cells.toList))) : wpList P ops Q (o :: rest) a w := by
  subst had
  refine wpList_plain hgd fun K hK => ?_
  unfold Oper.wp execOp
  simp only [ho, hx, hy, Instr.storeAt, Instr.sureAddr, Sem.run_bind, Sem.run_pure, Result.andThen_ok, run_store_at w g off t ty cur cells hg hi hof h1]
  exact hK _ _ h
theorem store_run {P : Program} {o : Oper} {a : Act} {W : World} {cells old : Array Value} (ty : TypeId) (x y : Operand) (ho : o.op = .store ty x y) {g : Nat} (hx : a.eval x = .pointer (some ⟨g, 0, none⟩)) (hy : a.eval y = .agg cells) (hi : (P.info? ty).map (·.size) = some cells.size) (hold : old.size = cells.size) (h1 : cells.all (·.oneCell') = true) {t : TypeId} (hg : W.heap[g]? = some (.cells old t (0, 0))) : (execOp a.eval o).run P W = .ok .skip (W.setRow g cells) := by
  unfold execOp
  simp only [ho, hx, hy, Instr.storeAt, Instr.sureAddr, Sem.run_bind, Sem.run_pure, Result.andThen_ok, run_storeVar_row W g t ty old cells hg hi hold h1]
section
variable {α : Type} {d : Kd α} {e : Nat} {w w' : World} {ok ok' : Nat → Prop} {g E f : Nat} {xs : List α}
/-- Block g is a ring of E places of type e that holds xs, the first one at f; what they lead to lies in ok. -/
def Rng (d : Kd α) (e : Nat) (w : World) (ok : Nat → Prop) (g E f : Nat) (xs : List α) : Prop :=
  ∃ (cur : Array Value) (rows : List (List Value)), w.heap[g]? = some (.cells cur e (0, 0)) ∧ cur.size = E * d.sz ∧ rows.length = xs.length ∧ xs.length ≤ E ∧ f < E ∧
    (∀ (j : Nat) (c : List Value), rows[j]? = some c → c.length = d.sz ∧ ∀ i, i < d.sz → cur[((f + j) % E) * d.sz + i]? = c[i]?) ∧ ∀ (j : Nat) (x : α) (c : List Value), xs[j]? = some x → rows[j]? = some c → FK d w ok x c
theorem Rng.lt (h : Rng d e w ok g E f xs) : g < w.heap.size := by
  obtain ⟨cur, rows, hg, -⟩ := h
  exact blk_lt hg
theorem Rng.blk (h : Rng d e w ok g E f xs) : ∃ cur, w.heap[g]? = some (.cells cur e (0, 0)) ∧ cur.size = E * d.sz := by
  obtain ⟨cur, rows, hg, hs, -⟩ := h
  exact ⟨cur, hg, hs⟩
theorem Rng.len (h : Rng d e w ok g E f xs) : xs.length ≤ E ∧ f < E := by
  obtain ⟨cur, rows, -, -, -, hl, hf, -⟩ := h
  exact ⟨hl, hf⟩
theorem Rng.step (h : Rng d e w ok g E f xs) (hg' : w'.heap[g]? = w.heap[g]?) (hm : ∀ k, ok k → k < w.heap.size → w'.heap[k]? = w.heap[k]?) : Rng d e w' ok g E f xs := by
  obtain ⟨cur, rows, hg, hs, hr, hl, hf, hc, hx⟩ := h
  exact ⟨cur, rows, hg'.trans hg, hs, hr, hl, hf, hc, fun j x c h1 h2 => Foot.step (hx j x c h1 h2) hm⟩
theorem Rng.mono (h : Rng d e w ok g E f xs) (hok : ∀ k, ok k → k < w.heap.size → ok' k) : Rng d e w ok' g E f xs := by
  obtain ⟨cur, rows, hg, hs, hr, hl, hf, hc, hx⟩ := h
  exact ⟨cur, rows, hg, hs, hr, hl, hf, hc, fun j x c h1 h2 => Foot.mono (Foot.bound (hx j x c h1 h2)) (fun k hk => hok k hk.1 hk.2)⟩
theorem Rng.below (h : Rng d e w ok g E f xs) (hb : Below w.heap.size w w') : Rng d e w' ok g E f xs := h.step (hb.block g h.lt) (fun k _ hlt => hb.block k hlt)
theorem add_plain_ (g i : Nat) : (⟨g, 0, none⟩ : Addr).add i = ⟨g, i, none⟩ := by unfold Addr.add; split <;> simp_all
/-- The first one: its cells. -/
theorem Rng.first {x : α} (h : Rng d e w ok g E f (x :: xs)) : ∃ c, c.length = d.sz ∧ FK d w ok x c ∧ ∀ i, i < d.sz → w.cell? ⟨g, f * d.sz + i, none⟩ = c[i]? := by
  obtain ⟨cur, rows, hg, hs, hr, hl, hf, hc, hx⟩ := h
  cases rows with
  | nil => simp at hr
  | cons c r =>
    obtain ⟨h1, h2⟩ := hc 0 c rfl
    refine ⟨c, h1, hx 0 x c rfl rfl, fun i hi => ?_⟩
    rw [blk_cell hg]
    have := h2 i hi
    rwa [Nat.add_zero, Nat.mod_eq_of_lt hf] at this
theorem seg_apart {p q sz n i : Nat} (hpq : p ≠ q) (hi : i < sz) : p * sz + i < q * sz ∨ q * sz + sz ≤ p * sz + i := by
  rcases Nat.lt_or_ge p q with h | h
  · left
    have := Nat.mul_le_mul_right sz (show p + 1 ≤ q from h)
    rw [Nat.add_mul, Nat.one_mul] at this
    omega
  · right
    have := Nat.mul_le_mul_right sz (show q + 1 ≤ p by omega)
    rw [Nat.add_mul, Nat.one_mul] at this
    omega
theorem seg_fit {p E sz : Nat} (h : p < E) : p * sz + sz ≤ E * sz := by
  have := Nat.mul_le_mul_right sz (show p + 1 ≤ E from h)
  rwa [Nat.add_mul, Nat.one_mul] at this
theorem mod_ne {f j k E : Nat} (hj : j < k) (hk : k < E) (hf : f < E) : (f + j) % E ≠ (f + k) % E := by
  intro h
  have h1 : (f + j) % E = if f + j < E then f + j else f + j - E := by
    split
    · exact Nat.mod_eq_of_lt (by assumption)
    · rw [Nat.mod_eq_sub_mod (by omega)]; exact Nat.mod_eq_of_lt (by omega)
  have h2 : (f + k) % E = if f + k < E then f + k else f + k - E := by
    split
    · exact Nat.mod_eq_of_lt (by assumption)
    · rw [Nat.mod_eq_sub_mod (by omega)]; exact Nat.mod_eq_of_lt (by omega)
  rw [h1, h2] at h
  split at h <;> split at h <;> omega
/-- The first one is taken: zeros in its place, the next one is the first. -/
theorem Rng.pop {x : α} (h : Rng d e w ok g E f (x :: xs)) (hok : ∀ k, ok k → k ≠ g) (zc : List Value) (hz : zc.length = d.sz) {cur : Array Value} (hg : w.heap[g]? = some (.cells cur e (0, 0))) :
    Rng d e (w.setRow g (spl cur (f * d.sz) zc)) ok g E ((f + 1) % E) xs := by
  obtain ⟨cur2, rows, hg2, hs, hr, hl, hf, hc, hx⟩ := h
  have hcc : cur2 = cur := by
    have := Option.some.inj (hg2.symm.trans hg)
    injection this
  subst hcc
  cases rows with
  | nil => simp at hr
  | cons c r =>
    have hfit : f * d.sz + zc.length ≤ cur2.size := by rw [hz, hs]; exact seg_fit hf
    simp only [List.length_cons] at hl hr
    refine ⟨spl cur2 (f * d.sz) zc, r, setRow_heap w g cur2 _ e (0, 0) hg2, by rw [spl_size hfit, hs], by simpa using hr, by omega, Nat.mod_lt _ (by omega), fun j c' hj => ?_, fun j y c' h1 h2 => ?_⟩
    · obtain ⟨q1, q2⟩ := hc (j + 1) c' hj
      have hjl : j < r.length := (List.getElem?_eq_some_iff.1 hj).1
      refine ⟨q1, fun i hi => ?_⟩
      have hm : ((f + 1) % E + j) % E = (f + (j + 1)) % E := by rw [Nat.mod_add_mod, Nat.add_assoc, Nat.add_comm 1 j]
      rw [hm, ← q2 i hi]
      have hne : (f + (j + 1)) % E ≠ f := by
        have := mod_ne (f := f) (j := 0) (k := j + 1) (E := E) (by omega) (by omega) hf
        rw [Nat.add_zero, Nat.mod_eq_of_lt hf] at this
        exact fun e => this e.symm
      refine spl_out hfit ?_
      rw [hz]
      exact seg_apart (n := 0) hne hi
    · exact Foot.step (hx (j + 1) y c' h1 h2) (fun k hk _ => setRow_other w g k _ (hok k hk))
/-- One more behind all. -/
theorem Rng.push {x : α} (h : Rng d e w ok g E f xs) (hok : ∀ k, ok k → k ≠ g) (hl : xs.length < E) {c : List Value} (hx : FK d w ok x c) {cur : Array Value} (hg : w.heap[g]? = some (.cells cur e (0, 0))) :
    Rng d e (w.setRow g (spl cur (((f + xs.length) % E) * d.sz) c)) ok g E f (xs ++ [x]) := by
  obtain ⟨cur2, rows, hg2, hs, hr, -, hf, hc, hxx⟩ := h
  have hcc : cur2 = cur := by
    have := Option.some.inj (hg2.symm.trans hg)
    injection this
  subst hcc
  have hcl : c.length = d.sz := d.K_len (Foot.now hx)
  have hfit : ((f + xs.length) % E) * d.sz + c.length ≤ cur2.size := by rw [hcl, hs]; exact seg_fit (Nat.mod_lt _ (by omega))
  refine ⟨_, rows ++ [c], setRow_heap w g cur2 _ e (0, 0) hg2, by rw [spl_size hfit, hs], by simp [hr], by simp; omega, hf, fun j c' hj => ?_, fun j y c' h1 h2 => ?_⟩
  · rcases Nat.lt_or_ge j rows.length with hjl | hjl
    · rw [List.getElem?_append_left hjl] at hj
      obtain ⟨q1, q2⟩ := hc j c' hj
      refine ⟨q1, fun i hi => ?_⟩
      rw [← q2 i hi]
      refine spl_out hfit ?_
      rw [hcl]
      exact seg_apart (n := 0) (mod_ne (by omega) hl hf) hi
    · have hje : j = rows.length := by
        have := (List.getElem?_eq_some_iff.1 hj).1
        simp at this; omega
      subst hje
      have hc' : c = c' := by simpa using hj
      subst hc'
      refine ⟨hcl, fun i hi => ?_⟩
      rw [hr]
      exact spl_in hfit (by omega)
  · rcases Nat.lt_or_ge j xs.length with hjl | hjl
    · rw [List.getElem?_append_left hjl] at h1
      rw [List.getElem?_append_left (by omega)] at h2
      exact Foot.step (hxx j y c' h1 h2) (fun k hk _ => setRow_other w g k _ (hok k hk))
    · have hje : j = xs.length := by
        have := (List.getElem?_eq_some_iff.1 h1).1
        simp at this; omega
      subst hje
      rw [← hr] at h2
      have e1 : x = y := by simpa using h1
      have e2 : c = c' := by simpa using h2
      subst e1; subst e2
      exact Foot.step hx (fun k hk _ => setRow_other w g k _ (hok k hk))
end
end Go.Proofs.Ytimgfdkndlbfbaa.HRng
