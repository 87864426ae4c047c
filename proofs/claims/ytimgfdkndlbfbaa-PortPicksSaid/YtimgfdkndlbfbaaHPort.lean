/- A table of ports in memory: its block, its three maps. Conditions: each theorem's own. -/
import Derived.Test.YtimgfdkndlbfbaaHMap
import Derived.Test.YtimgfdkndlbfbaaHReg
import Derived.StillTailTactics
import Derived.WalkSpells
import Derived.WalkLawsBesides
import Derived.Outline
namespace Go.Proofs.Ytimgfdkndlbfbaa.HPort
open Go.RowKit Go.Proofs.YtimgfdkndlbfbaaW.PrintWords Go.Proofs.YtimgfdkndlbfbaaW.PrintLast Go.Proofs.YtimgfdkndlbfbaaW.PrintMore Go.Proofs.Ytimgfdkndlbfbaa.HMap Go.Maps
set_option linter.unusedVariables false
set_option linter.unusedSimpArgs false
theorem wid (n : Int) (h0 : -4611686018427387904 ≤ n) (h1 : n ≤ 4611686018427387904) : IntKind.i64.wrap n = n := by simp [IntKind.wrap, IntKind.bits, IntKind.signed]; omega
theorem laidOut : laidOutB Try.prog = true := by kernel_rfl
abbrev En := Int × Int
abbrev Qd := En × En
def vE (e : En) : Value := .agg #[.int .u32 e.1, .int .u16 e.2]
def vQ (q : Qd) : Value := .agg #[.int .u32 q.1.1, .int .u16 q.1.2, .int .u32 q.2.1, .int .u16 q.2.2]
def okE (e : En) : Prop := (Lit.int .u32 e.1).wf = true ∧ (Lit.int .u16 e.2).wf = true
def okQ (q : Qd) : Prop := okE q.1 ∧ okE q.2
section
variable {P : Program}
theorem lits_int {d : Nat} {t : TypeId} {q : IntKind} {a : Int} (hu : P.underlying t = some (.int q)) (hw : (Lit.int q a).wf = true) : P.keyLits (d + 1) t [.int q a] = some [.int q a] := by simp [Program.keyLits, hu, hw]
theorem lits_two {d : Nat} {t : TypeId} {f0 f1 : Field} {n0 : Nat} {cs : List Value} {l0 l1 : List Lit} (hu : P.underlying t = some (.struct #[f0, f1])) (hn : ((#[f0, f1] : Array Field).all (·.name != "_")) = true) (hl : cs.length = P.cellsOf t) (h0 : f0.offset = 0) (h1 : f1.offset = n0) (c0 : P.cellsOf f0.type = n0)
    (k0 : P.keyLits d f0.type (cs.take n0) = some l0) (k1 : P.keyLits d f1.type ((cs.drop n0).take (P.cellsOf f1.type)) = some l1) : P.keyLits (d + 1) t cs = some (l0 ++ l1) := by
  unfold Program.keyLits
  rw [hu]
  simp only [hl, hn, and_self, if_true]
  simp [h0, h1, c0, k0, k1]
theorem key_struct {k : TypeId} {cs : Array Value} {ls : List Lit} (hs : ∃ fs, P.underlying k = some (.struct fs)) (hk : P.keyType k = true) (hc : cs.size = P.cellsOf k) (h : P.keyLits (P.types.size + 1) k cs.toList = some ls) : keyOf P k (.agg cs) = some (.string (keyBytes ls)) := by
  obtain ⟨fs, hu⟩ := hs
  unfold keyOf
  simp [hu, hk, Value.formed, hc, h, Value.cells]
end
theorem many : 4 ≤ Try.prog.types.size := of_decide_eq_true (by kernel_rfl)
theorem keyE (e : En) (h : okE e) : ∃ l, keyOf Try.prog 105 (vE e) = some l := by
  obtain ⟨a, p⟩ := e
  obtain ⟨h1, h2⟩ := h
  obtain ⟨m, hm⟩ : ∃ m, Try.prog.types.size = m + 1 := ⟨Try.prog.types.size - 1, by have := many; omega⟩
  refine ⟨_, key_struct ⟨_, Try.underlying105⟩ (by kernel_rfl) (by rw [show Try.prog.cellsOf 105 = 2 by kernel_rfl]; rfl) (lits_two (n0 := 1) (l0 := [.int .u32 a]) (l1 := [.int .u16 p]) Try.underlying105 (by kernel_rfl) (by rw [show Try.prog.cellsOf 105 = 2 by kernel_rfl]; rfl) rfl rfl (by kernel_rfl) ?_ ?_)⟩
  · rw [hm]; exact lits_int Try.underlying34 h1
  · rw [hm]
    show Try.prog.keyLits _ 35 (List.take (Try.prog.cellsOf 35) _) = _
    rw [show Try.prog.cellsOf 35 = 1 by kernel_rfl]
    exact lits_int Try.underlying35 h2
theorem lits105 {d : Nat} {a p : Int} (h1 : (Lit.int .u32 a).wf = true) (h2 : (Lit.int .u16 p).wf = true) : Try.prog.keyLits (d + 2) 105 [.int .u32 a, .int .u16 p] = some [.int .u32 a, .int .u16 p] := by
  refine lits_two (n0 := 1) (l0 := [.int .u32 a]) (l1 := [.int .u16 p]) Try.underlying105 (by kernel_rfl) (by rw [show Try.prog.cellsOf 105 = 2 by kernel_rfl]; rfl) rfl rfl (by kernel_rfl) ?_ ?_
  · exact lits_int Try.underlying34 h1
  · show Try.prog.keyLits _ 35 (List.take (Try.prog.cellsOf 35) _) = _
    rw [show Try.prog.cellsOf 35 = 1 by kernel_rfl]
    exact lits_int Try.underlying35 h2
theorem keyQ (q : Qd) (h : okQ q) : ∃ l, keyOf Try.prog 107 (vQ q) = some l := by
  obtain ⟨⟨a, p⟩, ⟨c, d⟩⟩ := q
  obtain ⟨⟨h1, h2⟩, ⟨h3, h4⟩⟩ := h
  obtain ⟨m, hm⟩ : ∃ m, Try.prog.types.size = m + 2 := ⟨Try.prog.types.size - 2, by have := many; omega⟩
  have c5 : Try.prog.cellsOf 107 = 4 := by kernel_rfl
  have c2 : Try.prog.cellsOf 105 = 2 := by kernel_rfl
  refine ⟨_, key_struct ⟨_, Try.underlying107⟩ (by kernel_rfl) (by rw [c5]; rfl) (lits_two (n0 := 2) (l0 := [.int .u32 a, .int .u16 p]) (l1 := [.int .u32 c, .int .u16 d]) Try.underlying107 (by kernel_rfl) (by rw [c5]; rfl) rfl rfl c2 ?_ ?_)⟩
  · rw [hm]; exact lits105 h1 h2
  · rw [hm]
    show Try.prog.keyLits _ 105 (List.take (Try.prog.cellsOf 105) _) = _
    rw [c2]
    exact lits105 h3 h4
theorem row105 : (105 : TypeId) < Try.prog.types.size := of_decide_eq_true (by kernel_rfl)
theorem row107 : (107 : TypeId) < Try.prog.types.size := of_decide_eq_true (by kernel_rfl)
def kE : Ky Try.prog 105 En where
  enc := vE
  ok := okE
  law := Keyed.of_law (deep_law_laid laidOut (m := 3) (by omega) row105 (by kernel_rfl) (by rw [Try.underlying105]))
  key := keyE
  inj := fun a b h => by
    obtain ⟨a1, a2⟩ := a
    obtain ⟨b1, b2⟩ := b
    simp only [vE, Value.agg.injEq, Array.mk.injEq, List.cons.injEq, Value.int.injEq, true_and, and_true] at h
    rw [h.1, h.2]
def kQ : Ky Try.prog 107 Qd where
  enc := vQ
  ok := okQ
  law := Keyed.of_law (deep_law_laid laidOut (m := 4) (by omega) row107 (by kernel_rfl) (by rw [Try.underlying107]))
  key := keyQ
  inj := fun a b h => by
    obtain ⟨⟨a1, a2⟩, ⟨a3, a4⟩⟩ := a
    obtain ⟨⟨b1, b2⟩, ⟨b3, b4⟩⟩ := b
    simp only [vQ, Value.agg.injEq, Array.mk.injEq, List.cons.injEq, Value.int.injEq, true_and, and_true] at h
    rw [h.1, h.2.1, h.2.2.1, h.2.2.2]
def kP : Ky Try.prog 35 Int where
  enc := Value.int .u16
  ok := fun p => (Lit.int .u16 p).wf = true
  law := int_keyed Try.underlying35
  key := fun a h => ⟨_, keyOf_int_mk Try.underlying35 h⟩
  inj := fun a b h => by injection h
theorem zero3 (w : World) : (zeroValue 3).run Try.prog w = .ok (.int .i64 0) w := by kernel_rfl
/-- What a table holds. -/
structure TS where
  low : Int
  high : Int
  last : Int
  fb : En → Option Int
  nb : Nat
  fa : Int → Option Int
  fj : Qd → Option Int
  nj : Nat
/-- A table at block b, its maps at mb, ma, mj. -/
structure Tb (b0 : Nat) (w : World) (b mb ma mj : Nat) (s : TS) : Prop where
  blk : w.heap[b]? = some (.cells #[.int .i64 s.low, .int .i64 s.high, .int .i64 s.last, .map (some mb), .map (some ma), .map (some mj)] 167 (0, 0))
  lo : b0 ≤ b ∧ b0 ≤ mb ∧ b0 ≤ ma ∧ b0 ≤ mj
  ap : mb ≠ ma ∧ mb ≠ mj ∧ ma ≠ mj
  B : Mf kE (Value.int .i64) w mb s.fb s.nb
  A : ∃ na, Mf kP (Value.int .i64) w ma s.fa na
  J : Mf kQ (Value.int .i64) w mj s.fj s.nj
/-- From w to w' only the table's blocks turned. -/
structure Tv (w w' : World) (b mb ma mj : Nat) : Prop where
  os : w'.os = w.os
  tape : w'.tape = w.tape
  output : w'.output = w.output
  size : w.heap.size ≤ w'.heap.size
  old : ∀ k, k < w.heap.size → k ≠ b → k ≠ mb → k ≠ ma → k ≠ mj → w'.heap[k]? = w.heap[k]?
section
variable {b0 b mb ma mj : Nat} {w w' w2 : World} {s : TS}
theorem Tv.refl : Tv w w b mb ma mj := ⟨rfl, rfl, rfl, Nat.le_refl _, fun _ _ _ _ _ _ => rfl⟩
theorem Tv.of_below (h : Below w.heap.size w w') : Tv w w' b mb ma mj := ⟨h.os, h.tape, h.output, h.size, fun k hk _ _ _ _ => h.block k hk⟩
theorem Tv.trans (h : Tv w w' b mb ma mj) (h2 : Tv w' w2 b mb ma mj) : Tv w w2 b mb ma mj := ⟨h2.os.trans h.os, h2.tape.trans h.tape, h2.output.trans h.output, Nat.le_trans h.size h2.size, fun k hk h3 h4 h5 h6 => (h2.old k (Nat.lt_of_lt_of_le hk h.size) h3 h4 h5 h6).trans (h.old k hk h3 h4 h5 h6)⟩
theorem Tv.grown {o : Nat} (hg : w.grownBy w' (some o)) (ho : o = b ∨ o = mb ∨ o = ma ∨ o = mj) : Tv w w' b mb ma mj := ⟨hg.os, hg.tape, hg.output, hg.size, fun k hk h3 h4 h5 h6 => hg.block k hk (by rintro e; injection e with e; subst e; rcases ho with e | e | e | e <;> contradiction)⟩
theorem Tv.below {B : Nat} {W : World} (hv : Tv w w' b mb ma mj) (h : Below B W w) (hB : B ≤ w.heap.size) (hb : B ≤ b ∧ B ≤ mb ∧ B ≤ ma ∧ B ≤ mj) : Below B W w' := ⟨hv.os.trans h.os, hv.tape.trans h.tape, hv.output.trans h.output, Nat.le_trans h.size hv.size, fun k hk => (hv.old k (Nat.lt_of_lt_of_le hk hB) (by omega) (by omega) (by omega) (by omega)).trans (h.block k hk)⟩
theorem Tb.below (h : Tb b0 w b mb ma mj s) (hb : Below w.heap.size w w') : Tb b0 w' b mb ma mj s := by
  obtain ⟨na, hA⟩ := h.A
  exact ⟨blk_below h.blk hb, h.lo, h.ap, h.B.below hb, ⟨na, hA.below hb⟩, h.J.below hb⟩
/-- A box of another type stays. -/
theorem Tv.box {g : Nat} {t : TypeId} {cs : Array Value} (hv : Tv w w' b mb ma mj) (h : Tb b0 w b mb ma mj s) (hg : w.heap[g]? = some (.cells cs t (0, 0))) (ht : t ≠ 167) : w'.heap[g]? = some (.cells cs t (0, 0)) := by
  obtain ⟨na, hA⟩ := h.A
  exact (hv.old g (blk_lt hg) (blk_ne hg h.blk ht) (h.B.apart hg).symm (hA.apart hg).symm (h.J.apart hg).symm).trans hg
theorem Tb.cells (h : Tb b0 w b mb ma mj s) : w.cell? ⟨b, 0, none⟩ = some (.int .i64 s.low) ∧ w.cell? ⟨b, 1, none⟩ = some (.int .i64 s.high) ∧ w.cell? ⟨b, 2, none⟩ = some (.int .i64 s.last) ∧ w.cell? ⟨b, 3, none⟩ = some (.map (some mb)) ∧ w.cell? ⟨b, 4, none⟩ = some (.map (some ma)) ∧ w.cell? ⟨b, 5, none⟩ = some (.map (some mj)) ∧ w.frozen? ⟨b, 2, none⟩ = false :=
  ⟨(blk_cell h.blk 0).trans rfl, (blk_cell h.blk 1).trans rfl, (blk_cell h.blk 2).trans rfl, (blk_cell h.blk 3).trans rfl, (blk_cell h.blk 4).trans rfl, (blk_cell h.blk 5).trans rfl, blk_frozen h.blk 2⟩
theorem elim_getD (o : Option Int) : o.elim (Value.int .i64 0) (Value.int .i64) = .int .i64 (o.getD 0) := by cases o <;> rfl
theorem Tb.lookB (h : Tb b0 w b mb ma mj s) {a p : Int} (ho : okE (a, p)) : (Instr.lookup 163 (.map (some mb)) (.agg #[.int .u32 a, .int .u16 p]) true).run Try.prog w = .ok (.tuple #[.int .i64 ((s.fb (a, p)).getD 0), .bool (s.fb (a, p)).isSome]) w := by
  have := h.B.look true Try.underlying163 (zero3 w) (a := (a, p)) ho
  rw [elim_getD] at this
  exact this
theorem Tb.lookA (h : Tb b0 w b mb ma mj s) {p : Int} (ho : (Lit.int .u16 p).wf = true) : (Instr.lookup 164 (.map (some ma)) (.int .u16 p) false).run Try.prog w = .ok (.int .i64 ((s.fa p).getD 0)) w := by
  obtain ⟨na, hA⟩ := h.A
  have := hA.look false Try.underlying164 (zero3 w) (a := p) ho
  rw [elim_getD] at this
  exact this
theorem Tb.lookJ (h : Tb b0 w b mb ma mj s) {a p c d : Int} (ho : okQ ((a, p), (c, d))) : (Instr.lookup 165 (.map (some mj)) (.agg #[.int .u32 a, .int .u16 p, .int .u32 c, .int .u16 d]) true).run Try.prog w = .ok (.tuple #[.int .i64 ((s.fj ((a, p), (c, d))).getD 0), .bool (s.fj ((a, p), (c, d))).isSome]) w := by
  have := h.J.look true Try.underlying165 (zero3 w) (a := ((a, p), (c, d))) ho
  rw [elim_getD] at this
  exact this
theorem Tb.lenB (h : Tb b0 w b mb ma mj s) (ty : TypeId) : (Builtin.len_ #[163] ty #[.map (some mb)]).run Try.prog w = .ok (.int .i64 s.nb) w := h.B.len Try.underlying163
theorem Tb.lenJ (h : Tb b0 w b mb ma mj s) (ty : TypeId) : (Builtin.len_ #[165] ty #[.map (some mj)]).run Try.prog w = .ok (.int .i64 s.nj) w := h.J.len Try.underlying165
def upd {α : Type} [DecidableEq α] (f : α → Option Int) (a : α) (v : Option Int) : α → Option Int := fun x => if x = a then v else f x
def one (o : Option Int) (n : Nat) : Nat := if o.isSome then n else n + 1
def less (o : Option Int) (n : Nat) : Nat := if o.isSome then n - 1 else n
theorem Tb.setB (h : Tb b0 w b mb ma mj s) {a p : Int} (ho : okE (a, p)) (v : Int) : ∃ w', (Instr.mapUpdate 163 (.map (some mb)) (.agg #[.int .u32 a, .int .u16 p]) (.int .i64 v)).run Try.prog w = .ok () w' ∧ Tb b0 w' b mb ma mj { s with fb := upd s.fb (a, p) (some v), nb := one (s.fb (a, p)) s.nb } ∧ Tv w w' b mb ma mj := by
  obtain ⟨w', hr, hM, hG⟩ := h.B.update Try.underlying163 (a := (a, p)) ho v
  obtain ⟨na, hA⟩ := h.A
  have hbb := (h.B.apart h.blk).symm
  refine ⟨w', hr, ⟨blk_grown h.blk hG (fun e => hbb (Option.some.inj e)), h.lo, h.ap, hM, ⟨na, hA.grown hG (fun e => h.ap.1 (Option.some.inj e).symm)⟩, h.J.grown hG (fun e => h.ap.2.1 (Option.some.inj e).symm)⟩, Tv.grown hG (.inr (.inl rfl))⟩
theorem Tb.setA (h : Tb b0 w b mb ma mj s) {p : Int} (ho : (Lit.int .u16 p).wf = true) (v : Int) : ∃ w', (Instr.mapUpdate 164 (.map (some ma)) (.int .u16 p) (.int .i64 v)).run Try.prog w = .ok () w' ∧ Tb b0 w' b mb ma mj { s with fa := upd s.fa p (some v) } ∧ Tv w w' b mb ma mj := by
  obtain ⟨na, hA⟩ := h.A
  obtain ⟨w', hr, hM, hG⟩ := hA.update Try.underlying164 (a := p) ho v
  have hbb := (hA.apart h.blk).symm
  refine ⟨w', hr, ⟨blk_grown h.blk hG (fun e => hbb (Option.some.inj e)), h.lo, h.ap, h.B.grown hG (fun e => h.ap.1 (Option.some.inj e)), ⟨_, hM⟩, h.J.grown hG (fun e => h.ap.2.2 (Option.some.inj e).symm)⟩, Tv.grown hG (.inr (.inr (.inl rfl)))⟩
theorem Tb.setJ (h : Tb b0 w b mb ma mj s) {a p c d : Int} (ho : okQ ((a, p), (c, d))) (v : Int) : ∃ w', (Instr.mapUpdate 165 (.map (some mj)) (.agg #[.int .u32 a, .int .u16 p, .int .u32 c, .int .u16 d]) (.int .i64 v)).run Try.prog w = .ok () w' ∧ Tb b0 w' b mb ma mj { s with fj := upd s.fj ((a, p), (c, d)) (some v), nj := one (s.fj ((a, p), (c, d))) s.nj } ∧ Tv w w' b mb ma mj := by
  obtain ⟨w', hr, hM, hG⟩ := h.J.update Try.underlying165 (a := ((a, p), (c, d))) ho v
  obtain ⟨na, hA⟩ := h.A
  have hbb := (h.J.apart h.blk).symm
  refine ⟨w', hr, ⟨blk_grown h.blk hG (fun e => hbb (Option.some.inj e)), h.lo, h.ap, h.B.grown hG (fun e => h.ap.2.1 (Option.some.inj e)), ⟨na, hA.grown hG (fun e => h.ap.2.2 (Option.some.inj e))⟩, hM⟩, Tv.grown hG (.inr (.inr (.inr rfl)))⟩
theorem Tb.delB (h : Tb b0 w b mb ma mj s) {a p : Int} (ho : okE (a, p)) (ty : TypeId) : ∃ w', (Builtin.delete_ #[163, 105] ty #[.map (some mb), .agg #[.int .u32 a, .int .u16 p]]).run Try.prog w = .ok (.tuple #[]) w' ∧ Tb b0 w' b mb ma mj { s with fb := upd s.fb (a, p) none, nb := less (s.fb (a, p)) s.nb } ∧ Tv w w' b mb ma mj := by
  obtain ⟨w', hr, hM, hG⟩ := h.B.delete (ty := ty) Try.underlying163 (a := (a, p)) ho
  obtain ⟨na, hA⟩ := h.A
  have hbb := (h.B.apart h.blk).symm
  refine ⟨w', hr, ⟨blk_grown h.blk hG (fun e => hbb (Option.some.inj e)), h.lo, h.ap, hM, ⟨na, hA.grown hG (fun e => h.ap.1 (Option.some.inj e).symm)⟩, h.J.grown hG (fun e => h.ap.2.1 (Option.some.inj e).symm)⟩, Tv.grown hG (.inr (.inl rfl))⟩
theorem Tb.delJ (h : Tb b0 w b mb ma mj s) {a p c d : Int} (ho : okQ ((a, p), (c, d))) (ty : TypeId) : ∃ w', (Builtin.delete_ #[165, 107] ty #[.map (some mj), .agg #[.int .u32 a, .int .u16 p, .int .u32 c, .int .u16 d]]).run Try.prog w = .ok (.tuple #[]) w' ∧ Tb b0 w' b mb ma mj { s with fj := upd s.fj ((a, p), (c, d)) none, nj := less (s.fj ((a, p), (c, d))) s.nj } ∧ Tv w w' b mb ma mj := by
  obtain ⟨w', hr, hM, hG⟩ := h.J.delete (ty := ty) Try.underlying165 (a := ((a, p), (c, d))) ho
  obtain ⟨na, hA⟩ := h.A
  have hbb := (h.J.apart h.blk).symm
  refine ⟨w', hr, ⟨blk_grown h.blk hG (fun e => hbb (Option.some.inj e)), h.lo, h.ap, h.B.grown hG (fun e => h.ap.2.1 (Option.some.inj e)), ⟨na, hA.grown hG (fun e => h.ap.2.2 (Option.some.inj e))⟩, hM⟩, Tv.grown hG (.inr (.inr (.inr rfl)))⟩
/-- The last port picked is set. -/
theorem Tb.setLast (h : Tb b0 w b mb ma mj s) (v : Int) : Tb b0 (w.setCell ⟨b, 2, none⟩ (.int .i64 v)) b mb ma mj { s with last := v } ∧ Tv w (w.setCell ⟨b, 2, none⟩ (.int .i64 v)) b mb ma mj := by
  obtain ⟨na, hA⟩ := h.A
  exact ⟨⟨blk_put h.blk 2 _ rfl, h.lo, h.ap, h.B.put h.blk, ⟨na, hA.put h.blk⟩, h.J.put h.blk⟩, ⟨rfl, rfl, rfl, by simp [World.setCell], fun k hk h3 _ _ _ => Below.heap_setCell w _ _ k h3⟩⟩
theorem boxed1 (w : World) (o : Obj) : (w.alloc o).heap[w.heap.size]? = some o ∧ Below w.heap.size w (w.alloc o) := ⟨blk_new w o, below_alloc (Below.refl _ _) o⟩
end
end Go.Proofs.Ytimgfdkndlbfbaa.HPort
