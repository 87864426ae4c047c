/- Arguments opened: entries, completions, acts, slices of them, by kinds. Conditions: each theorem's own. -/
import Derived.Test.YtimgfdkndlbfbaaHActs
import Derived.Test.YtimgfdkndlbfbaaPCqx0
namespace Go.Proofs.Ytimgfdkndlbfbaa.HCqA
open Go.Deep Go.ChangeShapes Go.WideShapes Go.ChangeAt Go.RowKit Go.Proofs.YtimgfdkndlbfbaaW.PrintWords Go.Proofs.YtimgfdkndlbfbaaW.PrintLast Go.Proofs.YtimgfdkndlbfbaaW.PrintMore Go.Proofs.Ytimgfdkndlbfbaa.PCq
set_option linter.unusedVariables false
set_option linter.unusedSimpArgs false
set_option linter.unusedSectionVars false
theorem add_add_ (a : Addr) (i j : Nat) : (a.add i).add j = a.add (i + j) := by
  obtain ⟨g, o, q⟩ := a
  by_cases hi : i = 0 <;> by_cases hj : j = 0 <;> simp_all [Addr.add, Nat.add_assoc]
section
variable {H : Type} {enc : TypeId × Value → H} {w : World} {base : Nat} {held : Bool}
/-- Type t's cells read as kind d does. -/
def Rd (enc : TypeId × Value → H) (w : World) (base : Nat) (held : Bool) (t : TypeId) {α : Type} (d : Kd α) : Prop := ∀ (cs : List Value) (n : Nat) (y : DataW H × List MemPlace), DataW.trod enc Try.prog w base (fun _ => true) held n t cs = some y → ∃ x : α, d.K w x cs
theorem Rd.int {t : TypeId} {k : IntKind} (ht : Try.prog.underlying t = some (.int k)) : Rd enc w base held t (Kd.int k) := fun cs n y h => by
  obtain ⟨a, rfl, -, -⟩ := DataW.trod_int ht h
  exact ⟨a, rfl⟩
theorem Rd.slice {α : Type} {d : Kd α} {t e : TypeId} (z : α) (ht : Try.prog.underlying t = some (.slice e)) (hs : Try.prog.cellsOf e = d.sz) (hd : Rd enc w base held e d) : Rd enc w base held t (Kd.slice e d) := fun cs n y h => by
  rcases DataW.trod_slice ht h with ⟨rfl, -⟩ | ⟨a, len, cap, elems, rest, m, -, rfl, -, -, hlc, hcm, hlen, hel, -⟩
  · exact ⟨[], none, 0, rfl, Nat.le_refl _, Kd.C_nil d w⟩
  · have key : ∀ i, i < len → ∃ x c, c.length = d.sz ∧ d.K w x c ∧ ∀ j u, c[j]? = some u → w.cell? (a.add (i * d.sz + j)) = some u := fun i hi => by
      have hE := hel i hi
      rw [hs, List.getElem?_eq_getElem (by omega)] at hE
      simp only [Option.bind_eq_some_iff] at hE
      obtain ⟨c, hc1, hy1⟩ := hE
      obtain ⟨hl, hcell⟩ := HActs.cells_at hc1
      obtain ⟨x, hx⟩ := hd c m _ hy1
      refine ⟨x, c, hl, hx, fun j u hu => ?_⟩
      have hj : j < d.sz := by have := (List.getElem?_eq_some_iff.1 hu).1; omega
      have h1 := hcell j hj
      rw [hu] at h1
      rw [← h1, add_add_]
    have hch : ∃ f : Nat → α, ∀ i, i < len → ∃ c, c.length = d.sz ∧ d.K w (f i) c ∧ ∀ j u, c[j]? = some u → w.cell? (a.add (i * d.sz + j)) = some u := by
      refine ⟨fun i => if hi : i < len then Classical.choose (key i hi) else z, fun i hi => ?_⟩
      simp only [hi, dif_pos]
      exact Classical.choose_spec (key i hi)
    obtain ⟨f, hf⟩ := hch
    have hl : ((List.range len).map f).length = len := by simp
    refine ⟨(List.range len).map f, some a, cap, by rw [hl], by rw [hl]; exact hlc, ?_⟩
    rw [hl]
    refine ⟨hl, by simp only [maxLen] at hcm; omega, fun _ => ⟨a, rfl, fun j p hj => ?_⟩⟩
    have hi : j < len := by have := (List.getElem?_eq_some_iff.1 hj).1; simpa using this
    rw [List.getElem?_map, List.getElem?_range hi] at hj
    have e : f j = p := by simpa using hj
    subst e
    exact hf j hi
theorem fld {t : TypeId} {fs : Array Field} {cs : List Value} {n : Nat} {y : DataW H × List MemPlace} (ht : Try.prog.underlying t = some (.struct fs)) (h : DataW.trod enc Try.prog w base (fun _ => true) held n t cs = some y) :
    ∃ m, cs.length = Try.prog.cellsOf t ∧ ∀ (i : Nat) (f : Field) (k : Nat), fs[i]? = some f → Try.prog.cellsOf f.type = k → ∃ y, DataW.trod enc Try.prog w base (fun _ => true) held m f.type ((cs.drop f.offset).take k) = some y := by
  obtain ⟨xs, m, -, -, hl, hlen, hx⟩ := DataW.trod_struct ht h
  refine ⟨m, hl, fun i f k hf hk => ?_⟩
  have h1 := hx i f hf
  have hi : i < xs.length := by rw [hlen]; exact (Array.getElem?_eq_some_iff.1 hf).1
  rw [List.getElem?_eq_getElem hi, hk] at h1
  exact ⟨_, h1⟩
theorem rd5 : Rd enc w base held 5 (Kd.int .u8) := Rd.int Try.underlying5
theorem rd23 : Rd enc w base held 23 (Kd.slice 5 (Kd.int .u8)) := Rd.slice 0 Try.underlying23 (by kernel_rfl) rd5
theorem rd37 : Rd enc w base held 37 k37 := fun cs n y h => by
  obtain ⟨m, hl, hf⟩ := fld Try.underlying37 h
  replace hl : cs.length = 11 := hl.trans (by kernel_rfl)
  obtain ⟨v0, v1, v2, v3, v4, v5, v6, v7, v8, v9, v10, rfl⟩ : ∃ v0 v1 v2 v3 v4 v5 v6 v7 v8 v9 v10, cs = [v0, v1, v2, v3, v4, v5, v6, v7, v8, v9, v10] := by
    match cs, hl with
    | [v0, v1, v2, v3, v4, v5, v6, v7, v8, v9, v10], _ => exact ⟨v0, v1, v2, v3, v4, v5, v6, v7, v8, v9, v10, rfl⟩
  obtain ⟨y0, h0⟩ := hf 0 _ 1 rfl (by kernel_rfl)
  obtain ⟨a0, e0⟩ := Rd.int (k := .u8) (by kernel_rfl) _ _ _ h0
  replace e0 : [v0] = [.int .u8 a0] := e0
  injection e0 with e0 _
  subst e0
  obtain ⟨y1, h1⟩ := hf 1 _ 1 rfl (by kernel_rfl)
  obtain ⟨a1, e1⟩ := Rd.int (k := .u8) (by kernel_rfl) _ _ _ h1
  replace e1 : [v1] = [.int .u8 a1] := e1
  injection e1 with e1 _
  subst e1
  obtain ⟨y2, h2⟩ := hf 2 _ 1 rfl (by kernel_rfl)
  obtain ⟨a2, e2⟩ := Rd.int (k := .i64) (by kernel_rfl) _ _ _ h2
  replace e2 : [v2] = [.int .i64 a2] := e2
  injection e2 with e2 _
  subst e2
  obtain ⟨y3, h3⟩ := hf 3 _ 1 rfl (by kernel_rfl)
  obtain ⟨a3, e3⟩ := Rd.int (k := .u32) (by kernel_rfl) _ _ _ h3
  replace e3 : [v3] = [.int .u32 a3] := e3
  injection e3 with e3 _
  subst e3
  obtain ⟨y4, h4⟩ := hf 4 _ 1 rfl (by kernel_rfl)
  obtain ⟨a4, e4⟩ := Rd.int (k := .u16) (by kernel_rfl) _ _ _ h4
  replace e4 : [v4] = [.int .u16 a4] := e4
  injection e4 with e4 _
  subst e4
  obtain ⟨y5, h5⟩ := hf 5 _ 1 rfl (by kernel_rfl)
  obtain ⟨a5, e5⟩ := Rd.int (k := .i64) (by kernel_rfl) _ _ _ h5
  replace e5 : [v5] = [.int .i64 a5] := e5
  injection e5 with e5 _
  subst e5
  obtain ⟨y6, h6⟩ := hf 6 _ 1 rfl (by kernel_rfl)
  obtain ⟨a6, e6⟩ := Rd.int (k := .i64) (by kernel_rfl) _ _ _ h6
  replace e6 : [v6] = [.int .i64 a6] := e6
  injection e6 with e6 _
  subst e6
  obtain ⟨y7, h7⟩ := hf 7 _ 1 rfl (by kernel_rfl)
  obtain ⟨a7, e7⟩ := Rd.int (k := .i64) (by kernel_rfl) _ _ _ h7
  replace e7 : [v7] = [.int .i64 a7] := e7
  injection e7 with e7 _
  subst e7
  obtain ⟨y8, h8⟩ := hf 8 _ 1 rfl (by kernel_rfl)
  obtain ⟨a8, e8⟩ := Rd.int (k := .u64) (by kernel_rfl) _ _ _ h8
  replace e8 : [v8] = [.int .u64 a8] := e8
  injection e8 with e8 _
  subst e8
  obtain ⟨y9, h9⟩ := hf 9 _ 1 rfl (by kernel_rfl)
  obtain ⟨a9, e9⟩ := Rd.int (k := .u64) (by kernel_rfl) _ _ _ h9
  replace e9 : [v9] = [.int .u64 a9] := e9
  injection e9 with e9 _
  subst e9
  obtain ⟨y10, h10⟩ := hf 10 _ 1 rfl (by kernel_rfl)
  obtain ⟨l10, A10, c10, e10, hc10, hC10⟩ := rd23 _ _ _ h10
  replace e10 : [v10] = [.slice A10 l10.length c10] := e10
  injection e10 with e10 _
  subst e10
  exact ⟨⟨a0, a1, a2, a3, a4, a5, a6, a7, a8, a9, l10⟩, k37_mk w ⟨a0, a1, a2, a3, a4, a5, a6, a7, a8, a9, l10⟩ hc10 hC10⟩
theorem rd43 : Rd enc w base held 43 k43 := fun cs n y h => by
  obtain ⟨m, hl, hf⟩ := fld Try.underlying43 h
  replace hl : cs.length = 5 := hl.trans (by kernel_rfl)
  obtain ⟨v0, v1, v2, v3, v4, rfl⟩ : ∃ v0 v1 v2 v3 v4, cs = [v0, v1, v2, v3, v4] := by
    match cs, hl with
    | [v0, v1, v2, v3, v4], _ => exact ⟨v0, v1, v2, v3, v4, rfl⟩
  obtain ⟨y0, h0⟩ := hf 0 _ 1 rfl (by kernel_rfl)
  obtain ⟨a0, e0⟩ := Rd.int (k := .u64) (by kernel_rfl) _ _ _ h0
  replace e0 : [v0] = [.int .u64 a0] := e0
  injection e0 with e0 _
  subst e0
  obtain ⟨y1, h1⟩ := hf 1 _ 1 rfl (by kernel_rfl)
  obtain ⟨a1, e1⟩ := Rd.int (k := .i64) (by kernel_rfl) _ _ _ h1
  replace e1 : [v1] = [.int .i64 a1] := e1
  injection e1 with e1 _
  subst e1
  obtain ⟨y2, h2⟩ := hf 2 _ 1 rfl (by kernel_rfl)
  obtain ⟨a2, e2⟩ := Rd.int (k := .u8) (by kernel_rfl) _ _ _ h2
  replace e2 : [v2] = [.int .u8 a2] := e2
  injection e2 with e2 _
  subst e2
  obtain ⟨y3, h3⟩ := hf 3 _ 1 rfl (by kernel_rfl)
  obtain ⟨a3, e3⟩ := Rd.int (k := .i64) (by kernel_rfl) _ _ _ h3
  replace e3 : [v3] = [.int .i64 a3] := e3
  injection e3 with e3 _
  subst e3
  obtain ⟨y4, h4⟩ := hf 4 _ 1 rfl (by kernel_rfl)
  obtain ⟨l4, A4, c4, e4, hc4, hC4⟩ := rd23 _ _ _ h4
  replace e4 : [v4] = [.slice A4 l4.length c4] := e4
  injection e4 with e4 _
  subst e4
  exact ⟨⟨a0, a1, a2, a3, l4⟩, k43_mk w ⟨a0, a1, a2, a3, l4⟩ hc4 hC4⟩
theorem rd38 : Rd enc w base held 38 (Kd.slice 37 k37) := Rd.slice z37 Try.underlying38 (by kernel_rfl) rd37
theorem rd52 : Rd enc w base held 52 k52 := fun cs n y h => by
  obtain ⟨m, hl, hf⟩ := fld Try.underlying52 h
  replace hl : cs.length = 8 := hl.trans (by kernel_rfl)
  obtain ⟨v0, v1, v2, v3, v4, v5, v6, v7, rfl⟩ : ∃ v0 v1 v2 v3 v4 v5 v6 v7, cs = [v0, v1, v2, v3, v4, v5, v6, v7] := by
    match cs, hl with
    | [v0, v1, v2, v3, v4, v5, v6, v7], _ => exact ⟨v0, v1, v2, v3, v4, v5, v6, v7, rfl⟩
  obtain ⟨y0, h0⟩ := hf 0 _ 1 rfl (by kernel_rfl)
  obtain ⟨a0, e0⟩ := Rd.int (k := .i64) (by kernel_rfl) _ _ _ h0
  replace e0 : [v0] = [.int .i64 a0] := e0
  injection e0 with e0 _
  subst e0
  obtain ⟨y1, h1⟩ := hf 1 _ 1 rfl (by kernel_rfl)
  obtain ⟨a1, e1⟩ := Rd.int (k := .i64) (by kernel_rfl) _ _ _ h1
  replace e1 : [v1] = [.int .i64 a1] := e1
  injection e1 with e1 _
  subst e1
  obtain ⟨y2, h2⟩ := hf 2 _ 1 rfl (by kernel_rfl)
  obtain ⟨l2, A2, c2, e2, hc2, hC2⟩ := rd38 _ _ _ h2
  replace e2 : [v2] = [.slice A2 l2.length c2] := e2
  injection e2 with e2 _
  subst e2
  obtain ⟨y3, h3⟩ := hf 3 _ 5 rfl (by kernel_rfl)
  obtain ⟨x3, hx3⟩ := rd43 [v3, v4, v5, v6, v7] _ _ h3
  obtain ⟨A4, c4, e4, hc4, hC4⟩ := k43_open hx3
  injection e4 with q3 e4
  injection e4 with q4 e4
  injection e4 with q5 e4
  injection e4 with q6 e4
  injection e4 with q7 _
  subst q3 q4 q5 q6 q7
  exact ⟨⟨a0, a1, l2, x3⟩, k52_mk w ⟨a0, a1, l2, x3⟩ hc2 hC2 hc4 hC4⟩
theorem rd46 : Rd enc w base held 46 (Kd.slice 52 k52) := Rd.slice z52 Try.underlying46 (by kernel_rfl) rd52
set_option maxRecDepth 100000 in
theorem open_act {r : Reach} {b0 : Nat} {v : Value} {d : DataW H} {p : List MemPlace} (hv : Value.okWide Try.prog w r b0 52 v) (h : DataW.Trod enc Try.prog w base (fun _ => true) held 52 v d p) : ∃ (x : S52) (A2 : Option Addr) (c2 : Nat) (A7 : Option Addr) (c7 : Nat), v = .agg #[.int .i64 x.f0, .int .i64 x.f1, .slice A2 x.f2.length c2, .int .u64 x.f3.f0, .int .i64 x.f3.f1, .int .u8 x.f3.f2, .int .i64 x.f3.f3, .slice A7 x.f3.f4.length c7] ∧ k52.K w x [.int .i64 x.f0, .int .i64 x.f1, .slice A2 x.f2.length c2, .int .u64 x.f3.f0, .int .i64 x.f3.f1, .int .u8 x.f3.f2, .int .i64 x.f3.f3, .slice A7 x.f3.f4.length c7] := by
  obtain ⟨cs, rfl, -⟩ := okWide_struct Try.underlying52 hv
  obtain ⟨n, hn⟩ := h
  obtain ⟨x, hx⟩ := rd52 _ n _ hn
  have hx' := hx
  obtain ⟨A2, c2, A7, c7, e, -⟩ := k52_open hx
  obtain ⟨l⟩ := cs
  replace e : l = _ := e
  subst e
  exact ⟨x, A2, c2, A7, c7, rfl, hx'⟩
set_option maxRecDepth 100000 in
theorem open_acts {r : Reach} {b0 : Nat} {v : Value} {d : DataW H} {p : List MemPlace} (hv : Value.okWide Try.prog w r b0 46 v) (h : DataW.Trod enc Try.prog w base (fun _ => true) held 46 v d p) : ∃ (A : Option Addr) (c : Nat) (l : List S52), v = .slice A l.length c ∧ Kd.C k52 w A l.length l ∧ l.length ≤ c := by
  obtain ⟨a0, len, cap, rfl⟩ := okWide_slice Try.underlying46 hv
  obtain ⟨n, hn⟩ := h
  obtain ⟨l, A, c, e, hc, hC⟩ := rd46 _ n _ hn
  replace e : [Value.slice a0 len cap] = [.slice A l.length c] := e
  injection e with e _
  exact ⟨A, c, l, e, hC, hc⟩
end
end Go.Proofs.Ytimgfdkndlbfbaa.HCqA
