/- FragSplits: the pieces' own rows, and that a byte turned over keeps them; the lists are the same. Conditions: each theorem's own. -/
import Derived.Test.YtfmfpofbefgbgaaHHolds2
import Derived.Test.YtfmfpofbefgbgaaHSplitP
import Derived.StillTailTactics
namespace Go.Proofs.Ytfmfpofbefgbgaa.HSplitQ
open Go.RowKit Go.Proofs.YtfmfpofbefgbgaaW.PrintWords Go.Proofs.YtfmfpofbefgbgaaW.PrintLast Go.Proofs.YtfmfpofbefgbgaaW.PrintMore Go.Proofs.Ytfmfpofbefgbgaa.PFrb Go.Proofs.Ytfmfpofbefgbgaa.HCar Go.Proofs.Ytfmfpofbefgbgaa.HSplit
set_option linter.unusedVariables false
set_option linter.unusedSimpArgs false
/-- A slice of n bytes of the call's own (blocks from b0 on). -/
def Own1 (b0 : Nat) (w : World) (v : Value) (n : Nat) : Prop :=
  (v = .slice none 0 0 ∧ n = 0) ∨ ∃ (g cap : Nat) (cur : Array Value), v = .slice (some ⟨g, 0, none⟩) n cap ∧ b0 ≤ g ∧ w.heap[g]? = some (.cells cur 5 (0, 0)) ∧ n ≤ cap ∧ cap ≤ maxLen ∧ ∀ j, j < n → ∃ z, cur[j]? = some (.int .u8 z)
theorem Own1.of_R {b0 base : Nat} {w : World} {v : Value} {ok : Nat → Prop} {xs : List Int} (h : Kd.R (Kd.int .u8) 5 w base ok v xs) (hb : b0 ≤ base) : Own1 b0 w v xs.length := by
  have ho := Kd.own_of_R (enc := Value.int .u8) (h1 := fun _ => rfl) h
  obtain ⟨_, ⟨e, en⟩ | ⟨g, cap, cur, e, hg, hh, hn, hc, hs, ht⟩⟩ := ho
  · exact .inl ⟨e, en⟩
  · refine .inr ⟨g, cap, cur, e, Nat.le_trans hb hg, hh, hn, hc, fun j hj => ⟨xs.getD j 0, ?_⟩⟩
    have h2 := congrArg (fun l => l[j]?) ht
    simp only [Nat.mul_one, List.getElem?_take, if_pos hj] at h2
    rw [encs_get (d := 0) xs j hj] at h2
    simpa using h2
theorem Own1.set {b0 : Nat} {w : World} {v : Value} {n : Nat} (h : Own1 b0 w v n) (g' j : Nat) (z : Int) : Own1 b0 (w.setCell ⟨g', j, none⟩ (.int .u8 z)) v n := by
  obtain e | ⟨g, cap, cur, e, hg, hh, hn, hc, hz⟩ := h
  · exact .inl e
  · by_cases hgg : g = g'
    · subst hgg
      refine .inr ⟨g, cap, _, e, hg, blk_set hh j _, hn, hc, fun i hi => ?_⟩
      obtain ⟨x, hx⟩ := hz i hi
      rw [Array.getElem?_setIfInBounds]
      by_cases hij : j = i
      · subst hij
        have := (Array.getElem?_eq_some_iff.1 hx).1
        rw [if_pos rfl, if_pos this]
        exact ⟨z, rfl⟩
      · rw [if_neg hij]
        exact ⟨x, hx⟩
    · exact .inr ⟨g, cap, cur, e, hg, blk_far hh hgg _, hn, hc, hz⟩
def sl (t : Option Addr × Nat × Nat) : Value := .slice t.1 t.2.1 t.2.2
/-- The pieces: block g holds them, each one's data of the call's own. -/
def St (w0 : World) (g : Nat) (ts : List (Option Addr × Nat × Nat)) (w : World) : Prop :=
  (∃ cs, w.heap[g]? = some (.cells cs 68 (0, 0)) ∧ ∀ (i : Nat) (t : Option Addr × Nat × Nat), ts[i]? = some t → cs[i * 11 + 10]? = some (sl t)) ∧ (∀ t, t ∈ ts → Own1 w0.heap.size w (sl t) t.2.1) ∧ Below w0.heap.size w0 w
theorem St.cell {w0 w : World} {g : Nat} {ts : List (Option Addr × Nat × Nat)} (h : St w0 g ts w) {i : Nat} {t : Option Addr × Nat × Nat} (ht : ts[i]? = some t) : w.cell? ⟨g, i * 11 + 10, none⟩ = some (sl t) := by
  obtain ⟨⟨cs, hh, hc⟩, _⟩ := h
  rw [blk_cell hh]
  exact hc i t ht
theorem St.row {w0 w : World} {g : Nat} {ts : List (Option Addr × Nat × Nat)} (h : St w0 g ts w) {i : Nat} {t : Option Addr × Nat × Nat} (ht : ts[i]? = some t) : Own1 w0.heap.size w (sl t) t.2.1 := h.2.1 t (List.mem_of_getElem? ht)
theorem St.drew {w0 w : World} {g : Nat} {ts : List (Option Addr × Nat × Nat)} (h : St w0 g ts w) : St w0 g ts w.drew := ⟨h.1, h.2.1, below_drew h.2.2⟩
theorem St.set {w0 w : World} {g : Nat} {ts : List (Option Addr × Nat × Nat)} (h : St w0 g ts w) {g' j : Nat} {cur : Array Value} (h0 : w0.heap.size ≤ g') (h5 : w.heap[g']? = some (.cells cur 5 (0, 0))) (z : Int) : St w0 g ts (w.setCell ⟨g', j, none⟩ (.int .u8 z)) := by
  obtain ⟨⟨cs, hh, hc⟩, hr, hb⟩ := h
  refine ⟨⟨cs, blk_far hh (blk_ne hh h5 (by decide)) _, hc⟩, fun t ht => (hr t ht).set _ _ _, ?_⟩
  refine ⟨?_, ?_, ?_, ?_, ?_⟩
  · exact hb.os
  · exact hb.tape
  · exact hb.output
  · have := hb.size
    simpa [World.setCell] using this
  · intro i hi
    rw [Below.heap_setCell _ _ _ _ (by show i ≠ g'; omega)]
    exact hb.block i hi
/-- One byte of a row: where it lies, and that it may be written. -/
theorem St.byte {w0 w : World} {g : Nat} {ts : List (Option Addr × Nat × Nat)} (h : St w0 g ts w) {i j : Nat} {A : Option Addr} {n c : Nat} (ht : ts[i]? = some (A, n, c)) (hj : j < n) :
    ∃ g', A = some ⟨g', 0, none⟩ ∧ (∃ z, w.cell? ⟨g', j, none⟩ = some (.int .u8 z)) ∧ w.frozen? ⟨g', j, none⟩ = false ∧ w0.heap.size ≤ g' ∧ n ≤ maxLen ∧ ∃ cur, w.heap[g']? = some (.cells cur 5 (0, 0)) := by
  obtain ⟨e, en⟩ | ⟨g', cap, cur, e, hg, hh, hn, hc, hz⟩ := h.row ht
  · simp only at en; omega
  · simp only [sl, Value.slice.injEq] at e
    obtain ⟨z, hx⟩ := hz j hj
    exact ⟨g', e.1, ⟨z, (blk_cell hh j).trans hx⟩, blk_frozen hh j, hg, Nat.le_trans hn hc, cur, hh⟩
theorem add_plain_ (g i : Nat) : (⟨g, 0, none⟩ : Addr).add i = ⟨g, i, none⟩ := by unfold Addr.add; split <;> simp_all
/-- What the pieces of frag.Split are. -/
theorem St.of_R {w0 w : World} {base : Nat} {A : Option Addr} {n c : Nat} {xs : List S68} (h : Kd.R k68 68 w base (fun _ => True) (.slice A n c) xs) (hb : w0.heap.size ≤ base) (hB : Below w0.heap.size w0 w) (hn : 0 < n) : ∃ g ts, A = some ⟨g, 0, none⟩ ∧ ts.length = n ∧ St w0 g ts w := by
  have h' := h
  obtain ⟨-, inner, hown, -⟩ := h'
  obtain ⟨-, ⟨e, h0⟩ | ⟨g, cap, cur, e, hg, hh, -⟩⟩ := hown
  · injection e with _ e2 _; omega
  · injection e with e1 e2 e3
    subst e1
    let f : Nat → Option Addr × Nat × Nat := fun i => match cur[i * 11 + 10]? with
      | some (.slice A n c) => (A, n, c)
      | _ => (none, 0, 0)
    have key : ∀ i, i < n → cur[i * 11 + 10]? = some (sl (f i)) ∧ Own1 w0.heap.size w (sl (f i)) (f i).2.1 := fun i hi => by
      obtain ⟨cs, hl, hM, hc, -⟩ := Kd.R_elem h ⟨0, 0, false, false, 0, 0, 0, 0, 0, [], []⟩ (i : Int) (by omega) (by omega)
      generalize xs.getD ((i : Int)).toNat ⟨0, 0, false, false, 0, 0, 0, 0, 0, [], []⟩ = x at hM
      obtain ⟨v9, v10, rfl, -, g10⟩ := k68_openM hM
      obtain ⟨A10, c10, rfl⟩ := Kd.R_slice g10
      have hx := hc 10 _ rfl
      rw [blk_cell hh, Int.toNat_natCast] at hx
      have hx' : cur[i * 11 + 10]? = some (.slice A10 x.f10.length c10) := hx
      have hf : f i = (A10, x.f10.length, c10) := by show (match cur[i * 11 + 10]? with | some (.slice A n c) => (A, n, c) | _ => (none, 0, 0)) = _; rw [hx']
      rw [hf]
      exact ⟨hx', Own1.of_R g10 hb⟩
    refine ⟨g, (List.range n).map f, rfl, by simp, ⟨cur, hh, fun i t ht => ?_⟩, fun t ht => ?_, hB⟩
    · have hi : i < n := by have := (List.getElem?_eq_some_iff.1 ht).1; simpa using this
      rw [List.getElem?_map, List.getElem?_range hi] at ht
      have : f i = t := by simpa using ht
      rw [← this]
      exact (key i hi).1
    · obtain ⟨i, hi, rfl⟩ := List.mem_map.1 ht
      exact (key i (by simpa using hi)).2
theorem St.cellA {w0 w : World} {g : Nat} {ad : Addr} {ts : List (Option Addr × Nat × Nat)} (ha : ad = ⟨g, 0, none⟩) (h : St w0 g ts w) {i : Nat} {A : Option Addr} {n c : Nat} (ht : ts[i]? = some (A, n, c)) : w.cell? ⟨(ad.add (i * 11)).block, (ad.add (i * 11)).off + 10, none⟩ = some (.slice A n c) := by
  rw [ha, add_plain_]
  exact h.cell ht
theorem St.setA {w0 w : World} {g : Nat} {ts : List (Option Addr × Nat × Nat)} (h : St w0 g ts w) {g' j : Nat} {ad : Addr} (ha : ad = ⟨g', 0, none⟩) {cur : Array Value} (h0 : w0.heap.size ≤ g') (h5 : w.heap[g']? = some (.cells cur 5 (0, 0))) (z : Int) : St w0 g ts (w.setCell (ad.add j) (.int .u8 z)) := by
  rw [ha, add_plain_]
  exact h.set h0 h5 z
theorem St.byteA {w0 w : World} {g : Nat} {ts : List (Option Addr × Nat × Nat)} (h : St w0 g ts w) {i j : Nat} {A : Option Addr} {n c : Nat} (ht : ts[i]? = some (A, n, c)) (hj : j < n) :
    ∃ ad, A = some ad ∧ n ≤ maxLen ∧ (∃ z, w.cell? (ad.add j) = some (.int .u8 z)) ∧ w.frozen? (ad.add j) = false ∧ ∀ z, St w0 g ts (w.setCell (ad.add j) (.int .u8 z)) := by
  obtain ⟨g', e, ⟨z, hz⟩, hf, h0, hn, cur, h5⟩ := h.byte ht hj
  refine ⟨⟨g', 0, none⟩, e, hn, ⟨z, ?_⟩, ?_, fun z => h.setA rfl h0 h5 z⟩
  · rw [add_plain_]; exact hz
  · rw [add_plain_]; exact hf
theorem same_go (l : List S68) (hl : l.length ≤ 9223372036854775807) : ∀ (m i k : Nat), l.length - i = m → i ≤ l.length → m < k → towroperef11_Same.l0 k l l (i : Int) = some true := by
  intro m
  induction m with
  | zero =>
    intro i k hm hi hk
    obtain ⟨k, rfl⟩ : ∃ k', k = k' + 1 := ⟨k - 1, by omega⟩
    simp only [towroperef11_Same.l0]
    rw [if_neg (by omega)]
  | succ m ih =>
    intro i k hm hi hk
    obtain ⟨k, rfl⟩ : ∃ k', k = k' + 1 := ⟨k - 1, by omega⟩
    simp only [towroperef11_Same.l0]
    rw [if_pos (by omega), if_pos (by omega), if_pos (by omega)]
    have hs : ∀ x : S68, towroperef06_Same.f x.f0 x.f1 x.f2 x.f3 x.f4 x.f5 x.f6 x.f7 x.f8 x.f9 x.f10 x.f0 x.f1 x.f2 x.f3 x.f4 x.f5 x.f6 x.f7 x.f8 x.f9 x.f10 = some true := fun x => by simp [towroperef06_Same.f]
    rw [hs]
    simp only [Option.bind_some, if_true]
    rw [show wrap64 ((i : Int) + 1) = ((i + 1 : Nat) : Int) from by unfold wrap64; omega]
    exact ih (i + 1) k (by omega) (by omega) (by omega)
theorem same_all (l : List S68) (hl : l.length ≤ 9223372036854775807) : towroperef11_Same.f (l.length + 1) l l = some true := by
  unfold towroperef11_Same.f
  rw [if_pos rfl]
  exact same_go l hl l.length 0 _ (by omega) (by omega) (by omega)
theorem sames_calls (l : List S68) (n : Nat) (hn : l.length = n) (hl : n ≤ 9223372036854775807) (A B : Option Addr) (c d : Nat) (w : World) (hA : Kd.C k68 w A n l) (hc : n ≤ c) (hB : Kd.C k68 w B n l) (hd : n ≤ d) :
    Calls Try.prog 42 #[.slice A n c, .slice B n d] w fun e w' => e = .returned (.bool true) ∧ Below w.heap.size w w' := by
  subst hn
  exact towroperef11_Same.calls (l.length + 1) A c l B d l true w hA hc hB hd (same_all l hl)
theorem rsplit_any (a0 a1 : Int) (a2 a3 : Bool) (a4 a5 a6 a7 a8 : Int) (A9 : Option Addr) (N9 c9 : Nat) (l9 : List Int) (A10 : Option Addr) (N10 c10 : Nat) (l10 : List Int) (mtu : Int) (w : World)
    (hn9 : l9.length = N9) (hr9 : Kd.C (Kd.int .u8) w A9 N9 l9) (hc9 : N9 ≤ c9) (hn10 : l10.length = N10) (hr10 : Kd.C (Kd.int .u8) w A10 N10 l10) (hc10 : N10 ≤ c10) (hlong : longF ⟨a0, a1, a2, a3, a4, a5, a6, a7, a8, l9, l10⟩ = false) (hb : HCar.bytes l9 = true) :
    Calls Try.prog 43 #[.agg #[.int .u8 a0, .int .u16 a1, .bool a2, .bool a3, .int .i64 a4, .int .u8 a5, .int .u8 a6, .int .u32 a7, .int .u32 a8, .slice A9 N9 c9, .slice A10 N10 c10], .int .i64 mtu] w fun e w' => ∃ v : Value, e = .returned (.tuple #[v, .int .i64 (splitT ⟨a0, a1, a2, a3, a4, a5, a6, a7, a8, l9, l10⟩ mtu).2]) ∧ (∃ A c, v = .slice A (splitT ⟨a0, a1, a2, a3, a4, a5, a6, a7, a8, l9, l10⟩ mtu).1.length c ∧ (splitT ⟨a0, a1, a2, a3, a4, a5, a6, a7, a8, l9, l10⟩ mtu).1.length ≤ c ∧ Kd.C k68 w' A (splitT ⟨a0, a1, a2, a3, a4, a5, a6, a7, a8, l9, l10⟩ mtu).1.length (splitT ⟨a0, a1, a2, a3, a4, a5, a6, a7, a8, l9, l10⟩ mtu).1) ∧ Below w.heap.size w w' := by
  subst hn9; subst hn10
  have hh := of_decide_eq_false hlong
  simp only at hh
  obtain ⟨k, hk⟩ := HSplitC.splitR a0 a1 a2 a3 a4 a5 a6 a7 a8 l9 l10 mtu (by omega) (by omega) hb
  generalize splitT ⟨a0, a1, a2, a3, a4, a5, a6, a7, a8, l9, l10⟩ mtu = RES at *
  obtain ⟨r1, r2⟩ := RES
  refine (towroperef11_Split.calls k a0 a1 a2 a3 a4 a5 a6 a7 a8 _ A9 c9 l9 _ A10 c10 l10 mtu r1 r2 w (Kd.V_mk hc9 (Kd.C_F (Kd.heap_int .u8) hr9)) (Kd.V_mk hc10 (Kd.C_F (Kd.heap_int .u8) hr10)) hk).mono ?_
  rintro e w' ⟨v, he, hN, hB⟩
  exact ⟨v, he, Kd.N_reads hN, hB⟩
theorem St.of_R_any {w0 w : World} {base : Nat} {A : Option Addr} {n c : Nat} {xs : List S68} (h : Kd.R k68 68 w base (fun _ => True) (.slice A n c) xs) (hb : w0.heap.size ≤ base) (hB : Below w0.heap.size w0 w) : ∃ g ts, (0 < n → A = some ⟨g, 0, none⟩ ∧ ts.length = n) ∧ (0 < n → St w0 g ts w) := by
  by_cases hn : 0 < n
  · obtain ⟨g, ts, h1, h2, h3⟩ := St.of_R h hb hB hn
    exact ⟨g, ts, fun _ => ⟨h1, h2⟩, fun _ => h3⟩
  · exact ⟨0, [], fun h => absurd h hn, fun h => absurd h hn⟩
def num : Value → Nat
  | .int _ n => n.toNat
  | _ => 0
end Go.Proofs.Ytfmfpofbefgbgaa.HSplitQ
