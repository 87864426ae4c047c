/- pool: Provide of a group. Conditions: each theorem's own. -/
import Derived.Test.YtfmfpofbefgbgaaHPool9
namespace Go.Proofs.Ytfmfpofbefgbgaa.HPool
open Go.RowKit Go.Proofs.YtfmfpofbefgbgaaW.PrintWords Go.Proofs.YtfmfpofbefgbgaaW.PrintLast Go.Proofs.YtfmfpofbefgbgaaW.PrintMore Go.Proofs.Ytfmfpofbefgbgaa.HMap Go.Proofs.Ytfmfpofbefgbgaa.HSl Go.Maps Go.ChangeMaps Go.MapKept Go.Proofs.Ytfmfpofbefgbgaa.HReg
set_option linter.unusedVariables false
set_option linter.unusedSimpArgs false
set_option linter.unusedSectionVars false
/-- A group with k buffers more, from f on. -/
def prov (g : Gp) (f z : Int) (k : Nat) : Gp := ⟨fun y => if f ≤ y ∧ y < f + k then some (z, false) else g.m y, g.n + k, g.fr ++ (List.range k).map (fun j : Nat => f + (j : Int))⟩
theorem prov_zero (g : Gp) (f z : Int) : prov g f z 0 = g := by
  unfold prov
  have : (fun y => if f ≤ y ∧ y < f + ((0 : Nat) : Int) then some (z, false) else g.m y) = g.m := by
    funext y; rw [if_neg (by omega)]
  rw [this]
  simp
theorem prov_m (g : Gp) (f z : Int) (k : Nat) (h : g.m (f + k) = none) : (prov g f z k).m (f + k) = none := by
  show (if _ then _ else _) = _
  rw [if_neg (by omega), h]
theorem prov_succ (g : Gp) (f z : Int) (k : Nat) : (⟨upd (prov g f z k).m (f + k) (z, false), (prov g f z k).n + 1, (prov g f z k).fr ++ [f + k]⟩ : Gp) = prov g f z (k + 1) := by
  have : upd (prov g f z k).m (f + k) (z, false) = (prov g f z (k + 1)).m := by
    funext y
    show (if y = f + k then some (z, false) else if f ≤ y ∧ y < f + k then some (z, false) else g.m y) = if f ≤ y ∧ y < f + ((k + 1 : Nat) : Int) then some (z, false) else g.m y
    by_cases h1 : y = f + k
    · rw [if_pos h1, if_pos (by omega)]
    · by_cases h2 : f ≤ y ∧ y < f + k
      · rw [if_neg h1, if_pos h2, if_pos (by omega)]
      · rw [if_neg h1, if_neg h2, if_neg (by omega)]
  rw [this]
  simp only [prov, List.range_succ, List.map_append, List.map_cons, List.map_nil, List.append_assoc, Nat.add_assoc]
def Bad (f n z : Int) : Prop := n < 1 ∨ 1024 < n ∨ f < 0 ∨ 65536 - n < f ∨ z < 1 ∨ 65536 < z
theorem provide_arg {b0 pb : Nat} {w : World} {mp : Nat → Nat} {fv : Nat → Value} {s : Nat → Gp} (h : Pb b0 w pb mp fv s) (i : Nat) (hi : i < 16) (f n z : Int) (hb : Bad f n z) :
    Calls Try.prog 30 #[.pointer (some ⟨pb, 0, none⟩), .int .i64 i, .int .i64 f, .int .i64 n, .int .i64 z] w fun e w' => e = .returned (.int .i64 1) ∧ w = w' := by
  have HC := Aside0.mk (of_in h i hi)
  clear h hi
  by_cases c1 : n < 1
  · have e1 : decide (n < 1) = true := decide_eq_true c1
    clear hb c1
    go_enter Try.func30, Try.ntmps30
    go_wp2_with (go_at_call 65; refine HC.out.mono ?_; rintro e w1 ⟨rfl, rfl⟩)
    go_ret
    exact ⟨rfl, rfl⟩
  have e1 : decide (n < 1) = false := decide_eq_false c1
  by_cases c2 : 1024 < n
  · have e2 : decide (1024 < n) = true := decide_eq_true c2
    clear hb c1 c2
    go_enter Try.func30, Try.ntmps30
    go_wp2_with (go_at_call 65; refine HC.out.mono ?_; rintro e w1 ⟨rfl, rfl⟩)
    go_ret
    exact ⟨rfl, rfl⟩
  have e2 : decide (1024 < n) = false := decide_eq_false c2
  have wr : IntKind.i64.wrap (65536 - n) = 65536 - n := wid _ (by omega) (by omega)
  have wr2 : wrap64 (65536 - n) = 65536 - n := by unfold wrap64; omega
  by_cases c3 : f < 0
  · have e3 : decide (f < 0) = true := decide_eq_true c3
    clear hb c1 c2 c3
    go_enter Try.func30, Try.ntmps30
    go_wp2_with (go_at_call 65; refine HC.out.mono ?_; rintro e w1 ⟨rfl, rfl⟩)
    go_ret
    exact ⟨rfl, rfl⟩
  have e3 : decide (f < 0) = false := decide_eq_false c3
  by_cases c4 : 65536 - n < f
  · have e4 : decide (65536 - n < f) = true := decide_eq_true c4
    clear hb c1 c2 c3 c4
    go_enter Try.func30, Try.ntmps30
    go_wp2_with (go_at_call 65; refine HC.out.mono ?_; rintro e w1 ⟨rfl, rfl⟩)
    go_ret
    exact ⟨rfl, rfl⟩
  have e4 : decide (65536 - n < f) = false := decide_eq_false c4
  by_cases c5 : z < 1
  · have e5 : decide (z < 1) = true := decide_eq_true c5
    clear hb c1 c2 c3 c4 c5
    go_enter Try.func30, Try.ntmps30
    go_wp2_with (go_at_call 65; refine HC.out.mono ?_; rintro e w1 ⟨rfl, rfl⟩)
    go_ret
    exact ⟨rfl, rfl⟩
  have e5 : decide (z < 1) = false := decide_eq_false c5
  have e6 : decide (65536 < z) = true := decide_eq_true (by unfold Bad at hb; omega)
  clear hb c1 c2 c3 c4 c5
  go_enter Try.func30, Try.ntmps30
  go_wp2_with (go_at_call 65; refine HC.out.mono ?_; rintro e w1 ⟨rfl, rfl⟩)
  go_ret
  exact ⟨rfl, rfl⟩
/-- Provide where its arguments may be: how it ends. -/
def ProvEnd (b0 pb : Nat) (w : World) (mp : Nat → Nat) (fv : Nat → Value) (s : Nat → Gp) (i : Nat) (f z : Int) (c : Nat) (e : Ending) (w' : World) : Prop :=
  (e = .returned (.int .i64 140) ∧ (∃ j : Nat, j < c ∧ ((s i).m (f + j)).isSome = true) ∧ Below w.heap.size w w') ∨
  (e = .returned (.int .i64 5) ∧ (∀ j : Nat, j < c → (s i).m (f + j) = none) ∧ 1024 < (s i).n + c ∧ Below w.heap.size w w') ∨
  (e = .returned (.int .i64 0) ∧ (∀ j : Nat, j < c → (s i).m (f + j) = none) ∧ (s i).n + c ≤ 1024 ∧ ∃ fv', Pb b0 w' pb mp fv' (at_ s i (prov (s i) f z c)) ∧ Pv w w' pb mp fv fv')
theorem wf_small {n : Int} (h0 : -4611686018427387904 ≤ n) (h1 : n ≤ 4611686018427387904) : (Lit.int .i64 n).wf = true := by
  unfold Lit.wf
  have h2 : IntKind.i64.min = -9223372036854775808 := by decide
  have h3 : IntKind.i64.max = 9223372036854775807 := by decide
  simp
  omega
set_option maxRecDepth 100000 in
set_option maxHeartbeats 16000000 in
theorem provide_any {bs pb : Nat} {w : World} {mp : Nat → Nat} {fv : Nat → Value} {s : Nat → Gp} (h : Pb bs w pb mp fv s) (hb0 : bs ≤ w.heap.size) (i : Nat) (hi : i < 16) (hg : (s i).n ≤ 1024 ∧ (s i).fr.length ≤ 1024) (f z : Int) (c : Nat) (hc : 1 ≤ c ∧ c ≤ 1024) (hf : 0 ≤ f ∧ f ≤ 65536 - c) (hz : 1 ≤ z ∧ z ≤ 65536) :
    Calls Try.prog 30 #[.pointer (some ⟨pb, 0, none⟩), .int .i64 i, .int .i64 f, .int .i64 c, .int .i64 z] w (ProvEnd bs pb w mp fv s i f z c) := by
  have HC := Aside0.mk (of_in h i hi)
  have e1 : decide ((c : Int) < 1) = false := decide_eq_false (by omega)
  have e2 : decide (1024 < (c : Int)) = false := decide_eq_false (by omega)
  have wr2 : wrap64 (65536 - (c : Int)) = 65536 - c := by unfold wrap64; omega
  have wr1 : IntKind.i64.wrap (65536 - (c : Int)) = 65536 - c := wid _ (by omega) (by omega)
  have e3 : decide (f < 0) = false := decide_eq_false (by omega)
  have e4 : decide (65536 - (c : Int) < f) = false := decide_eq_false (by omega)
  have e5 : decide (z < 1) = false := decide_eq_false (by omega)
  have e6 : decide (65536 < z) = false := decide_eq_false (by omega)
  have HI := Aside0.mk (And.intro hi (And.intro hb0 (And.intro hg (And.intro hc (And.intro hf hz)))))
  have HP := Aside0.mk h
  have hpb := blk_lt h.blk.choose_spec.1
  clear h hi hb0 hg hc hf hz
  go_enter Try.func30, Try.ntmps30
  go_upto_region 8 with (go_at_call 65; refine HC.out.mono ?_; rintro e w1 ⟨rfl, rfl⟩)
  clear HC e1 e2 wr2 wr1 e3 e4 e5 e6
  go_wp2
  have HH : Aside0 (0 ≤ c ∧ (∀ j : Nat, j < 0 → (s i).m (f + j) = none) ∧ Below w.heap.size w w) := ⟨Nat.zero_le _, fun j hj => absurd hj (Nat.not_lt_zero _), Below.refl _ _⟩
  go_loopw [49] (fun o wr => ∃ k : Nat, o = .int .i64 k ∧ Aside0 (k ≤ c ∧ (∀ j : Nat, j < k → (s i).m (f + j) = none) ∧ Below w.heap.size w wr)) (fun o _ => c - num o)
  case atStart => exact ⟨0, rfl, HH⟩
  case round =>
    clear HH
    obtain ⟨k, rfl, ⟨hk, hno, hB⟩⟩ := hrel
    by_cases hlt : k < c
    · have b0 : decide ((k : Int) < (c : Int)) = true := decide_eq_true (by omega)
      have b1 : decide (k < c) = true := decide_eq_true hlt
      have b2 : ((k : Int) < (c : Int)) = True := eq_true (by omega)
      have b3 : (k < c) = True := eq_true hlt
      have hI := HI.out
      have w1 : IntKind.i64.wrap ((k : Int) + 1) = (k : Int) + 1 := wid _ (by omega) (by omega)
      have w2 : IntKind.i64.wrap (f + (k : Int)) = f + (k : Int) := wid _ (by omega) (by omega)
      have hl := (HP.out.below hB).look2 hI.1 (a := f + (k : Int)) (wf_small (by omega) (by omega))
      have hc := ((HP.out.below hB).cell hI.1).1
      have hpr := Nat.lt_of_lt_of_le hpb hB.size
      obtain ⟨v, q, hvq⟩ : ∃ v q, ((s i).m (f + (k : Int))).getD (0, false) = v ∧ ((s i).m (f + (k : Int))).isSome = q := ⟨_, _, rfl, rfl⟩
      rw [hvq.1, hvq.2] at hl
      obtain ⟨vz, vo⟩ := v
      simp only at hl
      have HB := Aside0.mk (below_alloc hB (.cells #[.int .i64 vz, .bool vo] 126))
      have HK := Aside0.mk (And.intro hlt (And.intro hno hvq.2))
      clear hk hlt hno hB hvq hI
      cases q
      · go_wp2
        go_roundw
        case rel => exact ⟨k + 1, by go_num, HK.out.1, fun j hj => (by
          by_cases e : j = k
          · subst e; have := HK.out.2.2; simpa using this
          · exact HK.out.2.1 j (by omega)), HB.out⟩
        case measure => simp only [num]; have := HK.out.1; omega
      · go_wp2
        go_ret
        exact .inl ⟨rfl, ⟨k, HK.out.1, HK.out.2.2⟩, HB.out⟩
    · have b0 : decide ((k : Int) < (c : Int)) = false := decide_eq_false (by omega)
      have b1 : decide (k < c) = false := decide_eq_false hlt
      obtain rfl : k = c := by omega
      have hI := HI.out
      have hP := HP.out.below hB
      have hc := (hP.cell hI.1).1
      have hl := hP.len hI.1 3
      have wn : IntKind.i64.wrap (((s i).n : Int) + (k : Int)) = ((s i).n : Int) + (k : Int) := wid _ (by omega) (by omega)
      have HP2 := Aside0.mk hP
      have HB := Aside0.mk hB
      have HNO := Aside0.mk hno
      have hpr := Nat.lt_of_lt_of_le hpb hB.size
      by_cases hfull : 1024 < (s i).n + k
      · have b2 : decide (1024 < ((s i).n : Int) + (k : Int)) = true := decide_eq_true (by omega)
        have HF := Aside0.mk hfull
        clear hfull hI hP hB hno hk hlt HP
        go_wp2
        go_ret
        exact .inr (.inl ⟨rfl, HNO.out, HF.out, HB.out⟩)
      · have b2 : decide (1024 < ((s i).n : Int) + (k : Int)) = false := decide_eq_false (by omega)
        have HF : Aside0 ((s i).n + k ≤ 1024) := ⟨by omega⟩
        clear hfull hI hP hB hno hk hlt HP
        go_wp2
        clear b0 b1 b2 wn hl hc hpr
        have HV := Aside0.mk (Pv.of_below (mp := mp) (fv := fv) (pb := pb) HB.out)
        have HH : Aside0 (0 ≤ k ∧ ∃ fv', Pb bs wr pb mp fv' (at_ s i (prov (s i) f z 0)) ∧ Pv w wr pb mp fv fv') := ⟨Nat.zero_le _, fv, by
          rw [prov_zero]
          have : at_ s i (s i) = s := by funext j; by_cases e : j = i; (subst e; exact at_eq _ _ _); exact at_ne _ _ e
          rw [this]; exact HP2.out, HV.out⟩
        clear HV HP2 HB
        go_loopw [74] (fun o wq => ∃ q : Nat, o = .int .i64 q ∧ Aside0 (q ≤ k ∧ ∃ fv', Pb bs wq pb mp fv' (at_ s i (prov (s i) f z q)) ∧ Pv w wq pb mp fv fv')) (fun o _ => k - num o)
        case atStart => exact ⟨0, rfl, HH⟩
        case round =>
          clear HH
          obtain ⟨q, rfl, ⟨hq, fv', hP, hV⟩⟩ := hrel
          by_cases hlt : q < k
          · have b0 : decide ((q : Int) < (k : Int)) = true := decide_eq_true (by omega)
            have b1 : decide (q < k) = true := decide_eq_true hlt
            have b2 : ((q : Int) < (k : Int)) = True := eq_true (by omega)
            have b3 : (q < k) = True := eq_true hlt
            have hI := HI.out
            have w1 : IntKind.i64.wrap ((q : Int) + 1) = (q : Int) + 1 := wid _ (by omega) (by omega)
            have w2 : IntKind.i64.wrap (f + (q : Int)) = f + (q : Int) := wid _ (by omega) (by omega)
            have hc := (hP.cell hI.1).1
            have hpr := blk_lt hP.blk.choose_spec.1
            obtain ⟨w5, hup, hT5, hG5⟩ := hP.setM hI.1 (a := f + (q : Int)) (wf_small (by omega) (by omega)) (z, false)
            simp only [at_at, at_eq] at hT5
            rw [prov_m _ _ _ _ (HNO.out q hlt)] at hT5
            simp only [Option.isSome_none, if_false, Bool.false_eq_true] at hT5
            have HV5 := Aside0.mk (hV.trans (Pv.grown_map hG5 hI.1))
            have HT := Aside0.mk hT5
            have HK := Aside0.mk hlt
            have HL : Aside0 ((prov (s i) f z q).fr.length ≤ 100000) := ⟨by simp [prov]; omega⟩
            simp only at hup
            clear hT5 hG5 hq hP hV hlt hI
            go_upto_region 21 with (fail)
            clear hup hc hpr
            have HS0 := Aside0.mk (HT.out.F i HI.out.1)
            obtain ⟨A1, c1, hv, -, -⟩ := HS0.out.shape
            rw [at_eq] at hv
            have hz := (HT.out.cell HI.out.1).2.1
            have hf := (HT.out.cell HI.out.1).2.2
            have hpr := blk_lt HT.out.blk.choose_spec.1
            rw [hv] at hz
            have HVV := Aside0.mk hv
            rw [hv, at_eq] at HS0
            simp only at hz HS0
            clear hv
            have HSZ : Aside0 (bs ≤ w5.heap.size) := ⟨Nat.le_trans HI.out.2.1 HV5.out.size⟩
            have hQ := @prov_succ (s i) f z q
            have HQ := Aside0.mk hQ
            clear hQ
            obtain ⟨rs, hrs⟩ : ∃ rs, (prov (s i) f z q).fr = rs := ⟨_, rfl⟩
            rw [hrs] at HL HS0 HVV hz HT HQ
            go_wp2_with (((with_reducible refine gate_builtin (b := .append) (xs := #[.tmp 90, .tmp 94]) rfl ?_); refine append1_step rfl (.tmp 90) (.tmp 94) rfl w5.heap.size (f + (q : Int)) rfl rfl (HS0.out.below (below_alloc (Below.refl _ w5) _)) ?aa ?al ((blk_cell (blk_new w5 _) 0).trans rfl) ?_; (case aa => exact Nat.le_trans HSZ.out (below_alloc (Below.refl w5.heap.size w5) _).size); (case al => exact HL.out); intro v3 w6 hS hG hO; obtain ⟨A3, c3, rfl, -, -⟩ := hS.shape; generalize (rs ++ [f + (q : Int)]).length = n3 at hS hO ⊢; have hG1 : (w5.alloc (.cells #[.int .i64 (f + (q : Int))] 3)).grownBy w6 (fv' i).ownBlock := (by rw [HVV.out]; exact hG); have T6 := Aside0.mk ((HT.out.below (below_alloc (Below.refl w5.heap.size w5) _)).turnF HI.out.1 hG1 hS (fun k hk => by rw [HVV.out]; exact own_new hO k hk)); obtain ⟨-, k1, k2⟩ := (HT.out.below (below_alloc (Below.refl w5.heap.size w5) (.cells #[.int .i64 (f + (q : Int))] 3))).cellG HI.out.1 hG1; have k3 := Nat.lt_of_lt_of_le hpr (Nat.le_trans (below_alloc (Below.refl w5.heap.size w5) (.cells #[.int .i64 (f + (q : Int))] 3)).size hG1.size); clear hS hG hO hz hf hG1 hpr))
            go_roundw
            case rel =>
              refine ⟨q + 1, by go_num, ⟨HK.out, _, ?_, (HV5.out.trans (Pv.of_below (below_alloc (Below.refl w5.heap.size w5) _))).trans T6.out.2⟩⟩
              have h6 := T6.out.1
              simp only [at_at, at_eq] at h6
              rw [← HQ.out]
              exact h6
            case measure => simp only [num]; have := HK.out; omega
          · have b0 : decide ((q : Int) < (k : Int)) = false := decide_eq_false (by omega)
            have b1 : decide (q < k) = false := decide_eq_false hlt
            obtain rfl : q = k := by omega
            have HP := Aside0.mk hP
            have HV := Aside0.mk hV
            clear hq hlt hP hV
            go_wp2
            go_ret
            exact .inr (.inr ⟨rfl, HNO.out, HF.out, _, HP.out, HV.out⟩)
end Go.Proofs.Ytfmfpofbefgbgaa.HPool
