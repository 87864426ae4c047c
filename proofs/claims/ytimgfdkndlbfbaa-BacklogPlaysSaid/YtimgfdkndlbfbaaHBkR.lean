/- The reference of backlog, by hand: place, IDs, Same. Conditions: each theorem's own. -/
import Derived.Test.YtimgfdkndlbfbaaPBackLx2
namespace Go.Proofs.Ytimgfdkndlbfbaa.HBkR
open Go.RowKit Go.Proofs.YtimgfdkndlbfbaaW.PrintWords Go.Proofs.YtimgfdkndlbfbaaW.PrintLast Go.Proofs.YtimgfdkndlbfbaaW.PrintMore Go.Proofs.Ytimgfdkndlbfbaa.HBk
set_option linter.unusedVariables false
set_option linter.unusedSimpArgs false
/-- A slice of pairs (a number, whether it is ready), by its cells. -/
def Ones (w : World) (A : Option Addr) (l : List (Int × Bool)) : Prop := ∀ i, i < l.length → ∃ ad, A = some ad ∧ w.cell? (ad.add (i * 2)) = some (.int .i64 (l.getD i (0, false)).1) ∧ w.cell? ⟨(ad.add (i * 2)).block, (ad.add (i * 2)).off + 1, none⟩ = some (.bool (l.getD i (0, false)).2)
theorem Ones.below {w w' : World} {A : Option Addr} {l : List (Int × Bool)} (h : Ones w A l) (hb : Below w.heap.size w w') : Ones w' A l := fun i hi => by
  obtain ⟨ad, e, h1, h2⟩ := h i hi
  exact ⟨ad, e, pw_cell_below hb h1, pw_cell_below hb h2⟩
/-- The reference's log, as a value. -/
def rv (m0 m1 : Int) (A : Option Addr) (n c : Nat) (ad tk rf : Int) : Value := .agg #[.int .i64 m0, .int .i64 m1, .slice A n c, .int .i64 ad, .int .i64 tk, .int .i64 rf]
set_option maxRecDepth 100000 in
set_option maxHeartbeats 4000000 in
theorem place_calls (m0 m1 : Int) (A : Option Addr) (n c : Nat) (ad tk rf : Int) (l : List (Int × Bool)) (hn : l.length = n) (hl : n ≤ 1000) (x : Int) (w : World) (h : Ones w A l) : Calls Try.prog 81 #[rv m0 m1 A n c ad tk rf, .int .i64 x] w fun e w' => e = .returned (.int .i64 (ix (l.map (·.1)) x)) ∧ Below w.heap.size w w' := by
  have HO := Aside0.mk h
  have HN := Aside0.mk (And.intro hn hl)
  unfold rv
  clear h hn hl
  go_enter Try.func81, Try.ntmps81
  go_wp2
  have hb := blk_new w (.cells #[.int .i64 m0, .int .i64 m1, .slice A n c, .int .i64 ad, .int .i64 tk, .int .i64 rf] 74)
  have HB := Aside0.mk (below_alloc (Below.refl w.heap.size w) (.cells #[.int .i64 m0, .int .i64 m1, .slice A n c, .int .i64 ad, .int .i64 tk, .int .i64 rf] 74))
  have hc2 : (w.alloc (.cells #[.int .i64 m0, .int .i64 m1, .slice A n c, .int .i64 ad, .int .i64 tk, .int .i64 rf] 74)).cell? ⟨w.heap.size, 2, none⟩ = some (.slice A n c) := (blk_cell hb 2).trans rfl
  clear hb
  have HO1 := Aside0.mk (HO.out.below HB.out)
  generalize w.alloc (.cells #[.int .i64 m0, .int .i64 m1, .slice A n c, .int .i64 ad, .int .i64 tk, .int .i64 rf] 74) = w1 at hc2 HB HO1 ⊢
  generalize hg : w.heap.size = g at hc2 ⊢
  clear hg
  go_loop [5] (fun i => ∃ k : Nat, i = .int .i64 k ∧ Aside0 (k ≤ n ∧ ∀ j, j < k → (l.map (·.1)).getD j 0 ≠ x)) (fun i => n - num i)
  case atStart => exact ⟨0, rfl, ⟨Nat.zero_le _, fun j h => absurd h (Nat.not_lt_zero _)⟩⟩
  case round =>
    obtain ⟨k, rfl, ⟨hk, hb⟩⟩ := hrel
    have hnn := HN.out
    by_cases hlt : k < n
    · have c0 : decide ((k : Int) < (n : Int)) = true := decide_eq_true (by omega)
      have c1 : decide (k < n) = true := decide_eq_true hlt
      have c2 : (k < n) = True := eq_true hlt
      have c3 : ((k : Int) < (n : Int)) = True := eq_true (by omega)
      obtain ⟨ad2, rfl, hx, -⟩ := HO1.out k (by omega)
      have e1 : IntKind.i64.wrap ((k : Int) + 1) = (k : Int) + 1 := wid _ (by omega) (by omega)
      obtain ⟨y, hy⟩ : ∃ y, (l.getD k (0, false)).1 = y := ⟨_, rfl⟩
      have hy2 : (l.map (·.1)).getD k 0 = y := by rw [← hy]; simp [List.getD_eq_getElem?_getD, show k < l.length by omega]
      rw [hy] at hx
      by_cases hxy : y = x
      · have f0 : (y == x) = true := beq_iff_eq.2 hxy
        have f1 : decide (y = x) = true := decide_eq_true hxy
        have f2 : (y = x) = True := eq_true hxy
        have HK := Aside0.mk (ix_at (xs := l.map (·.1)) (x := x) (k := k) (by simp; omega) (hy2.trans hxy) hb)
        clear hk hb hlt hy hy2 hxy hnn
        go_wp2
        go_ret
        exact ⟨by rw [HK.out]; rfl, HB.out⟩
      · have f0 : (y == x) = false := beq_eq_false_iff_ne.2 hxy
        have f1 : decide (y = x) = false := decide_eq_false hxy
        have f2 : (y = x) = False := eq_false hxy
        have HK : Aside0 (k + 1 ≤ n ∧ ∀ j, j < k + 1 → (l.map (·.1)).getD j 0 ≠ x) := ⟨hlt, fun j h => by
          by_cases hj : j = k
          · subst hj; rw [hy2]; exact hxy
          · exact hb j (by omega)⟩
        clear hk hb hlt hy hy2 hxy hnn
        go_wp2
        go_round
        case rel => exact ⟨k + 1, by go_num, HK⟩
        case measure => simp only [num]; have := HK.out.1; omega
    · have c0 : decide ((k : Int) < (n : Int)) = false := decide_eq_false (by omega)
      have c1 : decide (k < n) = false := decide_eq_false hlt
      have HK := Aside0.mk (ix_none (xs := l.map (·.1)) (x := x) (fun j h => hb j (by simp at h; omega)))
      clear hk hb hlt hnn
      go_wp2
      go_ret
      exact ⟨by rw [HK.out]; rfl, HB.out⟩
/-- Those of the first j that are ready (t), or not. -/
def idsF (l : List (Int × Bool)) (t : Bool) (j : Nat) : List Int := ((l.take j).filter (fun p => p.2 == t)).map (·.1)
theorem idsF_same {l : List (Int × Bool)} {t : Bool} {j : Nat} (hj : j < l.length) (h : ((l.getD j (0, false)).2 == t) = false) : idsF l t (j + 1) = idsF l t j := by
  unfold idsF
  rw [List.getD_eq_getElem?_getD, List.getElem?_eq_getElem hj] at h
  rw [List.take_succ_eq_append_getElem hj, List.filter_append]
  simp only [Option.getD_some] at h
  simp [List.filter_cons, h]
theorem idsF_more {l : List (Int × Bool)} {t : Bool} {j : Nat} (hj : j < l.length) (h : ((l.getD j (0, false)).2 == t) = true) : idsF l t (j + 1) = idsF l t j ++ [(l.getD j (0, false)).1] := by
  unfold idsF
  rw [List.getD_eq_getElem?_getD, List.getElem?_eq_getElem hj] at h ⊢
  rw [List.take_succ_eq_append_getElem hj, List.filter_append]
  simp only [Option.getD_some] at h
  simp [List.filter_cons, h]
theorem idsF_len (l : List (Int × Bool)) (t : Bool) (j : Nat) : (idsF l t j).length ≤ l.length := by
  unfold idsF
  rw [List.length_map]
  exact Nat.le_trans (List.length_filter_le _ _) (by simp; omega)
set_option maxRecDepth 100000 in
set_option maxHeartbeats 4000000 in
theorem ids_calls (m0 m1 : Int) (A : Option Addr) (n c : Nat) (ad tk rf : Int) (l : List (Int × Bool)) (hn : l.length = n) (hl : n ≤ 1000) (t : Bool) (w : World) (h : Ones w A l) : Calls Try.prog 42 #[rv m0 m1 A n c ad tk rf, .bool t] w fun e w' => ∃ v, e = .returned v ∧ Sl w.heap.size w' v (idsF l t n) ∧ Below w.heap.size w w' := by
  have HO := Aside0.mk h
  have HN := Aside0.mk (And.intro hn hl)
  unfold rv
  clear h hn hl
  go_enter Try.func42, Try.ntmps42
  go_wp2
  have hb := blk_new w (.cells #[.int .i64 m0, .int .i64 m1, .slice A n c, .int .i64 ad, .int .i64 tk, .int .i64 rf] 74)
  have hB := below_alloc (Below.refl w.heap.size w) (.cells #[.int .i64 m0, .int .i64 m1, .slice A n c, .int .i64 ad, .int .i64 tk, .int .i64 rf] 74)
  have hO1 := HO.out.below hB
  have hlt0 := blk_lt hb
  generalize w.alloc (.cells #[.int .i64 m0, .int .i64 m1, .slice A n c, .int .i64 ad, .int .i64 tk, .int .i64 rf] 74) = w1 at hb hB hO1 hlt0 ⊢
  have HB1 := Aside0.mk hB
  generalize hg : w.heap.size = g at hb hlt0 ⊢
  have HI : Aside0 (0 ≤ n ∧ Below w1.heap.size w1 w1 ∧ Sl w1.heap.size w1 (.slice none 0 0) (idsF l t 0) ∧ 0 = (idsF l t 0).length) := ⟨Nat.zero_le _, Below.refl _ _, Sl.nil _ _, rfl⟩
  have HBK := Aside0.mk hb
  have HO1 := Aside0.mk hO1
  have HGG := Aside0.mk hg
  clear hb hB hO1 hlt0 hg HO
  go_loopw [5, 6] (fun rest jv wr2 => ∃ (j : Nat) (B : Option Addr) (r cb : Nat), jv = .int .i64 j ∧ rest = .slice B r cb ∧ Aside0 (j ≤ n ∧ Below w1.heap.size w1 wr2 ∧ Sl w1.heap.size wr2 (.slice B r cb) (idsF l t j) ∧ r = (idsF l t j).length)) (fun _ jv _ => n - num jv)
  case atStart => exact ⟨0, none, 0, 0, rfl, rfl, HI⟩
  case round =>
    clear HI
    obtain ⟨j, B, r, cb, rfl, rfl, ⟨hj, hB, hS, hr⟩⟩ := hrel
    have hnn := HN.out
    have hc2 := (blk_cell (blk_below HBK.out hB) 2).trans rfl
    by_cases hjm : j < n
    · have d1 : decide ((j : Int) < (n : Int)) = true := decide_eq_true (by omega)
      have d2 : decide (j < n) = true := decide_eq_true hjm
      have d3 : (j < n) = True := eq_true hjm
      have d4 : ((j : Int) < (n : Int)) = True := eq_true (by omega)
      have e2 : IntKind.i64.wrap ((j : Int) + 1) = (j : Int) + 1 := wid _ (by omega) (by omega)
      obtain ⟨ad2, rfl, hx, hy⟩ := (HO1.out.below hB) j (by omega)
      obtain ⟨y, hye⟩ : ∃ y, (l.getD j (0, false)).1 = y := ⟨_, rfl⟩
      obtain ⟨q, hqe⟩ : ∃ q, (l.getD j (0, false)).2 = q := ⟨_, rfl⟩
      rw [hye] at hx
      rw [hqe] at hy
      have HB := Aside0.mk (And.intro hB (And.intro hS hr))
      have HJJ := Aside0.mk (And.intro hjm hye)
      cases hqt : (q == t) with
      | false =>
        have HX := Aside0.mk (idsF_same (l := l) (t := t) (j := j) (by omega) (by rw [hqe]; exact hqt))
        clear hj hB hS hr hjm hye hqe hnn
        go_wp2
        go_roundw
        case rel => exact ⟨j + 1, B, r, cb, by go_num, rfl, ⟨HJJ.out.1, HB.out.1, by rw [HX.out]; exact HB.out.2.1, by rw [HX.out]; exact HB.out.2.2⟩⟩
        case measure => simp only [num]; have := HJJ.out.1; omega
      | true =>
        have HX := Aside0.mk (idsF_more (l := l) (t := t) (j := j) (by omega) (by rw [hqe]; exact hqt))
        clear hj hB hS hr hjm hye hqe hnn
        go_wp2_with (((with_reducible refine gate_builtin (b := .append) (xs := #[.tmp 22, .tmp 29]) rfl ?_); refine append1_step rfl (.tmp 22) (.tmp 29) rfl wr.heap.size y rfl rfl (HB.out.2.1.below (below_alloc (Below.refl _ wr) _)) ?aa ?al ((blk_cell (blk_new wr _) 0).trans rfl) ?_; (case aa => exact Nat.le_trans HB.out.1.size (below_alloc (Below.refl wr.heap.size wr) _).size); (case al => have h1 := idsF_len l t j; have := HN.out; omega); intro v5 w5 hS hG hO; obtain ⟨A5, c5, rfl, -, -⟩ := hS.shape; have HB5 := Aside0.mk (pw_below_grown (below_step HB.out.1 (below_alloc (Below.refl wr.heap.size wr) _)) _ (below_step HB.out.1 (below_alloc (Below.refl wr.heap.size wr) _)).size hG (fun g hg => (HB.out.2.1.low g hg).1)); generalize hlen : (idsF l t j ++ [y]).length = m5 at hS hO ⊢; rw [← HJJ.out.2, ← HX.out] at hS; have HS5 := Aside0.mk hS; have HLN := Aside0.mk hlen; clear hS hG hO hlen))
        go_roundw
        case rel => exact ⟨j + 1, A5, _, c5, by go_num, rfl, ⟨HJJ.out.1, HB5.out, HS5.out, by rw [HX.out, HJJ.out.2]; exact HLN.out.symm⟩⟩
        case measure => simp only [num]; have := HJJ.out.1; omega
    · have d1 : decide ((j : Int) < (n : Int)) = false := decide_eq_false (by omega)
      have d2 : decide (j < n) = false := decide_eq_false hjm
      obtain rfl : j = n := by omega
      have P := Aside0.mk (And.intro (hS.mono HB1.out.size) (below_step HB1.out hB))
      clear hj hB hS hr hjm hnn
      go_wp2
      go_ret
      exact ⟨_, rfl, HGG.out ▸ P.out.1, HGG.out ▸ P.out.2⟩
set_option maxRecDepth 100000 in
set_option maxHeartbeats 4000000 in
/-- Two lists that are the same are told so. -/
theorem same_calls {b0 b1 : Nat} {u v : Value} {xs : List Int} (w : World) (hu : Sl b0 w u xs) (hv : Sl b1 w v xs) (hl : xs.length ≤ 1000) : Calls Try.prog 40 #[u, v] w fun e w' => e = .returned (.bool true) ∧ Below w.heap.size w w' := by
  obtain ⟨A, c, rfl, -, -⟩ := hu.shape
  obtain ⟨B, c', rfl, -, -⟩ := hv.shape
  have HU := Aside0.mk hu
  have HV := Aside0.mk hv
  obtain ⟨n, hn⟩ : ∃ n, xs.length = n := ⟨_, rfl⟩
  rw [hn] at HU HV ⊢
  have HN := Aside0.mk (And.intro hn hl)
  have HI : Aside0 (0 ≤ n ∧ Below w.heap.size w w) := ⟨Nat.zero_le _, Below.refl _ _⟩
  clear hu hv hn hl
  go_enter Try.func40, Try.ntmps40
  go_wp2
  go_loopw [5] (fun i wr => ∃ k : Nat, i = .int .i64 k ∧ Aside0 (k ≤ n ∧ Below w.heap.size w wr)) (fun i _ => n - num i)
  case atStart => exact ⟨0, rfl, HI⟩
  case round =>
    clear HI
    obtain ⟨k, rfl, ⟨hk, hB⟩⟩ := hrel
    have hnn := HN.out
    by_cases hlt : k < n
    · have c0 : decide ((k : Int) < (n : Int)) = true := decide_eq_true (by omega)
      have c1 : decide (k < n) = true := decide_eq_true hlt
      have c2 : (k < n) = True := eq_true hlt
      have c3 : ((k : Int) < (n : Int)) = True := eq_true (by omega)
      have e1 : IntKind.i64.wrap ((k : Int) + 1) = (k : Int) + 1 := wid _ (by omega) (by omega)
      obtain ⟨ad, rfl, hx⟩ := PBackL.Sl.get (HU.out.below hB) (show k < xs.length by omega)
      obtain ⟨ad2, rfl, hy⟩ := PBackL.Sl.get (HV.out.below hB) (show k < xs.length by omega)
      obtain ⟨y, hye⟩ : ∃ y, xs.getD k 0 = y := ⟨_, rfl⟩
      rw [hye] at hx hy
      have HK := Aside0.mk (And.intro hlt hB)
      clear hk hB hlt hnn hye
      go_upto_region 6 with (fail)
      go_quiet (fail)
      go_wp2
      go_roundw
      case rel => exact ⟨k + 1, by go_num, ⟨HK.out.1, pw_below_drewN HK.out.2 _⟩⟩
      case measure => simp only [num]; have := HK.out.1; omega
    · have c0 : decide ((k : Int) < (n : Int)) = false := decide_eq_false (by omega)
      have c1 : decide (k < n) = false := decide_eq_false hlt
      have HB := Aside0.mk hB
      clear hk hB hlt hnn
      go_wp2
      go_ret
      exact ⟨rfl, HB.out⟩
end Go.Proofs.Ytimgfdkndlbfbaa.HBkR
