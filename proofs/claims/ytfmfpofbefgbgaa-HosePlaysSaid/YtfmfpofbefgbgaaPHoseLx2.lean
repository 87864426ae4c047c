/- The laws of hose: what HosePlays' function is made of: the acts, the law's own list. Conditions: each theorem's own. -/
import Derived.Test.YtfmfpofbefgbgaaPHoseLx1
import Derived.Deep.RegionHeld3
namespace Go.Proofs.Ytfmfpofbefgbgaa.PHoseL
open Go.RowKit Go.Proofs.YtfmfpofbefgbgaaW.PrintWords Go.Proofs.YtfmfpofbefgbgaaW.PrintLast Go.Proofs.YtfmfpofbefgbgaaW.PrintMore Go.Proofs.Ytfmfpofbefgbgaa.HExt Go.Proofs.Ytfmfpofbefgbgaa.HHose
set_option linter.unusedVariables false
set_option linter.unusedSimpArgs false
/-- An act, by its cells. -/
def Act1 (w : World) (ad : Addr) (d t q : Int) (B : Option Addr) (c : Nat) (l : List Int) : Prop :=
  w.cell? ad = some (.int .i64 d) ∧ w.cell? ⟨ad.block, ad.off + 1, none⟩ = some (.int .i64 t) ∧ w.cell? ⟨ad.block, ad.off + 2, none⟩ = some (.int .i64 q) ∧ w.cell? ⟨ad.block, ad.off + 3, none⟩ = some (.slice B l.length c) ∧ Kd.C (Kd.int .u8) w B l.length l ∧ l.length ≤ c
/-- A slice of acts. -/
def Acts (w : World) (A : Option Addr) (n : Nat) : Prop := ∀ i, i < n → ∃ ad, A = some ad ∧ ∃ d t q B c l, Act1 w (ad.add (i * 4)) d t q B c l
theorem Act1.below {w w' : World} {ad : Addr} {d t q : Int} {B : Option Addr} {c : Nat} {l : List Int} (h : Act1 w ad d t q B c l) (hb : Below w.heap.size w w') : Act1 w' ad d t q B c l :=
  ⟨pw_cell_below hb h.1, pw_cell_below hb h.2.1, pw_cell_below hb h.2.2.1, pw_cell_below hb h.2.2.2.1, Kd.C_below h.2.2.2.2.1 hb, h.2.2.2.2.2⟩
/-- P15.1: how many of n, where so many are. -/
def firstF (n t : Int) : Int := if n < 0 then 0 else if t < n then t else n
set_option maxRecDepth 100000 in
theorem first_calls (n t : Int) (w : World) : Calls Try.prog 22 #[.int .i64 n, .int .i64 t] w fun e w' => e = .returned (.int .i64 (firstF n t)) ∧ w' = w := by
  unfold firstF
  by_cases c : n < 0
  · rw [if_pos c]
    have d : decide (n < 0) = true := decide_eq_true c
    go_enter Try.func22, Try.ntmps22
    go_wp2
    go_ret
    exact ⟨rfl, rfl⟩
  rw [if_neg c]
  have d : decide (n < 0) = false := decide_eq_false c
  by_cases c2 : t < n
  · rw [if_pos c2]
    have d2 : decide (t < n) = true := decide_eq_true c2
    go_enter Try.func22, Try.ntmps22
    go_wp2
    go_ret
    exact ⟨rfl, rfl⟩
  rw [if_neg c2]
  have d2 : decide (t < n) = false := decide_eq_false c2
  go_enter Try.func22, Try.ntmps22
  go_wp2
  go_ret
  exact ⟨rfl, rfl⟩
theorem firstF_outN (q : Int) (n : Nat) : firstF q (n : Int) = (outN q n : Nat) := by
  unfold firstF outN
  by_cases c : q < 0
  · rw [if_pos c, if_pos (by omega)]; rfl
  · rw [if_neg c]
    by_cases c2 : q < 1
    · rw [if_pos c2]; split <;> omega
    · rw [if_neg c2]; split <;> omega
theorem firstF_len (m n : Nat) : firstF (m : Int) (n : Int) = (min m n : Nat) := by
  unfold firstF
  rw [if_neg (by omega)]
  split <;> omega
/-- A cut of a list is handed back; nothing turns. -/
def Rp (w : World) (l : List Int) (e : Ending) (w' : World) : Prop := ∃ A' c', e = .returned (.slice A' l.length c') ∧ Kd.C (Kd.int .u8) w A' l.length l ∧ w' = w
set_option maxRecDepth 100000 in
set_option maxHeartbeats 1000000 in
theorem rpeek_calls (A : Option Addr) (c : Nat) (l : List Int) (p q : Int) (w : World) (hC : Kd.C (Kd.int .u8) w A l.length l) (hc : l.length ≤ c) (hl : l.length ≤ 1000000000000) :
    Calls Try.prog 25 #[.slice A l.length c, .int .i64 p, .int .i64 q] w (Rp w (peekF l p q)) := by
  by_cases c0 : p < 0 ∨ q < 0 ∨ (l.length : Int) ≤ p
  · rw [peekF_nil c0]
    clear hC
    by_cases c1 : p < 0
    · have d1 : decide (p < 0) = true := decide_eq_true c1
      clear c0
      go_enter Try.func25, Try.ntmps25
      go_wp2
      go_ret
      exact ⟨none, 0, rfl, Kd.C_nil _ _, rfl⟩
    have d1 : decide (p < 0) = false := decide_eq_false c1
    by_cases c2 : q < 0
    · have d2 : decide (q < 0) = true := decide_eq_true c2
      clear c0
      go_enter Try.func25, Try.ntmps25
      go_wp2
      go_ret
      exact ⟨none, 0, rfl, Kd.C_nil _ _, rfl⟩
    have d2 : decide (q < 0) = false := decide_eq_false c2
    have d3 : decide ((l.length : Int) ≤ p) = true := decide_eq_true (by omega)
    clear c0
    go_enter Try.func25, Try.ntmps25
    go_wp2
    go_ret
    exact ⟨none, 0, rfl, Kd.C_nil _ _, rfl⟩
  · obtain ⟨p', rfl⟩ := Int.eq_ofNat_of_zero_le (show 0 ≤ p by omega)
    obtain ⟨q', rfl⟩ := Int.eq_ofNat_of_zero_le (show 0 ≤ q by omega)
    rw [peekF_good (by omega)]
    obtain ⟨m, hm⟩ : ∃ m, m = min q' (l.length - p') := ⟨_, rfl⟩
    obtain ⟨u, hu⟩ : ∃ u, u = p' + m := ⟨_, rfl⟩
    obtain ⟨dp, hcut, -, hdC⟩ := cut_two A l.length c p' u (by omega) (by omega) hc
    have hC2 := hdC w l rfl hC
    have e0 : (l.drop p').take q' = (l.take u).drop p' := by
      rw [List.drop_take, show u - p' = m by omega, hm]
      rcases Nat.le_total q' (l.length - p') with a | a
      · rw [Nat.min_eq_left a]
      · rw [Nat.min_eq_right a, List.take_of_length_le (by rw [List.length_drop]; exact a), List.take_of_length_le (by rw [List.length_drop]; exact Nat.le_refl _)]
    have el : ((l.take u).drop p').length = u - p' := by rw [List.length_drop, List.length_take]; omega
    rw [e0]
    have HC := Aside0.mk hC2
    have HE := Aside0.mk el
    have d1 : decide ((p' : Int) < 0) = false := decide_eq_false (by omega)
    have d2 : decide ((q' : Int) < 0) = false := decide_eq_false (by omega)
    have d3 : decide ((l.length : Int) ≤ (p' : Int)) = false := decide_eq_false (by omega)
    have d4 : decide (l.length ≤ p') = false := decide_eq_false (by omega)
    have e1 : IntKind.i64.wrap ((l.length : Int) - (p' : Int)) = (l.length : Int) - (p' : Int) := wid _ (by omega) (by omega)
    have hq : (l.length : Int) - (p' : Int) < (q' : Int) ∨ ¬ (l.length : Int) - (p' : Int) < (q' : Int) := by omega
    rcases hq with c3 | c3
    · have d5 : decide ((l.length : Int) - (p' : Int) < (q' : Int)) = true := decide_eq_true c3
      have d6 : decide ((l.length : Int) < (q' : Int) + (p' : Int)) = true := decide_eq_true (by omega)
      have e2 : IntKind.i64.wrap ((p' : Int) + ((l.length : Int) - (p' : Int))) = (u : Int) := by rw [wid _ (by omega) (by omega)]; omega
      clear c0 hC hc hdC hC2 e0 el hm hu c3
      go_enter Try.func25, Try.ntmps25
      go_wp2
      go_ret
      exact ⟨dp, c - p', by rw [HE.out]; rfl, by rw [HE.out]; exact HC.out, rfl⟩
    · have d5 : decide ((l.length : Int) - (p' : Int) < (q' : Int)) = false := decide_eq_false c3
      have d6 : decide ((l.length : Int) < (q' : Int) + (p' : Int)) = false := decide_eq_false (by omega)
      have e2 : IntKind.i64.wrap ((p' : Int) + (q' : Int)) = (u : Int) := by rw [wid _ (by omega) (by omega)]; omega
      clear c0 hC hc hdC hC2 e0 el hm hu c3
      go_enter Try.func25, Try.ntmps25
      go_wp2
      go_ret
      exact ⟨dp, c - p', by rw [HE.out]; rfl, by rw [HE.out]; exact HC.out, rfl⟩
def Mu (n : Nat) (w : World) (e : Ending) (w' : World) : Prop := ∃ bv, e = .returned (.bool bv) ∧ (bv = false → n ≤ 200) ∧ w = w'
set_option maxRecDepth 100000 in
set_option maxHeartbeats 1000000 in
theorem much_calls (A : Option Addr) (n c : Nat) (w : World) (h : Acts w A n) (hn : n ≤ c) (hm : n ≤ 9223372036854775807) :
    Calls Try.prog 21 #[.slice A n c] w (Mu n w) := by
  have HA := Aside0.mk h
  clear h
  go_enter Try.func21, Try.ntmps21
  go_wp2
  go_loop [3, 4] (fun s i => ∃ (k : Nat) (x : Int), i = .int .i64 k ∧ s = .int .i64 x ∧ Aside0 (k ≤ n ∧ k ≤ 200)) (fun _ i => 200 - num i)
  case atStart => exact ⟨0, 0, rfl, rfl, ⟨by omega, by omega⟩⟩
  case round =>
    obtain ⟨k, x, rfl, rfl, ⟨hk, hk2⟩⟩ := hrel
    by_cases hlt : k < n
    · have c0 : decide ((k : Int) < (n : Int)) = true := decide_eq_true (by omega)
      have c1 : decide (k < n) = true := decide_eq_true hlt
      have c2 : (k < n) = True := eq_true hlt
      by_cases h2 : k < 200
      · have c3 : decide ((k : Int) < 200) = true := decide_eq_true (by omega)
        have c4 : decide (k < 200) = true := decide_eq_true h2
        obtain ⟨ad, rfl, d, t, q, B, cb, l, -, -, -, hx, -, -⟩ := HA.out k hlt
        have e5 : IntKind.i64.wrap ((k : Int) + 1) = (k : Int) + 1 := wid _ (by omega) (by omega)
        have HQ := Aside0.mk (And.intro hk (And.intro hlt h2))
        clear hk hk2 hlt h2
        go_wp2
        · go_ret
          exact ⟨_, rfl, (fun h => by cases h), rfl⟩
        · go_round
          case rel => exact ⟨k + 1, _, by go_num, rfl, ⟨by have := HQ.out; omega, by have := HQ.out; omega⟩⟩
          case measure => simp only [num]; have := HQ.out; omega
      · have c3 : decide ((k : Int) < 200) = false := decide_eq_false (by omega)
        have c4 : decide (k < 200) = false := decide_eq_false h2
        have HQ := Aside0.mk (show 200 < n ∨ n ≤ 200 by omega)
        clear hk hk2 hlt
        go_wp2
        go_ret
        exact ⟨_, rfl, fun h => by have := of_decide_eq_false h; omega, rfl⟩
    · have c3 : decide ((k : Int) < (n : Int)) = false := decide_eq_false (by omega)
      have c4 : decide (k < n) = false := decide_eq_false hlt
      clear hk hk2 hlt
      go_wp2
      go_ret
      exact ⟨_, rfl, fun h => by have := of_decide_eq_false h; omega, rfl⟩
end Go.Proofs.Ytfmfpofbefgbgaa.PHoseL
