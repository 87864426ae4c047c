/- slices.Grow at nil, slices.Concat, octet.Join: for every list of rows (fewer than 2^47 bytes in all). Conditions: each theorem's own. -/
import Derived.Test.YtcnodelfblpdiaaHExt
import Derived.WalkSpells
import Derived.WalkLawsBesides
import Derived.Outline
namespace Go.Proofs.Ytcnodelfblpdiaa.HCat
open Go.RowKit Go.Proofs.YtcnodelfblpdiaaW.PrintWords Go.Proofs.YtcnodelfblpdiaaW.PrintLast Go.Proofs.YtcnodelfblpdiaaW.PrintMore Go.Proofs.Ytcnodelfblpdiaa.HExt
set_option linter.unusedVariables false
set_option linter.unusedSimpArgs false
theorem wid (n : Int) (h0 : -4611686018427387904 ≤ n) (h1 : n ≤ 4611686018427387904) : IntKind.i64.wrap n = n := by simp [IntKind.wrap, IntKind.bits, IntKind.signed]; omega
theorem info5 : (Try.prog.info? 5).map (fun i => (i.zero, i.size, i.bytes)) = some (some (.int .u8 0), 1, 1) := by kernel_rfl
theorem grow_zero (w : World) : Calls Try.prog 70 #[.slice none 0 0, .int .i64 0] w fun e w' => e = .returned (.slice none 0 0) ∧ w = w' := by
  go_enter Try.func70, Try.ntmps70
  go_wp2
  go_ret
  exact ⟨rfl, rfl⟩
set_option maxRecDepth 100000 in
set_option maxHeartbeats 2000000 in
theorem grow_some (n : Nat) (w : World) (h0 : 0 < n) (h1 : n ≤ 140737488351232) : Calls Try.prog 70 #[.slice none 0 0, .int .i64 (n : Int)] w fun e w' => ∃ v, e = .returned v ∧ Kd.R (Kd.int .u8) 5 w' w.heap.size (fun _ => True) v [] ∧ Below w.heap.size w w' := by
  have d0 : decide ((n : Int) < 0) = false := decide_eq_false (by omega)
  have d1 : decide (0 < (n : Int)) = true := decide_eq_true (by omega)
  have d2 : decide (0 < n) = true := decide_eq_true h0
  have d3 : (n : Int) ≤ 4611686018427387904 := by omega
  go_enter Try.func70, Try.ntmps70
  go_wp2_with (((with_reducible refine gate_builtin (b := .append) (xs := #[.tmp 20, .tmp 21]) rfl ?_); refine Kd.R_append_zeros (Kd.int .u8) (w0 := w) w.heap.size rfl (.tmp 20) (.tmp 21) 29 3 5 (.int .u8 0) 1 rfl Try.underlying29 Try.underlying3 info5 rfl (by decide) (by omega) (.slice none 0 0) [] 0 (n : Int) (fun _ => True) rfl rfl rfl (fun _ _ => trivial) (Kd.R_nil _ _ _ _ _) (by omega) (Below.refl _ _) (Nat.le_refl _) (by simp; omega) ?_; intro v1 w1 ho hb hg hat; obtain ⟨A1, c1, rfl⟩ := Kd.R_slice ho; obtain ⟨i0, hi0, _, hsz0, _⟩ := info_parts info5; have hcut := cut_to (P := Try.prog) 29 5 .i64 Try.underlying29 hi0 A1 _ c1 0 (by omega) (by omega) (Kd.R_reads' ho).2.1; have HO := Aside0.mk (Kd.R_take (m := 0) ho (Nat.zero_le _)); have HB := Aside0.mk hb; clear ho hb hg hat hi0 hsz0))
  go_ret
  exact ⟨_, rfl, HO.out, HB.out⟩
theorem grow_calls (n : Nat) (w : World) (h1 : n ≤ 140737488351232) : Calls Try.prog 70 #[.slice none 0 0, .int .i64 (n : Int)] w fun e w' => ∃ v, e = .returned v ∧ Kd.R (Kd.int .u8) 5 w' w.heap.size (fun _ => True) v [] ∧ Below w.heap.size w w' := by
  by_cases c : n = 0
  · subst c
    refine (grow_zero w).mono ?_
    rintro e w' ⟨rfl, rfl⟩
    exact ⟨_, rfl, Kd.R_nil _ _ _ _ _, Below.refl _ _⟩
  · exact grow_some n w (by omega) h1
/-- A slice of rows: its cells, each row read. -/
def Rows (w : World) (A : Option Addr) (ls : List (List Int)) : Prop := ∀ i, i < ls.length → ∃ ad, A = some ad ∧ ∃ Ai ci, w.cell? (ad.add i) = some (.slice Ai (ls.getD i []).length ci) ∧ Kd.C (Kd.int .u8) w Ai (ls.getD i []).length (ls.getD i []) ∧ (ls.getD i []).length ≤ ci
theorem Rows.below {w w' : World} {A : Option Addr} {ls : List (List Int)} (h : Rows w A ls) (hb : Below w.heap.size w w') : Rows w' A ls := fun i hi => by
  obtain ⟨ad, e, Ai, ci, h1, h2, h3⟩ := h i hi
  exact ⟨ad, e, Ai, ci, pw_cell_below hb h1, Kd.C_below h2 hb, h3⟩
/-- How many bytes the first k rows have. -/
def tot (ls : List (List Int)) (k : Nat) : Nat := ((ls.take k).flatten).length
theorem tot_zero (ls : List (List Int)) : tot ls 0 = 0 := rfl
theorem flat_succ (ls : List (List Int)) (k : Nat) (hk : k < ls.length) : (ls.take (k + 1)).flatten = (ls.take k).flatten ++ ls.getD k [] := by
  rw [List.take_succ_eq_append_getElem hk, List.flatten_append]
  simp [List.getD_eq_getElem?_getD, hk]
theorem tot_succ (ls : List (List Int)) (k : Nat) (hk : k < ls.length) : tot ls (k + 1) = tot ls k + (ls.getD k []).length := by
  unfold tot; rw [flat_succ ls k hk, List.length_append]
theorem tot_le (ls : List (List Int)) (k : Nat) : tot ls k ≤ ls.flatten.length := by
  unfold tot
  have e : ls.flatten = (ls.take k).flatten ++ (ls.drop k).flatten := by rw [← List.flatten_append, List.take_append_drop]
  rw [e, List.length_append]; omega
def num : Value → Nat
  | .int _ n => n.toNat
  | _ => 0
set_option maxRecDepth 100000 in
set_option maxHeartbeats 4000000 in
theorem concat_calls (A : Option Addr) (c : Nat) (ls : List (List Int)) (w : World) (hr : Rows w A ls) (hn : ls.length ≤ 1000) (ht : ls.flatten.length ≤ 140737488351232) :
    Calls Try.prog 68 #[.slice A ls.length c] w fun e w' => ∃ v, e = .returned v ∧ Kd.R (Kd.int .u8) 5 w' w.heap.size (fun _ => True) v ls.flatten ∧ Below w.heap.size w w' := by
  have HR := Aside0.mk hr
  have HN := Aside0.mk (And.intro hn ht)
  clear hr hn ht
  go_enter Try.func68, Try.ntmps68
  go_wp2
  go_loop [3, 11] (fun s i => ∃ k : Nat, i = .int .i64 k ∧ s = .int .i64 (tot ls k) ∧ Aside0 (k ≤ ls.length)) (fun _ i => ls.length - num i)
  case atStart => exact ⟨0, rfl, rfl, ⟨Nat.zero_le _⟩⟩
  case round =>
    obtain ⟨k, rfl, rfl, ⟨hk⟩⟩ := hrel
    have hnn := HN.out
    by_cases hlt : k < ls.length
    · have c0 : decide ((k : Int) < (ls.length : Int)) = true := decide_eq_true (by omega)
      have c1 : decide (k < ls.length) = true := decide_eq_true hlt
      have c2 : (k < ls.length) = True := eq_true hlt
      obtain ⟨ad, rfl, Ai, ci, hx, -, -⟩ := HR.out k hlt
      have hts := tot_succ ls k hlt
      have htl := tot_le ls (k + 1)
      obtain ⟨T1, hT1⟩ : ∃ T1, tot ls (k + 1) = T1 := ⟨_, rfl⟩
      obtain ⟨T0, hT0⟩ : ∃ T0, tot ls k = T0 := ⟨_, rfl⟩
      obtain ⟨li, hli⟩ : ∃ li, ls.getD k [] = li := ⟨_, rfl⟩
      rw [hli] at hx hts
      rw [hT1] at hts htl
      rw [hT0] at hts ⊢
      have e1 : IntKind.i64.wrap ((T0 : Int) + (li.length : Int)) = (T1 : Int) := by rw [wid _ (by omega) (by omega)]; omega
      have e2 : IntKind.i64.wrap ((k : Int) + 1) = (k : Int) + 1 := wid _ (by omega) (by omega)
      have e3 : decide ((T1 : Int) < 0) = false := decide_eq_false (by omega)
      have HK := Aside0.mk (And.intro hlt hT1)
      clear hk hnn hlt hts htl hT1 hT0 hli
      go_wp2
      go_round
      case rel => exact ⟨k + 1, by go_num, by rw [HK.out.2], ⟨HK.out.1⟩⟩
      case measure => simp only [num]; have := HK.out.1; omega
    · have c0 : decide ((k : Int) < (ls.length : Int)) = false := decide_eq_false (by omega)
      have c1 : decide (k < ls.length) = false := decide_eq_false hlt
      obtain rfl : k = ls.length := by omega
      have e0 : tot ls ls.length = ls.flatten.length := by unfold tot; rw [List.take_length]
      rw [e0]
      obtain ⟨T, hT⟩ : ∃ T, ls.flatten.length = T := ⟨_, rfl⟩
      rw [hT]
      have HG := Aside0.mk (grow_calls T w (by omega))
      clear hk hnn hlt e0 hT
      go_wp2_with (go_at_call 70; refine HG.out.mono ?_; rintro e w2 ⟨v2, rfl, hR, hB⟩; have HR2 := Aside0.mk hR; have HB2 := Aside0.mk hB; clear hR hB)
      have HH : Aside0 (0 ≤ ls.length ∧ Kd.R (Kd.int .u8) 5 w2 w.heap.size (fun _ => True) v2 (ls.take 0).flatten ∧ Below w.heap.size w w2) := ⟨Nat.zero_le _, HR2.out, HB2.out⟩
      clear HR2 HB2 HG
      go_loopw [6, 27] (fun v i wr => ∃ k : Nat, i = .int .i64 k ∧ Aside0 (k ≤ ls.length ∧ Kd.R (Kd.int .u8) 5 wr w.heap.size (fun _ => True) v (ls.take k).flatten ∧ Below w.heap.size w wr)) (fun _ i _ => ls.length - num i)
      case atStart => exact ⟨0, rfl, HH⟩
      case round =>
        clear HH
        obtain ⟨k, rfl, ⟨hk, hO, hB⟩⟩ := hrel
        have hnn := HN.out
        by_cases hlt : k < ls.length
        · have c0 : decide ((k : Int) < (ls.length : Int)) = true := decide_eq_true (by omega)
          have c1 : decide (k < ls.length) = true := decide_eq_true hlt
          have c2 : (k < ls.length) = True := eq_true hlt
          obtain ⟨ad, rfl, Ai, ci, hx, hCi, hci⟩ := (HR.out.below hB) k hlt
          have htl := tot_le ls (k + 1)
          rw [tot_succ ls k hlt] at htl
          obtain ⟨li, hli⟩ : ∃ li, ls.getD k [] = li := ⟨_, rfl⟩
          have hfs := flat_succ ls k hlt
          rw [hli] at hx hCi htl hfs
          have e2 : IntKind.i64.wrap ((k : Int) + 1) = (k : Int) + 1 := wid _ (by omega) (by omega)
          have HL := Aside0.mk htl
          have HF := Aside0.mk hfs
          have HC := Aside0.mk hCi
          have HO := Aside0.mk hO
          have HB := Aside0.mk hB
          have HK := Aside0.mk (And.intro hlt hnn.2)
          clear hk hnn hlt htl hfs hli hCi hO hB hci
          go_wp2_with (((with_reducible refine gate_builtin (b := .append) (xs := #[.tmp 31, .tmp 32]) rfl ?_); at_builtin; refine Kd.R_append_rows (Kd.int .u8) (w0 := w) w.heap.size rfl (.tmp 31) (.tmp 32) 29 5 (.int .u8 0) 1 rfl Try.underlying29 info5 rfl (by decide) (by omega) u6 (ls.take k).flatten li _ _ _ (fun _ => True) (fun _ => False) rfl rfl ?aO ?aR (fun _ _ h => h) (fun _ h => h.elim) ?aF ?aB ?aS ?aL ?_; (case aR => exact HC.out); (case aB => exact HB.out); (case aF => exact fun _ _ => trivial); (case aO => exact HO.out); (case aS => exact HB.out.size); (case aL => have h1 := HL.out; have h2 := HK.out.2; unfold tot at h1; omega); intro v4 w4 ho hb hg hat; rw [← HF.out] at ho; have HO4 := Aside0.mk ho; have HB4 := Aside0.mk hb; clear ho hb hg hat))
          go_roundw
          case rel => exact ⟨k + 1, by go_num, ⟨HK.out.1, HO4.out, HB4.out⟩⟩
          case measure => simp only [num]; have := HK.out.1; omega
        · have c0 : decide ((k : Int) < (ls.length : Int)) = false := decide_eq_false (by omega)
          have c1 : decide (k < ls.length) = false := decide_eq_false hlt
          obtain rfl : k = ls.length := by omega
          rw [List.take_length] at hO
          have HO := Aside0.mk hO
          have HB := Aside0.mk hB
          clear hk hnn hlt hO hB
          go_wp2
          go_ret
          exact ⟨_, rfl, HO.out, HB.out⟩
theorem join_calls (A : Option Addr) (c : Nat) (ls : List (List Int)) (n : Nat) (hl : ls.length = n) (w : World) (hr : Rows w A ls) (hn : ls.length ≤ 1000) (ht : ls.flatten.length ≤ 140737488351232) :
    Calls Try.prog 59 #[.slice A n c] w fun e w' => ∃ v, e = .returned v ∧ Kd.R (Kd.int .u8) 5 w' w.heap.size (fun _ => True) v ls.flatten ∧ Below w.heap.size w w' := by
  subst hl
  have HC := Aside0.mk (concat_calls A c ls w hr hn ht)
  clear hr hn ht
  go_enter Try.func59, Try.ntmps59
  go_wp2_with (go_at_call 68; refine HC.out.mono ?_; rintro e w2 ⟨v2, rfl, hR, hB⟩; have HR2 := Aside0.mk hR; have HB2 := Aside0.mk hB; clear hR hB)
  go_ret
  exact ⟨_, rfl, HR2.out, HB2.out⟩
end Go.Proofs.Ytcnodelfblpdiaa.HCat
