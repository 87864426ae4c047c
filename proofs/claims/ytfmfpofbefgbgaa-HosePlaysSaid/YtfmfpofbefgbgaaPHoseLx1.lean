/- The laws of hose: HoseOrder's function answers true, for every room, bytes and pieces. Conditions: each theorem's own. -/
import Derived.Test.YtfmfpofbefgbgaaPHoseLx0
namespace Go.Proofs.Ytfmfpofbefgbgaa.PHoseL
open Go.RowKit Go.Proofs.YtfmfpofbefgbgaaW.PrintWords Go.Proofs.YtfmfpofbefgbgaaW.PrintLast Go.Proofs.YtfmfpofbefgbgaaW.PrintMore Go.Proofs.Ytfmfpofbefgbgaa.HExt Go.Proofs.Ytfmfpofbefgbgaa.HHose
set_option linter.unusedVariables false
set_option linter.unusedSimpArgs false
/-- What a round of HoseOrder knows: s bytes were sent, gl came out, hl is in the hose. -/
structure OAt (W wr : World) (hb : Nat) (S : Nat → Prop) (room : Int) (bl : List Int) (s : Nat) (vg : Value) (gl hl : List Int) (A : Option Addr) (c : Nat) : Prop where
  hose : At W.heap.size wr hb S room hl s gl.length
  row : Kd.R (Kd.int .u8) 5 wr W.heap.size (fun k => ¬ S k) vg gl
  sum : gl ++ hl = bl.take s
  le : s ≤ bl.length
  bel : Below W.heap.size W wr
  rest : Kd.F (Kd.int .u8) W (fun k => k < W.heap.size) A (bl.drop s).length (bl.drop s)
  cap : bl.length - s ≤ c
theorem OAt.lens {W wr : World} {hb : Nat} {S : Nat → Prop} {room : Int} {bl : List Int} {s : Nat} {vg : Value} {gl hl : List Int} {A : Option Addr} {c : Nat} (h : OAt W wr hb S room bl s vg gl hl A c) : gl.length + hl.length = s := by
  have := congrArg List.length h.sum
  rw [List.length_append, List.length_take] at this
  have := h.le
  omega
def num : Value → Nat
  | .int _ n => n.toNat
  | _ => 0
theorem cutTo (A : Option Addr) (n c j : Nat) (hj : j ≤ n) (hn : n ≤ c) : ∀ W : World, (Instr.slice 23 (.slice A n c) none (some (.int .i64 (j : Int))) none).run Try.prog W = .ok (.slice A j c) W := by
  obtain ⟨i0, hi0, _, hsz0, _⟩ := info_parts info5
  have := cut_to (P := Try.prog) 23 5 .i64 Try.underlying23 hi0 A n c (j : Int) (by omega) (by omega) hn
  simpa using this
theorem cutFrom (A : Option Addr) (n c j : Nat) (hj : j ≤ n) (hn : n ≤ c) : ∃ dp, (∀ W : World, (Instr.slice 23 (.slice A n c) (some (.int .i64 (j : Int))) none none).run Try.prog W = .ok (.slice dp (n - j) (c - j)) W) ∧
    (∀ (W : World) (ok : Nat → Prop) (xs : List Int), xs.length = n → Kd.F (Kd.int .u8) W ok A xs.length xs → Kd.F (Kd.int .u8) W ok dp (xs.drop j).length (xs.drop j)) := by
  obtain ⟨i0, hi0, _, hsz0, _⟩ := info_parts info5
  have hcut := cut_from (P := Try.prog) 23 5 .i64 Try.underlying23 hi0 1 hsz0 A n c (j : Int) (by omega) (by omega)
  simp only [Int.toNat_natCast] at hcut
  refine ⟨_, hcut, fun W ok xs hx hF => ?_⟩
  subst hx
  exact Kd.F_cut hF hj hn
theorem byte_at (A : Option Addr) (l : List Int) (w : World) (h : Kd.C (Kd.int .u8) w A l.length l) (k : Nat) (hk : k < l.length) : ∃ ad, A = some ad ∧ w.cell? (ad.add k) = some (.int .u8 (rd l k)) := by
  obtain ⟨ad, e, hx⟩ := Kd.at_int h (k : Int) (by omega) (by omega)
  exact ⟨ad, e, by simpa using hx⟩
theorem heap_size : (Kd.int .u8).sz = 1 := rfl
theorem len_still {B : Nat} {w : World} {b : Nat} {S : Nat → Prop} {room : Int} {i o : Int} (h : At B w b S room [] i o) : Calls Try.prog 20 #[.pointer (some ⟨b, 0, none⟩)] w fun e w' => e = .returned (.int .i64 0) ∧ w' = w :=
  (len_at h).mono fun e w' he => ⟨he.1, he.2.symm⟩
theorem write_to {B : Nat} {w : World} {b : Nat} {S : Nat → Prop} {room : Int} {l : List Int} {i o : Int} (h : At B w b S room l i o) (hB : B ≤ w.heap.size) (A : Option Addr) (c m kk : Nat) (xs : List Int) (ok : Nat → Prop) (hs : Kd.F (Kd.int .u8) w ok A xs.length xs) (hok : ∀ k, ok k → ¬ S k) (hm : xs.length = m) (hc : m ≤ c) (hk : min m (room.toNat - l.length) = kk) (i0 : 0 ≤ i) (i1 : i ≤ 1000000000000) :
    Calls Try.prog 18 #[.pointer (some ⟨b, 0, none⟩), .slice A m c] w fun e w' => e = .returned (.int .i64 (kk : Int)) ∧ At B w' b (Grew S w w') room (l ++ xs.take kk) (i + (kk : Nat)) o ∧ Ap S w w' := by
  subst hm; subst hk
  exact write_at h hB A c xs ok hs hok hc i0 i1
/-- A row of the law's own behind what a hose did. -/
theorem row_grew {w w' : World} {B : Nat} {S : Nat → Prop} {v : Value} {xs : List Int} (h : Kd.R (Kd.int .u8) 5 w B (fun q => ¬ S q) v xs) (ha : Ap S w w') : Kd.R (Kd.int .u8) 5 w' B (fun q => ¬ Grew S w w' q) v xs :=
  Kd.R_mono (Kd.R_step (Kd.R_bound h) (fun q hq hlt => ha.block q hlt hq.1)) (fun q hq hg => by
    rcases hg with hg | hg
    · exact hq.1 hg
    · have := hq.2.2.1; omega)
theorem OAt.step {W wr w2 w3 w4 : World} {hb : Nat} {S : Nat → Prop} {room : Int} {bl : List Int} {s N kk t : Nat} {vg v4 : Value} {gl hl : List Int} {A dp : Option Addr} {c : Nat} (h : OAt W wr hb S room bl s vg gl hl A c)
    (hN : N ≤ bl.length - s) (hkk : kk ≤ N) (hdp : Kd.F (Kd.int .u8) W (fun k => k < W.heap.size) dp ((bl.drop s).drop kk).length ((bl.drop s).drop kk))
    (ha2 : Ap S wr w2) (h3 : At W.heap.size w3 hb (Grew S wr w2) room ((hl ++ ((bl.drop s).take N).take kk).drop t) (s + (kk : Nat)) (gl.length + (t : Nat))) (ht : t ≤ hl.length + kk) (ha3 : Ap (Grew S wr w2) w2 w3)
    (hR : Kd.R (Kd.int .u8) 5 w4 W.heap.size (fun q => ¬ Grew S wr w2 q) v4 (gl ++ (hl ++ ((bl.drop s).take N).take kk).take t)) (hg : w3.grownBy w4 vg.ownBlock) (hB4 : Below W.heap.size W w4) :
    OAt W w4 hb (Grew S wr w2) room bl (s + kk) v4 (gl ++ (hl ++ ((bl.drop s).take N).take kk).take t) ((hl ++ ((bl.drop s).take N).take kk).drop t) dp (c - kk) := by
  have hlen : (hl ++ ((bl.drop s).take N).take kk).length = hl.length + kk := by simp; omega
  have hrow := row_grew h.row ha2
  have hle := h.le
  refine ⟨?_, hR, ?_, by omega, hB4, by rw [← List.drop_drop]; exact hdp, by have := h.cap; omega⟩
  · have hm := At.move h3 hg.size (fun q hq => hg.block q (h3.lt q hq) (fun e => hrow.1 q e.symm hq))
    rw [List.length_append, List.length_take, hlen, Nat.min_eq_left ht]
    have e1 : ((s + kk : Nat) : Int) = (s : Int) + (kk : Nat) := by omega
    have e2 : ((gl.length + t : Nat) : Int) = (gl.length : Int) + (t : Nat) := by omega
    rw [e1, e2]
    exact hm
  · rw [List.append_assoc, List.take_append_drop, ← List.append_assoc, h.sum, List.take_take, Nat.min_eq_left hkk, ← List.take_add]
set_option maxRecDepth 100000 in
set_option maxHeartbeats 8000000 in
theorem order_many (a0 : Int) (A1 : Option Addr) (c1 : Nat) (l1 : List Int) (A2 : Option Addr) (c2 : Nat) (l2 : List Int) (w : World) (h : 3000 < l1.length ∨ 200 < l2.length) :
    Calls Try.prog 3 #[.int .u16 a0, .slice A1 l1.length c1, .slice A2 l2.length c2] w fun e w' => e = .returned (.bool true) ∧ Below w.heap.size w w' := by
  by_cases c : 3000 < l1.length
  · have d1 : decide (3000 < (l1.length : Int)) = true := decide_eq_true (by omega)
    have d2 : decide (3000 < l1.length) = true := decide_eq_true c
    clear h c
    go_enter Try.func3, Try.ntmps3
    go_wp2_with (go_at_call 15; refine (live_calls _).mono ?_; rintro e w' ⟨rfl, hL⟩; have HL := Aside0.mk hL; clear hL)
    go_ret
    exact ⟨rfl, HL.out⟩
  · have d1 : decide (3000 < (l1.length : Int)) = false := decide_eq_false (by omega)
    have d2 : decide (3000 < l1.length) = false := decide_eq_false c
    have d3 : decide (200 < (l2.length : Int)) = true := decide_eq_true (by omega)
    have d4 : decide (200 < l2.length) = true := decide_eq_true (by omega)
    clear h c
    go_enter Try.func3, Try.ntmps3
    go_wp2_with (go_at_call 15; refine (live_calls _).mono ?_; rintro e w' ⟨rfl, hL⟩; have HL := Aside0.mk hL; clear hL)
    go_ret
    exact ⟨rfl, HL.out⟩
theorem R_to_C {w : World} {base m c : Nat} {ok : Nat → Prop} {A : Option Addr} {xs : List Int} (h : Kd.R (Kd.int .u8) 5 w base ok (.slice A m c) xs) : Kd.C (Kd.int .u8) w A m xs := by
  have := Kd.R_reads' h
  rw [this.1]
  exact this.2.2
theorem rd_bytes {l : List Int} (h : ∀ x ∈ l, 0 ≤ x ∧ x ≤ 255) (k : Nat) (hk : k < l.length) : 0 ≤ rd l k ∧ rd l k ≤ 255 := by
  have e : rd l k = l[k] := by unfold rd; simp [List.getD_eq_getElem?_getD, hk]
  rw [e]
  exact h _ (List.getElem_mem hk)
set_option maxRecDepth 100000 in
set_option maxHeartbeats 8000000 in
theorem order_all (a0 : Int) (A1 : Option Addr) (c1 : Nat) (l1 : List Int) (A2 : Option Addr) (c2 : Nat) (l2 : List Int) (w : World) (a00 : 0 ≤ a0) (a01 : a0 ≤ 65535) (hb2 : ∀ x ∈ l2, 0 ≤ x ∧ x ≤ 255) (hr1 : Kd.C (Kd.int .u8) w A1 l1.length l1) (hc1 : l1.length ≤ c1) (hr2 : Kd.C (Kd.int .u8) w A2 l2.length l2) (hc2 : l2.length ≤ c2) (hm1 : l1.length ≤ 3000) (hm2 : l2.length ≤ 200) :
    Calls Try.prog 3 #[.int .u16 a0, .slice A1 l1.length c1, .slice A2 l2.length c2] w fun e w' => e = .returned (.bool true) ∧ Below w.heap.size w w' := by
  have d1 : decide (3000 < (l1.length : Int)) = false := decide_eq_false (by omega)
  have d2 : decide (3000 < l1.length) = false := decide_eq_false (by omega)
  have d3 : decide (200 < (l2.length : Int)) = false := decide_eq_false (by omega)
  have d4 : decide (200 < l2.length) = false := decide_eq_false (by omega)
  have e1 : IntKind.i64.wrap a0 = a0 := wid _ (by omega) (by omega)
  have e2 : IntKind.i64.wrap (1 + a0) = 1 + a0 := wid _ (by omega) (by omega)
  have HN := Aside0.mk (new_at (1 + a0) w (by omega) (by omega))
  have H1 := Aside0.mk (And.intro hr1 (And.intro hc1 hm1))
  have H2 := Aside0.mk (And.intro hr2 (And.intro hc2 (And.intro hm2 hb2)))
  have HA := Aside0.mk (And.intro a00 a01)
  clear hr1 hc1 hm1 hr2 hc2 hm2 hb2 a00 a01
  go_enter Try.func3, Try.ntmps3
  go_wp2_with (first | (go_at_call 16; refine HN.out.mono ?_; rintro e w1 ⟨b, S, rfl, hA, hB⟩; have HA1 := Aside0.mk hA; have HB1 := Aside0.mk hB; clear hA hB) | (go_at_call 17; refine (code_calls _ _).mono ?_; rintro e w' ⟨rfl, rfl⟩))
  have HH : Aside0 (∃ (S : Nat → Prop) (gl hl : List Int), OAt w w1 b S (1 + a0) l1 0 (.slice none 0 0) gl hl A1 c1) :=
    ⟨S, [], [], HA1.out, Kd.R_nil _ _ _ _ _, by simp, by omega, HB1.out, Kd.C_F (Kd.heap_int _) H1.out.1, H1.out.2.1⟩
  clear HA1 HB1 HN e1 e2 d1 d2 d3 d4
  go_loopw [9, 10, 11] (fun g r i wr => ∃ (k s L : Nat) (A : Option Addr) (c : Nat), i = .int .i64 k ∧ r = .slice A L c ∧ Aside0 (k ≤ l2.length ∧ L = l1.length - s ∧ ∃ (S : Nat → Prop) (gl hl : List Int), OAt w wr b S (1 + a0) l1 s g gl hl A c)) (fun _ _ i _ => l2.length - num i)
  case atStart => exact ⟨0, 0, l1.length, A1, c1, rfl, rfl, ⟨by omega, by omega, HH.out⟩⟩
  case round =>
    clear HH
    obtain ⟨k, s, L, A, c, rfl, rfl, ⟨hk, hL, S, gl, hl, hA⟩⟩ := hrel
    have hm1 := H1.out.2.2
    have hm2 := H2.out.2.2.1
    have hle := hA.le
    have hlens := hA.lens
    have hcap := hA.cap
    have ha0 := HA.out
    have hfit := hA.hose.fits
    by_cases hlt : k < l2.length
    · have c0 : decide ((k : Int) < (l2.length : Int)) = true := decide_eq_true (by omega)
      have c1' : decide (k < l2.length) = true := decide_eq_true hlt
      have c2' : (k < l2.length) = True := eq_true hlt
      have c3 : ((k : Int) < (l2.length : Int)) = True := eq_true (by omega)
      obtain ⟨j, hj⟩ : ∃ j, j = l2.length - 1 - k := ⟨_, rfl⟩
      have hjl : j < l2.length := by omega
      have c4 : (j < l2.length) = True := eq_true hjl
      have c5 : ((j : Int) < (l2.length : Int)) = True := eq_true (by omega)
      obtain ⟨ad, rfl, hx0⟩ := byte_at A2 l2 w H2.out.1 k hlt
      obtain ⟨ad', e', hy0⟩ := byte_at (some ad) l2 w H2.out.1 j hjl
      injection e' with e'
      subst e'
      obtain ⟨m, hm⟩ : ∃ m : Nat, m = (rd l2 k).toNat := ⟨_, rfl⟩
      obtain ⟨m2, hm2'⟩ : ∃ m2 : Nat, m2 = (rd l2 j).toNat := ⟨_, rfl⟩
      have r1 := rd_bytes H2.out.2.2.2 k hlt
      have r2 := rd_bytes H2.out.2.2.2 j hjl
      rw [show rd l2 k = (m : Int) by omega] at hx0
      rw [show rd l2 j = (m2 : Int) by omega] at hy0
      have hx := pw_cell_below hA.bel hx0
      have e1 : IntKind.i64.wrap (m : Int) = (m : Int) := wid _ (by omega) (by omega)
      have e2 : IntKind.i64.wrap (m2 : Int) = (m2 : Int) := wid _ (by omega) (by omega)
      have e3 : IntKind.i64.wrap ((l2.length : Int) - 1) = (l2.length : Int) - 1 := wid _ (by omega) (by omega)
      have e4 : IntKind.i64.wrap ((l2.length : Int) - 1 - (k : Int)) = (j : Int) := by rw [wid _ (by omega) (by omega)]; omega
      have e5 : IntKind.i64.wrap ((k : Int) + 1) = (k : Int) + 1 := wid _ (by omega) (by omega)
      obtain ⟨N, hN⟩ : ∃ N, N = min m L := ⟨_, rfl⟩
      obtain ⟨kk, hkk⟩ : ∃ kk, kk = min N ((1 + a0).toNat - hl.length) := ⟨_, rfl⟩
      have hcut1 := cutTo A L c N (by omega) (by omega)
      obtain ⟨dp, hcut2, hdF⟩ := cutFrom A L c kk (by omega) (by omega)
      have HF := Aside0.mk (hdF w _ (l1.drop s) (by rw [List.length_drop]; omega) hA.rest)
      have hxs : ((l1.drop s).take N).length = N := by rw [List.length_take, List.length_drop]; omega
      have HW := Aside0.mk (write_to hA.hose hA.bel.size A c N kk ((l1.drop s).take N) (fun q => q < w.heap.size) (Kd.F_take (Kd.F_step hA.rest (fun q hq _ => hA.bel.block q hq)) (by rw [List.length_drop]; omega)) (fun q hq hs => by have := hA.hose.ge q hs; omega) hxs (by omega) hkk.symm (by omega) (by omega))
      obtain ⟨t, ht⟩ : ∃ t, outN (m2 : Int) (hl ++ ((l1.drop s).take N).take kk).length = t := ⟨_, rfl⟩
      have ht2 : t ≤ (hl ++ ((l1.drop s).take N).take kk).length := by rw [← ht]; unfold outN; split <;> omega
      have ht3 : ((hl ++ ((l1.drop s).take N).take kk).take t).length = t := by rw [List.length_take]; omega
      have ht4 : (hl ++ ((l1.drop s).take N).take kk).length = hl.length + kk := by rw [List.length_append, List.length_take, hxs]; omega
      have HT := Aside0.mk (And.intro ht (And.intro ht3 (show t ≤ hl.length + kk by omega)))
      have HAA := Aside0.mk hA
      have HY := Aside0.mk hy0
      have HQ := Aside0.mk (And.intro (show N ≤ l1.length - s by omega) (And.intro (show kk ≤ N by omega) (And.intro hL (And.intro hlens (And.intro hlt (And.intro hm1 hle))))))
      by_cases hc : L < m
      all_goals
        first
        | (have b1 : decide ((L : Int) < (m : Int)) = true := decide_eq_true (by omega)
           have b2 : decide (L < m) = true := decide_eq_true hc
           obtain rfl : N = L := by omega)
        | (have b1 : decide ((L : Int) < (m : Int)) = false := decide_eq_false (by omega)
           have b2 : decide (L < m) = false := decide_eq_false hc
           obtain rfl : N = m := by omega)
        clear ht ht2 ht3 ht4 hA hk hL hm1 hm2 hle hlens hcap ha0 hfit hlt hj hjl hx0 hy0 hm hm2' r1 r2 hN hkk hdF hxs hc
        go_wp2_with (first | (go_at_call 18; refine HW.out.mono ?_; rintro e w2 ⟨rfl, hA2, hK2⟩; have HA2 := Aside0.mk hA2; have HK2 := Aside0.mk hK2; have HB2 := Aside0.mk (HAA.out.bel.trans (hK2.below HAA.out.hose.ge HAA.out.bel.size)); have hy := pw_cell_below HB2.out HY.out; clear hA2 hK2 hx) | (go_at_call 19; refine (read_to HA2.out (m2 : Int) (by omega) (by have := HQ.out; omega) _ _ t t (by rw [HT.out.1]) (by rw [HT.out.1]) HT.out.1 HT.out.2.1).mono ?_; rintro e w3 ⟨A3, c3, rfl, hR3, hA3, hK3⟩; have HR3 := Aside0.mk hR3; have HA3 := Aside0.mk hA3; have HK3 := Aside0.mk hK3; clear hR3 hA3 hK3 hy) | ((with_reducible refine gate_builtin (b := .append) (xs := #[.tmp 64, .tmp 75]) rfl ?_); at_builtin; refine Kd.R_append_rows (Kd.int .u8) (w0 := w) w.heap.size rfl (.tmp 64) (.tmp 75) 23 5 (.int .u8 0) 1 rfl Try.underlying23 info5 rfl (by decide) (by omega) u9 gl ((hl ++ ((l1.drop s).take N).take kk).take t) _ _ _ (fun q => ¬ Grew S wr w2 q) (fun _ => False) rfl rfl ?aO ?aR (fun _ _ h => h) (fun _ h => h.elim) ?aF ?aB ?aS ?aL ?_; (case aR => exact R_to_C HR3.out); (case aB => exact HB2.out.trans (HK3.out.below HA2.out.ge HB2.out.size)); (case aF => exact (fun q hq hs => by have := HA3.out.lt q hs; omega)); (case aO => exact Kd.R_step (row_grew HAA.out.row HK2.out) (fun q hq hlt => HK3.out.block q hlt hq)); (case aS => exact Nat.le_trans HB2.out.size HK3.out.size); (case aL => have h1 := HAA.out.lens; have h2 := HQ.out; have h3 := HT.out.2.2; omega); intro v4 w4 ho hb hg hat; have HO4 := Aside0.mk ho; have HB4 := Aside0.mk hb; have HG4 := Aside0.mk hg; clear ho hb hg hat))
        go_roundw
        case rel => exact ⟨k + 1, s + kk, _, dp, c - kk, by go_num, rfl, ⟨by have := HQ.out; omega, by have := HQ.out; omega, _, _, _, HAA.out.step HQ.out.1 HQ.out.2.1 HF.out HK2.out HA3.out HT.out.2.2 HK3.out HO4.out HG4.out HB4.out⟩⟩
        case measure => simp only [num]; have := HQ.out; omega
    · have c0 : decide ((k : Int) < (l2.length : Int)) = false := decide_eq_false (by omega)
      have c1' : decide (k < l2.length) = false := decide_eq_false hlt
      have e1 : IntKind.i64.wrap ((l1.length : Int) - (L : Int)) = (s : Int) := by rw [wid _ (by omega) (by omega)]; omega
      have hout : outN 1073741824 hl.length = hl.length := by unfold outN; rw [if_neg (by omega)]; exact Nat.min_eq_right (by omega)
      have HO := Aside0.mk hout
      have HAA := Aside0.mk hA
      have hcut3 := cutTo A1 l1.length c1 s hle H1.out.2.1
      have HQ := Aside0.mk (And.intro hlens (And.intro hm1 hle))
      have d0 : decide ((s : Int) < 0) = false := decide_eq_false (by omega)
      clear hA hk hL hm1 hm2 hle hlens hcap ha0 hfit hlt hout
      go_upto_region 19 with (first | (go_at_call 19; refine (read_to HAA.out.hose 1073741824 (by omega) (by have := HQ.out; omega) hl [] hl.length hl.length (by rw [HO.out]; simp) (by rw [HO.out]; simp) HO.out rfl).mono ?_; rintro e w3 ⟨A3, c3, rfl, hR3, hA3, hK3⟩; have HR3 := Aside0.mk hR3; have HA3 := Aside0.mk hA3; have HK3 := Aside0.mk hK3; clear hR3 hA3 hK3) | ((with_reducible refine gate_builtin (b := .append) (xs := #[.tmp 82, .tmp 84]) rfl ?_); at_builtin; refine Kd.R_append_rows (Kd.int .u8) (w0 := w) w.heap.size rfl (.tmp 82) (.tmp 84) 23 5 (.int .u8 0) 1 rfl Try.underlying23 info5 rfl (by decide) (by omega) u9 gl hl _ _ _ (fun q => ¬ S q) (fun _ => False) rfl rfl ?aO ?aR (fun _ _ h => h) (fun _ h => h.elim) ?aF ?aB ?aS ?aL ?_; (case aR => exact R_to_C HR3.out); (case aB => exact HAA.out.bel.trans (HK3.out.below HAA.out.hose.ge HAA.out.bel.size)); (case aF => exact (fun q hq hs => by have := HA3.out.lt q hs; omega)); (case aO => exact Kd.R_step HAA.out.row (fun q hq hlt => HK3.out.block q hlt hq)); (case aS => exact Nat.le_trans HAA.out.bel.size HK3.out.size); (case aL => have h1 := HQ.out; omega); intro v4 w4 ho hb hg hat; have HO4 := Aside0.mk ho; have HB4 := Aside0.mk hb; have HA4 := Aside0.mk (At.move HA3.out hg.size (fun q hq => hg.block q (HA3.out.lt q hq) (fun e => HAA.out.row.1 q e.symm hq))); clear ho hb hg hat))
      have hsA : (convert 23 9 v4).run Try.prog w4.drew = .ok (.string (strOfNums (l1.take s))) w4.drew := by
        rw [← HAA.out.sum]
        exact row_string (Kd.R_drew HO4.out)
      have hsB : (convert 23 9 (.slice A1 s c1)).run Try.prog w4.drew = .ok (.string (strOfNums (l1.take s))) w4.drew := by
        have h1 := Kd.F_now (Kd.F_take (Kd.F_step (W1 := w4.drew) (Kd.C_F (Kd.heap_int _) H1.out.1) (fun q hq _ => HB4.out.block q hq)) HQ.out.2.2)
        rw [show (l1.take s).length = s by rw [List.length_take]; have := HQ.out; omega] at h1
        exact Kd.C_string Try.underlying23 Try.underlying5 Try.underlying9 h1
      generalize strOfNums (l1.take s) = X at hsA hsB
      refine wp_region_still_tail 13 (by kernel_rfl) (by kernel_rfl) ?_
      simp only [List.take_succ_cons, List.take_zero, List.drop_succ_cons, List.drop_zero]
      repeat (first | still_step | still_call (len_still (At.move HA4.out (Nat.le_refl _) (fun _ _ => rfl))))
      refine wpStill_nil ?_
      change wpList _ _ _ _ _ w4.drew
      clear hsA hsB hcut3
      go_wp2_with (go_at_call 15; refine (live_calls _).mono ?_; rintro e w' ⟨rfl, hL⟩; have HL := Aside0.mk hL; clear hL)
      go_ret
      exact ⟨rfl, (below_drew HB4.out).trans (HL.out.mono HB4.out.size)⟩
/-- HoseOrder answers true, for every room of 16 bits and all bytes. -/
def towropelaw15_HoseOrder.f (a0 : Int) (l1 l2 : List Int) : Option Bool := if 0 ≤ a0 ∧ a0 ≤ 65535 ∧ ∀ x ∈ l2, 0 ≤ x ∧ x ≤ 255 then some true else none
theorem towropelaw15_HoseOrder.calls (a0 : Int) (A1 : Option Addr) (c1 : Nat) (l1 : List Int) (A2 : Option Addr) (c2 : Nat) (l2 : List Int) (r : Bool) (w : World) (hr1 : Kd.C (Kd.int .u8) w A1 l1.length l1) (hc1 : l1.length ≤ c1) (hr2 : Kd.C (Kd.int .u8) w A2 l2.length l2) (hc2 : l2.length ≤ c2) (h : towropelaw15_HoseOrder.f a0 l1 l2 = some r) :
    Calls Try.prog 3 #[.int .u16 a0, .slice A1 l1.length c1, .slice A2 l2.length c2] w fun e w' => e = .returned (.bool r) ∧ Below w.heap.size w w' := by
  unfold towropelaw15_HoseOrder.f at h
  split at h
  case isFalse => cases h
  case isTrue ha =>
  cases h
  by_cases c : 3000 < l1.length ∨ 200 < l2.length
  · exact order_many a0 A1 c1 l1 A2 c2 l2 w c
  · exact order_all a0 A1 c1 l1 A2 c2 l2 w ha.1 ha.2.1 ha.2.2 hr1 hc1 hr2 hc2 (by omega) (by omega)
end Go.Proofs.Ytfmfpofbefgbgaa.PHoseL
