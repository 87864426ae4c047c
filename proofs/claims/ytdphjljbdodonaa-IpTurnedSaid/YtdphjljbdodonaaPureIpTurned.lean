/- A packet of whose head one byte is another one is refused. No conditions. Conditions: each lemma's own. -/
import Derived.Test.YtdphjljbdodonaaPIpx5
import Derived.Test.YtdphjljbdodonaaPIpx9
import Derived.Test.YtdphjljbdodonaaQIpTurned
import Derived.Test.YtdphjljbdodonaaIpLIpPut
namespace Go.Proofs.Ytdphjljbdodonaa.Pure
set_option linter.unusedVariables false
set_option linter.unusedSimpArgs false
open Go.RowKit Go.Proofs.Ytdphjljbdodonaa.PIp Go.Proofs.YtdphjljbdodonaaW.PrintWords Go.Proofs.YtdphjljbdodonaaW.PrintLast Go.Proofs.YtdphjljbdodonaaW.PrintMore Go.Proofs.Ytdphjljbdodonaa.Ar Go.Proofs.Ytdphjljbdodonaa.HSum Go.Proofs.Ytdphjljbdodonaa.HExt

theorem turned_j1 (k : Nat) (a0 a1 : Int) (a2 a3 : Bool) (a4 a5 a6 a7 a8 : Int) (o d : List Int) (x y : Int) (h0 : 0 ≤ a0 ∧ a0 ≤ 255) (h5 : 0 ≤ a5 ∧ a5 ≤ 255) (h6 : 0 ≤ a6 ∧ a6 ≤ 255) (hob : bytesB o = true) (hdb : bytesB d = true) (ho : o.length ≤ 40) (h4 : o.length % 4 = 0) (hd : d.length ≤ 65535)
    (x0 : 0 ≤ x ∧ x ≤ 255) (y0 : 0 ≤ y ∧ y ≤ 255) (hy : y ≠ 0) : towropelaw06_IpTurned.j1 (k + 11) x y (headIp a0 a1 a2 a3 a4 a5 a6 a7 a8 o d ++ d) false a0 a1 a2 a3 a4 a5 a6 a7 a8 o d = some true := by
  have hl := head_len a0 a1 a2 a3 a4 a5 a6 a7 a8 o d
  obtain ⟨hhb, u, u0, hu, hs⟩ := head_sum a0 a1 a2 a3 a4 a5 a6 a7 a8 o d h0 h5 h6 ho hob
  have hr0 : rd (headIp a0 a1 a2 a3 a4 a5 a6 a7 a8 o d) 0 = 69 + (o.length : Int) / 4 := rfl
  simp only [towropelaw06_IpTurned.j1]
  generalize headIp a0 a1 a2 a3 a4 a5 a6 a7 a8 o d = y' at *
  rw [if_neg (by simp), w64 (n := x) (by omega) (by omega), w64 (n := 19 + (o.length : Int)) (by omega) (by omega), if_neg (by omega), tm _ _ x0.1]
  have m0 : 0 ≤ x % (19 + (o.length : Int)) := Int.emod_nonneg _ (by omega)
  have m1 : x % (19 + (o.length : Int)) < 19 + o.length := Int.emod_lt_of_pos _ (by omega)
  obtain ⟨j, hj⟩ : ∃ j : Nat, x % (19 + (o.length : Int)) = j := ⟨(x % (19 + (o.length : Int))).toNat, by omega⟩
  rw [hj, w64 (n := 1 + (j : Int)) (by omega) (by omega), if_pos (by omega), if_pos (by rw [List.length_append]; omega), show (1 + (j : Int)) = ((j + 1 : Nat) : Int) by omega, Int.toNat_natCast]
  have hjl : j + 1 < y'.length := by omega
  have er : rd (y' ++ d) ((j + 1 : Nat) : Int) = rd y' ((j + 1 : Nat) : Int) := by
    unfold rd
    simp only [Int.toNat_natCast, List.getD_eq_getElem?_getD]
    rw [List.getElem?_append_left hjl]
  have hr : 0 ≤ rd y' ((j + 1 : Nat) : Int) ∧ rd y' ((j + 1 : Nat) : Int) ≤ 255 := Bytes.at_ (fun x hx => bytesB_mem hhb hx) _
  rw [er]
  obtain ⟨z0, zne⟩ := xor_u8 _ y hr y0 hy
  generalize Go.bits .xor .u8 (rd y' ((j + 1 : Nat) : Int)) y = z at *
  have hsum := turned_sum hhb ⟨u, u0, hu⟩ (j + 1) hjl z z0 zne hr
  have e5 : (y' ++ d).set (j + 1) z = y'.set (j + 1) z ++ d := by rw [List.set_append_left _ _ hjl]
  have hb2 : bytesB (y'.set (j + 1) z ++ d) = true := bytesB_append (turned_bytes hhb _ z0) hdb
  have hlen2 : (y'.set (j + 1) z ++ d).length = o.length + 20 + d.length := by rw [List.length_append, List.length_set, hl]
  have er0 : rd (y'.set (j + 1) z ++ d) 0 = 69 + (o.length : Int) / 4 := by
    rw [← hr0]
    unfold rd
    simp only [Int.toNat_zero, List.getD_eq_getElem?_getD]
    rw [List.getElem?_append_left (by rw [List.length_set]; omega), List.getElem?_set_ne (by omega)]
  have et : topS (y'.set (j + 1) z ++ d) = 20 + o.length := by unfold topS; rw [er0]; omega
  have etk : (y'.set (j + 1) z ++ d).take (topS (y'.set (j + 1) z ++ d)).toNat = y'.set (j + 1) z := by
    rw [et, show (20 + (o.length : Int)).toNat = (y'.set (j + 1) z).length by rw [List.length_set]; omega, List.take_left]
  have eg : getIp (y'.set (j + 1) z ++ d) = noIp 4 := by
    unfold getIp
    rw [if_neg (by rw [hlen2]; omega), if_neg (by rw [er0]; omega), if_neg (by rw [hlen2, et]; omega), etk, if_pos hsum]
  rw [e5, show k + 10 = k + 3 + 7 by omega, ipget_f (k + 3) _ hb2 (by rw [hlen2]; omega), eg]
  unfold noIp
  rw [Option.bind_some, ipcode_f, Option.bind_some, if_pos rfl, ipsame_refl, Option.bind_some, if_pos rfl, show k + 3 + 7 = k + 10 by omega, ip_live, Option.bind_some]
theorem turned_j0 (k : Nat) (a0 a1 : Int) (a2 a3 : Bool) (a4 a5 a6 a7 a8 : Int) (o d : List Int) (x y : Int) (b : Bool) (h0 : 0 ≤ a0 ∧ a0 ≤ 255) (h1 : 0 ≤ a1 ∧ a1 ≤ 65535) (h5 : 0 ≤ a5 ∧ a5 ≤ 255) (h6 : 0 ≤ a6 ∧ a6 ≤ 255) (h7 : 0 ≤ a7 ∧ a7 ≤ 4294967295) (h8 : 0 ≤ a8 ∧ a8 ≤ 4294967295) (hob : bytesB o = true) (hdb : bytesB d = true)
    (x0 : 0 ≤ x ∧ x ≤ 255) (y0 : 0 ≤ y ∧ y ≤ 255) (hb : b = false → y ≠ 0 ∧ ckS a4 o d = 0) : towropelaw06_IpTurned.j0 (k + 12) x y b a0 a1 a2 a3 a4 a5 a6 a7 a8 o d = some true := by
  simp only [towropelaw06_IpTurned.j0]
  cases b with
  | true => rw [if_pos rfl, show k + 11 = k + 1 + 10 by omega, ip_live, Option.bind_some]
  | false =>
    obtain ⟨hy, hc⟩ := hb rfl
    have hcc := hc
    unfold ckS at hcc
    split at hcc
    · simp at hcc
    rename_i hbad
    split at hcc
    · simp at hcc
    rename_i hlong
    rw [if_neg (by simp), show k + 11 = k + 6 + 5 by omega, ipput_f (k + 6) a0 a1 a2 a3 a4 a5 a6 a7 a8 o d h0 h1 h5 h6 h7 h8 hob hc]
    rw [Option.bind_some, ipcode_f, Option.bind_some, if_pos rfl]
    rw [show decide ((((headIp a0 a1 a2 a3 a4 a5 a6 a7 a8 o d ++ d).length : Nat) : Int) < 20) = false from decide_eq_false (by rw [List.length_append, head_len]; omega), show k + 6 + 5 = k + 11 by omega]
    exact turned_j1 k a0 a1 a2 a3 a4 a5 a6 a7 a8 o d x y h0 h5 h6 hob hdb (by omega) (by omega) (by omega) x0 y0 hy
theorem IpTurned : IpTurnedSt := by
  intro a0 a1 a2 a3 a4 a5 a6 a7 a8 o d x y h0 h1 _ h5 h6 h7 h8 ho hwo hd hwd hx hy
  have hob := bytesB_wf hwo
  have hdb := bytesB_wf hwd
  have g := fun (b : Bool) (hb : b = false → y ≠ 0 ∧ ckS a4 o d = 0) => turned_j0 0 a0 a1 a2 a3 a4 a5 a6 a7 a8 o d x y b (bounds_u8 h0) (bounds_u16 h1) (bounds_u8 h5) (bounds_u8 h6) (bounds_u32 h7) (bounds_u32 h8) hob hdb (bounds_u8 hx) (bounds_u8 hy) hb
  refine ⟨12, ?_⟩
  unfold towropelaw06_IpTurned.f towroperef06_Long.f
  by_cases h1 : (o.length : Int) > 100
  · rw [if_pos h1]
    rw [Option.bind_some, if_pos rfl]
    exact g true (by simp)
  · rw [if_neg h1]
    rw [Option.bind_some]
    by_cases h7 : (d.length : Int) > 70000
    · rw [if_pos (decide_eq_true h7)]
      exact g true (by simp)
    · rw [if_neg (by simpa using h7), refcheck_f 11 _ _ _ _ _ _ _ _ _ _ _ (by omega) (by omega)]
      rw [Option.bind_some]
      by_cases hc : ckS a4 o d = 0
      · rw [if_pos hc]
        exact g _ (fun hz => ⟨by simpa using hz, hc⟩)
      · rw [if_neg hc]
        exact g true (by simp)
end Go.Proofs.Ytdphjljbdodonaa.Pure
