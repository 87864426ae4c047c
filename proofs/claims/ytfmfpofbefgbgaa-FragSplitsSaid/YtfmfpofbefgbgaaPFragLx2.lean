/- The law FragSplits of frag: its walk and its contract. Conditions: each theorem's own. -/
import Derived.Test.YtfmfpofbefgbgaaHSplitQ
import Derived.Test.YtfmfpofbefgbgaaHSplit4
namespace Go.Proofs.Ytfmfpofbefgbgaa.PFragL
open Go.RowKit Go.Proofs.YtfmfpofbefgbgaaW.PrintWords Go.Proofs.YtfmfpofbefgbgaaW.PrintLast Go.Proofs.YtfmfpofbefgbgaaW.PrintMore Go.Proofs.Ytfmfpofbefgbgaa.PFrb Go.Proofs.Ytfmfpofbefgbgaa.HCar Go.Proofs.Ytfmfpofbefgbgaa.HSplit Go.Proofs.Ytfmfpofbefgbgaa.HSplitQ
set_option linter.unusedVariables false
set_option linter.unusedSimpArgs false
set_option maxRecDepth 100000 in
set_option maxHeartbeats 8000000 in
theorem splits_long (a0 a1 : Int) (a2 a3 : Bool) (a4 a5 a6 a7 a8 : Int) (A9 : Option Addr) (N9 c9 : Nat) (l9 : List Int) (A10 : Option Addr) (N10 c10 : Nat) (l10 : List Int) (mtu : Int) (w : World)
    (hn9 : l9.length = N9) (hr9 : Kd.C (Kd.int .u8) w A9 N9 l9) (hc9 : N9 ≤ c9) (hn10 : l10.length = N10) (hr10 : Kd.C (Kd.int .u8) w A10 N10 l10) (hc10 : N10 ≤ c10) (hlong : longF ⟨a0, a1, a2, a3, a4, a5, a6, a7, a8, l9, l10⟩ = true) :
    Calls Try.prog 9 #[.agg #[.int .u8 a0, .int .u16 a1, .bool a2, .bool a3, .int .i64 a4, .int .u8 a5, .int .u8 a6, .int .u32 a7, .int .u32 a8, .slice A9 N9 c9, .slice A10 N10 c10], .int .i64 mtu] w fun e w' => e = .returned (.bool true) ∧ Below w.heap.size w w' := by
  have hL := fun (W : World) (hW : Below w.heap.size w W) => towroperef06_Long.calls a0 a1 a2 a3 a4 a5 a6 a7 a8 A9 c9 l9 A10 c10 l10 _ W (by rw [hn9]; exact Kd.C_below hr9 hW) (by rw [hn9]; exact hc9) (by rw [hn10]; exact Kd.C_below hr10 hW) (by rw [hn10]; exact hc10) (long_f a0 a1 a2 a3 a4 a5 a6 a7 a8 l9 l10)
  rw [hlong, hn9, hn10] at hL
  have HL := Aside0.mk hL
  have HA := Aside0.mk (below_alloc (Below.refl w.heap.size w) (.cells #[.int .u8 a0, .int .u16 a1, .bool a2, .bool a3, .int .i64 a4, .int .u8 a5, .int .u8 a6, .int .u32 a7, .int .u32 a8, .slice A9 N9 c9, .slice A10 N10 c10] 68))
  clear hn9 hr9 hc9 hn10 hr10 hc10 hlong hL
  go_enter Try.func9, Try.ntmps9
  go_wp2_with (first | (go_at_call 39; (with_reducible refine (HL.out _ HA.out).mono ?_); rintro e2 w2 ⟨rfl, hB⟩; have HB := Aside0.mk (below_step HA.out hB); clear hB; dsimp only) | (go_at_call 35; (with_reducible refine (PFragL.live_calls _).mono ?_); rintro e3 w3 ⟨rfl, hB⟩; replace HB := Aside0.mk (below_step HB.out hB); clear hB; dsimp only))
  go_ret
  exact ⟨rfl, HB.out⟩
set_option maxRecDepth 100000 in
set_option maxHeartbeats 16000000 in
theorem splits_short (a0 a1 : Int) (a2 a3 : Bool) (a4 a5 a6 a7 a8 : Int) (A9 : Option Addr) (N9 c9 : Nat) (l9 : List Int) (A10 : Option Addr) (N10 c10 : Nat) (l10 : List Int) (mtu : Int) (w : World)
    (hn9 : l9.length = N9) (hr9 : Kd.C (Kd.int .u8) w A9 N9 l9) (hc9 : N9 ≤ c9) (hn10 : l10.length = N10) (hr10 : Kd.C (Kd.int .u8) w A10 N10 l10) (hc10 : N10 ≤ c10) (hlong : longF ⟨a0, a1, a2, a3, a4, a5, a6, a7, a8, l9, l10⟩ = false) (hb : HCar.bytes l9 = true) :
    Calls Try.prog 9 #[.agg #[.int .u8 a0, .int .u16 a1, .bool a2, .bool a3, .int .i64 a4, .int .u8 a5, .int .u8 a6, .int .u32 a7, .int .u32 a8, .slice A9 N9 c9, .slice A10 N10 c10], .int .i64 mtu] w fun e w' => e = .returned (.bool true) ∧ Below w.heap.size w w' := by
  have hfit : Fit ⟨a0, a1, a2, a3, a4, a5, a6, a7, a8, l9, l10⟩ := by
    have := of_decide_eq_false hlong
    simp only at this
    exact ⟨by show l9.length ≤ 100000; omega, by show l10.length ≤ 100000; omega⟩
  have hL := fun (W : World) (hW : Below w.heap.size w W) => towroperef06_Long.calls a0 a1 a2 a3 a4 a5 a6 a7 a8 A9 c9 l9 A10 c10 l10 _ W (by rw [hn9]; exact Kd.C_below hr9 hW) (by rw [hn9]; exact hc9) (by rw [hn10]; exact Kd.C_below hr10 hW) (by rw [hn10]; exact hc10) (long_f a0 a1 a2 a3 a4 a5 a6 a7 a8 l9 l10)
  rw [hlong, hn9, hn10] at hL
  have HL := Aside0.mk hL
  have hS := fun (w' : World) (hB : Below w.heap.size w w') => split_any a0 a1 a2 a3 a4 a5 a6 a7 a8 A9 N9 c9 l9 A10 N10 c10 l10 mtu w' hn9 (Kd.C_below hr9 hB) hc9 hn10 (Kd.C_below hr10 hB) hc10 hfit hb
  have hRS := fun (w' : World) (hB : Below w.heap.size w w') => rsplit_any a0 a1 a2 a3 a4 a5 a6 a7 a8 A9 N9 c9 l9 A10 N10 c10 l10 mtu w' hn9 (Kd.C_below hr9 hB) hc9 hn10 (Kd.C_below hr10 hB) hc10 hlong hb
  have hMY := fun (w' : World) (hB : Below w.heap.size w w') => many_calls a0 a1 a2 a3 a4 a5 a6 a7 a8 A9 N9 c9 l9 A10 N10 c10 l10 mtu w' hn9 (Kd.C_below hr9 hB) hc9 hn10 (Kd.C_below hr10 hB) hc10 hfit hb
  generalize splitT ⟨a0, a1, a2, a3, a4, a5, a6, a7, a8, l9, l10⟩ mtu = RES at *
  obtain ⟨rl, re⟩ := RES
  simp only at hRS hMY
  have HS := Aside0.mk hS
  have HRS := Aside0.mk hRS
  have HMY := Aside0.mk hMY
  obtain ⟨SS, hSS⟩ : ∃ S, S = strOfNums l10 := ⟨_, rfl⟩
  have HSS := Aside0.mk hSS
  have HA := Aside0.mk (below_alloc (Below.refl w.heap.size w) (.cells #[.int .u8 a0, .int .u16 a1, .bool a2, .bool a3, .int .i64 a4, .int .u8 a5, .int .u8 a6, .int .u32 a7, .int .u32 a8, .slice A9 N9 c9, .slice A10 N10 c10] 68))
  have HGP := Aside0.mk (blk_new w (.cells #[.int .u8 a0, .int .u16 a1, .bool a2, .bool a3, .int .i64 a4, .int .u8 a5, .int .u8 a6, .int .u32 a7, .int .u32 a8, .slice A9 N9 c9, .slice A10 N10 c10] 68))
  have HR0 := Aside0.mk hr10
  have HR10 := Aside0.mk (Kd.C_below hr10 HA.out)
  clear hn9 hr9 hc9 hn10 hr10 hc10 hlong hL hS hfit hb hRS hMY hSS
  go_enter Try.func9, Try.ntmps9
  go_upto_region 1 with (fail)
  obtain ⟨gp, hgp⟩ : ∃ gp, gp = w.heap.size := ⟨_, rfl⟩
  have HGE := Aside0.mk hgp
  rw [← hgp] at HGP ⊢
  clear hgp
  generalize w.alloc (.cells #[.int .u8 a0, .int .u16 a1, .bool a2, .bool a3, .int .i64 a4, .int .u8 a5, .int .u8 a6, .int .u32 a7, .int .u32 a8, .slice A9 N9 c9, .slice A10 N10 c10] 68) = w1 at HA HGP HR10 ⊢
  have p0 := (blk_cell HGP.out 0).trans rfl; have p1 := (blk_cell HGP.out 1).trans rfl; have p2 := (blk_cell HGP.out 2).trans rfl; have p3 := (blk_cell HGP.out 3).trans rfl; have p4 := (blk_cell HGP.out 4).trans rfl; have p5 := (blk_cell HGP.out 5).trans rfl; have p6 := (blk_cell HGP.out 6).trans rfl; have p7 := (blk_cell HGP.out 7).trans rfl; have p8 := (blk_cell HGP.out 8).trans rfl; have p9 := (blk_cell HGP.out 9).trans rfl; have p10 := (blk_cell HGP.out 10).trans rfl
  go_upto_region 4 with (first | (go_at_call 39; (with_reducible refine (HL.out _ HA.out).mono ?_); rintro e2 w2 ⟨rfl, hB⟩; replace HA := Aside0.mk (below_step HA.out hB); replace HGP := Aside0.mk (blk_below HGP.out hB); replace HR10 := Aside0.mk (Kd.C_below HR10.out hB); clear hB p0 p1 p2 p3 p4 p5 p6 p7 p8 p9 p10; have p0 := (blk_cell HGP.out 0).trans rfl; have p1 := (blk_cell HGP.out 1).trans rfl; have p2 := (blk_cell HGP.out 2).trans rfl; have p3 := (blk_cell HGP.out 3).trans rfl; have p4 := (blk_cell HGP.out 4).trans rfl; have p5 := (blk_cell HGP.out 5).trans rfl; have p6 := (blk_cell HGP.out 6).trans rfl; have p7 := (blk_cell HGP.out 7).trans rfl; have p8 := (blk_cell HGP.out 8).trans rfl; have p9 := (blk_cell HGP.out 9).trans rfl; have p10 := (blk_cell HGP.out 10).trans rfl; have r0 := str_c (c := c10) HR10.out; rw [← HSS.out] at r0; dsimp only))
  clear r0
  have HAB := Aside0.mk HA.out
  have HGP0 := Aside0.mk HGP.out
  have HB2 := Aside0.mk (Below.refl w2.heap.size w2)
  go_upto_region 9 with (first | (go_at_call 40; (with_reducible refine (HS.out _ HA.out).mono ?_); rintro e5 w5 ⟨v2, rfl, hR, hB⟩; obtain ⟨A2, c2, rfl⟩ := Kd.R_slice hR; replace HA := Aside0.mk (below_step HA.out hB); replace HGP := Aside0.mk (blk_below HGP.out hB); replace HB2 := Aside0.mk (below_step HB2.out hB); have HRR := Aside0.mk hR; clear hR hB p0 p1 p2 p3 p4 p5 p6 p7 p8 p9 p10; have p0 := (blk_cell HGP.out 0).trans rfl; have p1 := (blk_cell HGP.out 1).trans rfl; have p2 := (blk_cell HGP.out 2).trans rfl; have p3 := (blk_cell HGP.out 3).trans rfl; have p4 := (blk_cell HGP.out 4).trans rfl; have p5 := (blk_cell HGP.out 5).trans rfl; have p6 := (blk_cell HGP.out 6).trans rfl; have p7 := (blk_cell HGP.out 7).trans rfl; have p8 := (blk_cell HGP.out 8).trans rfl; have p9 := (blk_cell HGP.out 9).trans rfl; have p10 := (blk_cell HGP.out 10).trans rfl; dsimp only) | (go_at_call 43; (with_reducible refine (HRS.out _ HA.out).mono ?_); rintro e6 w6 ⟨v6, rfl, ⟨B2, d2, rfl, hd2, hC6⟩, hB⟩; replace HA := Aside0.mk (below_step HA.out hB); replace HGP := Aside0.mk (blk_below HGP.out hB); replace HB2 := Aside0.mk (below_step HB2.out hB); replace HRR := Aside0.mk (Kd.R_below HRR.out hB); have HC6 := Aside0.mk hC6; have HD6 := Aside0.mk hd2; clear hd2 hC6 hB p0 p1 p2 p3 p4 p5 p6 p7 p8 p9 p10; have p0 := (blk_cell HGP.out 0).trans rfl; have p1 := (blk_cell HGP.out 1).trans rfl; have p2 := (blk_cell HGP.out 2).trans rfl; have p3 := (blk_cell HGP.out 3).trans rfl; have p4 := (blk_cell HGP.out 4).trans rfl; have p5 := (blk_cell HGP.out 5).trans rfl; have p6 := (blk_cell HGP.out 6).trans rfl; have p7 := (blk_cell HGP.out 7).trans rfl; have p8 := (blk_cell HGP.out 8).trans rfl; have p9 := (blk_cell HGP.out 9).trans rfl; have p10 := (blk_cell HGP.out 10).trans rfl; dsimp only) | (go_at_call 44; (with_reducible refine (HMY.out _ HA.out).mono ?_); rintro e7 w7 ⟨rfl, hB⟩; replace HA := Aside0.mk (below_step HA.out hB); replace HGP := Aside0.mk (blk_below HGP.out hB); replace HB2 := Aside0.mk (below_step HB2.out hB); replace HRR := Aside0.mk (Kd.R_below HRR.out hB); replace HC6 := Aside0.mk (Kd.C_below HC6.out hB); clear hB p0 p1 p2 p3 p4 p5 p6 p7 p8 p9 p10; have p0 := (blk_cell HGP.out 0).trans rfl; have p1 := (blk_cell HGP.out 1).trans rfl; have p2 := (blk_cell HGP.out 2).trans rfl; have p3 := (blk_cell HGP.out 3).trans rfl; have p4 := (blk_cell HGP.out 4).trans rfl; have p5 := (blk_cell HGP.out 5).trans rfl; have p6 := (blk_cell HGP.out 6).trans rfl; have p7 := (blk_cell HGP.out 7).trans rfl; have p8 := (blk_cell HGP.out 8).trans rfl; have p9 := (blk_cell HGP.out 9).trans rfl; have p10 := (blk_cell HGP.out 10).trans rfl; dsimp only) | (go_at_call 42; have hh := sames_calls rl _ rfl HC6.out.2.1 _ _ _ _ _ (Kd.R_reads' HRR.out).2.2 (Kd.R_reads' HRR.out).2.1 HC6.out HD6.out; (with_reducible refine hh.mono ?_); clear hh; rintro e8 w8 ⟨rfl, hB⟩; replace HA := Aside0.mk (below_step HA.out hB); replace HGP := Aside0.mk (blk_below HGP.out hB); replace HB2 := Aside0.mk (below_step HB2.out hB); replace HRR := Aside0.mk (Kd.R_below HRR.out hB); clear hB p0 p1 p2 p3 p4 p5 p6 p7 p8 p9 p10; have p0 := (blk_cell HGP.out 0).trans rfl; have p1 := (blk_cell HGP.out 1).trans rfl; have p2 := (blk_cell HGP.out 2).trans rfl; have p3 := (blk_cell HGP.out 3).trans rfl; have p4 := (blk_cell HGP.out 4).trans rfl; have p5 := (blk_cell HGP.out 5).trans rfl; have p6 := (blk_cell HGP.out 6).trans rfl; have p7 := (blk_cell HGP.out 7).trans rfl; have p8 := (blk_cell HGP.out 8).trans rfl; have p9 := (blk_cell HGP.out 9).trans rfl; have p10 := (blk_cell HGP.out 10).trans rfl; dsimp only) | (go_at_call 38; (with_reducible refine (PFragL.code_calls _ _).mono ?_); rintro e9 w9 ⟨rfl, rfl⟩; dsimp only))
  go_wp2
  have hn2m := (Kd.R_reads' HRR.out).2.2.2.1
  generalize hn2 : rl.length = n2 at HRR hn2m ⊢
  obtain ⟨g, ts, hts, hst⟩ := St.of_R_any (w0 := w2) HRR.out (Nat.le_refl _) HB2.out
  have HTS := Aside0.mk hts
  have HST := Aside0.mk hst
  have HNM := Aside0.mk hn2m
  clear HRR hn2 hn2m hts hst HC6 HD6 p0 p1 p2 p3 p4 p5 p6 p7 p8 p9 p10
  go_loopw [12] (fun iv wr => ∃ i : Nat, iv = .int .i64 i ∧ Aside0 (i ≤ n2 ∧ Below w2.heap.size w2 wr ∧ (0 < n2 → St w2 g ts wr))) (fun iv _ => n2 - num iv)
  case atStart => exact ⟨0, rfl, ⟨Nat.zero_le _, HB2.out, HST.out⟩⟩
  case round =>
    clear HST HGP HA
    obtain ⟨i, rfl, ⟨hi, hBw, hSt⟩⟩ := hrel
    by_cases hlt : i < n2
    · have b0 : decide ((i : Int) < (n2 : Int)) = true := decide_eq_true (by omega)
      have b1 : decide (i < n2) = true := decide_eq_true hlt
      have b2 : (i < n2) = True := eq_true hlt
      have b3 : ((i : Int) < (n2 : Int)) = True := eq_true (by omega)
      obtain ⟨w1_, w2_⟩ := wid2 hlt HNM.out
      obtain ⟨hA2, htl⟩ := HTS.out (by omega)
      have hS := hSt (by omega)
      obtain ⟨ad, had⟩ : ∃ ad : Addr, ad = ⟨g, 0, none⟩ := ⟨_, rfl⟩
      rw [← had] at hA2
      subst hA2
      obtain ⟨⟨A, n, c⟩, ht⟩ : ∃ t, ts[i]? = some t := ⟨_, List.getElem?_eq_getElem (by rw [htl]; exact hlt)⟩
      have HS := Aside0.mk hS
      have HK := Aside0.mk (And.intro hlt ht)
      have HAD := Aside0.mk had
      clear hi hlt ht hS hSt hBw had htl
      go_wp2
      go_loopw [13] (fun j wr => ∃ m : Nat, j = .int .i64 m ∧ Aside0 (m ≤ n ∧ St w2 g ts wr)) (fun j _ => n - num j)
      case atStart => exact ⟨0, rfl, ⟨Nat.zero_le _, HS.out⟩⟩
      case round =>
        clear HS
        obtain ⟨m, rfl, ⟨hm, hS⟩⟩ := hrel
        have hx := St.cellA HAD.out hS HK.out.2
        by_cases hlm : m < n
        · have d0 : decide ((m : Int) < (n : Int)) = true := decide_eq_true (by omega)
          have d1 : decide (m < n) = true := decide_eq_true hlm
          have d2 : (m < n) = True := eq_true hlm
          have d3 : ((m : Int) < (n : Int)) = True := eq_true (by omega)
          obtain ⟨ad2, rfl, hn, ⟨z, hz⟩, hf, hset⟩ := hS.drew.byteA HK.out.2 hlm
          have hx2 := St.cellA HAD.out hS.drew HK.out.2
          have e5 : IntKind.i64.wrap ((m : Int) + 1) = (m : Int) + 1 := (wid2 hlm (by unfold maxLen at hn; omega)).1
          have e6 : wrap64 ((m : Int) + 1) = (m : Int) + 1 := (wid2 hlm (by unfold maxLen at hn; omega)).2
          have HM := Aside0.mk hlm
          have HE := Aside0.mk hset
          clear hm hlm hset hn hS
          go_upto_region 15 with (fail)
          go_still_tail 16, (by kernel_rfl)
          change wpList _ _ _ _ _ (World.drew _)
          go_wp2
          go_roundw
          case rel => exact ⟨m + 1, by go_num, ⟨HM.out, HE.out _⟩⟩
          case measure => simp only [num]; have := HM.out; omega
        · have d0 : decide ((m : Int) < (n : Int)) = false := decide_eq_false (by omega)
          have d1 : decide (m < n) = false := decide_eq_false hlm
          have HS := Aside0.mk hS
          clear hm hlm hS
          go_wp2
          go_roundw
          case rel => exact ⟨i + 1, by go_num, ⟨HK.out.1, HS.out.2.2, fun _ => HS.out⟩⟩
          case measure => simp only [num]; have := HK.out.1; omega
    · have b0 : decide ((i : Int) < (n2 : Int)) = false := decide_eq_false (by omega)
      have b1 : decide (i < n2) = false := decide_eq_false hlt
      have HBW := Aside0.mk (below_step HAB.out hBw)
      have HGP := Aside0.mk (blk_below HGP0.out hBw)
      have r1 := str_c (c := c10) (Kd.C_below HR0.out HBW.out)
      rw [← HSS.out] at r1
      have p0 := (blk_cell HGP.out 0).trans rfl; have p1 := (blk_cell HGP.out 1).trans rfl; have p2 := (blk_cell HGP.out 2).trans rfl; have p3 := (blk_cell HGP.out 3).trans rfl; have p4 := (blk_cell HGP.out 4).trans rfl; have p5 := (blk_cell HGP.out 5).trans rfl; have p6 := (blk_cell HGP.out 6).trans rfl; have p7 := (blk_cell HGP.out 7).trans rfl; have p8 := (blk_cell HGP.out 8).trans rfl; have p9 := (blk_cell HGP.out 9).trans rfl; have p10 := (blk_cell HGP.out 10).trans rfl
      clear hi hBw hSt hlt
      go_wp2_with (go_at_call 35; (with_reducible refine (PFragL.live_calls _).mono ?_); rintro e3 w12 ⟨rfl, hB⟩; replace HBW := Aside0.mk (below_step HBW.out hB); clear hB; dsimp only)
      go_ret
      exact ⟨rfl, HBW.out⟩
def towropelaw11_FragSplits.f (a0_0 : Int) (a0_1 : Int) (a0_2 : Bool) (a0_3 : Bool) (a0_4 : Int) (a0_5 : Int) (a0_6 : Int) (a0_7 : Int) (a0_8 : Int) (l0_9 : List Int) (l0_10 : List Int) (a1 : Int) : Option (Bool) := if HCar.bytes l0_9 = true then some true else none
theorem towropelaw11_FragSplits.calls (a0_0 : Int) (a0_1 : Int) (a0_2 : Bool) (a0_3 : Bool) (a0_4 : Int) (a0_5 : Int) (a0_6 : Int) (a0_7 : Int) (a0_8 : Int) (A0_9 : Option Addr) (c0_9 : Nat) (l0_9 : List Int) (A0_10 : Option Addr) (c0_10 : Nat) (l0_10 : List Int) (a1 : Int) (r : Bool) (w : World) (hr0_9 : Kd.C (Kd.int .u8) w A0_9 l0_9.length l0_9) (hc0_9 : l0_9.length ≤ c0_9) (hr0_10 : Kd.C (Kd.int .u8) w A0_10 l0_10.length l0_10) (hc0_10 : l0_10.length ≤ c0_10) (h : towropelaw11_FragSplits.f a0_0 a0_1 a0_2 a0_3 a0_4 a0_5 a0_6 a0_7 a0_8 l0_9 l0_10 a1 = some r) :
    Calls Try.prog 9 #[.agg #[.int .u8 a0_0, .int .u16 a0_1, .bool a0_2, .bool a0_3, .int .i64 a0_4, .int .u8 a0_5, .int .u8 a0_6, .int .u32 a0_7, .int .u32 a0_8, .slice A0_9 l0_9.length c0_9, .slice A0_10 l0_10.length c0_10], .int .i64 a1] w fun e w' => e = .returned (.bool r) ∧ Below w.heap.size w w' := by
  unfold towropelaw11_FragSplits.f at h
  by_cases hb : HCar.bytes l0_9 = true
  · rw [if_pos hb] at h
    obtain rfl := Option.some.inj h
    cases hl : longF ⟨a0_0, a0_1, a0_2, a0_3, a0_4, a0_5, a0_6, a0_7, a0_8, l0_9, l0_10⟩ with
    | true => exact splits_long a0_0 a0_1 a0_2 a0_3 a0_4 a0_5 a0_6 a0_7 a0_8 A0_9 _ c0_9 l0_9 A0_10 _ c0_10 l0_10 a1 w rfl hr0_9 hc0_9 rfl hr0_10 hc0_10 hl
    | false => exact splits_short a0_0 a0_1 a0_2 a0_3 a0_4 a0_5 a0_6 a0_7 a0_8 A0_9 _ c0_9 l0_9 A0_10 _ c0_10 l0_10 a1 w rfl hr0_9 hc0_9 rfl hr0_10 hc0_10 hl hb
  · rw [if_neg hb] at h; cases h
end Go.Proofs.Ytfmfpofbefgbgaa.PFragL
