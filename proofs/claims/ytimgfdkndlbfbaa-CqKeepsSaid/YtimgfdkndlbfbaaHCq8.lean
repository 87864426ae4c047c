/- cq: Submit. Conditions: each theorem's own. -/
import Derived.Test.YtimgfdkndlbfbaaHCq7
namespace Go.Proofs.Ytimgfdkndlbfbaa.HCq
open Go.RowKit Go.Proofs.YtimgfdkndlbfbaaW.PrintWords Go.Proofs.YtimgfdkndlbfbaaW.PrintLast Go.Proofs.YtimgfdkndlbfbaaW.PrintMore Go.Proofs.Ytimgfdkndlbfbaa.PCq Go.Proofs.Ytimgfdkndlbfbaa.HRng Go.Proofs.Ytimgfdkndlbfbaa.HReg
set_option linter.unusedVariables false
set_option linter.unusedSimpArgs false
set_option linter.unusedSectionVars false
section
variable {X : Nat → Prop} {B : Nat} {w : World} {rb eb db : Nat} {ovv : Value} {s : CS}
set_option maxRecDepth 100000 in
set_option maxHeartbeats 8000000 in
theorem Cq.submit (h : Cq X B w rb eb db ovv s) (A : Option Addr) (n c : Nat) (l : List S37) (okin : Nat → Prop) (hF : Kd.F k37 w okin A n l) (hc : n ≤ c) (hok : ∀ k, okin k → ¬ Sx rb eb db ovv k) (hdat : ∀ (i : Nat) (x : S37), l[i]? = some x → x.f10.length ≤ 1000000) (hn : n ≤ 1000000) (nn : Nat) (hnn : nn = min n (s.E - s.q.length)) :
    Calls Try.prog 15 #[.pointer (some ⟨rb, 0, none⟩), .slice A n c] w fun e w' => e = .returned (.int .i64 (nn : Int)) ∧ Cq X B w' rb eb db ovv { s with q := s.q ++ l.take nn, k0 := wrap64 (s.k0 + nn) } ∧ Kx w w' (Sx rb eb db ovv) := by
  have hle := h.q.len
  have he1 := h.e1
  have hrm := h.room37
  have hln := Kd.F_len hF
  obtain ⟨rr, hrr⟩ : ∃ rr : Int, (s.E : Int) - (s.q.length : Int) = rr := ⟨_, rfl⟩
  rw [hrr] at hrm
  obtain ⟨ii, hii, iz0, iz1, iz2⟩ := info_parts full37
  have c1 := cut_to (P := Try.prog) 38 37 .i64 Try.underlying38 hii A n c (nn : Int) (by omega) (by omega) hc
  rw [Int.toNat_natCast] at c1
  have e3 : ∀ W : World, (Builtin.min_ #[3, 3] 3 #[.int .i64 (n : Int), .int .i64 rr]).run Try.prog W = .ok (.int .i64 (nn : Int)) W := by
    intro W
    rw [run_min_int2]
    all_goals (congr 2 <;> ((repeat' split) <;> omega))
  have HH := Aside0.mk (And.intro (show nn ≤ n ∧ nn ≤ s.E - s.q.length by omega) (And.intro hle (And.intro he1 (And.intro hn (And.intro hln hc)))))
  have HRM := Aside0.mk hrm
  have HQ := Aside0.mk h
  have HF := Aside0.mk (Kd.F_bound hF)
  have HOK := Aside0.mk hok
  have HDT := Aside0.mk hdat
  clear h hF hc hok hdat hn hnn hle he1 hrm hln hrr hii iz0 iz1 iz2
  go_enter Try.func15, Try.ntmps15
  go_upto_region 4 with (go_at_call 73; (with_reducible refine HRM.out.mono ?_); rintro e2 w2 ⟨rfl, hB⟩; have HB2 := Aside0.mk hB; clear hB; dsimp only)
  clear e3
  have HQ1 := Aside0.mk (HQ.out.below HB2.out)
  have HF1 := Aside0.mk (Kd.F_below HF.out HB2.out)
  have HK1 := Aside0.mk (Kx.of_below HB2.out (Sx rb eb db ovv))
  clear HQ HF HRM
  go_wp2
  clear c1
  go_loopw [21] (fun iv wr => ∃ i : Nat, iv = .int .i64 i ∧ Aside0 (i ≤ nn ∧ Cq X B wr rb eb db ovv { s with q := s.q ++ l.take i } ∧ Kd.F k37 wr (fun k => okin k ∧ k < w.heap.size) A n l ∧ Kx w wr (Sx rb eb db ovv))) (fun iv _ => nn - num iv)
  case atStart => exact ⟨0, rfl, ⟨Nat.zero_le _, by have h_ := HQ1.out; simpa using h_, HF1.out, HK1.out⟩⟩
  case round =>
    clear HQ1 HF1 HK1 HB2
    obtain ⟨i, rfl, ⟨hi, hQ, hF, hK⟩⟩ := hrel
    have hH := HH.out
    have w1_ : IntKind.i64.wrap ((i : Int) + 1) = (i : Int) + 1 := wid _ (by omega) (by omega)
    by_cases hlt : i < nn
    · have b0 : decide ((i : Int) < (nn : Int)) = true := decide_eq_true (by omega)
      have b1 : decide (i < nn) = true := decide_eq_true hlt
      have b2 : (i < nn) = True := eq_true hlt
      have b3 : ((i : Int) < (nn : Int)) = True := eq_true (by omega)
      obtain ⟨ad, A4, c4, hA, z0, z1, z2, z3, z4, z5, z6, z7, z8, z9, z10, hl4, hC4⟩ := at_T37 (Kd.F_now hF) (i : Int) (by omega) (by omega)
      subst hA
      obtain ⟨x, hx⟩ : ∃ x, rd_T37 l (i : Int) = x := ⟨_, rfl⟩
      have hx2 : l[i]? = some x := by rw [← hx]; unfold rd_T37; rw [Int.toNat_natCast, List.getD_eq_getElem?_getD, List.getElem?_eq_getElem (by omega)]; rfl
      rw [hx] at z0 z1 z2 z3 z4 z5 z6 z7 z8 z9 z10 hl4 hC4
      simp only [Int.toNat_natCast] at z0 z1 z2 z3 z4 z5 z6 z7 z8 z9 z10
      have hxl := HDT.out i x hx2
      have HCL := Aside0.mk (fun (W : World) (hW : Below wr.heap.size wr W) => HClone.calls A4 c4 x.f10 W (Kd.C_below hC4 hW) hl4 (by omega))
      generalize hL : x.f10.length = L at z10 HCL
      have HL := Aside0.mk hL
      have HX := Aside0.mk hx2
      have HI := Aside0.mk hlt
      have HQ2 := Aside0.mk hQ
      have HF2 := Aside0.mk hF
      have HK2 := Aside0.mk hK
      have HLT := Aside0.mk (show (s.q ++ l.take i).length < s.E by rw [List.length_append, List.length_take]; omega)
      have HA3 := Aside0.mk (below_alloc (Below.refl wr.heap.size wr) (.cells #[.int .u8 x.f0, .int .u8 x.f1, .int .i64 x.f2, .int .u32 x.f3, .int .u16 x.f4, .int .i64 x.f5, .int .i64 x.f6, .int .i64 x.f7, .int .u64 x.f8, .int .u64 x.f9, .slice A4 L c4] 37))
      have HG := Aside0.mk (blk_new wr (.cells #[.int .u8 x.f0, .int .u8 x.f1, .int .i64 x.f2, .int .u32 x.f3, .int .u16 x.f4, .int .i64 x.f5, .int .i64 x.f6, .int .i64 x.f7, .int .u64 x.f8, .int .u64 x.f9, .slice A4 L c4] 37))
      clear hi hQ hF hK hH hlt hx hx2 hxl hL hl4 hC4
      go_upto_region 7 with (fail)
      clear z0 z1 z2 z3 z4 z5 z6 z7 z8 z9 z10
      obtain ⟨bx, hbx⟩ : ∃ bx, bx = wr.heap.size := ⟨_, rfl⟩
      have HBX := Aside0.mk hbx
      rw [← hbx] at HG ⊢
      clear hbx
      generalize wr.alloc (.cells #[.int .u8 x.f0, .int .u8 x.f1, .int .i64 x.f2, .int .u32 x.f3, .int .u16 x.f4, .int .i64 x.f5, .int .i64 x.f6, .int .i64 x.f7, .int .u64 x.f8, .int .u64 x.f9, .slice A4 L c4] 37) = w4 at HA3 HG ⊢
      have y10 := (blk_cell HG.out 10).trans rfl
      have fz := blk_frozen HG.out 10
      go_upto_region 8 with (go_at_call 74; (with_reducible refine (HCL.out _ HA3.out).mono ?_); rintro e7 w7 ⟨v7, rfl, hR7, hB7⟩; have HSZ7 := Aside0.mk HA3.out.size; obtain ⟨A7, c7, e7_⟩ := Kd.R_slice hR7; rw [HL.out] at e7_; subst e7_; replace HG := Aside0.mk (blk_below HG.out hB7); replace HA3 := Aside0.mk (below_step HA3.out hB7); have HR7 := Aside0.mk hR7; clear hR7 hB7 y10 fz; have y10 := (blk_cell HG.out 10).trans rfl; have fz := blk_frozen HG.out 10; dsimp only)
      have hbl : wr.heap.size ≤ bx := by have h_ := HBX.out; omega
      have HR8 := Aside0.mk (Kd.R_far (Kd.R_types HR7.out HG.out (by decide)) (p := ⟨bx, 10, none⟩) (fun _ hk => hk.2) (.slice A7 L c7))
      replace HG := Aside0.mk (blk_set HG.out 10 (.slice A7 L c7))
      replace HA3 := Aside0.mk (HA3.out.setCell (p := ⟨bx, 10, none⟩) hbl (.slice A7 L c7))
      clear y10 fz
      generalize w7.setCell ⟨bx, 10, none⟩ (.slice A7 L c7) = w8 at HR8 HG HA3 ⊢
      have hr8 := Kd.R_reads' HR8.out
      rw [HL.out] at hr8
      have hF8 : Kd.FK k37 w8 (okc rb eb db ovv X) x [.int .u8 x.f0, .int .u8 x.f1, .int .i64 x.f2, .int .u32 x.f3, .int .u16 x.f4, .int .i64 x.f5, .int .i64 x.f6, .int .i64 x.f7, .int .u64 x.f8, .int .u64 x.f9, .slice A7 L c7] := by
        have hf := Kd.R_F (Kd.R_bound HR8.out)
        rw [← HL.out] at hf
        have h1 := k37_mkF w8 (okc rb eb db ovv X) x (A10 := A7) (c10 := c7) (by rw [HL.out]; exact hr8.2.1) (Kd.F_mono hf (fun k hk => okc_fresh HQ2.out k (Nat.le_trans HSZ7.out hk.2.1)))
        rwa [HL.out] at h1
      have hD : Below w8.heap.size w8 w8.drew := below_drew (Below.refl _ _)
      have hput := (HQ2.out.below (below_step HA3.out hD)).put37 HLT.out x A7 c7 (by rw [HL.out]; exact Foot.step hF8 (fun k _ hk => hD.block k hk))
      rw [HL.out] at hput
      have HPUT := Aside0.mk hput
      have HBD := Aside0.mk (below_step HA3.out hD)
      have y0 := (blk_cell HG.out 0).trans rfl
      have y1 := (blk_cell HG.out 1).trans rfl
      have y2 := (blk_cell HG.out 2).trans rfl
      have y3 := (blk_cell HG.out 3).trans rfl
      have y4 := (blk_cell HG.out 4).trans rfl
      have y5 := (blk_cell HG.out 5).trans rfl
      have y6 := (blk_cell HG.out 6).trans rfl
      have y7 := (blk_cell HG.out 7).trans rfl
      have y8 := (blk_cell HG.out 8).trans rfl
      have y9 := (blk_cell HG.out 9).trans rfl
      have y10 := (blk_cell HG.out 10).trans rfl
      clear hr8 hF8 hD hput HR8 HR7
      go_still_tail 4, (by kernel_rfl)
      change wpList _ _ _ _ _ (World.drew _)
      generalize w8.drew = w9 at HPUT HBD ⊢
      clear y0 y1 y2 y3 y4 y5 y6 y7 y8 y9 y10
      go_wp2_with (go_at_call 75; (with_reducible refine HPUT.out.mono ?_); rintro e5 w10 ⟨rfl, hQ6, hK6⟩; have HQ6 := Aside0.mk hQ6; have HK6 := Aside0.mk hK6; clear hQ6 hK6; dsimp only)
      go_roundw
      case rel => exact ⟨i + 1, by go_num, ⟨HI.out, by
        have h_ := HQ6.out
        rw [List.take_add_one, HX.out]
        simpa only [Option.toList_some, List.append_assoc] using h_, Kd.F_step (Kd.F_below HF2.out HBD.out) (fun k hk hl => HK6.out.old k hl (HOK.out k hk.1)), (HK2.out.below HBD.out).trans HK6.out (fun k hk => .inl hk)⟩⟩
      case measure => simp only [num]; have := HI.out; omega
    · obtain rfl : i = nn := by omega
      have b0 : decide ((i : Int) < (i : Int)) = false := decide_eq_false (by omega)
      have b1 : decide (i < i) = false := decide_eq_false (by omega)
      have r7 := hQ.c7
      simp only at r7
      have fz := blk_frozen hQ.blk 7
      have wk := wr64 (s.k0 + (i : Int))
      have HQ2 := Aside0.mk hQ
      have HK := Aside0.mk hK
      clear hQ hF hK hH hi hlt
      go_wp2
      go_ret
      exact ⟨rfl, HQ2.out.setK0 _, HK.out.set ⟨rb, 7, none⟩ (.inl (.inl rfl)) _⟩
end
end Go.Proofs.Ytimgfdkndlbfbaa.HCq
