/- FragHolds: the pieces hold. Conditions: each theorem's own. -/
import Derived.Test.YtfmfpofbefgbgaaHHolds
import Derived.Test.YtfmfpofbefgbgaaPFrbx6
namespace Go.Proofs.Ytfmfpofbefgbgaa.HSplit
open Go.RowKit Go.Proofs.YtfmfpofbefgbgaaW.PrintWords Go.Proofs.YtfmfpofbefgbgaaW.PrintLast Go.Proofs.YtfmfpofbefgbgaaW.PrintMore Go.Proofs.Ytfmfpofbefgbgaa.PFrb Go.Proofs.Ytfmfpofbefgbgaa.HCar
set_option linter.unusedVariables false
set_option linter.unusedSimpArgs false
theorem ub_append {b0 : Nat} {w : World} {v : Value} {l : List Int} {A : Option Addr} {m : List Int} {c : Nat} (h : Ub b0 w v l) (hx : Kd.C (Kd.int .u8) w A m.length m) (hb : b0 ≤ w.heap.size) (hl : l.length + m.length ≤ 100000) (ty : TypeId) :
    ∃ v' w', (Builtin.append_ #[23, 23] ty #[v, .slice A m.length c]).run Try.prog w = .ok v' w' ∧ Ub b0 w' v' (l ++ m) ∧ w.grownBy w' v.ownBlock := by
  cases m with
  | cons x r => exact h.append hx (by simp) hb hl ty
  | nil =>
    obtain ⟨i, hi, hz0, hz1, hz2⟩ := info_parts HCar.info5
    refine ⟨v, w, ?_, by rw [List.append_nil]; exact h, ⟨rfl, rfl, rfl, Nat.le_refl _, fun _ _ _ => rfl⟩⟩
    obtain ⟨-, ⟨rfl, h0⟩ | ⟨g, cap, cur, rfl, -, -, hn, -⟩⟩ := h
    · cases A <;> simp [Builtin.append_, run_underlying (P := Try.prog) Try.underlying23, sizeOf, typeInfo, hi, Builtin.lenOf, Builtin.firstCells, loadCells, loadCellsFrom]
    · cases A <;> simp [Builtin.append_, run_underlying (P := Try.prog) Try.underlying23, run_underlying (P := Try.prog) Try.underlying5, sizeOf, typeInfo, hi, Builtin.lenOf, Builtin.firstCells, loadCells, loadCellsFrom, storeCells, hn]
theorem appE_step {W : World} {ops : Array Oper} {rest : List Oper} {o : Oper} {a : Act} {Q : Exit → Act → World → Prop} (hgd : o.guard = none) (s x : Operand) (ho : o.op = .call { callee := .builtin .append, args := #[s, x], argTypes := #[23, 23] })
    {b0 c n : Nat} {v : Value} {l m : List Int} {A : Option Addr} (hs : a.eval s = v) (hx : a.eval x = .slice A n c) (hn : m.length = n) (hO : Ub b0 W v l) (hR : Kd.C (Kd.int .u8) W A n m) (hb : b0 ≤ W.heap.size) (hl : l.length + n ≤ 100000)
    (h : ∀ v' w', Ub b0 w' v' (l ++ m) → W.grownBy w' v.ownBlock → wpList Try.prog ops Q rest (a.put o.dst v') w') : wpList Try.prog ops Q (o :: rest) a W := by
  subst hn
  obtain ⟨v', w', hr, h1, h2⟩ := ub_append hO (c := c) hR hb hl o.type
  refine wpList_plain hgd fun K hK => ?_
  unfold Oper.wp execOp
  simp only [ho, resolve, invoke, builtin, Sem.run_bind, Sem.run_pure, Result.andThen_ok, List.map_toArray, List.map_cons, List.map_nil, hs, hx, hr]
  exact hK _ _ (h v' w' h1 h2)
theorem ub_below {b0 : Nat} {w w' : World} {v : Value} {l : List Int} (h : Ub b0 w v l) (hB : Below w.heap.size w w') : Ub b0 w' v l :=
  own_move h (fun k hk => hB.block k (by obtain ⟨c, hc⟩ := own_typed h k hk; exact blk_lt hc))
theorem ub_ne {b0 g : Nat} {w : World} {v : Value} {l : List Int} {cells : Array Value} (h : Ub b0 w v l) (hg : w.heap[g]? = some (.cells cells 68 (0, 0))) : some g ≠ v.ownBlock := fun e => by
  obtain ⟨c, hc⟩ := own_typed h g e.symm
  rw [hg] at hc
  cases hc
theorem last_no {i n2 : Nat} (h : i + 1 < n2) : decide ((i : Int) + 1 < (n2 : Int)) = true ∧ ((i : Int) + 1 == (n2 : Int)) = false ∧ decide ((i : Int) + 1 = (n2 : Int)) = false ∧ (((i : Int) + 1 = (n2 : Int)) = False) :=
  ⟨decide_eq_true (by omega), beq_eq_false_iff_ne.2 (by omega), decide_eq_false (by omega), eq_false (by omega)⟩
theorem last_yes {i n2 : Nat} (h : i + 1 = n2) : decide ((i : Int) + 1 < (n2 : Int)) = false ∧ ((i : Int) + 1 == (n2 : Int)) = true ∧ decide ((i : Int) + 1 = (n2 : Int)) = true ∧ (((i : Int) + 1 = (n2 : Int)) = True) :=
  ⟨decide_eq_false (by omega), beq_iff_eq.2 (by omega), decide_eq_true (by omega), eq_true (by omega)⟩
theorem wid2 {i n2 : Nat} (h : i < n2) (h2 : n2 ≤ 9223372036854775807) : IntKind.i64.wrap ((i : Int) + 1) = (i : Int) + 1 ∧ wrap64 ((i : Int) + 1) = (i : Int) + 1 :=
  ⟨by simp [IntKind.wrap, IntKind.bits, IntKind.signed]; omega, by unfold wrap64; omega⟩
theorem rlen_f (p : S68) (h : Fit p) : towroperef06_Len.f p.f0 p.f1 p.f2 p.f3 p.f4 p.f5 p.f6 p.f7 p.f8 p.f9 p.f10 = some (lenP p) := by
  unfold towroperef06_Len.f lenP
  unfold Fit at h
  rw [w64 (20 + (p.f9.length : Int)) (by omega) (by omega), w64 _ (by omega) (by omega)]
theorem same_f (x : S68) : towroperef11_Same.f 3 [x] [x] = some true := by
  simp [towroperef11_Same.f, towroperef11_Same.l0, towroperef06_Same.f, rd_T68, show wrap64 1 = 1 from by decide +kernel, show wrap64 (1 + 1) = 2 from by decide +kernel]
theorem same_calls (x : S68) (A B : Option Addr) (c d : Nat) (w : World) (hA : Kd.C k68 w A 1 [x]) (hc : 1 ≤ c) (hB : Kd.C k68 w B 1 [x]) (hd : 1 ≤ d) :
    Calls Try.prog 42 #[.slice A 1 c, .slice B 1 d] w fun e w' => e = .returned (.bool true) ∧ Below w.heap.size w w' :=
  towroperef11_Same.calls 3 A c [x] B d [x] true w hA hc hB hd (same_f x)
theorem seven_facts (n : Nat) (h : n ≤ 100000) (h8 : n % 8 = 0) : Int.tmod (n : Int) 8 = 0 ∧ ((n : Int)) % 8 = 0 := by
  have : Int.tmod (n : Int) 8 = (n : Int) % 8 := Int.tmod_eq_emod_of_nonneg (by omega)
  exact ⟨by rw [this]; omega, by omega⟩
theorem str_c {w : World} {A : Option Addr} {n c : Nat} {xs : List Int} (h : Kd.C (Kd.int .u8) w A n xs) : (convert 23 9 (.slice A n c)).run Try.prog w = .ok (.string (strOfNums xs)) w :=
  Kd.C_string Try.underlying23 Try.underlying5 Try.underlying9 h
theorem C_new68 {w : World} {g : Nat} {x : S68} {A9 A10 : Option Addr} {c9 c10 : Nat} (hg : w.heap[g]? = some (.cells #[.int .u8 x.f0, .int .u16 x.f1, .bool x.f2, .bool x.f3, .int .i64 x.f4, .int .u8 x.f5, .int .u8 x.f6, .int .u32 x.f7, .int .u32 x.f8, .slice A9 x.f9.length c9, .slice A10 x.f10.length c10] 68 (0, 0)))
    (l9 : x.f9.length ≤ c9) (g9 : (Kd.int .u8).C w A9 x.f9.length x.f9) (l10 : x.f10.length ≤ c10) (g10 : (Kd.int .u8).C w A10 x.f10.length x.f10) : Kd.C k68 w (some ⟨g, 0, none⟩) 1 [x] := by
  refine ⟨rfl, by decide, fun _ => ⟨⟨g, 0, none⟩, rfl, fun j p hj => ?_⟩⟩
  have hj0 : j = 0 := by have := (List.getElem?_eq_some_iff.1 hj).1; simp at this; omega
  subst hj0
  have hj2 : x = p := by simpa using hj
  subst hj2
  refine ⟨_, rfl, k68_mk w x l9 g9 l10 g10, fun i u hu => ?_⟩
  rw [Nat.zero_mul, Nat.zero_add, show (⟨g, 0, none⟩ : Addr).add i = ⟨g, i, none⟩ by unfold Addr.add; split <;> simp_all]
  rw [blk_cell hg i]
  simpa using hu
set_option maxRecDepth 100000 in
set_option maxHeartbeats 16000000 in
theorem holds_good (a0 a1 : Int) (a2 a3 : Bool) (a4 a5 a6 a7 a8 : Int) (A9 : Option Addr) (N9 c9 : Nat) (l9 : List Int) (A10 : Option Addr) (N10 c10 : Nat) (l10 : List Int) (mtu : Int) (w : World)
    (hn9 : l9.length = N9) (hr9 : Kd.C (Kd.int .u8) w A9 N9 l9) (hc9 : N9 ≤ c9) (hn10 : l10.length = N10) (hr10 : Kd.C (Kd.int .u8) w A10 N10 l10) (hc10 : N10 ≤ c10) (hlong : longF ⟨a0, a1, a2, a3, a4, a5, a6, a7, a8, l9, l10⟩ = false) (hb : HCar.bytes l9 = true) (he : (splitT ⟨a0, a1, a2, a3, a4, a5, a6, a7, a8, l9, l10⟩ mtu).2 = 0) :
    Calls Try.prog 8 #[.agg #[.int .u8 a0, .int .u16 a1, .bool a2, .bool a3, .int .i64 a4, .int .u8 a5, .int .u8 a6, .int .u32 a7, .int .u32 a8, .slice A9 N9 c9, .slice A10 N10 c10], .int .i64 mtu] w fun e w' => e = .returned (.bool true) ∧ Below w.heap.size w w' := by
  have hfit : Fit ⟨a0, a1, a2, a3, a4, a5, a6, a7, a8, l9, l10⟩ := by
    have := of_decide_eq_false hlong
    simp only at this
    exact ⟨by show l9.length ≤ 100000; omega, by show l10.length ≤ 100000; omega⟩
  have hL := fun (W : World) (hW : Below w.heap.size w W) => towroperef06_Long.calls a0 a1 a2 a3 a4 a5 a6 a7 a8 A9 c9 l9 A10 c10 l10 _ W (by rw [hn9]; exact Kd.C_below hr9 hW) (by rw [hn9]; exact hc9) (by rw [hn10]; exact Kd.C_below hr10 hW) (by rw [hn10]; exact hc10) (long_f a0 a1 a2 a3 a4 a5 a6 a7 a8 l9 l10)
  rw [hlong, hn9, hn10] at hL
  have HL := Aside0.mk hL
  have hS := fun (w' : World) (hB : Below w.heap.size w w') => split_any a0 a1 a2 a3 a4 a5 a6 a7 a8 A9 N9 c9 l9 A10 N10 c10 l10 mtu w' hn9 (Kd.C_below hr9 hB) hc9 hn10 (Kd.C_below hr10 hB) hc10 hfit hb
  obtain ⟨hmtu, hgood⟩ := split_good _ mtu hb he
  generalize splitT ⟨a0, a1, a2, a3, a4, a5, a6, a7, a8, l9, l10⟩ mtu = RES at *
  obtain ⟨rl, re⟩ := RES
  simp only at he hgood
  subst he
  have h4 : 0 ≤ a4 ∧ a4 ≤ 8191 ∨ rl = [] := by
    cases rl with
    | nil => exact .inr rfl
    | cons x r =>
      have h1 := hgood.1.off
      have h2 := chk_zero hgood.1.ok
      have h3 : x.f4 = a4 + ((0 : Nat) : Int) / 8 := h1
      refine .inl ?_
      simp at h3
      rw [← h3]
      exact ⟨h2.1, h2.2.1⟩
  have HS := Aside0.mk hS
  have HPF := Aside0.mk (And.intro hmtu (And.intro (show l10.length ≤ 70000 by have := of_decide_eq_false hlong; simp only at this; omega) (And.intro hn10 h4)))
  have HGD := Aside0.mk hgood
  have HA := Aside0.mk (below_alloc (Below.refl w.heap.size w) (.cells #[.int .u8 a0, .int .u16 a1, .bool a2, .bool a3, .int .i64 a4, .int .u8 a5, .int .u8 a6, .int .u32 a7, .int .u32 a8, .slice A9 N9 c9, .slice A10 N10 c10] 68))
  have HGP := Aside0.mk (blk_new w (.cells #[.int .u8 a0, .int .u16 a1, .bool a2, .bool a3, .int .i64 a4, .int .u8 a5, .int .u8 a6, .int .u32 a7, .int .u32 a8, .slice A9 N9 c9, .slice A10 N10 c10] 68))
  have HR10 := Aside0.mk (Kd.C_below hr10 HA.out)
  clear hn9 hr9 hc9 hn10 hr10 hc10 hlong hL hS hfit hb hgood hmtu h4
  go_enter Try.func8, Try.ntmps8
  go_upto_region 1 with (fail)
  obtain ⟨gp, hgp⟩ : ∃ gp, gp = w.heap.size := ⟨_, rfl⟩
  have HGE := Aside0.mk hgp
  rw [← hgp] at HGP ⊢
  clear hgp
  generalize w.alloc (.cells #[.int .u8 a0, .int .u16 a1, .bool a2, .bool a3, .int .i64 a4, .int .u8 a5, .int .u8 a6, .int .u32 a7, .int .u32 a8, .slice A9 N9 c9, .slice A10 N10 c10] 68) = w1 at HA HGP HR10 ⊢
  have p0 := (blk_cell HGP.out 0).trans rfl; have p1 := (blk_cell HGP.out 1).trans rfl; have p2 := (blk_cell HGP.out 2).trans rfl; have p3 := (blk_cell HGP.out 3).trans rfl; have p4 := (blk_cell HGP.out 4).trans rfl; have p5 := (blk_cell HGP.out 5).trans rfl; have p6 := (blk_cell HGP.out 6).trans rfl; have p7 := (blk_cell HGP.out 7).trans rfl; have p8 := (blk_cell HGP.out 8).trans rfl; have p9 := (blk_cell HGP.out 9).trans rfl; have p10 := (blk_cell HGP.out 10).trans rfl
  go_upto_region 6 with (first | (go_at_call 39; (with_reducible refine (HL.out _ HA.out).mono ?_); rintro e2 w2 ⟨rfl, hB⟩; replace HA := Aside0.mk (below_step HA.out hB); replace HGP := Aside0.mk (blk_below HGP.out hB); replace HR10 := Aside0.mk (Kd.C_below HR10.out hB); clear hB p0 p1 p2 p3 p4 p5 p6 p7 p8 p9 p10; have p0 := (blk_cell HGP.out 0).trans rfl; have p1 := (blk_cell HGP.out 1).trans rfl; have p2 := (blk_cell HGP.out 2).trans rfl; have p3 := (blk_cell HGP.out 3).trans rfl; have p4 := (blk_cell HGP.out 4).trans rfl; have p5 := (blk_cell HGP.out 5).trans rfl; have p6 := (blk_cell HGP.out 6).trans rfl; have p7 := (blk_cell HGP.out 7).trans rfl; have p8 := (blk_cell HGP.out 8).trans rfl; have p9 := (blk_cell HGP.out 9).trans rfl; have p10 := (blk_cell HGP.out 10).trans rfl; dsimp only) | (go_at_call 40; (with_reducible refine (HS.out _ HA.out).mono ?_); rintro e2 w5 ⟨v2, rfl, hR, hB⟩; obtain ⟨A2, c2, rfl⟩ := Kd.R_slice hR; replace HA := Aside0.mk (below_step HA.out hB); replace HGP := Aside0.mk (blk_below HGP.out hB); replace HR10 := Aside0.mk (Kd.C_below HR10.out hB); have HRR := Aside0.mk (Kd.R_reads' hR); clear hR hB p0 p1 p2 p3 p4 p5 p6 p7 p8 p9 p10; dsimp only) | (go_at_call 38; (with_reducible refine (PFragL.code_calls _ _).mono ?_); rintro e2 w6 ⟨rfl, rfl⟩; dsimp only))
  go_wp2
  have HRL := Aside0.mk HRR.out.2.2
  have HRC := Aside0.mk HRR.out.2.1
  clear HRR
  generalize hn2 : rl.length = n2 at HRL HRC ⊢
  have HN2 := Aside0.mk hn2
  clear hn2
  go_loopw [7, 8] (fun ov iv wr => ∃ (i a : Nat) (B : Option Addr) (cb : Nat), iv = .int .i64 i ∧ ov = .slice B a cb ∧ Aside0 (Below w5.heap.size w5 wr ∧ Ub w5.heap.size wr (.slice B a cb) (l10.take a) ∧ a ≤ N10 ∧ i ≤ n2 ∧ Good ⟨a0, a1, a2, a3, a4, a5, a6, a7, a8, l9, l10⟩ mtu a (rl.drop i))) (fun _ iv _ => n2 - (match iv with | .int _ n => n.toNat | _ => 0))
  case atStart => exact ⟨0, 0, none, 0, rfl, rfl, ⟨Below.refl _ _, by rw [List.take_zero]; exact Ub.nil _ _, Nat.zero_le _, Nat.zero_le _, by rw [List.drop_zero]; exact HGD.out⟩⟩
  case round =>
    obtain ⟨i, a, B, cb, rfl, rfl, ⟨hB, hU, han, hin, hgo⟩⟩ := hrel
    have hN2 := HN2.out
    have HBX := Aside0.mk hB
    have HGP2 := Aside0.mk (blk_below HGP.out hB)
    have p0 := (blk_cell HGP2.out 0).trans rfl; have p1 := (blk_cell HGP2.out 1).trans rfl; have p2 := (blk_cell HGP2.out 2).trans rfl; have p3 := (blk_cell HGP2.out 3).trans rfl; have p4 := (blk_cell HGP2.out 4).trans rfl; have p5 := (blk_cell HGP2.out 5).trans rfl; have p6 := (blk_cell HGP2.out 6).trans rfl; have p7 := (blk_cell HGP2.out 7).trans rfl; have p8 := (blk_cell HGP2.out 8).trans rfl; have p9 := (blk_cell HGP2.out 9).trans rfl; have p10 := (blk_cell HGP2.out 10).trans rfl
    by_cases hi : i < n2
    · have b0 : decide ((i : Int) < (n2 : Int)) = true := decide_eq_true (by omega)
      have b1 : decide (i < n2) = true := decide_eq_true hi
      have b2 : (i < n2) = True := eq_true hi
      have b3 : ((i : Int) < (n2 : Int)) = True := eq_true (by omega)
      obtain ⟨hpc, hmid, hend, hgo2⟩ := good_at (show i < rl.length by omega) hgo
      obtain ⟨ad, B9, d9, B10, d10, rfl, z0, z1, z2, z3, z4, z5, z6, z7, z8, z9, z10, hd9, hD9, hd10, hD10⟩ := at_T68 HRL.out (i : Int) (by omega) (by omega)
      generalize rd_T68 rl (i : Int) = X at *
      obtain ⟨y0, y1, y2, y3, y4, y5, y6, y7, y8, m9, m10⟩ := X
      simp only at z0 z1 z2 z3 z4 z5 z6 z7 z8 z9 z10 hd9 hD9 hd10 hD10 hmid hend hgo2
      have hAG := fun (W : World) (hW : Below w5.heap.size w5 W) => again_calls W hpc HPF.out.1 rfl (Kd.C_below hD9 hW) hd9 rfl (Kd.C_below hD10 hW) hd10
      have hz := chk_zero hpc.ok
      have hlx : 20 + (m9.length : Int) + m10.length ≤ mtu := hpc.len
      have hfx : Fit ⟨y0, y1, y2, y3, y4, y5, y6, y7, y8, m9, m10⟩ := by
        have := HPF.out.1
        exact ⟨by show m9.length ≤ 100000; omega, by show m10.length ≤ 100000; omega⟩
      have hLX := fun (W : World) (hW : Below w5.heap.size w5 W) => towroperef06_Len.calls y0 y1 y2 y3 y4 y5 y6 y7 y8 B9 d9 m9 B10 d10 m10 _ W (Kd.C_below hD9 hW) hd9 (Kd.C_below hD10 hW) hd10 (rlen_f ⟨y0, y1, y2, y3, y4, y5, y6, y7, y8, m9, m10⟩ hfx)
      have hSM := fun (W : World) (hW : Below w5.heap.size w5 W) (g : Nat) (hg : W.heap[g]? = some (.cells #[.int .u8 y0, .int .u16 y1, .bool y2, .bool y3, .int .i64 y4, .int .u8 y5, .int .u8 y6, .int .u32 y7, .int .u32 y8, .slice B9 m9.length d9, .slice B10 m10.length d10] 68 (0, 0))) => C_new68 (x := ⟨y0, y1, y2, y3, y4, y5, y6, y7, y8, m9, m10⟩) hg hd9 (Kd.C_below hD9 hW) hd10 (Kd.C_below hD10 hW)
      have hlp : lenP ⟨y0, y1, y2, y3, y4, y5, y6, y7, y8, m9, m10⟩ ≤ mtu := hpc.len
      generalize lenP ⟨y0, y1, y2, y3, y4, y5, y6, y7, y8, m9, m10⟩ = LX at hLX hlp
      have d1 : decide (mtu < LX) = false := decide_eq_false (by omega)
      have hoff : y4 = a4 + (a : Int) / 8 := hpc.off
      have hroom : a + m10.length ≤ l10.length := hpc.room
      have hdat : m10 = (l10.drop a).take m10.length := hpc.data
      have htk : l10.take a ++ m10 = l10.take (a + m10.length) := by
        conv => lhs; rhs; rw [hdat]
        rw [List.take_add]
      generalize hM9 : m9.length = M9 at z9 hd9 hD9 hAG hLX hSM
      generalize hM10 : m10.length = M10 at z10 hd10 hD10 hmid hend hgo2 hAG hLX hSM hroom htk
      have ht4 : 0 ≤ a4 ∧ a4 ≤ 8191 := by
        rcases HPF.out.2.2.2 with h | h
        · exact h
        · subst h; simp at hN2; omega
      obtain ⟨q1, q2, q3, q4, q5⟩ := off_facts a4 a ht4 (by have := HPF.out.2.1; omega)
      rw [← hoff] at q3 q5
      have q6 : a4 + (a : Int) / 8 = y4 := hoff.symm
      obtain ⟨w1_, w2_⟩ := wid2 hi HRL.out.2.1
      have HTK := Aside0.mk (And.intro htk (And.intro (show (l10.take (a + M10)).length = a + M10 by rw [List.length_take]; omega) (show a + M10 ≤ N10 by have := HPF.out.2.2.1; omega)))
      have HAG := Aside0.mk hAG
      have HLX := Aside0.mk hLX
      have HSM := Aside0.mk hSM
      have HXD := Aside0.mk hD10
      have HXL := Aside0.mk hM10
      have HU := Aside0.mk hU
      have HGO := Aside0.mk hgo2
      have HIN := Aside0.mk (And.intro hi (show (l10.take a).length + M10 ≤ 100000 by have := HPF.out.2.1; rw [List.length_take]; omega))
      replace z0 := pw_cell_below hB z0; replace z1 := pw_cell_below hB z1; replace z2 := pw_cell_below hB z2; replace z3 := pw_cell_below hB z3; replace z4 := pw_cell_below hB z4; replace z5 := pw_cell_below hB z5; replace z6 := pw_cell_below hB z6; replace z7 := pw_cell_below hB z7; replace z8 := pw_cell_below hB z8; replace z9 := pw_cell_below hB z9; replace z10 := pw_cell_below hB z10
      simp only [Int.toNat_natCast] at z0 z1 z2 z3 z4 z5 z6 z7 z8 z9 z10
      have hMID : (i + 1 < n2 ∧ M10 % 8 = 0 ∧ y3 = true) ∨ (i + 1 = n2 ∧ y3 = a3) := by
        rcases Nat.lt_or_ge (i + 1) n2 with h | h
        · have h' : i + 1 < rl.length := by rw [hN2]; exact h
          exact .inl ⟨h, hmid h'⟩
        · have h' : i + 1 = n2 := Nat.le_antisymm hi h
          have h'' : i + 1 = rl.length := by rw [hN2]; exact h'
          exact .inr ⟨h', hend h''⟩
      have hM10b : M10 ≤ 100000 := by have := HPF.out.2.1; omega
      clear hAG hz hlx hfx hLX hSM hlp hoff hroom hdat htk hM9 hM10 hd9 hD9 hd10 hD10 hmid hend hgo2 hpc hU han hin hgo ht4 hB
      go_upto_region 11 with (fail)
      have HBW := Aside0.mk (below_alloc (Below.refl wr.heap.size wr) (.cells #[.int .u8 y0, .int .u16 y1, .bool y2, .bool y3, .int .i64 y4, .int .u8 y5, .int .u8 y6, .int .u32 y7, .int .u32 y8, .slice B9 M9 d9, .slice B10 M10 d10] 68))
      have HGX := Aside0.mk (blk_new wr (.cells #[.int .u8 y0, .int .u16 y1, .bool y2, .bool y3, .int .i64 y4, .int .u8 y5, .int .u8 y6, .int .u32 y7, .int .u32 y8, .slice B9 M9 d9, .slice B10 M10 d10] 68))
      have HXA := Aside0.mk (Nat.le_refl wr.heap.size)
      obtain ⟨gx, hgx⟩ : ∃ gx, gx = wr.heap.size := ⟨_, rfl⟩
      rw [← hgx] at HGX ⊢
      clear hgx z0 z1 z2 z3 z4 z5 z6 z7 z8 z9 z10 p0 p1 p2 p3 p4 p5 p6 p7 p8 p9 p10
      generalize wr.alloc (.cells #[.int .u8 y0, .int .u16 y1, .bool y2, .bool y3, .int .i64 y4, .int .u8 y5, .int .u8 y6, .int .u32 y7, .int .u32 y8, .slice B9 M9 d9, .slice B10 M10 d10] 68) = w6 at HBW HGX ⊢
      replace HU := Aside0.mk (ub_below HU.out HBW.out)
      have HGPX := Aside0.mk (blk_below HGP2.out HBW.out)
      have HB6 := Aside0.mk (below_step HBX.out HBW.out)
      clear HBW
      have x0 := (blk_cell HGX.out 0).trans rfl; have x1 := (blk_cell HGX.out 1).trans rfl; have x2 := (blk_cell HGX.out 2).trans rfl; have x3 := (blk_cell HGX.out 3).trans rfl; have x4 := (blk_cell HGX.out 4).trans rfl; have x5 := (blk_cell HGX.out 5).trans rfl; have x6 := (blk_cell HGX.out 6).trans rfl; have x7 := (blk_cell HGX.out 7).trans rfl; have x8 := (blk_cell HGX.out 8).trans rfl; have x9 := (blk_cell HGX.out 9).trans rfl; have x10 := (blk_cell HGX.out 10).trans rfl
      have p0 := (blk_cell HGPX.out 0).trans rfl; have p1 := (blk_cell HGPX.out 1).trans rfl; have p2 := (blk_cell HGPX.out 2).trans rfl; have p3 := (blk_cell HGPX.out 3).trans rfl; have p4 := (blk_cell HGPX.out 4).trans rfl; have p5 := (blk_cell HGPX.out 5).trans rfl; have p6 := (blk_cell HGPX.out 6).trans rfl; have p7 := (blk_cell HGPX.out 7).trans rfl; have p8 := (blk_cell HGPX.out 8).trans rfl; have p9 := (blk_cell HGPX.out 9).trans rfl; have p10 := (blk_cell HGPX.out 10).trans rfl
      rcases hMID with ⟨hlast, h8, rfl⟩ | ⟨hlast, rfl⟩
      · obtain ⟨e1, e2, e3, e4⟩ := last_no hlast
        obtain ⟨s1, s2⟩ := seven_facts M10 hM10b h8
        clear h8 hlast hM10b hN2 hi
        go_upto_region 13 with (go_at_call 41; (with_reducible refine (HLX.out _ HB6.out).mono ?_); rintro e7 w7 ⟨rfl, hB⟩; replace HGX := Aside0.mk (blk_below HGX.out hB); replace HGPX := Aside0.mk (blk_below HGPX.out hB); replace HU := Aside0.mk (ub_below HU.out hB); replace HB6 := Aside0.mk (below_step HB6.out hB); clear hB x0 x1 x2 x3 x4 x5 x6 x7 x8 x9 x10 p0 p1 p2 p3 p4 p5 p6 p7 p8 p9 p10; have x0 := (blk_cell HGX.out 0).trans rfl; have x1 := (blk_cell HGX.out 1).trans rfl; have x2 := (blk_cell HGX.out 2).trans rfl; have x3 := (blk_cell HGX.out 3).trans rfl; have x4 := (blk_cell HGX.out 4).trans rfl; have x5 := (blk_cell HGX.out 5).trans rfl; have x6 := (blk_cell HGX.out 6).trans rfl; have x7 := (blk_cell HGX.out 7).trans rfl; have x8 := (blk_cell HGX.out 8).trans rfl; have x9 := (blk_cell HGX.out 9).trans rfl; have x10 := (blk_cell HGX.out 10).trans rfl; have p0 := (blk_cell HGPX.out 0).trans rfl; have p1 := (blk_cell HGPX.out 1).trans rfl; have p2 := (blk_cell HGPX.out 2).trans rfl; have p3 := (blk_cell HGPX.out 3).trans rfl; have p4 := (blk_cell HGPX.out 4).trans rfl; have p5 := (blk_cell HGPX.out 5).trans rfl; have p6 := (blk_cell HGPX.out 6).trans rfl; have p7 := (blk_cell HGPX.out 7).trans rfl; have p8 := (blk_cell HGPX.out 8).trans rfl; have p9 := (blk_cell HGPX.out 9).trans rfl; have p10 := (blk_cell HGPX.out 10).trans rfl)
        clear e1 e2 e3 e4 b0 b1 b2 b3 q1 q2 q3 q4 q5 q6 d1
        by_cases h50 : n2 < 50
        · have f0 : decide ((n2 : Int) < 50) = true := decide_eq_true (by omega)
          have f1 : decide (n2 < 50) = true := decide_eq_true h50
          clear h50
          go_upto_region 16 with (first | ((with_reducible refine gate_builtin (b := .append) (xs := #[.tmp 88, .tmp 90]) rfl ?_); refine appE_step rfl (.tmp 88) (.tmp 90) (A := B10) (c := d10) (n := M10) (m := m10) rfl rfl rfl HXL.out HU.out (Kd.C_below HXD.out HB6.out) HB6.out.size HIN.out.2 ?_; intro v6 w8 hU6 hG6; replace HGX := Aside0.mk (blk_grown HGX.out hG6 (ub_ne HU.out HGX.out)); replace HGPX := Aside0.mk (blk_grown HGPX.out hG6 (ub_ne HU.out HGPX.out)); replace HB6 := Aside0.mk (pw_below_grown HB6.out _ HB6.out.size hG6 (fun k hk => HU.out.low k hk)); rw [HTK.out.1] at hU6; obtain ⟨A6, c6, rfl, hc6⟩ := hU6.shape; rw [HTK.out.2.1] at hU6 ⊢; replace HU := Aside0.mk hU6; clear hU6 hG6 hc6 x0 x1 x2 x3 x4 x5 x6 x7 x8 x9 x10 p0 p1 p2 p3 p4 p5 p6 p7 p8 p9 p10; have x0 := (blk_cell HGX.out 0).trans rfl; have x1 := (blk_cell HGX.out 1).trans rfl; have x2 := (blk_cell HGX.out 2).trans rfl; have x3 := (blk_cell HGX.out 3).trans rfl; have x4 := (blk_cell HGX.out 4).trans rfl; have x5 := (blk_cell HGX.out 5).trans rfl; have x6 := (blk_cell HGX.out 6).trans rfl; have x7 := (blk_cell HGX.out 7).trans rfl; have x8 := (blk_cell HGX.out 8).trans rfl; have x9 := (blk_cell HGX.out 9).trans rfl; have x10 := (blk_cell HGX.out 10).trans rfl) | (go_at_call 40; (with_reducible refine (HAG.out _ HB6.out).mono ?_); rintro e9 w9 ⟨v9, rfl, hR9, hB9⟩; obtain ⟨A7, c7, e9_⟩ := Kd.R_slice hR9; replace e9_ : v9 = .slice A7 1 c7 := e9_; subst e9_; replace HGX := Aside0.mk (blk_below HGX.out hB9); replace HU := Aside0.mk (ub_below HU.out hB9); replace HB6 := Aside0.mk (below_step HB6.out hB9); have HS9 := Aside0.mk (Kd.R_reads' hR9).2; clear hR9 hB9 x0 x1 x2 x3 x4 x5 x6 x7 x8 x9 x10; have x0 := (blk_cell HGX.out 0).trans rfl; have x1 := (blk_cell HGX.out 1).trans rfl; have x2 := (blk_cell HGX.out 2).trans rfl; have x3 := (blk_cell HGX.out 3).trans rfl; have x4 := (blk_cell HGX.out 4).trans rfl; have x5 := (blk_cell HGX.out 5).trans rfl; have x6 := (blk_cell HGX.out 6).trans rfl; have x7 := (blk_cell HGX.out 7).trans rfl; have x8 := (blk_cell HGX.out 8).trans rfl; have x9 := (blk_cell HGX.out 9).trans rfl; have x10 := (blk_cell HGX.out 10).trans rfl; dsimp only))
          go_wp2_with (first | (go_at_call 38; (with_reducible refine (PFragL.code_calls _ _).mono ?_); rintro e2 w10 ⟨rfl, rfl⟩; dsimp only) | (go_at_call 42; have hh := same_calls _ A7 (some ⟨w9.heap.size, 0, none⟩) c7 1 (w9.alloc _) (Kd.C_below HS9.out.2 (below_alloc (Below.refl _ _) _)) HS9.out.1 (HSM.out _ (below_alloc HB6.out _) _ (blk_new w9 _)) (Nat.le_refl 1); (with_reducible refine hh.mono ?_); clear hh; rintro e11 w11 ⟨rfl, hB11⟩; replace HU := Aside0.mk (ub_below (ub_below HU.out (below_alloc (Below.refl _ _) _)) hB11); replace HB6 := Aside0.mk (below_step (below_alloc HB6.out _) hB11); clear hB11; dsimp only))
          go_roundw
          case rel => exact ⟨i + 1, a + M10, _, _, by go_num, rfl, ⟨HB6.out, HU.out, HTK.out.2.2, HIN.out.1, HGO.out⟩⟩
          case measure => simp only; have := HIN.out.1; omega
        · have f0 : decide ((n2 : Int) < 50) = false := decide_eq_false (by omega)
          have f1 : decide (n2 < 50) = false := decide_eq_false h50
          clear h50
          go_wp2_with ((with_reducible refine gate_builtin (b := .append) (xs := #[.tmp 88, .tmp 90]) rfl ?_); refine appE_step rfl (.tmp 88) (.tmp 90) (A := B10) (c := d10) (n := M10) (m := m10) rfl rfl rfl HXL.out HU.out (Kd.C_below HXD.out HB6.out) HB6.out.size HIN.out.2 ?_; intro v6 w8 hU6 hG6; replace HGX := Aside0.mk (blk_grown HGX.out hG6 (ub_ne HU.out HGX.out)); replace HGPX := Aside0.mk (blk_grown HGPX.out hG6 (ub_ne HU.out HGPX.out)); replace HB6 := Aside0.mk (pw_below_grown HB6.out _ HB6.out.size hG6 (fun k hk => HU.out.low k hk)); rw [HTK.out.1] at hU6; obtain ⟨A6, c6, rfl, hc6⟩ := hU6.shape; rw [HTK.out.2.1] at hU6 ⊢; replace HU := Aside0.mk hU6; clear hU6 hG6 hc6 x0 x1 x2 x3 x4 x5 x6 x7 x8 x9 x10 p0 p1 p2 p3 p4 p5 p6 p7 p8 p9 p10; have x0 := (blk_cell HGX.out 0).trans rfl; have x1 := (blk_cell HGX.out 1).trans rfl; have x2 := (blk_cell HGX.out 2).trans rfl; have x3 := (blk_cell HGX.out 3).trans rfl; have x4 := (blk_cell HGX.out 4).trans rfl; have x5 := (blk_cell HGX.out 5).trans rfl; have x6 := (blk_cell HGX.out 6).trans rfl; have x7 := (blk_cell HGX.out 7).trans rfl; have x8 := (blk_cell HGX.out 8).trans rfl; have x9 := (blk_cell HGX.out 9).trans rfl; have x10 := (blk_cell HGX.out 10).trans rfl)
          go_roundw
          case rel => exact ⟨i + 1, a + M10, _, _, by go_num, rfl, ⟨HB6.out, HU.out, HTK.out.2.2, HIN.out.1, HGO.out⟩⟩
          case measure => simp only; have := HIN.out.1; omega
      · obtain ⟨e1, e2, e3, e4⟩ := last_yes hlast
        clear hlast hM10b hN2 hi
        go_upto_region 13 with (go_at_call 41; (with_reducible refine (HLX.out _ HB6.out).mono ?_); rintro e7 w7 ⟨rfl, hB⟩; replace HGX := Aside0.mk (blk_below HGX.out hB); replace HGPX := Aside0.mk (blk_below HGPX.out hB); replace HU := Aside0.mk (ub_below HU.out hB); replace HB6 := Aside0.mk (below_step HB6.out hB); clear hB x0 x1 x2 x3 x4 x5 x6 x7 x8 x9 x10 p0 p1 p2 p3 p4 p5 p6 p7 p8 p9 p10; have x0 := (blk_cell HGX.out 0).trans rfl; have x1 := (blk_cell HGX.out 1).trans rfl; have x2 := (blk_cell HGX.out 2).trans rfl; have x3 := (blk_cell HGX.out 3).trans rfl; have x4 := (blk_cell HGX.out 4).trans rfl; have x5 := (blk_cell HGX.out 5).trans rfl; have x6 := (blk_cell HGX.out 6).trans rfl; have x7 := (blk_cell HGX.out 7).trans rfl; have x8 := (blk_cell HGX.out 8).trans rfl; have x9 := (blk_cell HGX.out 9).trans rfl; have x10 := (blk_cell HGX.out 10).trans rfl; have p0 := (blk_cell HGPX.out 0).trans rfl; have p1 := (blk_cell HGPX.out 1).trans rfl; have p2 := (blk_cell HGPX.out 2).trans rfl; have p3 := (blk_cell HGPX.out 3).trans rfl; have p4 := (blk_cell HGPX.out 4).trans rfl; have p5 := (blk_cell HGPX.out 5).trans rfl; have p6 := (blk_cell HGPX.out 6).trans rfl; have p7 := (blk_cell HGPX.out 7).trans rfl; have p8 := (blk_cell HGPX.out 8).trans rfl; have p9 := (blk_cell HGPX.out 9).trans rfl; have p10 := (blk_cell HGPX.out 10).trans rfl)
        clear e1 e2 e3 e4 b0 b1 b2 b3 q1 q2 q3 q4 q5 q6 d1
        by_cases h50 : n2 < 50
        · have f0 : decide ((n2 : Int) < 50) = true := decide_eq_true (by omega)
          have f1 : decide (n2 < 50) = true := decide_eq_true h50
          clear h50
          go_upto_region 16 with (first | ((with_reducible refine gate_builtin (b := .append) (xs := #[.tmp 88, .tmp 90]) rfl ?_); refine appE_step rfl (.tmp 88) (.tmp 90) (A := B10) (c := d10) (n := M10) (m := m10) rfl rfl rfl HXL.out HU.out (Kd.C_below HXD.out HB6.out) HB6.out.size HIN.out.2 ?_; intro v6 w8 hU6 hG6; replace HGX := Aside0.mk (blk_grown HGX.out hG6 (ub_ne HU.out HGX.out)); replace HGPX := Aside0.mk (blk_grown HGPX.out hG6 (ub_ne HU.out HGPX.out)); replace HB6 := Aside0.mk (pw_below_grown HB6.out _ HB6.out.size hG6 (fun k hk => HU.out.low k hk)); rw [HTK.out.1] at hU6; obtain ⟨A6, c6, rfl, hc6⟩ := hU6.shape; rw [HTK.out.2.1] at hU6 ⊢; replace HU := Aside0.mk hU6; clear hU6 hG6 hc6 x0 x1 x2 x3 x4 x5 x6 x7 x8 x9 x10 p0 p1 p2 p3 p4 p5 p6 p7 p8 p9 p10; have x0 := (blk_cell HGX.out 0).trans rfl; have x1 := (blk_cell HGX.out 1).trans rfl; have x2 := (blk_cell HGX.out 2).trans rfl; have x3 := (blk_cell HGX.out 3).trans rfl; have x4 := (blk_cell HGX.out 4).trans rfl; have x5 := (blk_cell HGX.out 5).trans rfl; have x6 := (blk_cell HGX.out 6).trans rfl; have x7 := (blk_cell HGX.out 7).trans rfl; have x8 := (blk_cell HGX.out 8).trans rfl; have x9 := (blk_cell HGX.out 9).trans rfl; have x10 := (blk_cell HGX.out 10).trans rfl) | (go_at_call 40; (with_reducible refine (HAG.out _ HB6.out).mono ?_); rintro e9 w9 ⟨v9, rfl, hR9, hB9⟩; obtain ⟨A7, c7, e9_⟩ := Kd.R_slice hR9; replace e9_ : v9 = .slice A7 1 c7 := e9_; subst e9_; replace HGX := Aside0.mk (blk_below HGX.out hB9); replace HU := Aside0.mk (ub_below HU.out hB9); replace HB6 := Aside0.mk (below_step HB6.out hB9); have HS9 := Aside0.mk (Kd.R_reads' hR9).2; clear hR9 hB9 x0 x1 x2 x3 x4 x5 x6 x7 x8 x9 x10; have x0 := (blk_cell HGX.out 0).trans rfl; have x1 := (blk_cell HGX.out 1).trans rfl; have x2 := (blk_cell HGX.out 2).trans rfl; have x3 := (blk_cell HGX.out 3).trans rfl; have x4 := (blk_cell HGX.out 4).trans rfl; have x5 := (blk_cell HGX.out 5).trans rfl; have x6 := (blk_cell HGX.out 6).trans rfl; have x7 := (blk_cell HGX.out 7).trans rfl; have x8 := (blk_cell HGX.out 8).trans rfl; have x9 := (blk_cell HGX.out 9).trans rfl; have x10 := (blk_cell HGX.out 10).trans rfl; dsimp only))
          go_wp2_with (first | (go_at_call 38; (with_reducible refine (PFragL.code_calls _ _).mono ?_); rintro e2 w10 ⟨rfl, rfl⟩; dsimp only) | (go_at_call 42; have hh := same_calls _ A7 (some ⟨w9.heap.size, 0, none⟩) c7 1 (w9.alloc _) (Kd.C_below HS9.out.2 (below_alloc (Below.refl _ _) _)) HS9.out.1 (HSM.out _ (below_alloc HB6.out _) _ (blk_new w9 _)) (Nat.le_refl 1); (with_reducible refine hh.mono ?_); clear hh; rintro e11 w11 ⟨rfl, hB11⟩; replace HU := Aside0.mk (ub_below (ub_below HU.out (below_alloc (Below.refl _ _) _)) hB11); replace HB6 := Aside0.mk (below_step (below_alloc HB6.out _) hB11); clear hB11; dsimp only))
          go_roundw
          case rel => exact ⟨i + 1, a + M10, _, _, by go_num, rfl, ⟨HB6.out, HU.out, HTK.out.2.2, HIN.out.1, HGO.out⟩⟩
          case measure => simp only; have := HIN.out.1; omega
        · have f0 : decide ((n2 : Int) < 50) = false := decide_eq_false (by omega)
          have f1 : decide (n2 < 50) = false := decide_eq_false h50
          clear h50
          go_wp2_with ((with_reducible refine gate_builtin (b := .append) (xs := #[.tmp 88, .tmp 90]) rfl ?_); refine appE_step rfl (.tmp 88) (.tmp 90) (A := B10) (c := d10) (n := M10) (m := m10) rfl rfl rfl HXL.out HU.out (Kd.C_below HXD.out HB6.out) HB6.out.size HIN.out.2 ?_; intro v6 w8 hU6 hG6; replace HGX := Aside0.mk (blk_grown HGX.out hG6 (ub_ne HU.out HGX.out)); replace HGPX := Aside0.mk (blk_grown HGPX.out hG6 (ub_ne HU.out HGPX.out)); replace HB6 := Aside0.mk (pw_below_grown HB6.out _ HB6.out.size hG6 (fun k hk => HU.out.low k hk)); rw [HTK.out.1] at hU6; obtain ⟨A6, c6, rfl, hc6⟩ := hU6.shape; rw [HTK.out.2.1] at hU6 ⊢; replace HU := Aside0.mk hU6; clear hU6 hG6 hc6 x0 x1 x2 x3 x4 x5 x6 x7 x8 x9 x10 p0 p1 p2 p3 p4 p5 p6 p7 p8 p9 p10; have x0 := (blk_cell HGX.out 0).trans rfl; have x1 := (blk_cell HGX.out 1).trans rfl; have x2 := (blk_cell HGX.out 2).trans rfl; have x3 := (blk_cell HGX.out 3).trans rfl; have x4 := (blk_cell HGX.out 4).trans rfl; have x5 := (blk_cell HGX.out 5).trans rfl; have x6 := (blk_cell HGX.out 6).trans rfl; have x7 := (blk_cell HGX.out 7).trans rfl; have x8 := (blk_cell HGX.out 8).trans rfl; have x9 := (blk_cell HGX.out 9).trans rfl; have x10 := (blk_cell HGX.out 10).trans rfl)
          go_roundw
          case rel => exact ⟨i + 1, a + M10, _, _, by go_num, rfl, ⟨HB6.out, HU.out, HTK.out.2.2, HIN.out.1, HGO.out⟩⟩
          case measure => simp only; have := HIN.out.1; omega
    · obtain rfl := good_end (show ¬ i < rl.length by rw [hN2]; exact hi) hgo
      have b0 : decide ((i : Int) < (n2 : Int)) = false := decide_eq_false (by omega)
      have b1 : decide (i < n2) = false := decide_eq_false hi
      have b2 : (i < n2) = False := eq_false hi
      have b3 : ((i : Int) < (n2 : Int)) = False := eq_false (by omega)
      have hall := hU.reads
      rw [List.take_length] at hall
      have r1 := str_c (c := cb) hall
      have r2 := str_c (c := c10) (Kd.C_below HR10.out hB)
      have HLN := Aside0.mk HPF.out.2.2.1
      generalize strOfNums l10 = SS at r1 r2
      have HAB := Aside0.mk (below_step HA.out hB)
      clear hU han hin hgo hB hall hi hN2
      go_wp2_with (go_at_call 35; (with_reducible refine (PFragL.live_calls _).mono ?_); rintro e3 w12 ⟨rfl, hB⟩; replace HAB := Aside0.mk (below_step HAB.out hB); clear hB; dsimp only)
      go_ret
      exact ⟨rfl, HAB.out⟩
end Go.Proofs.Ytfmfpofbefgbgaa.HSplit
