/- frag.Split: its loop. Conditions: each theorem's own. -/
import Derived.Test.YtfmfpofbefgbgaaHSplit
import Derived.Laws.BitsAllLaws
namespace Go.Proofs.Ytfmfpofbefgbgaa.HSplit
open Go.RowKit Go.Proofs.YtfmfpofbefgbgaaW.PrintWords Go.Proofs.YtfmfpofbefgbgaaW.PrintLast Go.Proofs.YtfmfpofbefgbgaaW.PrintMore Go.Proofs.Ytfmfpofbefgbgaa.PFrb Go.Proofs.Ytfmfpofbefgbgaa.HCar
set_option linter.unusedVariables false
set_option linter.unusedSimpArgs false
theorem piece_facts (p : S68) (c : List Int) (mtu : Int) (a : Nat) (h0 : 68 ≤ mtu) (h9 : p.f9.length ≤ 40) (hc : c.length ≤ 40) (ha : a < p.f10.length) : 0 < (piece p c mtu a).f10.length ∧ a + (piece p c mtu a).f10.length ≤ p.f10.length := by
  have ho : (if 0 < a then c else p.f9).length ≤ 40 := by split <;> omega
  unfold piece
  simp only
  generalize (if 0 < a then c else p.f9) = o at ho
  split
  · rename_i hm
    rw [List.length_drop] at hm
    simp only [List.length_take, List.length_drop]
    unfold room
    omega
  · simp only [List.length_drop]
    omega
theorem and8 (m : Nat) (h : m < 2 ^ 63) : m &&& 18446744073709551608 = m / 8 * 8 := by
  apply Nat.eq_of_testBit_eq
  intro i
  rw [Nat.testBit_and, show 18446744073709551608 = (2 ^ 61 - 1) * 2 ^ 3 from rfl, Nat.testBit_mul_two_pow, Nat.testBit_two_pow_sub_one, show m / 8 * 8 = m / 2 ^ 3 * 2 ^ 3 from rfl, Nat.testBit_mul_two_pow, Nat.testBit_div_two_pow]
  by_cases h3 : 3 ≤ i
  · rw [show i - 3 + 3 = i by omega]
    by_cases h4 : i - 3 < 61
    · simp [h3, h4]
    · have : m.testBit i = false := Nat.testBit_lt_two_pow (Nat.lt_of_lt_of_le h (Nat.pow_le_pow_right (by decide) (by omega)))
      simp [this]
  · simp [h3]
theorem andNot7 (m : Nat) (h : m < 9223372036854775808) : bits .andNot .i64 (m : Int) 7 = ((m / 8 * 8 : Nat) : Int) := by
  show IntKind.i64.wrap ((BitVec.ofInt 64 (m : Int) &&& ~~~BitVec.ofInt 64 7).toNat : Int) = _
  rw [BitVec.toNat_and, BitVec.toNat_not]
  have e1 : (BitVec.ofInt 64 (m : Int)).toNat = m := by simp; omega
  have e2 : 2 ^ 64 - 1 - (BitVec.ofInt 64 7).toNat = 18446744073709551608 := by decide
  rw [e1, e2, and8 m h]
  simp [IntKind.wrap, IntKind.bits, IntKind.signed]
  omega
/-- What fits of the data: its numbers as the walk spells them. -/
theorem room_facts (w : World) (A : Option Addr) (n c : Nat) (l : List Int) (mtu : Int) (o : Nat) (hn : l.length = n) (h : Kd.C (Kd.int .u8) w A n l) (hc : n ≤ c) (h0 : 68 ≤ mtu ∧ mtu ≤ 65535) (ho : o ≤ 40) (hl : mtu < 20 + (o : Int) + (n : Int)) : ∃ R RM : Nat, wrap64 (mtu - 20) = mtu - 20 ∧ IntKind.i64.wrap (mtu - 20) = mtu - 20 ∧ wrap64 (mtu - 20 - (o : Int)) = (R : Int) ∧ IntKind.i64.wrap (mtu - 20 - (o : Int)) = (R : Int) ∧ bits .andNot .i64 (R : Int) 7 = (RM : Int) ∧ (∀ W : World, (Instr.slice 23 (.slice A n c) none (some (.int .i64 (RM : Int))) none).run Try.prog W = .ok (.slice A RM c) W) ∧ Kd.C (Kd.int .u8) w A RM (l.take RM) ∧ (l.take RM).length = RM ∧ RM ≤ c ∧ RM = room mtu o := by
  obtain ⟨R, hR⟩ : ∃ R : Nat, mtu - 20 - (o : Int) = R := ⟨(mtu - 20 - (o : Int)).toNat, by omega⟩
  obtain ⟨ii, hii, iz0, iz1, iz2⟩ := info_parts HCar.info5
  have hlen : (l.take (R / 8 * 8)).length = R / 8 * 8 := by rw [List.length_take]; omega
  have c2 := cut_to (P := Try.prog) 23 5 .i64 Try.underlying23 hii A n c ((R / 8 * 8 : Nat) : Int) (by omega) (by omega) hc
  rw [Int.toNat_natCast] at c2
  rw [← hn] at h
  have hC := Kd.C_take (k := Kd.int .u8) h (m := R / 8 * 8) (by omega)
  rw [hlen] at hC
  refine ⟨R, R / 8 * 8, w64 _ (by omega) (by omega), HCar.wid _ (by omega) (by omega), by rw [hR]; exact w64 _ (by omega) (by omega), by rw [hR]; exact HCar.wid _ (by omega) (by omega), andNot7 R (by omega), c2, hC, hlen, by omega, ?_⟩
  unfold room
  rw [hR]
  omega
theorem own_lt {α : Type} {d : Kd α} {e base : Nat} {w : World} {ok : Nat → Prop} {v : Value} {xs : List α} (h : d.R e w base ok v xs) (k : Nat) (hk : v.ownBlock = some k) : k < w.heap.size := by
  obtain ⟨-, inner, hown, -⟩ := h
  obtain ⟨cs, hc⟩ := own_typed hown k hk
  exact blk_lt hc
theorem off_facts (a4 : Int) (a : Nat) (h : 0 ≤ a4 ∧ a4 ≤ 8191) (ha : a ≤ 100000) : IntKind.i64.wrap (Int.tdiv (a : Int) 8) = (a : Int) / 8 ∧ Int.tdiv (a : Int) 8 = (a : Int) / 8 ∧ IntKind.i64.wrap (a4 + (a : Int) / 8) = a4 + (a : Int) / 8 ∧ wrap64 ((a : Int) / 8) = (a : Int) / 8 ∧ wrap64 (a4 + (a : Int) / 8) = a4 + (a : Int) / 8 := by
  have e : Int.tdiv (a : Int) 8 = (a : Int) / 8 := Int.tdiv_eq_ediv_of_nonneg (by omega)
  rw [e]
  exact ⟨HCar.wid _ (by omega) (by omega), rfl, HCar.wid _ (by omega) (by omega), w64 _ (by omega) (by omega), w64 _ (by omega) (by omega)⟩
theorem cut_facts (w : World) (A : Option Addr) (n c : Nat) (l : List Int) (a : Nat) (hn : l.length = n) (h : Kd.C (Kd.int .u8) w A n l) (hc : n ≤ c) (ha : a < l.length) : ∃ (A2 : Option Addr) (ND CD : Nat), (∀ W : World, (Instr.slice 23 (.slice A n c) (some (.int .i64 (a : Int))) none none).run Try.prog W = .ok (.slice A2 ND CD) W) ∧ Kd.C (Kd.int .u8) w A2 ND (l.drop a) ∧ (l.drop a).length = ND ∧ ND ≤ CD ∧ n = a + ND := by
  obtain ⟨ii, hii, iz0, iz1, iz2⟩ := info_parts HCar.info5
  have c1 := cut_from (P := Try.prog) 23 5 .i64 Try.underlying23 hii 1 iz1 A n c (a : Int) (by omega) (by omega)
  rw [Int.toNat_natCast] at c1
  rw [← hn] at h
  have hC := Kd.C_drop (k := Kd.int .u8) h (m := a) (by omega) (c := c) (by omega)
  rw [List.length_drop, hn] at hC
  exact ⟨_, _, _, c1, hC, by rw [List.length_drop, hn], by omega, by omega⟩
theorem pcs_end (p : S68) (c : List Int) (mtu : Int) (k a : Nat) (out : List S68) (h : ¬ a < p.f10.length) : pcs p c mtu k a out = some out := by
  cases k with
  | zero => rfl
  | succ k => unfold pcs; rw [if_neg h]
set_option maxRecDepth 100000 in
set_option maxHeartbeats 16000000 in
theorem split_many (a0 a1 : Int) (a3 : Bool) (a4 a5 a6 a7 a8 : Int) (A9 : Option Addr) (N9 c9 : Nat) (l9 : List Int) (A10 : Option Addr) (N10 c10 : Nat) (l10 : List Int) (mtu : Int) (c : List Int) (w : World)
    (hn9 : l9.length = N9) (hr9 : Kd.C (Kd.int .u8) w A9 N9 l9) (hc9 : N9 ≤ c9) (hn10 : l10.length = N10) (hr10 : Kd.C (Kd.int .u8) w A10 N10 l10) (hc10 : N10 ≤ c10) (hfit : Fit ⟨a0, a1, false, a3, a4, a5, a6, a7, a8, l9, l10⟩) (h0 : chk ⟨a0, a1, false, a3, a4, a5, a6, a7, a8, l9, l10⟩ = 0) (h1 : ¬ (mtu < 68 ∨ 65535 < mtu)) (h2 : ¬ lenP ⟨a0, a1, false, a3, a4, a5, a6, a7, a8, l9, l10⟩ ≤ mtu) (hcar : HCar.carF (fun l => octet_Pad.f 70 l 4) l9 = some (c, 0)) (hc40 : c.length ≤ 40) :
    Calls Try.prog 40 #[.agg #[.int .u8 a0, .int .u16 a1, .bool false, .bool a3, .int .i64 a4, .int .u8 a5, .int .u8 a6, .int .u32 a7, .int .u32 a8, .slice A9 N9 c9, .slice A10 N10 c10], .int .i64 mtu] w (Ans w (splitF ⟨a0, a1, false, a3, a4, a5, a6, a7, a8, l9, l10⟩ mtu c 0)) := by
  rw [show splitF ⟨a0, a1, false, a3, a4, a5, a6, a7, a8, l9, l10⟩ mtu c 0 = (match pcs ⟨a0, a1, false, a3, a4, a5, a6, a7, a8, l9, l10⟩ c mtu (l10.length + 1) 0 [] with | none => ([], 8) | some l => (l, 0)) from by unfold splitF; rw [if_neg (by rw [h0]; decide), if_neg h1, if_neg h2, if_neg (by simp), if_neg (by simp)]; rfl]
  have b1 : (chk ⟨a0, a1, false, a3, a4, a5, a6, a7, a8, l9, l10⟩ != 0) = false := by rw [h0]; rfl
  have b2 : decide (chk ⟨a0, a1, false, a3, a4, a5, a6, a7, a8, l9, l10⟩ = 0) = true := decide_eq_true h0
  have d1 : decide (mtu < 68) = false := decide_eq_false (fun e => h1 (.inl e))
  have d2 : decide (65535 < mtu) = false := decide_eq_false (fun e => h1 (.inr e))
  have d3 : decide (lenP ⟨a0, a1, false, a3, a4, a5, a6, a7, a8, l9, l10⟩ ≤ mtu) = false := decide_eq_false h2
  have HCZ := Aside0.mk (And.intro (show 0 ≤ a4 ∧ a4 ≤ 8191 ∧ l9.length ≤ 40 ∧ l9.length % 4 = 0 ∧ lenP ⟨a0, a1, false, a3, a4, a5, a6, a7, a8, l9, l10⟩ ≤ 65535 from chk_zero h0) (And.intro h1 hc40))
  rw [hn10]
  generalize hres : (match pcs ⟨a0, a1, false, a3, a4, a5, a6, a7, a8, l9, l10⟩ c mtu (N10 + 1) 0 [] with | none => (([] : List S68), (8 : Int)) | some l => (l, 0)) = RES
  have HRS := Aside0.mk hres
  clear h1 h2 hc40 hres
  have HF := Aside0.mk (show l9.length ≤ 100000 ∧ l10.length ≤ 100000 from hfit)
  have hca := (fun (W : World) (hW : Below w.heap.size w W) => frag_Carried.calls 1 A9 c9 l9 c 0 W (by rw [hn9]; exact Kd.C_below hr9 hW) (by rw [hn9]; exact hc9) (by unfold frag_Carried.f; exact hcar))
  rw [hn9] at hca
  have HCA := Aside0.mk hca
  clear hca hcar
  have HC9 := Aside0.mk hc9
  have HC10 := Aside0.mk hc10
  have HB := Aside0.mk (below_alloc (Below.refl w.heap.size w) (.cells #[.int .u8 a0, .int .u16 a1, .bool false, .bool a3, .int .i64 a4, .int .u8 a5, .int .u8 a6, .int .u32 a7, .int .u32 a8, .slice A9 N9 c9, .slice A10 N10 c10] 68))
  have HGP := Aside0.mk (blk_new w (.cells #[.int .u8 a0, .int .u16 a1, .bool false, .bool a3, .int .i64 a4, .int .u8 a5, .int .u8 a6, .int .u32 a7, .int .u32 a8, .slice A9 N9 c9, .slice A10 N10 c10] 68))
  have HR9 := Aside0.mk (Kd.C_below hr9 HB.out)
  have HR10 := Aside0.mk (Kd.C_below hr10 HB.out)
  have hck := (fun (W : World) (hW : Below w.heap.size w W) => ip_Check.calls 3 a0 a1 false a3 a4 a5 a6 a7 a8 A9 c9 l9 A10 c10 l10 _ W (by rw [hn9]; exact Kd.C_below hr9 hW) (by rw [hn9]; exact hc9) (by rw [hn10]; exact Kd.C_below hr10 hW) (by rw [hn10]; exact hc10) (chk_f ⟨a0, a1, false, a3, a4, a5, a6, a7, a8, l9, l10⟩ hfit))
  have hle := (fun (W : World) (hW : Below w.heap.size w W) => ip_Len.calls a0 a1 false a3 a4 a5 a6 a7 a8 A9 c9 l9 A10 c10 l10 _ W (by rw [hn9]; exact Kd.C_below hr9 hW) (by rw [hn9]; exact hc9) (by rw [hn10]; exact Kd.C_below hr10 hW) (by rw [hn10]; exact hc10) (len_f ⟨a0, a1, false, a3, a4, a5, a6, a7, a8, l9, l10⟩ hfit))
  have hco := (fun (W : World) (hW : Below w.heap.size w W) => frag_copied.calls a0 a1 false a3 a4 a5 a6 a7 a8 A9 c9 l9 A10 c10 l10 a0 a1 false a3 a4 a5 a6 a7 a8 l9 l10 W (by rw [hn9]; exact Kd.C_below hr9 hW) (by rw [hn9]; exact hc9) (by rw [hn10]; exact Kd.C_below hr10 hW) (by rw [hn10]; exact hc10) (len_copied ⟨a0, a1, false, a3, a4, a5, a6, a7, a8, l9, l10⟩ hfit))
  rw [hn9, hn10, h0] at hck
  rw [hn9, hn10] at hle hco
  have HCK := Aside0.mk hck
  have HLE := Aside0.mk hle
  have HCO := Aside0.mk hco
  have HNN := Aside0.mk (And.intro hn9 hn10)
  clear b1 b2 hr9 hc9 hr10 hc10 hfit hn9 hn10 hck hle hco
  go_enter Try.func40, Try.ntmps40
  go_upto_region 1 with (fail)
  obtain ⟨gp, hgp⟩ : ∃ gp, gp = w.heap.size := ⟨_, rfl⟩
  have HGE := Aside0.mk hgp
  rw [← hgp] at HGP ⊢
  clear hgp
  generalize w.alloc (.cells #[.int .u8 a0, .int .u16 a1, .bool false, .bool a3, .int .i64 a4, .int .u8 a5, .int .u8 a6, .int .u32 a7, .int .u32 a8, .slice A9 N9 c9, .slice A10 N10 c10] 68) = w1 at HB HGP HR9 HR10 ⊢
  have p0 := (blk_cell HGP.out 0).trans rfl; have p1 := (blk_cell HGP.out 1).trans rfl; have p2 := (blk_cell HGP.out 2).trans rfl; have p3 := (blk_cell HGP.out 3).trans rfl; have p4 := (blk_cell HGP.out 4).trans rfl; have p5 := (blk_cell HGP.out 5).trans rfl; have p6 := (blk_cell HGP.out 6).trans rfl; have p7 := (blk_cell HGP.out 7).trans rfl; have p8 := (blk_cell HGP.out 8).trans rfl; have p9 := (blk_cell HGP.out 9).trans rfl; have p10 := (blk_cell HGP.out 10).trans rfl
  go_upto_region 14 with (first | (go_at_call 68; have hh := HCK.out _ HB.out; with_reducible refine hh.mono ?_; clear hh; rintro e2 w2 ⟨rfl, hB⟩; replace HB := Aside0.mk (below_step HB.out hB); replace HGP := Aside0.mk (blk_below HGP.out hB); replace HR9 := Aside0.mk (Kd.C_below HR9.out hB); replace HR10 := Aside0.mk (Kd.C_below HR10.out hB); clear hB p0 p1 p2 p3 p4 p5 p6 p7 p8 p9 p10; have p0 := (blk_cell HGP.out 0).trans rfl; have p1 := (blk_cell HGP.out 1).trans rfl; have p2 := (blk_cell HGP.out 2).trans rfl; have p3 := (blk_cell HGP.out 3).trans rfl; have p4 := (blk_cell HGP.out 4).trans rfl; have p5 := (blk_cell HGP.out 5).trans rfl; have p6 := (blk_cell HGP.out 6).trans rfl; have p7 := (blk_cell HGP.out 7).trans rfl; have p8 := (blk_cell HGP.out 8).trans rfl; have p9 := (blk_cell HGP.out 9).trans rfl; have p10 := (blk_cell HGP.out 10).trans rfl) | (go_at_call 69; have hh := HLE.out _ HB.out; with_reducible refine hh.mono ?_; clear hh; rintro e2 w2 ⟨rfl, hB⟩; replace HB := Aside0.mk (below_step HB.out hB); replace HGP := Aside0.mk (blk_below HGP.out hB); replace HR9 := Aside0.mk (Kd.C_below HR9.out hB); replace HR10 := Aside0.mk (Kd.C_below HR10.out hB); clear hB p0 p1 p2 p3 p4 p5 p6 p7 p8 p9 p10; have p0 := (blk_cell HGP.out 0).trans rfl; have p1 := (blk_cell HGP.out 1).trans rfl; have p2 := (blk_cell HGP.out 2).trans rfl; have p3 := (blk_cell HGP.out 3).trans rfl; have p4 := (blk_cell HGP.out 4).trans rfl; have p5 := (blk_cell HGP.out 5).trans rfl; have p6 := (blk_cell HGP.out 6).trans rfl; have p7 := (blk_cell HGP.out 7).trans rfl; have p8 := (blk_cell HGP.out 8).trans rfl; have p9 := (blk_cell HGP.out 9).trans rfl; have p10 := (blk_cell HGP.out 10).trans rfl) | (go_at_call 36; have hh := HCA.out _ HB.out; with_reducible refine hh.mono ?_; clear hh; rintro e2 w5 ⟨vc, rfl, hVc, hB⟩; obtain ⟨Bc, dc, rfl⟩ := Kd.R_slice hVc; have HVC := Aside0.mk hVc; have HBC := Aside0.mk hB; replace HB := Aside0.mk (below_step HB.out hB); replace HGP := Aside0.mk (blk_below HGP.out hB); replace HR9 := Aside0.mk (Kd.C_below HR9.out hB); replace HR10 := Aside0.mk (Kd.C_below HR10.out hB); clear hB hVc p0 p1 p2 p3 p4 p5 p6 p7 p8 p9 p10; have p0 := (blk_cell HGP.out 0).trans rfl; have p1 := (blk_cell HGP.out 1).trans rfl; have p2 := (blk_cell HGP.out 2).trans rfl; have p3 := (blk_cell HGP.out 3).trans rfl; have p4 := (blk_cell HGP.out 4).trans rfl; have p5 := (blk_cell HGP.out 5).trans rfl; have p6 := (blk_cell HGP.out 6).trans rfl; have p7 := (blk_cell HGP.out 7).trans rfl; have p8 := (blk_cell HGP.out 8).trans rfl; have p9 := (blk_cell HGP.out 9).trans rfl; have p10 := (blk_cell HGP.out 10).trans rfl))
  go_wp2
  generalize hNc : c.length = Nc at HVC
  have HNC := Aside0.mk hNc
  clear hNc d1 d2 d3 p0 p1 p2 p3 p4 p5 p6 p7 p8 p9 p10
  have HBL := Aside0.mk HB.out
  have HH : Aside0 (Below w5.heap.size w5 w5 ∧ Kd.R k68 68 w5 w5.heap.size (fun _ => True) (.slice none 0 0) [] ∧ 0 = ([] : List S68).length ∧ 0 ≤ 0 ∧ N10 + 1 ≤ 0 + (N10 + 1) ∧ 0 ≤ N10) := ⟨Below.refl _ _, Kd.R_nil _ _ _ _ _, rfl, Nat.le_refl _, by omega, Nat.zero_le _⟩
  go_loopw [9, 10] (fun ov av wr => ∃ (k a : Nat) (B : Option Addr) (m cb : Nat) (out : List S68), av = .int .i64 a ∧ ov = .slice B m cb ∧ Aside0 (Below w5.heap.size w5 wr ∧ Kd.R k68 68 wr w5.heap.size (fun _ => True) (.slice B m cb) out ∧ m = out.length ∧ out.length ≤ a ∧ N10 + 1 ≤ a + k ∧ a ≤ N10 ∧ pcs ⟨a0, a1, false, a3, a4, a5, a6, a7, a8, l9, l10⟩ c mtu k a out = pcs ⟨a0, a1, false, a3, a4, a5, a6, a7, a8, l9, l10⟩ c mtu (N10 + 1) 0 [])) (fun _ av _ => N10 - (match av with | .int _ n => n.toNat | _ => 0))
  case atStart => exact ⟨N10 + 1, 0, none, 0, 0, [], rfl, rfl, ⟨HH.out.1, HH.out.2.1, HH.out.2.2.1, HH.out.2.2.2.1, HH.out.2.2.2.2.1, HH.out.2.2.2.2.2, rfl⟩⟩
  case round =>
    clear HH
    obtain ⟨k, a, B, m, cb, out, rfl, rfl, ⟨hB, hR, hm, hoa, hak, han, hpq⟩⟩ := hrel
    have HBX := Aside0.mk hB
    have HOUT := Aside0.mk (And.intro hR (And.intro hm hoa))
    have HPQ := Aside0.mk hpq
    have HGP2 := Aside0.mk (blk_below HGP.out hB)
    have p0 := (blk_cell HGP2.out 0).trans rfl; have p1 := (blk_cell HGP2.out 1).trans rfl; have p2 := (blk_cell HGP2.out 2).trans rfl; have p3 := (blk_cell HGP2.out 3).trans rfl; have p4 := (blk_cell HGP2.out 4).trans rfl; have p5 := (blk_cell HGP2.out 5).trans rfl; have p6 := (blk_cell HGP2.out 6).trans rfl; have p7 := (blk_cell HGP2.out 7).trans rfl; have p8 := (blk_cell HGP2.out 8).trans rfl; have p9 := (blk_cell HGP2.out 9).trans rfl; have p10 := (blk_cell HGP2.out 10).trans rfl
    by_cases ha : a < N10
    · have b0 : decide ((a : Int) < (N10 : Int)) = true := decide_eq_true (by omega)
      have b1 : decide (a < N10) = true := decide_eq_true ha
      have b2 : (a < N10) = True := eq_true ha
      have b3 : ((a : Int) < (N10 : Int)) = True := eq_true (by omega)
      obtain ⟨k, rfl⟩ : ∃ k', k = k' + 1 := ⟨k - 1, by omega⟩
      have HA := Aside0.mk (And.intro hak (show a < l10.length by rw [HNN.out.2]; exact ha))
      clear hB hR hm hoa hak han hpq ha
      go_upto_region 17 with (fail)
      have HBW := Aside0.mk (below_alloc (Below.refl wr.heap.size wr) (.cells #[.int .u8 a0, .int .u16 a1, .bool false, .bool a3, .int .i64 a4, .int .u8 a5, .int .u8 a6, .int .u32 a7, .int .u32 a8, .slice A9 N9 c9, .slice A10 N10 c10] 68))
      have HGX := Aside0.mk (blk_new wr (.cells #[.int .u8 a0, .int .u16 a1, .bool false, .bool a3, .int .i64 a4, .int .u8 a5, .int .u8 a6, .int .u32 a7, .int .u32 a8, .slice A9 N9 c9, .slice A10 N10 c10] 68))
      obtain ⟨gx, hgx⟩ : ∃ gx, gx = wr.heap.size := ⟨_, rfl⟩
      have HXL := Aside0.mk (Nat.le_of_eq hgx.symm)
      rw [← hgx] at HGX ⊢
      clear hgx p0 p1 p2 p3 p4 p5 p6 p7 p8 p9 p10
      generalize wr.alloc (.cells #[.int .u8 a0, .int .u16 a1, .bool false, .bool a3, .int .i64 a4, .int .u8 a5, .int .u8 a6, .int .u32 a7, .int .u32 a8, .slice A9 N9 c9, .slice A10 N10 c10] 68) = w6 at HBW HGX ⊢
      by_cases a0_ : a = 0
      · have ap : decide (0 < (a : Int)) = false := decide_eq_false (by omega)
        have ap2 : decide (0 < a) = false := decide_eq_false (by omega)
        have HAP := Aside0.mk (show ¬ 0 < a by omega)
        clear a0_
        have hchk := HCZ.out.1
        have hnn := HNN.out
        obtain ⟨q1, q2, q3, q4, q5⟩ := off_facts a4 a ⟨hchk.1, hchk.2.1⟩ (by have := HA.out.2; have := HF.out.2; omega)
        obtain ⟨A2, ND, CD, c1, hC', hND⟩ := cut_facts w5 A10 N10 c10 l10 a hnn.2 HR10.out HC10.out HA.out.2
        have HND := Aside0.mk hND
        clear hND
        have HD := Aside0.mk hC'
        clear hchk hnn hC'
        have HGPX := Aside0.mk (blk_below HGP2.out HBW.out)
        have x0 := (blk_cell HGX.out 0).trans rfl
        have x1 := (blk_cell HGX.out 1).trans rfl
        have x2 := (blk_cell HGX.out 2).trans rfl
        have x3 := (blk_cell HGX.out 3).trans rfl
        have x4 := (blk_cell HGX.out 4).trans rfl
        have x5 := (blk_cell HGX.out 5).trans rfl
        have x6 := (blk_cell HGX.out 6).trans rfl
        have x7 := (blk_cell HGX.out 7).trans rfl
        have x8 := (blk_cell HGX.out 8).trans rfl
        have x9 := (blk_cell HGX.out 9).trans rfl
        have x10 := (blk_cell HGX.out 10).trans rfl
        have p0 := (blk_cell HGPX.out 0).trans rfl
        have p1 := (blk_cell HGPX.out 1).trans rfl
        have p2 := (blk_cell HGPX.out 2).trans rfl
        have p3 := (blk_cell HGPX.out 3).trans rfl
        have p4 := (blk_cell HGPX.out 4).trans rfl
        have p5 := (blk_cell HGPX.out 5).trans rfl
        have p6 := (blk_cell HGPX.out 6).trans rfl
        have p7 := (blk_cell HGPX.out 7).trans rfl
        have p8 := (blk_cell HGPX.out 8).trans rfl
        have p9 := (blk_cell HGPX.out 9).trans rfl
        have p10 := (blk_cell HGPX.out 10).trans rfl
        have fz := blk_frozen HGX.out 4
        go_upto_region 20 with (fail)
        have k1_ := blk_put HGX.out 4 (.int .i64 (a4 + (a : Int) / 8)) rfl
        replace HGX := Aside0.mk k1_
        replace HBW := Aside0.mk (HBW.out.setCell (p := ⟨gx, 4, none⟩) HXL.out (.int .i64 (a4 + (a : Int) / 8)))
        clear k1_ x0 x1 x2 x3 x4 x5 x6 x7 x8 x9 x10 p0 p1 p2 p3 p4 p5 p6 p7 p8 p9 p10 fz HGPX
        generalize w6.setCell ⟨gx, 4, none⟩ (.int .i64 (a4 + (a : Int) / 8)) = w8 at HGX HBW ⊢
        have HGPX := Aside0.mk (blk_below HGP2.out HBW.out)
        have x0 := (blk_cell HGX.out 0).trans rfl
        have x1 := (blk_cell HGX.out 1).trans rfl
        have x2 := (blk_cell HGX.out 2).trans rfl
        have x3 := (blk_cell HGX.out 3).trans rfl
        have x4 := (blk_cell HGX.out 4).trans rfl
        have x5 := (blk_cell HGX.out 5).trans rfl
        have x6 := (blk_cell HGX.out 6).trans rfl
        have x7 := (blk_cell HGX.out 7).trans rfl
        have x8 := (blk_cell HGX.out 8).trans rfl
        have x9 := (blk_cell HGX.out 9).trans rfl
        have x10 := (blk_cell HGX.out 10).trans rfl
        have p0 := (blk_cell HGPX.out 0).trans rfl
        have p1 := (blk_cell HGPX.out 1).trans rfl
        have p2 := (blk_cell HGPX.out 2).trans rfl
        have p3 := (blk_cell HGPX.out 3).trans rfl
        have p4 := (blk_cell HGPX.out 4).trans rfl
        have p5 := (blk_cell HGPX.out 5).trans rfl
        have p6 := (blk_cell HGPX.out 6).trans rfl
        have p7 := (blk_cell HGPX.out 7).trans rfl
        have p8 := (blk_cell HGPX.out 8).trans rfl
        have p9 := (blk_cell HGPX.out 9).trans rfl
        have p10 := (blk_cell HGPX.out 10).trans rfl
        have fz := blk_frozen HGX.out 10
        go_upto_region 21 with (fail)
        have k1_ := blk_put HGX.out 10 (.slice A2 ND CD) rfl
        replace HGX := Aside0.mk k1_
        replace HBW := Aside0.mk (HBW.out.setCell (p := ⟨gx, 10, none⟩) HXL.out (.slice A2 ND CD))
        clear k1_ x0 x1 x2 x3 x4 x5 x6 x7 x8 x9 x10 p0 p1 p2 p3 p4 p5 p6 p7 p8 p9 p10 fz HGPX c1 q1 q2 q3 q4 q5
        generalize w8.setCell ⟨gx, 10, none⟩ (.slice A2 ND CD) = w9 at HGX HBW ⊢
        have HOC := Aside0.mk (show Kd.C (Kd.int .u8) w5 A9 N9 l9 ∧ l9.length = N9 ∧ N9 ≤ c9 ∧ N9 ≤ 40 from ⟨HR9.out, HNN.out.1, HC9.out, by rw [← HNN.out.1]; exact HCZ.out.1.2.2.1⟩)
        have hD := HD.out
        have hle2 := (fun (W : World) (hW : Below w5.heap.size w5 W) => ip_Len.calls a0 a1 false a3 (a4 + (a : Int) / 8) a5 a6 a7 a8 A9 c9 l9 A2 CD (l10.drop a) _ W (by rw [HOC.out.2.1]; exact Kd.C_below HOC.out.1 hW) (by rw [HOC.out.2.1]; exact HOC.out.2.2.1) (by rw [HND.out.1]; exact Kd.C_below hD hW) (by rw [HND.out.1]; exact HND.out.2.1) (len_f ⟨a0, a1, false, a3, a4 + (a : Int) / 8, a5, a6, a7, a8, l9, l10.drop a⟩ (show l9.length ≤ 100000 ∧ (l10.drop a).length ≤ 100000 from ⟨by have := HOC.out; omega, by have := HF.out.2; rw [List.length_drop]; omega⟩)))
        simp only [lenP] at hle2
        rw [HOC.out.2.1, HND.out.1] at hle2
        have HLX := Aside0.mk hle2
        clear hD hle2
        have HGPX := Aside0.mk (blk_below HGP2.out HBW.out)
        have x0 := (blk_cell HGX.out 0).trans rfl
        have x1 := (blk_cell HGX.out 1).trans rfl
        have x2 := (blk_cell HGX.out 2).trans rfl
        have x3 := (blk_cell HGX.out 3).trans rfl
        have x4 := (blk_cell HGX.out 4).trans rfl
        have x5 := (blk_cell HGX.out 5).trans rfl
        have x6 := (blk_cell HGX.out 6).trans rfl
        have x7 := (blk_cell HGX.out 7).trans rfl
        have x8 := (blk_cell HGX.out 8).trans rfl
        have x9 := (blk_cell HGX.out 9).trans rfl
        have x10 := (blk_cell HGX.out 10).trans rfl
        have p0 := (blk_cell HGPX.out 0).trans rfl
        have p1 := (blk_cell HGPX.out 1).trans rfl
        have p2 := (blk_cell HGPX.out 2).trans rfl
        have p3 := (blk_cell HGPX.out 3).trans rfl
        have p4 := (blk_cell HGPX.out 4).trans rfl
        have p5 := (blk_cell HGPX.out 5).trans rfl
        have p6 := (blk_cell HGPX.out 6).trans rfl
        have p7 := (blk_cell HGPX.out 7).trans rfl
        have p8 := (blk_cell HGPX.out 8).trans rfl
        have p9 := (blk_cell HGPX.out 9).trans rfl
        have p10 := (blk_cell HGPX.out 10).trans rfl
        by_cases hlong : mtu < 20 + (N9 : Int) + (ND : Int)
        · have f1 : decide (mtu < 20 + (N9 : Int) + (ND : Int)) = true := decide_eq_true hlong
          go_upto_region 22 with (go_at_call 69; have hh := HLX.out _ (below_step HBX.out HBW.out); with_reducible refine hh.mono ?_; clear hh; rintro e2 w10 ⟨rfl, hB⟩; replace HGX := Aside0.mk (blk_below HGX.out hB); replace HBW := Aside0.mk (below_step HBW.out hB); clear hB x0 x1 x2 x3 x4 x5 x6 x7 x8 x9 x10 p0 p1 p2 p3 p4 p5 p6 p7 p8 p9 p10 HGPX; have HGPX := Aside0.mk (blk_below HGP2.out HBW.out); have x0 := (blk_cell HGX.out 0).trans rfl; have x1 := (blk_cell HGX.out 1).trans rfl; have x2 := (blk_cell HGX.out 2).trans rfl; have x3 := (blk_cell HGX.out 3).trans rfl; have x4 := (blk_cell HGX.out 4).trans rfl; have x5 := (blk_cell HGX.out 5).trans rfl; have x6 := (blk_cell HGX.out 6).trans rfl; have x7 := (blk_cell HGX.out 7).trans rfl; have x8 := (blk_cell HGX.out 8).trans rfl; have x9 := (blk_cell HGX.out 9).trans rfl; have x10 := (blk_cell HGX.out 10).trans rfl; have p0 := (blk_cell HGPX.out 0).trans rfl; have p1 := (blk_cell HGPX.out 1).trans rfl; have p2 := (blk_cell HGPX.out 2).trans rfl; have p3 := (blk_cell HGPX.out 3).trans rfl; have p4 := (blk_cell HGPX.out 4).trans rfl; have p5 := (blk_cell HGPX.out 5).trans rfl; have p6 := (blk_cell HGPX.out 6).trans rfl; have p7 := (blk_cell HGPX.out 7).trans rfl; have p8 := (blk_cell HGPX.out 8).trans rfl; have p9 := (blk_cell HGPX.out 9).trans rfl; have p10 := (blk_cell HGPX.out 10).trans rfl)
          have fz := blk_frozen HGX.out 10
          have hcz := HCZ.out
          obtain ⟨R, RM, s1, s2, s3, s4, s5, c2, hRC, hRL, hRc, hRm⟩ := room_facts w5 A2 ND CD (l10.drop a) mtu N9 HND.out.1 HD.out HND.out.2.1 (by have := hcz.2.1; omega) HOC.out.2.2.2 hlong
          have HDD := Aside0.mk (And.intro hRC (And.intro hRL hRc))
          have HPIX := Aside0.mk (show piece ⟨a0, a1, false, a3, a4, a5, a6, a7, a8, l9, l10⟩ c mtu a = ⟨a0, a1, false, true, a4 + (a : Int) / 8, a5, a6, a7, a8, l9, (l10.drop a).take RM⟩ by
            unfold piece
            simp only [if_neg HAP.out, HNN.out.1, HND.out.1]
            rw [if_pos hlong, hRm])
          clear hcz hRC hRL hRc hRm hlong
          go_upto_region 23 with (fail)
          have k1_ := blk_put HGX.out 10 (.slice A2 RM CD) rfl
          replace HGX := Aside0.mk k1_
          replace HBW := Aside0.mk (HBW.out.setCell (p := ⟨gx, 10, none⟩) HXL.out (.slice A2 RM CD))
          clear k1_ x0 x1 x2 x3 x4 x5 x6 x7 x8 x9 x10 p0 p1 p2 p3 p4 p5 p6 p7 p8 p9 p10 fz HGPX c2 s1 s2 s3 s4 s5
          generalize w10.setCell ⟨gx, 10, none⟩ (.slice A2 RM CD) = w12 at HGX HBW ⊢
          have x0 := (blk_cell HGX.out 0).trans rfl
          have x1 := (blk_cell HGX.out 1).trans rfl
          have x2 := (blk_cell HGX.out 2).trans rfl
          have x3 := (blk_cell HGX.out 3).trans rfl
          have x4 := (blk_cell HGX.out 4).trans rfl
          have x5 := (blk_cell HGX.out 5).trans rfl
          have x6 := (blk_cell HGX.out 6).trans rfl
          have x7 := (blk_cell HGX.out 7).trans rfl
          have x8 := (blk_cell HGX.out 8).trans rfl
          have x9 := (blk_cell HGX.out 9).trans rfl
          have x10 := (blk_cell HGX.out 10).trans rfl
          have fz := blk_frozen HGX.out 3
          go_upto_region 24 with (fail)
          have k1_ := blk_put HGX.out 3 (.bool true) rfl
          replace HGX := Aside0.mk k1_
          replace HBW := Aside0.mk (HBW.out.setCell (p := ⟨gx, 3, none⟩) HXL.out (.bool true))
          clear k1_ x0 x1 x2 x3 x4 x5 x6 x7 x8 x9 x10 fz
          generalize w12.setCell ⟨gx, 3, none⟩ (.bool true) = w13 at HGX HBW ⊢
          have x0 := (blk_cell HGX.out 0).trans rfl
          have x1 := (blk_cell HGX.out 1).trans rfl
          have x2 := (blk_cell HGX.out 2).trans rfl
          have x3 := (blk_cell HGX.out 3).trans rfl
          have x4 := (blk_cell HGX.out 4).trans rfl
          have x5 := (blk_cell HGX.out 5).trans rfl
          have x6 := (blk_cell HGX.out 6).trans rfl
          have x7 := (blk_cell HGX.out 7).trans rfl
          have x8 := (blk_cell HGX.out 8).trans rfl
          have x9 := (blk_cell HGX.out 9).trans rfl
          have x10 := (blk_cell HGX.out 10).trans rfl
          by_cases f8 : 8191 < a4 + (a : Int) / 8
          · have g1 : decide (8191 < a4 + (a : Int) / 8) = true := decide_eq_true f8
            have HE : Aside0 (pcs ⟨a0, a1, false, a3, a4, a5, a6, a7, a8, l9, l10⟩ c mtu (k + 1) a out = none) := ⟨by rw [pcs, if_pos HA.out.2, HPIX.out]; exact if_pos f8⟩
            have HBF := Aside0.mk (below_step HBX.out HBW.out)
            clear f8
            go_wp2
            go_ret2
            have hq : pcs ⟨a0, a1, false, a3, a4, a5, a6, a7, a8, l9, l10⟩ c mtu (N10 + 1) 0 [] = none := HPQ.out.symm.trans HE.out
            rw [← HRS.out, hq]
            exact ⟨_, rfl, Kd.R_nil _ _ _ _ _, below_step HB.out HBF.out⟩
          have g1 : decide (8191 < a4 + (a : Int) / 8) = false := decide_eq_false f8
          have HS := Aside0.mk (show pcs ⟨a0, a1, false, a3, a4, a5, a6, a7, a8, l9, l10⟩ c mtu (k + 1) a out = pcs ⟨a0, a1, false, a3, a4, a5, a6, a7, a8, l9, l10⟩ c mtu k (a + RM) (out ++ [(S68.mk a0 a1 false true (a4 + (a : Int) / 8) a5 a6 a7 a8 l9 ((l10.drop a).take RM))]) by
            rw [pcs, if_pos HA.out.2, HPIX.out, if_neg f8]
            rw [show (S68.mk a0 a1 false true (a4 + (a : Int) / 8) a5 a6 a7 a8 l9 ((l10.drop a).take RM)).f10.length = RM from HDD.out.2.1])
          have hpf := piece_facts ⟨a0, a1, false, a3, a4, a5, a6, a7, a8, l9, l10⟩ c mtu a (by have := HCZ.out.2.1; omega) HCZ.out.1.2.2.1 HCZ.out.2.2 HA.out.2
          rw [HPIX.out] at hpf
          have hpf2 : 0 < RM ∧ a + RM ≤ N10 := by
            have h1 : (S68.mk a0 a1 false true (a4 + (a : Int) / 8) a5 a6 a7 a8 l9 ((l10.drop a).take RM)).f10.length = RM := HDD.out.2.1
            have h2 : (⟨a0, a1, false, a3, a4, a5, a6, a7, a8, l9, l10⟩ : S68).f10.length = N10 := HNN.out.2
            rw [h1, h2] at hpf
            exact hpf
          have HPF := Aside0.mk hpf2
          have HN1 := Aside0.mk (show N10 ≤ 100000 by have := HF.out.2; have := HNN.out.2; omega)
          have u1 : IntKind.i64.wrap ((a : Int) + (RM : Int)) = (a : Int) + (RM : Int) := HCar.wid _ (by omega) (by have := HN1.out; omega)
          have u2 : wrap64 ((a : Int) + (RM : Int)) = (a : Int) + (RM : Int) := w64 _ (by omega) (by have := HN1.out; omega)
          have hoc := HOC.out
          have hdd := HDD.out
          have hcx := (fun (W : World) (hW : Below w5.heap.size w5 W) => frag_copied.calls a0 a1 false true (a4 + (a : Int) / 8) a5 a6 a7 a8 A9 c9 l9 A2 CD ((l10.drop a).take RM) a0 a1 false true (a4 + (a : Int) / 8) a5 a6 a7 a8 l9 ((l10.drop a).take RM) W (by rw [hoc.2.1]; exact Kd.C_below hoc.1 hW) (by rw [hoc.2.1]; exact hoc.2.2.1) (by rw [hdd.2.1]; exact Kd.C_below hdd.1 hW) (by rw [hdd.2.1]; exact hdd.2.2) (len_copied (S68.mk a0 a1 false true (a4 + (a : Int) / 8) a5 a6 a7 a8 l9 ((l10.drop a).take RM)) (show l9.length ≤ 100000 ∧ ((l10.drop a).take RM).length ≤ 100000 from ⟨by omega, by have := HN1.out; rw [hdd.2.1]; omega⟩)))
          rw [hoc.2.1, hdd.2.1] at hcx
          have HCX := Aside0.mk hcx
          clear f8 hpf hpf2 hoc hdd hcx
          go_wp2_with (first | (go_at_call 70; have hh := HCX.out _ (below_step HBX.out HBW.out); with_reducible refine hh.mono ?_; clear hh; rintro e2 w14 ⟨v9, v10, rfl, hV9, hV10, hB⟩; obtain ⟨B9, d9, rfl⟩ := Kd.R_slice hV9; obtain ⟨B10, d10, rfl⟩ := Kd.R_slice hV10; rw [HOC.out.2.1] at hV9 hV10 ⊢; rw [HDD.out.2.1] at hV10 hV9 ⊢; have HV := Aside0.mk (made68 (x := (S68.mk a0 a1 false true (a4 + (a : Int) / 8) a5 a6 a7 a8 l9 ((l10.drop a).take RM))) hV9 hV10); have HB14 := Aside0.mk (below_step HBW.out hB); have HSZ := Aside0.mk HBW.out.size; clear hV9 hV10 hB x0 x1 x2 x3 x4 x5 x6 x7 x8 x9 x10) | ((with_reducible refine gate_builtin (b := .append) (xs := #[.tmp 89, .tmp 92]) rfl ?_); refine Kd.R_append k68 (w0 := w5) w5.heap.size rfl (.tmp 89) (.tmp 92) 70 68 _ 80 rfl Try.underlying70 PFrb.info68 rfl (by decide) (by decide) (.slice B m cb) out (S68.mk a0 a1 false true (a4 + (a : Int) / 8) a5 a6 a7 a8 l9 ((l10.drop a).take RM)) [_, _, _, _, _, _, _, _, _, _, _] (fun _ => True) _ rfl rfl (k68.M_lower (Nat.le_trans HBX.out.size HSZ.out) HV.out) (fun k hk => ⟨trivial, fun e => by have h1 := own_lt HOUT.out.1 k e.symm; have h2 := HSZ.out; have h3 := hk.1; omega⟩) (fun _ _ => trivial) (Kd.R_below HOUT.out.1 HB14.out) (below_step HBX.out HB14.out) (below_step HBX.out HB14.out).size (by have := HOUT.out.2; have := HN1.out; have := HPF.out; omega) ?_; intro v15 w15 hR15 hB15 hg15 hat15; obtain ⟨B15, d15, rfl⟩ := Kd.R_slice hR15; generalize hm15 : (out ++ [(S68.mk a0 a1 false true (a4 + (a : Int) / 8) a5 a6 a7 a8 l9 ((l10.drop a).take RM))]).length = m15 at hR15 ⊢; have HR15 := Aside0.mk hR15; have HB15 := Aside0.mk hB15; have HM15 := Aside0.mk hm15; clear hR15 hB15 hg15 hat15 hm15))
          go_roundw
          case rel =>
            exact ⟨k, a + RM, B15, m15, d15, _, by go_num, rfl, ⟨HB15.out, HR15.out, HM15.out.symm, by have := HM15.out; have := HOUT.out.2; have := HPF.out; rw [List.length_append]; simp only [List.length_cons, List.length_nil]; omega, by have := HA.out.1; have := HPF.out; omega, HPF.out.2, HS.out.symm.trans HPQ.out⟩⟩
          case measure => simp only; have := HPF.out; have := HA.out; omega
        · have f1 : decide (mtu < 20 + (N9 : Int) + (ND : Int)) = false := decide_eq_false hlong
          have HLG := Aside0.mk hlong
          go_upto_region 24 with (go_at_call 69; have hh := HLX.out _ (below_step HBX.out HBW.out); with_reducible refine hh.mono ?_; clear hh; rintro e2 w10 ⟨rfl, hB⟩; replace HGX := Aside0.mk (blk_below HGX.out hB); replace HBW := Aside0.mk (below_step HBW.out hB); clear hB x0 x1 x2 x3 x4 x5 x6 x7 x8 x9 x10 p0 p1 p2 p3 p4 p5 p6 p7 p8 p9 p10 HGPX; have HGPX := Aside0.mk (blk_below HGP2.out HBW.out); have x0 := (blk_cell HGX.out 0).trans rfl; have x1 := (blk_cell HGX.out 1).trans rfl; have x2 := (blk_cell HGX.out 2).trans rfl; have x3 := (blk_cell HGX.out 3).trans rfl; have x4 := (blk_cell HGX.out 4).trans rfl; have x5 := (blk_cell HGX.out 5).trans rfl; have x6 := (blk_cell HGX.out 6).trans rfl; have x7 := (blk_cell HGX.out 7).trans rfl; have x8 := (blk_cell HGX.out 8).trans rfl; have x9 := (blk_cell HGX.out 9).trans rfl; have x10 := (blk_cell HGX.out 10).trans rfl; have p0 := (blk_cell HGPX.out 0).trans rfl; have p1 := (blk_cell HGPX.out 1).trans rfl; have p2 := (blk_cell HGPX.out 2).trans rfl; have p3 := (blk_cell HGPX.out 3).trans rfl; have p4 := (blk_cell HGPX.out 4).trans rfl; have p5 := (blk_cell HGPX.out 5).trans rfl; have p6 := (blk_cell HGPX.out 6).trans rfl; have p7 := (blk_cell HGPX.out 7).trans rfl; have p8 := (blk_cell HGPX.out 8).trans rfl; have p9 := (blk_cell HGPX.out 9).trans rfl; have p10 := (blk_cell HGPX.out 10).trans rfl)
          have HDD := Aside0.mk (And.intro HD.out (And.intro HND.out.1 HND.out.2.1))
          have HPIX := Aside0.mk (show piece ⟨a0, a1, false, a3, a4, a5, a6, a7, a8, l9, l10⟩ c mtu a = ⟨a0, a1, false, a3, a4 + (a : Int) / 8, a5, a6, a7, a8, l9, l10.drop a⟩ by
            unfold piece
            simp only [if_neg HAP.out, HNN.out.1, HND.out.1]
            rw [if_neg (Int.not_lt.2 HLG.out)])
          clear hlong x0 x1 x2 x3 x4 x5 x6 x7 x8 x9 x10 p0 p1 p2 p3 p4 p5 p6 p7 p8 p9 p10 HGPX
          have x0 := (blk_cell HGX.out 0).trans rfl
          have x1 := (blk_cell HGX.out 1).trans rfl
          have x2 := (blk_cell HGX.out 2).trans rfl
          have x3 := (blk_cell HGX.out 3).trans rfl
          have x4 := (blk_cell HGX.out 4).trans rfl
          have x5 := (blk_cell HGX.out 5).trans rfl
          have x6 := (blk_cell HGX.out 6).trans rfl
          have x7 := (blk_cell HGX.out 7).trans rfl
          have x8 := (blk_cell HGX.out 8).trans rfl
          have x9 := (blk_cell HGX.out 9).trans rfl
          have x10 := (blk_cell HGX.out 10).trans rfl
          by_cases f8 : 8191 < a4 + (a : Int) / 8
          · have g1 : decide (8191 < a4 + (a : Int) / 8) = true := decide_eq_true f8
            have HE : Aside0 (pcs ⟨a0, a1, false, a3, a4, a5, a6, a7, a8, l9, l10⟩ c mtu (k + 1) a out = none) := ⟨by rw [pcs, if_pos HA.out.2, HPIX.out]; exact if_pos f8⟩
            have HBF := Aside0.mk (below_step HBX.out HBW.out)
            clear f8
            go_wp2
            go_ret2
            have hq : pcs ⟨a0, a1, false, a3, a4, a5, a6, a7, a8, l9, l10⟩ c mtu (N10 + 1) 0 [] = none := HPQ.out.symm.trans HE.out
            rw [← HRS.out, hq]
            exact ⟨_, rfl, Kd.R_nil _ _ _ _ _, below_step HB.out HBF.out⟩
          have g1 : decide (8191 < a4 + (a : Int) / 8) = false := decide_eq_false f8
          have HS := Aside0.mk (show pcs ⟨a0, a1, false, a3, a4, a5, a6, a7, a8, l9, l10⟩ c mtu (k + 1) a out = pcs ⟨a0, a1, false, a3, a4, a5, a6, a7, a8, l9, l10⟩ c mtu k (a + ND) (out ++ [(S68.mk a0 a1 false a3 (a4 + (a : Int) / 8) a5 a6 a7 a8 l9 (l10.drop a))]) by
            rw [pcs, if_pos HA.out.2, HPIX.out, if_neg f8]
            rw [show (S68.mk a0 a1 false a3 (a4 + (a : Int) / 8) a5 a6 a7 a8 l9 (l10.drop a)).f10.length = ND from HDD.out.2.1])
          have hpf := piece_facts ⟨a0, a1, false, a3, a4, a5, a6, a7, a8, l9, l10⟩ c mtu a (by have := HCZ.out.2.1; omega) HCZ.out.1.2.2.1 HCZ.out.2.2 HA.out.2
          rw [HPIX.out] at hpf
          have hpf2 : 0 < ND ∧ a + ND ≤ N10 := by
            have h1 : (S68.mk a0 a1 false a3 (a4 + (a : Int) / 8) a5 a6 a7 a8 l9 (l10.drop a)).f10.length = ND := HDD.out.2.1
            have h2 : (⟨a0, a1, false, a3, a4, a5, a6, a7, a8, l9, l10⟩ : S68).f10.length = N10 := HNN.out.2
            rw [h1, h2] at hpf
            exact hpf
          have HPF := Aside0.mk hpf2
          have HN1 := Aside0.mk (show N10 ≤ 100000 by have := HF.out.2; have := HNN.out.2; omega)
          have u1 : IntKind.i64.wrap ((a : Int) + (ND : Int)) = (a : Int) + (ND : Int) := HCar.wid _ (by omega) (by have := HN1.out; omega)
          have u2 : wrap64 ((a : Int) + (ND : Int)) = (a : Int) + (ND : Int) := w64 _ (by omega) (by have := HN1.out; omega)
          have hoc := HOC.out
          have hdd := HDD.out
          have hcx := (fun (W : World) (hW : Below w5.heap.size w5 W) => frag_copied.calls a0 a1 false a3 (a4 + (a : Int) / 8) a5 a6 a7 a8 A9 c9 l9 A2 CD (l10.drop a) a0 a1 false a3 (a4 + (a : Int) / 8) a5 a6 a7 a8 l9 (l10.drop a) W (by rw [hoc.2.1]; exact Kd.C_below hoc.1 hW) (by rw [hoc.2.1]; exact hoc.2.2.1) (by rw [hdd.2.1]; exact Kd.C_below hdd.1 hW) (by rw [hdd.2.1]; exact hdd.2.2) (len_copied (S68.mk a0 a1 false a3 (a4 + (a : Int) / 8) a5 a6 a7 a8 l9 (l10.drop a)) (show l9.length ≤ 100000 ∧ (l10.drop a).length ≤ 100000 from ⟨by omega, by have := HN1.out; rw [hdd.2.1]; omega⟩)))
          rw [hoc.2.1, hdd.2.1] at hcx
          have HCX := Aside0.mk hcx
          clear f8 hpf hpf2 hoc hdd hcx
          go_wp2_with (first | (go_at_call 70; have hh := HCX.out _ (below_step HBX.out HBW.out); with_reducible refine hh.mono ?_; clear hh; rintro e2 w14 ⟨v9, v10, rfl, hV9, hV10, hB⟩; obtain ⟨B9, d9, rfl⟩ := Kd.R_slice hV9; obtain ⟨B10, d10, rfl⟩ := Kd.R_slice hV10; rw [HOC.out.2.1] at hV9 hV10 ⊢; rw [HDD.out.2.1] at hV10 hV9 ⊢; have HV := Aside0.mk (made68 (x := (S68.mk a0 a1 false a3 (a4 + (a : Int) / 8) a5 a6 a7 a8 l9 (l10.drop a))) hV9 hV10); have HB14 := Aside0.mk (below_step HBW.out hB); have HSZ := Aside0.mk HBW.out.size; clear hV9 hV10 hB x0 x1 x2 x3 x4 x5 x6 x7 x8 x9 x10) | ((with_reducible refine gate_builtin (b := .append) (xs := #[.tmp 89, .tmp 92]) rfl ?_); refine Kd.R_append k68 (w0 := w5) w5.heap.size rfl (.tmp 89) (.tmp 92) 70 68 _ 80 rfl Try.underlying70 PFrb.info68 rfl (by decide) (by decide) (.slice B m cb) out (S68.mk a0 a1 false a3 (a4 + (a : Int) / 8) a5 a6 a7 a8 l9 (l10.drop a)) [_, _, _, _, _, _, _, _, _, _, _] (fun _ => True) _ rfl rfl (k68.M_lower (Nat.le_trans HBX.out.size HSZ.out) HV.out) (fun k hk => ⟨trivial, fun e => by have h1 := own_lt HOUT.out.1 k e.symm; have h2 := HSZ.out; have h3 := hk.1; omega⟩) (fun _ _ => trivial) (Kd.R_below HOUT.out.1 HB14.out) (below_step HBX.out HB14.out) (below_step HBX.out HB14.out).size (by have := HOUT.out.2; have := HN1.out; have := HPF.out; omega) ?_; intro v15 w15 hR15 hB15 hg15 hat15; obtain ⟨B15, d15, rfl⟩ := Kd.R_slice hR15; generalize hm15 : (out ++ [(S68.mk a0 a1 false a3 (a4 + (a : Int) / 8) a5 a6 a7 a8 l9 (l10.drop a))]).length = m15 at hR15 ⊢; have HR15 := Aside0.mk hR15; have HB15 := Aside0.mk hB15; have HM15 := Aside0.mk hm15; clear hR15 hB15 hg15 hat15 hm15))
          go_roundw
          case rel =>
            exact ⟨k, a + ND, B15, m15, d15, _, by go_num, rfl, ⟨HB15.out, HR15.out, HM15.out.symm, by have := HM15.out; have := HOUT.out.2; have := HPF.out; rw [List.length_append]; simp only [List.length_cons, List.length_nil]; omega, by have := HA.out.1; have := HPF.out; omega, HPF.out.2, HS.out.symm.trans HPQ.out⟩⟩
          case measure => simp only; have := HPF.out; have := HA.out; omega
      have ap : decide (0 < (a : Int)) = true := decide_eq_true (by omega)
      have ap2 : decide (0 < a) = true := decide_eq_true (by omega)
      have HAP := Aside0.mk (show 0 < a by omega)
      clear a0_
      have HGPX := Aside0.mk (blk_below HGP2.out HBW.out)
      have x0 := (blk_cell HGX.out 0).trans rfl
      have x1 := (blk_cell HGX.out 1).trans rfl
      have x2 := (blk_cell HGX.out 2).trans rfl
      have x3 := (blk_cell HGX.out 3).trans rfl
      have x4 := (blk_cell HGX.out 4).trans rfl
      have x5 := (blk_cell HGX.out 5).trans rfl
      have x6 := (blk_cell HGX.out 6).trans rfl
      have x7 := (blk_cell HGX.out 7).trans rfl
      have x8 := (blk_cell HGX.out 8).trans rfl
      have x9 := (blk_cell HGX.out 9).trans rfl
      have x10 := (blk_cell HGX.out 10).trans rfl
      have p0 := (blk_cell HGPX.out 0).trans rfl
      have p1 := (blk_cell HGPX.out 1).trans rfl
      have p2 := (blk_cell HGPX.out 2).trans rfl
      have p3 := (blk_cell HGPX.out 3).trans rfl
      have p4 := (blk_cell HGPX.out 4).trans rfl
      have p5 := (blk_cell HGPX.out 5).trans rfl
      have p6 := (blk_cell HGPX.out 6).trans rfl
      have p7 := (blk_cell HGPX.out 7).trans rfl
      have p8 := (blk_cell HGPX.out 8).trans rfl
      have p9 := (blk_cell HGPX.out 9).trans rfl
      have p10 := (blk_cell HGPX.out 10).trans rfl
      have fz := blk_frozen HGX.out 9
      go_upto_region 19 with (fail)
      have k1_ := blk_put HGX.out 9 (.slice Bc Nc dc) rfl
      replace HGX := Aside0.mk k1_
      replace HBW := Aside0.mk (HBW.out.setCell (p := ⟨gx, 9, none⟩) HXL.out (.slice Bc Nc dc))
      clear k1_ x0 x1 x2 x3 x4 x5 x6 x7 x8 x9 x10 p0 p1 p2 p3 p4 p5 p6 p7 p8 p9 p10 fz HGPX
      generalize w6.setCell ⟨gx, 9, none⟩ (.slice Bc Nc dc) = w7 at HGX HBW ⊢
      have hchk := HCZ.out.1
      have hnn := HNN.out
      obtain ⟨q1, q2, q3, q4, q5⟩ := off_facts a4 a ⟨hchk.1, hchk.2.1⟩ (by have := HA.out.2; have := HF.out.2; omega)
      obtain ⟨A2, ND, CD, c1, hC', hND⟩ := cut_facts w5 A10 N10 c10 l10 a hnn.2 HR10.out HC10.out HA.out.2
      have HND := Aside0.mk hND
      clear hND
      have HD := Aside0.mk hC'
      clear hchk hnn hC'
      have HGPX := Aside0.mk (blk_below HGP2.out HBW.out)
      have x0 := (blk_cell HGX.out 0).trans rfl
      have x1 := (blk_cell HGX.out 1).trans rfl
      have x2 := (blk_cell HGX.out 2).trans rfl
      have x3 := (blk_cell HGX.out 3).trans rfl
      have x4 := (blk_cell HGX.out 4).trans rfl
      have x5 := (blk_cell HGX.out 5).trans rfl
      have x6 := (blk_cell HGX.out 6).trans rfl
      have x7 := (blk_cell HGX.out 7).trans rfl
      have x8 := (blk_cell HGX.out 8).trans rfl
      have x9 := (blk_cell HGX.out 9).trans rfl
      have x10 := (blk_cell HGX.out 10).trans rfl
      have p0 := (blk_cell HGPX.out 0).trans rfl
      have p1 := (blk_cell HGPX.out 1).trans rfl
      have p2 := (blk_cell HGPX.out 2).trans rfl
      have p3 := (blk_cell HGPX.out 3).trans rfl
      have p4 := (blk_cell HGPX.out 4).trans rfl
      have p5 := (blk_cell HGPX.out 5).trans rfl
      have p6 := (blk_cell HGPX.out 6).trans rfl
      have p7 := (blk_cell HGPX.out 7).trans rfl
      have p8 := (blk_cell HGPX.out 8).trans rfl
      have p9 := (blk_cell HGPX.out 9).trans rfl
      have p10 := (blk_cell HGPX.out 10).trans rfl
      have fz := blk_frozen HGX.out 4
      go_upto_region 20 with (fail)
      have k1_ := blk_put HGX.out 4 (.int .i64 (a4 + (a : Int) / 8)) rfl
      replace HGX := Aside0.mk k1_
      replace HBW := Aside0.mk (HBW.out.setCell (p := ⟨gx, 4, none⟩) HXL.out (.int .i64 (a4 + (a : Int) / 8)))
      clear k1_ x0 x1 x2 x3 x4 x5 x6 x7 x8 x9 x10 p0 p1 p2 p3 p4 p5 p6 p7 p8 p9 p10 fz HGPX
      generalize w7.setCell ⟨gx, 4, none⟩ (.int .i64 (a4 + (a : Int) / 8)) = w8 at HGX HBW ⊢
      have HGPX := Aside0.mk (blk_below HGP2.out HBW.out)
      have x0 := (blk_cell HGX.out 0).trans rfl
      have x1 := (blk_cell HGX.out 1).trans rfl
      have x2 := (blk_cell HGX.out 2).trans rfl
      have x3 := (blk_cell HGX.out 3).trans rfl
      have x4 := (blk_cell HGX.out 4).trans rfl
      have x5 := (blk_cell HGX.out 5).trans rfl
      have x6 := (blk_cell HGX.out 6).trans rfl
      have x7 := (blk_cell HGX.out 7).trans rfl
      have x8 := (blk_cell HGX.out 8).trans rfl
      have x9 := (blk_cell HGX.out 9).trans rfl
      have x10 := (blk_cell HGX.out 10).trans rfl
      have p0 := (blk_cell HGPX.out 0).trans rfl
      have p1 := (blk_cell HGPX.out 1).trans rfl
      have p2 := (blk_cell HGPX.out 2).trans rfl
      have p3 := (blk_cell HGPX.out 3).trans rfl
      have p4 := (blk_cell HGPX.out 4).trans rfl
      have p5 := (blk_cell HGPX.out 5).trans rfl
      have p6 := (blk_cell HGPX.out 6).trans rfl
      have p7 := (blk_cell HGPX.out 7).trans rfl
      have p8 := (blk_cell HGPX.out 8).trans rfl
      have p9 := (blk_cell HGPX.out 9).trans rfl
      have p10 := (blk_cell HGPX.out 10).trans rfl
      have fz := blk_frozen HGX.out 10
      go_upto_region 21 with (fail)
      have k1_ := blk_put HGX.out 10 (.slice A2 ND CD) rfl
      replace HGX := Aside0.mk k1_
      replace HBW := Aside0.mk (HBW.out.setCell (p := ⟨gx, 10, none⟩) HXL.out (.slice A2 ND CD))
      clear k1_ x0 x1 x2 x3 x4 x5 x6 x7 x8 x9 x10 p0 p1 p2 p3 p4 p5 p6 p7 p8 p9 p10 fz HGPX c1 q1 q2 q3 q4 q5
      generalize w8.setCell ⟨gx, 10, none⟩ (.slice A2 ND CD) = w9 at HGX HBW ⊢
      have HOC := Aside0.mk (show Kd.C (Kd.int .u8) w5 Bc Nc c ∧ c.length = Nc ∧ Nc ≤ dc ∧ Nc ≤ 40 from ⟨by have := (Kd.R_reads' HVC.out).2.2; rw [HNC.out] at this; exact this, HNC.out, (Kd.R_reads' HVC.out).2.1, by rw [← HNC.out]; exact HCZ.out.2.2⟩)
      have hD := HD.out
      have hle2 := (fun (W : World) (hW : Below w5.heap.size w5 W) => ip_Len.calls a0 a1 false a3 (a4 + (a : Int) / 8) a5 a6 a7 a8 Bc dc c A2 CD (l10.drop a) _ W (by rw [HOC.out.2.1]; exact Kd.C_below HOC.out.1 hW) (by rw [HOC.out.2.1]; exact HOC.out.2.2.1) (by rw [HND.out.1]; exact Kd.C_below hD hW) (by rw [HND.out.1]; exact HND.out.2.1) (len_f ⟨a0, a1, false, a3, a4 + (a : Int) / 8, a5, a6, a7, a8, c, l10.drop a⟩ (show c.length ≤ 100000 ∧ (l10.drop a).length ≤ 100000 from ⟨by have := HOC.out; omega, by have := HF.out.2; rw [List.length_drop]; omega⟩)))
      simp only [lenP] at hle2
      rw [HOC.out.2.1, HND.out.1] at hle2
      have HLX := Aside0.mk hle2
      clear hD hle2
      have HGPX := Aside0.mk (blk_below HGP2.out HBW.out)
      have x0 := (blk_cell HGX.out 0).trans rfl
      have x1 := (blk_cell HGX.out 1).trans rfl
      have x2 := (blk_cell HGX.out 2).trans rfl
      have x3 := (blk_cell HGX.out 3).trans rfl
      have x4 := (blk_cell HGX.out 4).trans rfl
      have x5 := (blk_cell HGX.out 5).trans rfl
      have x6 := (blk_cell HGX.out 6).trans rfl
      have x7 := (blk_cell HGX.out 7).trans rfl
      have x8 := (blk_cell HGX.out 8).trans rfl
      have x9 := (blk_cell HGX.out 9).trans rfl
      have x10 := (blk_cell HGX.out 10).trans rfl
      have p0 := (blk_cell HGPX.out 0).trans rfl
      have p1 := (blk_cell HGPX.out 1).trans rfl
      have p2 := (blk_cell HGPX.out 2).trans rfl
      have p3 := (blk_cell HGPX.out 3).trans rfl
      have p4 := (blk_cell HGPX.out 4).trans rfl
      have p5 := (blk_cell HGPX.out 5).trans rfl
      have p6 := (blk_cell HGPX.out 6).trans rfl
      have p7 := (blk_cell HGPX.out 7).trans rfl
      have p8 := (blk_cell HGPX.out 8).trans rfl
      have p9 := (blk_cell HGPX.out 9).trans rfl
      have p10 := (blk_cell HGPX.out 10).trans rfl
      by_cases hlong : mtu < 20 + (Nc : Int) + (ND : Int)
      · have f1 : decide (mtu < 20 + (Nc : Int) + (ND : Int)) = true := decide_eq_true hlong
        go_upto_region 22 with (go_at_call 69; have hh := HLX.out _ (below_step HBX.out HBW.out); with_reducible refine hh.mono ?_; clear hh; rintro e2 w10 ⟨rfl, hB⟩; replace HGX := Aside0.mk (blk_below HGX.out hB); replace HBW := Aside0.mk (below_step HBW.out hB); clear hB x0 x1 x2 x3 x4 x5 x6 x7 x8 x9 x10 p0 p1 p2 p3 p4 p5 p6 p7 p8 p9 p10 HGPX; have HGPX := Aside0.mk (blk_below HGP2.out HBW.out); have x0 := (blk_cell HGX.out 0).trans rfl; have x1 := (blk_cell HGX.out 1).trans rfl; have x2 := (blk_cell HGX.out 2).trans rfl; have x3 := (blk_cell HGX.out 3).trans rfl; have x4 := (blk_cell HGX.out 4).trans rfl; have x5 := (blk_cell HGX.out 5).trans rfl; have x6 := (blk_cell HGX.out 6).trans rfl; have x7 := (blk_cell HGX.out 7).trans rfl; have x8 := (blk_cell HGX.out 8).trans rfl; have x9 := (blk_cell HGX.out 9).trans rfl; have x10 := (blk_cell HGX.out 10).trans rfl; have p0 := (blk_cell HGPX.out 0).trans rfl; have p1 := (blk_cell HGPX.out 1).trans rfl; have p2 := (blk_cell HGPX.out 2).trans rfl; have p3 := (blk_cell HGPX.out 3).trans rfl; have p4 := (blk_cell HGPX.out 4).trans rfl; have p5 := (blk_cell HGPX.out 5).trans rfl; have p6 := (blk_cell HGPX.out 6).trans rfl; have p7 := (blk_cell HGPX.out 7).trans rfl; have p8 := (blk_cell HGPX.out 8).trans rfl; have p9 := (blk_cell HGPX.out 9).trans rfl; have p10 := (blk_cell HGPX.out 10).trans rfl)
        have fz := blk_frozen HGX.out 10
        have hcz := HCZ.out
        obtain ⟨R, RM, s1, s2, s3, s4, s5, c2, hRC, hRL, hRc, hRm⟩ := room_facts w5 A2 ND CD (l10.drop a) mtu Nc HND.out.1 HD.out HND.out.2.1 (by have := hcz.2.1; omega) HOC.out.2.2.2 hlong
        have HDD := Aside0.mk (And.intro hRC (And.intro hRL hRc))
        have HPIX := Aside0.mk (show piece ⟨a0, a1, false, a3, a4, a5, a6, a7, a8, l9, l10⟩ c mtu a = ⟨a0, a1, false, true, a4 + (a : Int) / 8, a5, a6, a7, a8, c, (l10.drop a).take RM⟩ by
          unfold piece
          simp only [if_pos HAP.out, HNC.out, HND.out.1]
          rw [if_pos hlong, hRm])
        clear hcz hRC hRL hRc hRm hlong
        go_upto_region 23 with (fail)
        have k1_ := blk_put HGX.out 10 (.slice A2 RM CD) rfl
        replace HGX := Aside0.mk k1_
        replace HBW := Aside0.mk (HBW.out.setCell (p := ⟨gx, 10, none⟩) HXL.out (.slice A2 RM CD))
        clear k1_ x0 x1 x2 x3 x4 x5 x6 x7 x8 x9 x10 p0 p1 p2 p3 p4 p5 p6 p7 p8 p9 p10 fz HGPX c2 s1 s2 s3 s4 s5
        generalize w10.setCell ⟨gx, 10, none⟩ (.slice A2 RM CD) = w12 at HGX HBW ⊢
        have x0 := (blk_cell HGX.out 0).trans rfl
        have x1 := (blk_cell HGX.out 1).trans rfl
        have x2 := (blk_cell HGX.out 2).trans rfl
        have x3 := (blk_cell HGX.out 3).trans rfl
        have x4 := (blk_cell HGX.out 4).trans rfl
        have x5 := (blk_cell HGX.out 5).trans rfl
        have x6 := (blk_cell HGX.out 6).trans rfl
        have x7 := (blk_cell HGX.out 7).trans rfl
        have x8 := (blk_cell HGX.out 8).trans rfl
        have x9 := (blk_cell HGX.out 9).trans rfl
        have x10 := (blk_cell HGX.out 10).trans rfl
        have fz := blk_frozen HGX.out 3
        go_upto_region 24 with (fail)
        have k1_ := blk_put HGX.out 3 (.bool true) rfl
        replace HGX := Aside0.mk k1_
        replace HBW := Aside0.mk (HBW.out.setCell (p := ⟨gx, 3, none⟩) HXL.out (.bool true))
        clear k1_ x0 x1 x2 x3 x4 x5 x6 x7 x8 x9 x10 fz
        generalize w12.setCell ⟨gx, 3, none⟩ (.bool true) = w13 at HGX HBW ⊢
        have x0 := (blk_cell HGX.out 0).trans rfl
        have x1 := (blk_cell HGX.out 1).trans rfl
        have x2 := (blk_cell HGX.out 2).trans rfl
        have x3 := (blk_cell HGX.out 3).trans rfl
        have x4 := (blk_cell HGX.out 4).trans rfl
        have x5 := (blk_cell HGX.out 5).trans rfl
        have x6 := (blk_cell HGX.out 6).trans rfl
        have x7 := (blk_cell HGX.out 7).trans rfl
        have x8 := (blk_cell HGX.out 8).trans rfl
        have x9 := (blk_cell HGX.out 9).trans rfl
        have x10 := (blk_cell HGX.out 10).trans rfl
        by_cases f8 : 8191 < a4 + (a : Int) / 8
        · have g1 : decide (8191 < a4 + (a : Int) / 8) = true := decide_eq_true f8
          have HE : Aside0 (pcs ⟨a0, a1, false, a3, a4, a5, a6, a7, a8, l9, l10⟩ c mtu (k + 1) a out = none) := ⟨by rw [pcs, if_pos HA.out.2, HPIX.out]; exact if_pos f8⟩
          have HBF := Aside0.mk (below_step HBX.out HBW.out)
          clear f8
          go_wp2
          go_ret2
          have hq : pcs ⟨a0, a1, false, a3, a4, a5, a6, a7, a8, l9, l10⟩ c mtu (N10 + 1) 0 [] = none := HPQ.out.symm.trans HE.out
          rw [← HRS.out, hq]
          exact ⟨_, rfl, Kd.R_nil _ _ _ _ _, below_step HB.out HBF.out⟩
        have g1 : decide (8191 < a4 + (a : Int) / 8) = false := decide_eq_false f8
        have HS := Aside0.mk (show pcs ⟨a0, a1, false, a3, a4, a5, a6, a7, a8, l9, l10⟩ c mtu (k + 1) a out = pcs ⟨a0, a1, false, a3, a4, a5, a6, a7, a8, l9, l10⟩ c mtu k (a + RM) (out ++ [(S68.mk a0 a1 false true (a4 + (a : Int) / 8) a5 a6 a7 a8 c ((l10.drop a).take RM))]) by
          rw [pcs, if_pos HA.out.2, HPIX.out, if_neg f8]
          rw [show (S68.mk a0 a1 false true (a4 + (a : Int) / 8) a5 a6 a7 a8 c ((l10.drop a).take RM)).f10.length = RM from HDD.out.2.1])
        have hpf := piece_facts ⟨a0, a1, false, a3, a4, a5, a6, a7, a8, l9, l10⟩ c mtu a (by have := HCZ.out.2.1; omega) HCZ.out.1.2.2.1 HCZ.out.2.2 HA.out.2
        rw [HPIX.out] at hpf
        have hpf2 : 0 < RM ∧ a + RM ≤ N10 := by
          have h1 : (S68.mk a0 a1 false true (a4 + (a : Int) / 8) a5 a6 a7 a8 c ((l10.drop a).take RM)).f10.length = RM := HDD.out.2.1
          have h2 : (⟨a0, a1, false, a3, a4, a5, a6, a7, a8, l9, l10⟩ : S68).f10.length = N10 := HNN.out.2
          rw [h1, h2] at hpf
          exact hpf
        have HPF := Aside0.mk hpf2
        have HN1 := Aside0.mk (show N10 ≤ 100000 by have := HF.out.2; have := HNN.out.2; omega)
        have u1 : IntKind.i64.wrap ((a : Int) + (RM : Int)) = (a : Int) + (RM : Int) := HCar.wid _ (by omega) (by have := HN1.out; omega)
        have u2 : wrap64 ((a : Int) + (RM : Int)) = (a : Int) + (RM : Int) := w64 _ (by omega) (by have := HN1.out; omega)
        have hoc := HOC.out
        have hdd := HDD.out
        have hcx := (fun (W : World) (hW : Below w5.heap.size w5 W) => frag_copied.calls a0 a1 false true (a4 + (a : Int) / 8) a5 a6 a7 a8 Bc dc c A2 CD ((l10.drop a).take RM) a0 a1 false true (a4 + (a : Int) / 8) a5 a6 a7 a8 c ((l10.drop a).take RM) W (by rw [hoc.2.1]; exact Kd.C_below hoc.1 hW) (by rw [hoc.2.1]; exact hoc.2.2.1) (by rw [hdd.2.1]; exact Kd.C_below hdd.1 hW) (by rw [hdd.2.1]; exact hdd.2.2) (len_copied (S68.mk a0 a1 false true (a4 + (a : Int) / 8) a5 a6 a7 a8 c ((l10.drop a).take RM)) (show c.length ≤ 100000 ∧ ((l10.drop a).take RM).length ≤ 100000 from ⟨by omega, by have := HN1.out; rw [hdd.2.1]; omega⟩)))
        rw [hoc.2.1, hdd.2.1] at hcx
        have HCX := Aside0.mk hcx
        clear f8 hpf hpf2 hoc hdd hcx
        go_wp2_with (first | (go_at_call 70; have hh := HCX.out _ (below_step HBX.out HBW.out); with_reducible refine hh.mono ?_; clear hh; rintro e2 w14 ⟨v9, v10, rfl, hV9, hV10, hB⟩; obtain ⟨B9, d9, rfl⟩ := Kd.R_slice hV9; obtain ⟨B10, d10, rfl⟩ := Kd.R_slice hV10; rw [HOC.out.2.1] at hV9 hV10 ⊢; rw [HDD.out.2.1] at hV10 hV9 ⊢; have HV := Aside0.mk (made68 (x := (S68.mk a0 a1 false true (a4 + (a : Int) / 8) a5 a6 a7 a8 c ((l10.drop a).take RM))) hV9 hV10); have HB14 := Aside0.mk (below_step HBW.out hB); have HSZ := Aside0.mk HBW.out.size; clear hV9 hV10 hB x0 x1 x2 x3 x4 x5 x6 x7 x8 x9 x10) | ((with_reducible refine gate_builtin (b := .append) (xs := #[.tmp 89, .tmp 92]) rfl ?_); refine Kd.R_append k68 (w0 := w5) w5.heap.size rfl (.tmp 89) (.tmp 92) 70 68 _ 80 rfl Try.underlying70 PFrb.info68 rfl (by decide) (by decide) (.slice B m cb) out (S68.mk a0 a1 false true (a4 + (a : Int) / 8) a5 a6 a7 a8 c ((l10.drop a).take RM)) [_, _, _, _, _, _, _, _, _, _, _] (fun _ => True) _ rfl rfl (k68.M_lower (Nat.le_trans HBX.out.size HSZ.out) HV.out) (fun k hk => ⟨trivial, fun e => by have h1 := own_lt HOUT.out.1 k e.symm; have h2 := HSZ.out; have h3 := hk.1; omega⟩) (fun _ _ => trivial) (Kd.R_below HOUT.out.1 HB14.out) (below_step HBX.out HB14.out) (below_step HBX.out HB14.out).size (by have := HOUT.out.2; have := HN1.out; have := HPF.out; omega) ?_; intro v15 w15 hR15 hB15 hg15 hat15; obtain ⟨B15, d15, rfl⟩ := Kd.R_slice hR15; generalize hm15 : (out ++ [(S68.mk a0 a1 false true (a4 + (a : Int) / 8) a5 a6 a7 a8 c ((l10.drop a).take RM))]).length = m15 at hR15 ⊢; have HR15 := Aside0.mk hR15; have HB15 := Aside0.mk hB15; have HM15 := Aside0.mk hm15; clear hR15 hB15 hg15 hat15 hm15))
        go_roundw
        case rel =>
          exact ⟨k, a + RM, B15, m15, d15, _, by go_num, rfl, ⟨HB15.out, HR15.out, HM15.out.symm, by have := HM15.out; have := HOUT.out.2; have := HPF.out; rw [List.length_append]; simp only [List.length_cons, List.length_nil]; omega, by have := HA.out.1; have := HPF.out; omega, HPF.out.2, HS.out.symm.trans HPQ.out⟩⟩
        case measure => simp only; have := HPF.out; have := HA.out; omega
      · have f1 : decide (mtu < 20 + (Nc : Int) + (ND : Int)) = false := decide_eq_false hlong
        have HLG := Aside0.mk hlong
        go_upto_region 24 with (go_at_call 69; have hh := HLX.out _ (below_step HBX.out HBW.out); with_reducible refine hh.mono ?_; clear hh; rintro e2 w10 ⟨rfl, hB⟩; replace HGX := Aside0.mk (blk_below HGX.out hB); replace HBW := Aside0.mk (below_step HBW.out hB); clear hB x0 x1 x2 x3 x4 x5 x6 x7 x8 x9 x10 p0 p1 p2 p3 p4 p5 p6 p7 p8 p9 p10 HGPX; have HGPX := Aside0.mk (blk_below HGP2.out HBW.out); have x0 := (blk_cell HGX.out 0).trans rfl; have x1 := (blk_cell HGX.out 1).trans rfl; have x2 := (blk_cell HGX.out 2).trans rfl; have x3 := (blk_cell HGX.out 3).trans rfl; have x4 := (blk_cell HGX.out 4).trans rfl; have x5 := (blk_cell HGX.out 5).trans rfl; have x6 := (blk_cell HGX.out 6).trans rfl; have x7 := (blk_cell HGX.out 7).trans rfl; have x8 := (blk_cell HGX.out 8).trans rfl; have x9 := (blk_cell HGX.out 9).trans rfl; have x10 := (blk_cell HGX.out 10).trans rfl; have p0 := (blk_cell HGPX.out 0).trans rfl; have p1 := (blk_cell HGPX.out 1).trans rfl; have p2 := (blk_cell HGPX.out 2).trans rfl; have p3 := (blk_cell HGPX.out 3).trans rfl; have p4 := (blk_cell HGPX.out 4).trans rfl; have p5 := (blk_cell HGPX.out 5).trans rfl; have p6 := (blk_cell HGPX.out 6).trans rfl; have p7 := (blk_cell HGPX.out 7).trans rfl; have p8 := (blk_cell HGPX.out 8).trans rfl; have p9 := (blk_cell HGPX.out 9).trans rfl; have p10 := (blk_cell HGPX.out 10).trans rfl)
        have HDD := Aside0.mk (And.intro HD.out (And.intro HND.out.1 HND.out.2.1))
        have HPIX := Aside0.mk (show piece ⟨a0, a1, false, a3, a4, a5, a6, a7, a8, l9, l10⟩ c mtu a = ⟨a0, a1, false, a3, a4 + (a : Int) / 8, a5, a6, a7, a8, c, l10.drop a⟩ by
          unfold piece
          simp only [if_pos HAP.out, HNC.out, HND.out.1]
          rw [if_neg (Int.not_lt.2 HLG.out)])
        clear hlong x0 x1 x2 x3 x4 x5 x6 x7 x8 x9 x10 p0 p1 p2 p3 p4 p5 p6 p7 p8 p9 p10 HGPX
        have x0 := (blk_cell HGX.out 0).trans rfl
        have x1 := (blk_cell HGX.out 1).trans rfl
        have x2 := (blk_cell HGX.out 2).trans rfl
        have x3 := (blk_cell HGX.out 3).trans rfl
        have x4 := (blk_cell HGX.out 4).trans rfl
        have x5 := (blk_cell HGX.out 5).trans rfl
        have x6 := (blk_cell HGX.out 6).trans rfl
        have x7 := (blk_cell HGX.out 7).trans rfl
        have x8 := (blk_cell HGX.out 8).trans rfl
        have x9 := (blk_cell HGX.out 9).trans rfl
        have x10 := (blk_cell HGX.out 10).trans rfl
        by_cases f8 : 8191 < a4 + (a : Int) / 8
        · have g1 : decide (8191 < a4 + (a : Int) / 8) = true := decide_eq_true f8
          have HE : Aside0 (pcs ⟨a0, a1, false, a3, a4, a5, a6, a7, a8, l9, l10⟩ c mtu (k + 1) a out = none) := ⟨by rw [pcs, if_pos HA.out.2, HPIX.out]; exact if_pos f8⟩
          have HBF := Aside0.mk (below_step HBX.out HBW.out)
          clear f8
          go_wp2
          go_ret2
          have hq : pcs ⟨a0, a1, false, a3, a4, a5, a6, a7, a8, l9, l10⟩ c mtu (N10 + 1) 0 [] = none := HPQ.out.symm.trans HE.out
          rw [← HRS.out, hq]
          exact ⟨_, rfl, Kd.R_nil _ _ _ _ _, below_step HB.out HBF.out⟩
        have g1 : decide (8191 < a4 + (a : Int) / 8) = false := decide_eq_false f8
        have HS := Aside0.mk (show pcs ⟨a0, a1, false, a3, a4, a5, a6, a7, a8, l9, l10⟩ c mtu (k + 1) a out = pcs ⟨a0, a1, false, a3, a4, a5, a6, a7, a8, l9, l10⟩ c mtu k (a + ND) (out ++ [(S68.mk a0 a1 false a3 (a4 + (a : Int) / 8) a5 a6 a7 a8 c (l10.drop a))]) by
          rw [pcs, if_pos HA.out.2, HPIX.out, if_neg f8]
          rw [show (S68.mk a0 a1 false a3 (a4 + (a : Int) / 8) a5 a6 a7 a8 c (l10.drop a)).f10.length = ND from HDD.out.2.1])
        have hpf := piece_facts ⟨a0, a1, false, a3, a4, a5, a6, a7, a8, l9, l10⟩ c mtu a (by have := HCZ.out.2.1; omega) HCZ.out.1.2.2.1 HCZ.out.2.2 HA.out.2
        rw [HPIX.out] at hpf
        have hpf2 : 0 < ND ∧ a + ND ≤ N10 := by
          have h1 : (S68.mk a0 a1 false a3 (a4 + (a : Int) / 8) a5 a6 a7 a8 c (l10.drop a)).f10.length = ND := HDD.out.2.1
          have h2 : (⟨a0, a1, false, a3, a4, a5, a6, a7, a8, l9, l10⟩ : S68).f10.length = N10 := HNN.out.2
          rw [h1, h2] at hpf
          exact hpf
        have HPF := Aside0.mk hpf2
        have HN1 := Aside0.mk (show N10 ≤ 100000 by have := HF.out.2; have := HNN.out.2; omega)
        have u1 : IntKind.i64.wrap ((a : Int) + (ND : Int)) = (a : Int) + (ND : Int) := HCar.wid _ (by omega) (by have := HN1.out; omega)
        have u2 : wrap64 ((a : Int) + (ND : Int)) = (a : Int) + (ND : Int) := w64 _ (by omega) (by have := HN1.out; omega)
        have hoc := HOC.out
        have hdd := HDD.out
        have hcx := (fun (W : World) (hW : Below w5.heap.size w5 W) => frag_copied.calls a0 a1 false a3 (a4 + (a : Int) / 8) a5 a6 a7 a8 Bc dc c A2 CD (l10.drop a) a0 a1 false a3 (a4 + (a : Int) / 8) a5 a6 a7 a8 c (l10.drop a) W (by rw [hoc.2.1]; exact Kd.C_below hoc.1 hW) (by rw [hoc.2.1]; exact hoc.2.2.1) (by rw [hdd.2.1]; exact Kd.C_below hdd.1 hW) (by rw [hdd.2.1]; exact hdd.2.2) (len_copied (S68.mk a0 a1 false a3 (a4 + (a : Int) / 8) a5 a6 a7 a8 c (l10.drop a)) (show c.length ≤ 100000 ∧ (l10.drop a).length ≤ 100000 from ⟨by omega, by have := HN1.out; rw [hdd.2.1]; omega⟩)))
        rw [hoc.2.1, hdd.2.1] at hcx
        have HCX := Aside0.mk hcx
        clear f8 hpf hpf2 hoc hdd hcx
        go_wp2_with (first | (go_at_call 70; have hh := HCX.out _ (below_step HBX.out HBW.out); with_reducible refine hh.mono ?_; clear hh; rintro e2 w14 ⟨v9, v10, rfl, hV9, hV10, hB⟩; obtain ⟨B9, d9, rfl⟩ := Kd.R_slice hV9; obtain ⟨B10, d10, rfl⟩ := Kd.R_slice hV10; rw [HOC.out.2.1] at hV9 hV10 ⊢; rw [HDD.out.2.1] at hV10 hV9 ⊢; have HV := Aside0.mk (made68 (x := (S68.mk a0 a1 false a3 (a4 + (a : Int) / 8) a5 a6 a7 a8 c (l10.drop a))) hV9 hV10); have HB14 := Aside0.mk (below_step HBW.out hB); have HSZ := Aside0.mk HBW.out.size; clear hV9 hV10 hB x0 x1 x2 x3 x4 x5 x6 x7 x8 x9 x10) | ((with_reducible refine gate_builtin (b := .append) (xs := #[.tmp 89, .tmp 92]) rfl ?_); refine Kd.R_append k68 (w0 := w5) w5.heap.size rfl (.tmp 89) (.tmp 92) 70 68 _ 80 rfl Try.underlying70 PFrb.info68 rfl (by decide) (by decide) (.slice B m cb) out (S68.mk a0 a1 false a3 (a4 + (a : Int) / 8) a5 a6 a7 a8 c (l10.drop a)) [_, _, _, _, _, _, _, _, _, _, _] (fun _ => True) _ rfl rfl (k68.M_lower (Nat.le_trans HBX.out.size HSZ.out) HV.out) (fun k hk => ⟨trivial, fun e => by have h1 := own_lt HOUT.out.1 k e.symm; have h2 := HSZ.out; have h3 := hk.1; omega⟩) (fun _ _ => trivial) (Kd.R_below HOUT.out.1 HB14.out) (below_step HBX.out HB14.out) (below_step HBX.out HB14.out).size (by have := HOUT.out.2; have := HN1.out; have := HPF.out; omega) ?_; intro v15 w15 hR15 hB15 hg15 hat15; obtain ⟨B15, d15, rfl⟩ := Kd.R_slice hR15; generalize hm15 : (out ++ [(S68.mk a0 a1 false a3 (a4 + (a : Int) / 8) a5 a6 a7 a8 c (l10.drop a))]).length = m15 at hR15 ⊢; have HR15 := Aside0.mk hR15; have HB15 := Aside0.mk hB15; have HM15 := Aside0.mk hm15; clear hR15 hB15 hg15 hat15 hm15))
        go_roundw
        case rel =>
          exact ⟨k, a + ND, B15, m15, d15, _, by go_num, rfl, ⟨HB15.out, HR15.out, HM15.out.symm, by have := HM15.out; have := HOUT.out.2; have := HPF.out; rw [List.length_append]; simp only [List.length_cons, List.length_nil]; omega, by have := HA.out.1; have := HPF.out; omega, HPF.out.2, HS.out.symm.trans HPQ.out⟩⟩
        case measure => simp only; have := HPF.out; have := HA.out; omega
    · have b0 : decide ((a : Int) < (N10 : Int)) = false := decide_eq_false (by omega)
      have b1 : decide (a < N10) = false := decide_eq_false ha
      have HQ : Aside0 (pcs ⟨a0, a1, false, a3, a4, a5, a6, a7, a8, l9, l10⟩ c mtu (N10 + 1) 0 [] = some out) := ⟨hpq.symm.trans (pcs_end _ _ _ _ _ _ (by show ¬ a < l10.length; rw [HNN.out.2]; exact ha))⟩
      clear hB hR hm hoa hak han hpq ha
      go_wp2
      go_ret2
      rw [← HRS.out, HQ.out]
      exact ⟨_, rfl, Kd.R_lower HOUT.out.1 HB.out.size, below_step HB.out HBX.out⟩
end Go.Proofs.Ytfmfpofbefgbgaa.HSplit
