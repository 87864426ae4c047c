/- The laws of octet: OctetOwn's function answers true, for all bytes and numbers. Conditions: each theorem's own. -/
import Derived.Test.YtcnodelfblpdiaaPOctLx0
import Derived.Test.YtcnodelfblpdiaaPOctx2
import Derived.Test.YtcnodelfblpdiaaOctLPad
import Derived.Test.YtcnodelfblpdiaaHOwn
import Derived.StillTailTactics
namespace Go.Proofs.Ytcnodelfblpdiaa.POctL
open Go.RowKit Go.Proofs.YtcnodelfblpdiaaW.PrintWords Go.Proofs.YtcnodelfblpdiaaW.PrintLast Go.Proofs.YtcnodelfblpdiaaW.PrintMore Go.Proofs.Ytcnodelfblpdiaa.HReg Go.Proofs.Ytcnodelfblpdiaa.POct Go.Proofs.Ytcnodelfblpdiaa.HOwn
set_option linter.unusedVariables false
set_option linter.unusedSimpArgs false
theorem own_info : (Try.prog.info? 29).map (fun i => (i.zero, i.size, i.bytes)) = some (some (.slice none 0 0), 1, 24) := by kernel_rfl
theorem own_rows {w : World} {g : Nat} {A : Option Addr} {n c : Nat} {xs : List Int} (h : w.heap[g]? = some (.cells #[.slice A n c, .slice A n c] 29 (0, 0))) (hn : xs.length = n) (h5 : Kd.C (Kd.int .u8) w A n xs) (k5 : n ≤ c) : HCat.Rows w (some ⟨g, 0, none⟩) [xs, xs] := fun i hi => by
  subst hn
  refine ⟨_, rfl, ?_⟩
  rw [add_plain]
  match i, hi with
  | 0, _ => exact ⟨A, c, (blk_cell h 0).trans rfl, h5, k5⟩
  | 1, _ => exact ⟨A, c, (blk_cell h 1).trans rfl, h5, k5⟩
theorem own_st {w w6 w7 : World} {base g3 : Nat} {ok : Nat → Prop} {v : Value} {t1 t2 t3 t4 t5 : Option Addr × Nat × Nat} {cs : Array Value} (ho : Kd.R KS 29 w7 base ok v ([t1, t2, t3] ++ [t4, t5])) (h3 : w6.heap[g3]? = some (.cells cs 29 (0, 0))) {o : Option Nat} (hg : w6.grownBy w7 o) (hoo : o = some g3) (h1 : Own1 w.heap.size w6 (sl t1) t1.2.1) (h2 : Own1 w.heap.size w6 (sl t2) t2.2.1) (h3' : Own1 w.heap.size w6 (sl t3) t3.2.1) (h4 : Own1 w.heap.size w6 (sl t4) t4.2.1) (h5 : Own1 w.heap.size w6 (sl t5) t5.2.1) (hb : Below w.heap.size w w7) : ∃ g c, v = .slice (some ⟨g, 0, none⟩) 5 c ∧ St w g [t1, t2, t3, t4, t5] w7 := by
  subst hoo
  refine St.of_R ho (by simp) ?_ hb rfl
  intro t ht
  simp only [List.cons_append, List.nil_append, List.mem_cons, List.not_mem_nil, or_false] at ht
  rcases ht with rfl | rfl | rfl | rfl | rfl
  · exact h1.grown h3 hg
  · exact h2.grown h3 hg
  · exact h3'.grown h3 hg
  · exact h4.grown h3 hg
  · exact h5.grown h3 hg
def num : Value → Nat
  | .int _ n => n.toNat
  | _ => 0
theorem view_all (l : List Int) : viewS l 0 (l.length : Int) = (l, 0) := by
  unfold viewS
  rw [if_neg (by omega), if_neg (by omega), if_neg (by omega)]
  simp
theorem pad_four (l : List Int) (h : l.length ≤ 140737488351232) : ∃ r, octet_Pad.f 66 l 4 = some (r, 0) := by
  refine ⟨l ++ List.replicate (lack l.length 4) 0, ?_⟩
  rw [pad_f 0 l 4 h]
  unfold padS
  rw [if_neg (by omega)]
set_option maxRecDepth 100000 in
set_option maxHeartbeats 8000000 in
theorem own_all (A0 : Option Addr) (c0 : Nat) (l0 : List Int) (a1 : Int) (w : World) (hr0 : Kd.C (Kd.int .u8) w A0 l0.length l0) (hc0 : l0.length ≤ c0) (hl : l0.length ≤ 140737488351232) :
    Calls Try.prog 17 #[.slice A0 l0.length c0, .int .i64 a1] w fun e w' => e = .returned (.bool true) ∧ Below w.heap.size w w' := by
  obtain ⟨y, hy⟩ : ∃ y, y = l0 ++ twoS a1 := ⟨_, rfl⟩
  obtain ⟨x, hx⟩ : ∃ x, x = l0 ++ fourS 1 := ⟨_, rfl⟩
  have hyl : y.length = l0.length + 2 := by rw [hy]; simp [twoS]
  have f1 : octet_Put16.f 3 l0 a1 = some y := by rw [hy]; exact put16_f 0 l0 a1 (by omega)
  have f2 : octet_Put32.f 5 l0 1 = some x := by rw [hx]; exact put32_f 0 l0 1 (by omega) (by omega) (by omega)
  have f3 : octet_Cut.f 1 l0 0 l0.length = some (l0, 0) := by rw [cut_f 0 l0 0 l0.length hl (by omega) (by omega) (by omega) (by omega), view_all]
  obtain ⟨p, f4⟩ := pad_four l0 hl
  have hfl : ([l0, l0] : List (List Int)).flatten = l0 ++ l0 := by simp
  have e1 : IntKind.i64.wrap ((l0.length : Int) + 2) = (l0.length : Int) + 2 := HCat.wid _ (by omega) (by omega)
  have e2 : ((y.length : Int) == (l0.length : Int) + 2) = true := beq_iff_eq.2 (by omega)
  have e3 : decide ((y.length : Int) = (l0.length : Int) + 2) = true := decide_eq_true (by omega)
  have HF := Aside0.mk (And.intro f1 (And.intro f2 (And.intro f3 f4)))
  have HL := Aside0.mk (And.intro hc0 (And.intro hl hyl))
  have HC := Aside0.mk hr0
  obtain ⟨X0, hX0⟩ : ∃ X, X = strOfNums l0 := ⟨_, rfl⟩
  have HX := Aside0.mk hX0
  have hs0 : (convert 29 9 (.slice A0 l0.length c0)).run Try.prog w = .ok (.string X0) w := by rw [hX0]; exact cs hr0
  clear hy hx hyl f1 f2 f3 f4 hfl hX0 hr0 hc0 hl
  have HB := Aside0.mk (Below.refl w.heap.size w)
  have HC0 := HC
  go_enter Try.func17, Try.ntmps17
  go_upto_region 3 with (first | (go_at_call 23; refine (octet_Put16.calls 3 A0 c0 l0 a1 y _ HC.out HL.out.1 HF.out.1).mono ?_; rintro e w1 ⟨v1, rfl, hR, hB⟩; have HO1 := Aside0.mk (Own1.of_R hR HB.out.size); obtain ⟨A1, c1, rfl⟩ := Kd.R_slice hR; replace HB := Aside0.mk (below_step HB.out hB); replace HC := Aside0.mk (Kd.C_below HC.out hB); clear hR hB hs0) | (go_at_call 25; refine (octet_Put32.calls 5 A0 c0 l0 1 x _ HC.out HL.out.1 HF.out.2.1).mono ?_; rintro e w2 ⟨v2, rfl, hR, hB⟩; have HO2 := Aside0.mk (Own1.of_R hR HB.out.size); obtain ⟨A2, c2, rfl⟩ := Kd.R_slice hR; replace HO1 := Aside0.mk (HO1.out.below hB); replace HB := Aside0.mk (below_step HB.out hB); replace HC := Aside0.mk (Kd.C_below HC.out hB); clear hR hB) | (go_at_call 59; refine (HCat.join_all (some ⟨w2.heap.size, 0, none⟩) 2 [l0, l0] 2 rfl _ (own_rows (blk_new w2 _) rfl (Kd.C_alloc HC.out _) HL.out.1) (by simp) (by have := HL.out.2.1; simp; omega)).mono ?_; rintro e w3 ⟨v3, rfl, hR, hB⟩; replace hB := below_step (below_alloc (Below.refl _ w2) _) hB; have HO3 := Aside0.mk (Own1.of_R hR (Nat.le_trans HB.out.size (below_alloc (Below.refl w2.heap.size w2) _).size)); obtain ⟨A3, c3, rfl⟩ := Kd.R_slice hR; generalize ([l0, l0] : List (List Int)).flatten.length = n3 at HO3 ⊢; replace HO1 := Aside0.mk (HO1.out.below hB); replace HO2 := Aside0.mk (HO2.out.below hB); replace HB := Aside0.mk (below_step HB.out hB); replace HC := Aside0.mk (Kd.C_below HC.out hB); clear hR hB))
  have hN := blk_new w3 (.cells #[.slice A1 y.length c1, .slice A2 x.length c2, .slice A3 n3 c3] 29)
  have hB := below_alloc (Below.refl _ w3) (.cells #[.slice A1 y.length c1, .slice A2 x.length c2, .slice A3 n3 c3] 29)
  generalize w3.alloc (.cells #[.slice A1 y.length c1, .slice A2 x.length c2, .slice A3 n3 c3] 29) = w4 at hN hB ⊢
  replace HO1 := Aside0.mk (HO1.out.below hB)
  replace HO2 := Aside0.mk (HO2.out.below hB)
  replace HO3 := Aside0.mk (HO3.out.below hB)
  have HG := Aside0.mk (And.intro hN HB.out.size)
  replace HB := Aside0.mk (below_step HB.out hB)
  replace HC := Aside0.mk (Kd.C_below HC.out hB)
  clear hN hB
  generalize w3.heap.size = g3 at HG ⊢
  go_wp2_with (first | (go_at_call 35; refine (octet_Cut.calls 1 A0 c0 l0 0 _ l0 0 _ HC.out HL.out.1 HF.out.2.2.1).mono ?_; rintro e w5 ⟨v5, rfl, hR, hB⟩; have HO5 := Aside0.mk (Own1.of_R hR HB.out.size); obtain ⟨A5, c5, rfl⟩ := Kd.R_slice hR; replace HO1 := Aside0.mk (HO1.out.below hB); replace HO2 := Aside0.mk (HO2.out.below hB); replace HO3 := Aside0.mk (HO3.out.below hB); replace HG := Aside0.mk (And.intro (blk_below HG.out.1 hB) HG.out.2); replace HB := Aside0.mk (below_step HB.out hB); replace HC := Aside0.mk (Kd.C_below HC.out hB); clear hR hB) | (go_at_call 52; refine (octet_Pad.calls 66 A0 c0 l0 4 p 0 _ HC.out HL.out.1 HF.out.2.2.2).mono ?_; rintro e w6 ⟨v6, rfl, hR, hB⟩; have HO6 := Aside0.mk (Own1.of_R hR HB.out.size); obtain ⟨A6, c6, rfl⟩ := Kd.R_slice hR; replace HO1 := Aside0.mk (HO1.out.below hB); replace HO2 := Aside0.mk (HO2.out.below hB); replace HO3 := Aside0.mk (HO3.out.below hB); replace HO5 := Aside0.mk (HO5.out.below hB); replace HG := Aside0.mk (And.intro (blk_below HG.out.1 hB) HG.out.2); replace HB := Aside0.mk (below_step HB.out hB); replace HC := Aside0.mk (Kd.C_below HC.out hB); clear hR hB) | ((with_reducible refine gate_builtin (b := .append) (xs := #[.tmp 37, .tmp 40]) rfl ?_); at_builtin; refine Kd.R_append_rows KS (w0 := w) w.heap.size rfl (.tmp 37) (.tmp 40) 71 29 (.slice none 0 0) 24 rfl Try.underlying71 own_info rfl (by decide) (by omega) (.slice (some ⟨g3, 0, none⟩) 3 3) [(A1, y.length, c1), (A2, x.length, c2), (A3, n3, c3)] [(A5, l0.length, c5), (A6, p.length, c6)] _ _ _ (fun _ => True) (fun _ => False) rfl rfl ?aO ?aR (fun _ _ h => h) (fun _ h => h.elim) ?aF ?aB ?aS ?aL ?_; (case aR => exact KS_reads [(A5, l0.length, c5), (A6, p.length, c6)] (blk_new w6 _) (by simp)); (case aO => exact KS_lit [(A1, y.length, c1), (A2, x.length, c2), (A3, n3, c3)] (by simp) (blk_below HG.out.1 (below_alloc (Below.refl _ w6) _)) HG.out.2); (case aF => exact fun _ _ => trivial); (case aB => exact below_step HB.out (below_alloc (Below.refl _ w6) _)); (case aS => exact (below_step HB.out (below_alloc (Below.refl _ w6) _)).size); (case aL => simp); intro v7 w7 ho hb hg hat; obtain ⟨g, cp, rfl, hS⟩ := own_st ho (blk_below HG.out.1 (below_alloc (Below.refl _ w6) _)) hg rfl (HO1.out.below (below_alloc (Below.refl _ w6) _)) (HO2.out.below (below_alloc (Below.refl _ w6) _)) (HO3.out.below (below_alloc (Below.refl _ w6) _)) (HO5.out.below (below_alloc (Below.refl _ w6) _)) (HO6.out.below (below_alloc (Below.refl _ w6) _)) hb; obtain ⟨ts, hts⟩ : ∃ ts : List (Option Addr × Nat × Nat), ts = [(A1, y.length, c1), (A2, x.length, c2), (A3, n3, c3), (A5, l0.length, c5), (A6, p.length, c6)] := ⟨_, rfl⟩; rw [← hts] at hS; have HT : Aside0 (ts[0]? = some (A1, y.length, c1) ∧ ts.length = 5) := ⟨by rw [hts]; rfl, by rw [hts]; rfl⟩; obtain ⟨ad, had⟩ : ∃ ad : Addr, ad = ⟨g, 0, none⟩ := ⟨_, rfl⟩; have HA := Aside0.mk had; rw [← had]; have HS := Aside0.mk hS; clear had hts hS ho hb hg hat HO1 HO2 HO3 HO5 HO6 HG))
  go_loopw [11] (fun i wr => ∃ k : Nat, i = .int .i64 k ∧ Aside0 (k ≤ 5 ∧ St w g ts wr)) (fun i _ => 5 - num i)
  case atStart => exact ⟨0, rfl, ⟨Nat.zero_le _, HS.out⟩⟩
  case round =>
    clear HS
    obtain ⟨k, rfl, ⟨hk, hS⟩⟩ := hrel
    by_cases hlt : k < 5
    · have b0 : decide ((k : Int) < 5) = true := decide_eq_true (by omega)
      have b1 : decide (k < 5) = true := decide_eq_true hlt
      have b2 : (k < 5) = True := eq_true hlt
      have b3 : ((k : Int) < 5) = True := eq_true (by omega)
      obtain ⟨⟨A, n, c⟩, ht⟩ : ∃ t, ts[k]? = some t := ⟨_, List.getElem?_eq_getElem (by rw [HT.out.2]; exact hlt)⟩
      have e4 : IntKind.i64.wrap ((k : Int) + 1) = (k : Int) + 1 := HCat.wid _ (by omega) (by omega)
      have HS := Aside0.mk hS
      have HK := Aside0.mk (And.intro hlt ht)
      clear hk hlt ht hS
      go_wp2
      go_loopw [12] (fun j wr => ∃ m : Nat, j = .int .i64 m ∧ Aside0 (m ≤ n ∧ St w g ts wr)) (fun j _ => n - num j)
      case atStart => exact ⟨0, rfl, ⟨Nat.zero_le _, HS.out⟩⟩
      case round =>
        clear HS
        obtain ⟨m, rfl, ⟨hm, hS⟩⟩ := hrel
        have hx := St.cellA HA.out hS HK.out.2
        by_cases hlm : m < n
        · have d0 : decide ((m : Int) < (n : Int)) = true := decide_eq_true (by omega)
          have d1 : decide (m < n) = true := decide_eq_true hlm
          have d2 : (m < n) = True := eq_true hlm
          have d3 : ((m : Int) < (n : Int)) = True := eq_true (by omega)
          obtain ⟨ad2, rfl, hn, ⟨z, hz⟩, hf, hset⟩ := hS.drew.byteA HK.out.2 hlm
          have hx2 := St.cellA HA.out hS.drew HK.out.2
          have e5 : IntKind.i64.wrap ((m : Int) + 1) = (m : Int) + 1 := by rw [IntKind.wrap_i64]; unfold maxLen at hn; omega
          have HM := Aside0.mk hlm
          have HE := Aside0.mk hset
          clear hm hlm hset hn hS
          go_upto_region 12 with (fail)
          go_still_tail 14, (by kernel_rfl)
          change wpList _ _ _ _ _ (World.drew _)
          go_wp2
          go_roundw
          case rel => exact ⟨m + 1, by go_num, ⟨HM.out, HE.out _⟩⟩
          case measure => simp only [num]; have := HM.out; omega
        · have d0 : decide ((m : Int) < (n : Int)) = false := decide_eq_false (by omega)
          have d1 : decide (m < n) = false := decide_eq_false hlm
          have HS := Aside0.mk hS
          clear hm hlm hS
          go_wp2
          go_roundw
          case rel => exact ⟨k + 1, by go_num, ⟨HK.out.1, HS.out⟩⟩
          case measure => simp only [num]; have := HK.out.1; omega
    · have b0 : decide ((k : Int) < 5) = false := decide_eq_false (by omega)
      have b1 : decide (k < 5) = false := decide_eq_false hlt
      have hx := St.cellA HA.out hS HT.out.1
      rw [show ad.add 0 = ad by rw [HA.out, add_plain]] at hx
      have hcs := cs (c := c0) (Kd.C_below HC0.out hS.2.2)
      rw [← HX.out] at hcs
      have HS := Aside0.mk hS
      clear hk hlt hS
      go_wp2
      go_ret
      exact ⟨rfl, HS.out.2.2⟩
/-- OctetOwn answers true, for all bytes and numbers. -/
def towropelaw01_OctetOwn.f (l0 : List Int) (a1 : Int) : Option Bool := if l0.length ≤ 140737488351232 then some true else none
theorem towropelaw01_OctetOwn.calls (A0 : Option Addr) (c0 : Nat) (l0 : List Int) (a1 : Int) (r : Bool) (w : World) (hr0 : Kd.C (Kd.int .u8) w A0 l0.length l0) (hc0 : l0.length ≤ c0) (h : towropelaw01_OctetOwn.f l0 a1 = some r) :
    Calls Try.prog 17 #[.slice A0 l0.length c0, .int .i64 a1] w fun e w' => e = .returned (.bool r) ∧ Below w.heap.size w w' := by
  unfold towropelaw01_OctetOwn.f at h
  split at h
  case isFalse => cases h
  case isTrue ha =>
  cases h
  exact own_all A0 c0 l0 a1 w hr0 hc0 ha
end Go.Proofs.Ytcnodelfblpdiaa.POctL
