/- hose: what Write does, for every hose and any bytes that lie apart from it. Conditions: each theorem's own. -/
import Derived.Test.YtfmfpofbefgbgaaHHose2
namespace Go.Proofs.Ytfmfpofbefgbgaa.HHose
open Go.RowKit Go.Proofs.YtfmfpofbefgbgaaW.PrintWords Go.Proofs.YtfmfpofbefgbgaaW.PrintLast Go.Proofs.YtfmfpofbefgbgaaW.PrintMore Go.Proofs.Ytfmfpofbefgbgaa.HExt Go.Proofs.Ytfmfpofbefgbgaa.HCopy Go.Proofs.Ytfmfpofbefgbgaa.HRing
set_option linter.unusedVariables false
set_option linter.unusedSimpArgs false
theorem grow_calls {B b : Nat} {v : Value} {zs : List Int} {room : Int} {f n : Nat} {i o : Int} {w : World} (h : Hz B w b v zs room f n i o) (hB : B ≤ w.heap.size) (m : Nat) (hr : (m : Int) ≤ room) :
    Calls Try.prog 64 #[.pointer (some ⟨b, 0, none⟩), .int .i64 (m : Int)] w fun e w' => (∃ u, e = .returned u) ∧ ∃ v' zs' f', Hz B w' b v' zs' room f' n i o ∧ cont zs' f' n = cont zs f n ∧ m ≤ zs'.length ∧ Kp b v w w' ∧ (v'.ownBlock = v.ownBlock ∨ ∃ g, v'.ownBlock = some g ∧ w.heap.size ≤ g) := by
  by_cases hm : m ≤ zs.length
  · refine (grow_not h m hm).mono ?_
    rintro e w' ⟨hu, rfl⟩
    exact ⟨hu, v, zs, f, h, rfl, hm, Kp.refl _ _ _, .inl rfl⟩
  · refine (grow_new h hB m (by omega) hr).mono ?_
    rintro e w' ⟨hu, v', zs', h1, h2, h3, h4, h5⟩
    exact ⟨hu, v', zs', 0, h1, h2, h3, h4, .inr h5⟩
/-- 'x[lo:hi]'. -/
theorem cut_two (A : Option Addr) (n c lo hi : Nat) (h1 : lo ≤ hi) (h2 : hi ≤ n) (hn : n ≤ c) : ∃ dp, (∀ W : World, (Instr.slice 23 (.slice A n c) (some (.int .i64 (lo : Int))) (some (.int .i64 (hi : Int))) none).run Try.prog W = .ok (.slice dp (hi - lo) (c - lo)) W) ∧ (∀ g o, A = some ⟨g, o, none⟩ → 0 < hi - lo → dp = some ⟨g, o + lo, none⟩) ∧
    (∀ (W : World) (xs : List Int), xs.length = n → Kd.C (Kd.int .u8) W A n xs → Kd.C (Kd.int .u8) W dp (hi - lo) ((xs.take hi).drop lo)) := by
  obtain ⟨i0, hi0, _, hsz0, _⟩ := info_parts info5
  have hcut := cut_mid (P := Try.prog) 23 5 .i64 .i64 Try.underlying23 hi0 1 hsz0 A n c (lo : Int) (hi : Int) (by omega) (by omega) (by omega) hn
  simp only [Int.toNat_natCast] at hcut
  refine ⟨_, hcut, fun g o e hp => ?_, fun W xs hx hC => ?_⟩
  · subst e
    rw [if_neg (by omega)]
    simp [Addr.add]
  · subst hx
    have := Kd.C_mid hC h1 h2 hn
    rw [show ((xs.take hi).drop lo).length = hi - lo by rw [List.length_drop, List.length_take]; omega] at this
    exact this
theorem take_more (xs : List Int) (d k nn : Nat) (h1 : d + k ≤ nn) : xs.take d ++ ((xs.take nn).drop d).take k = xs.take (d + k) := by
  have e : (xs.take nn).take (d + k) = xs.take (d + k) := by rw [List.take_take, Nat.min_eq_left h1]
  have e2 : (xs.take nn).take d = xs.take d := by rw [List.take_take, Nat.min_eq_left (by omega)]
  rw [← e, List.take_add, e2]
/-- What a round of Write knows. -/
structure WAt (B : Nat) (w0 wr : World) (b : Nat) (v0 : Value) (room i o : Int) (l xs : List Int) (n nn d : Nat) (v : Value) (zs : List Int) (f : Nat) : Prop where
  hz : Hz B wr b v zs room f (n + d) i o
  ct : cont zs f (n + d) = l ++ xs.take d
  le : d ≤ nn
  fit : n + nn ≤ zs.length
  kp : Kp b v0 w0 wr
  ow : v.ownBlock = v0.ownBlock ∨ ∃ g, v.ownBlock = some g ∧ w0.heap.size ≤ g
theorem WAt.drawn {B : Nat} {w0 wr : World} {b : Nat} {v0 : Value} {room i o : Int} {l xs : List Int} {n nn d : Nat} {v : Value} {zs : List Int} {f : Nat} (h : WAt B w0 wr b v0 room i o l xs n nn d v zs f) (m : Nat) : WAt B w0 (wr.drewN m).drew b v0 room i o l xs n nn d v zs f :=
  ⟨h.hz.next (below_drew (pw_below_drewN (Below.refl _ _) m)), h.ct, h.le, h.fit, (h.kp.drewN m).drew, h.ow⟩
theorem WAt.src {B : Nat} {w0 wr : World} {b : Nat} {v0 : Value} {room i o : Int} {l xs : List Int} {n nn d : Nat} {v : Value} {zs : List Int} {f : Nat} (h : WAt B w0 wr b v0 room i o l xs n nn d v zs f) {ok : Nat → Prop} {A : Option Addr}
    (hs : Kd.F (Kd.int .u8) w0 ok A xs.length xs) (hok : ∀ k, ok k → k ≠ b ∧ some k ≠ v0.ownBlock) : Kd.C (Kd.int .u8) wr A xs.length xs := Kd.F_now (Kd.F_step hs (fun q hq hlt => h.kp.block q hlt (hok q hq).1 (hok q hq).2))
theorem cells_of {w : World} {b : Nat} {x0 x1 x2 x3 x4 x5 : Value} (h : w.heap[b]? = some (.cells #[x0, x1, x2, x3, x4, x5] 114 (0, 0))) : w.cell? ⟨b, 0, none⟩ = some x0 ∧ w.cell? ⟨b, 1, none⟩ = some x1 ∧ w.cell? ⟨b, 2, none⟩ = some x2 ∧ w.cell? ⟨b, 3, none⟩ = some x3 ∧ w.cell? ⟨b, 4, none⟩ = some x4 ∧ w.cell? ⟨b, 5, none⟩ = some x5 ∧ w.frozen? ⟨b, 3, none⟩ = false ∧ w.frozen? ⟨b, 4, none⟩ = false :=
  ⟨(blk_cell h 0).trans rfl, (blk_cell h 1).trans rfl, (blk_cell h 2).trans rfl, (blk_cell h 3).trans rfl, (blk_cell h 4).trans rfl, (blk_cell h 5).trans rfl, blk_frozen h 3, blk_frozen h 4⟩
theorem WAt.next {B : Nat} {w0 wr w2 : World} {b : Nat} {v0 : Value} {room i o : Int} {l xs : List Int} {n nn d : Nat} {v : Value} {zs : List Int} {f : Nat} (h : WAt B w0 wr b v0 room i o l xs n nn d v zs f) (hd : d < nn) (hx : nn ≤ xs.length) (N1 at_ en k : Nat) (hN : N1 = n + d) (hat_ : at_ = (f + N1) % zs.length)
    (hen : en = if at_ < f then f else zs.length) (hk : k = min (nn - d) (en - at_))
    (hR : Kd.R (Kd.int .u8) 5 w2 B (fun q => q ≠ b) v (over at_ zs (((xs.take nn).drop d).take k))) (hg : wr.grownBy w2 v.ownBlock) :
    WAt B w0 (w2.setCell ⟨b, 3, none⟩ (.int .i64 ((N1 : Int) + (k : Int)))) b v0 room i o l xs n nn (d + k) v (over at_ zs (((xs.take nn).drop d).take k)) f ∧ 0 < k ∧ d + k ≤ nn := by
  subst hN
  have hfit := h.fit
  have hf : f < zs.length := by rcases h.hz.lf with ⟨a, _⟩ | a <;> omega
  have hat : at_ < zs.length := by rw [hat_]; exact Nat.mod_lt _ (by omega)
  have hts : (((xs.take nn).drop d).take k).length = k := by rw [List.length_take, List.length_drop, List.length_take]; omega
  have hen2 : at_ < en ∧ en ≤ zs.length := by rw [hen]; split <;> omega
  have k0 : 0 < k := by omega
  have hw := cont_write zs (((xs.take nn).drop d).take k) f (n + d) hf (by rw [hts]; omega) (by rw [hts, ← hat_, ← hen]; omega) (by omega)
  rw [hts, ← hat_] at hw
  have hlen : (over at_ zs (((xs.take nn).drop d).take k)).length = zs.length := ovr_length _ _ _ (by rw [hts]; omega)
  have hbv : some b ≠ v.ownBlock := fun e => h.hz.ring_ne b e.symm rfl
  refine ⟨⟨⟨?_, Kd.R_far hR (fun _ hk => hk) _, h.hz.lb, h.hz.r0, h.hz.r1, by rw [hlen]; exact h.hz.lr, by rw [hlen]; omega, .inr (by rw [hlen]; exact hf)⟩, ?_, by omega, by rw [hlen]; exact hfit, ?_, h.ow⟩, k0, by omega⟩
  · have := blk_put (blk_grown h.hz.blk hg hbv) 3 (.int .i64 ((n + d : Nat) + (k : Int))) rfl
    rw [show ((n + (d + k) : Nat) : Int) = (n + d : Nat) + (k : Int) by omega]
    exact this
  · rw [show n + (d + k) = n + d + k by omega, hw, h.ct, List.append_assoc, take_more _ _ _ _ (by omega)]
  · exact Kp.set (h.kp.trans (Kp.of_grown hg) h.ow) _ _
def num : Value → Nat
  | .int _ n => n.toNat
  | _ => 0
set_option maxRecDepth 100000 in
set_option maxHeartbeats 8000000 in
theorem write_calls {B b : Nat} {v : Value} {zs : List Int} {room : Int} {f n : Nat} {i o : Int} {w : World} (h : Hz B w b v zs room f n i o) (hB : B ≤ w.heap.size) (A : Option Addr) (c : Nat) (xs : List Int) (ok : Nat → Prop) (hs : Kd.F (Kd.int .u8) w ok A xs.length xs) (hok : ∀ k, ok k → k ≠ b ∧ some k ≠ v.ownBlock) (hc : xs.length ≤ c) (i0 : 0 ≤ i) (i1 : i ≤ 1000000000000) :
    Calls Try.prog 18 #[.pointer (some ⟨b, 0, none⟩), .slice A xs.length c] w fun e w' => e = .returned (.int .i64 ((min xs.length (room.toNat - n) : Nat) : Int)) ∧ ∃ v' zs' f', Hz B w' b v' zs' room f' (n + min xs.length (room.toNat - n)) (i + (min xs.length (room.toNat - n) : Nat)) o ∧
      cont zs' f' (n + min xs.length (room.toNat - n)) = cont zs f n ++ xs.take (min xs.length (room.toNat - n)) ∧ Kp b v w w' ∧ (v'.ownBlock = v.ownBlock ∨ ∃ g, v'.ownBlock = some g ∧ w.heap.size ≤ g) := by
  have hr0 := h.r0
  have hr1 := h.r1
  have hlr := h.lr
  have hln := h.ln
  have hxm : xs.length ≤ 9223372036854775807 := Kd.C_max (Kd.F_now hs)
  obtain ⟨h0, h1, h2, h3, h4, h5⟩ := h.cells
  obtain ⟨nn, hnn⟩ : ∃ nn, nn = min xs.length (room.toNat - n) := ⟨_, rfl⟩
  rw [← hnn]
  have hnx : nn ≤ xs.length := by omega
  have hnr : (n : Int) + nn ≤ room := by omega
  have e1 : IntKind.i64.wrap (room - (n : Int)) = room - (n : Int) := wid _ (by omega) (by omega)
  have e2 : min (xs.length : Int) (room - (n : Int)) = (nn : Int) := by omega
  have e3 : IntKind.i64.wrap ((n : Int) + (nn : Int)) = (n : Int) + (nn : Int) := wid _ (by omega) (by omega)
  have HG := fun (w' : World) (hb : Below w.heap.size w w') => Aside0.mk (grow_calls (h.next hb) (Nat.le_trans hB hb.size) (n + nn) (by omega))
  have H := Aside0.mk h
  have HS := Aside0.mk (And.intro hs (And.intro hok hc))
  have HX := Aside0.mk (And.intro hnx hnr)
  have HI := Aside0.mk (And.intro i0 i1)
  have HL := Aside0.mk (And.intro hr1 hxm)
  clear h hs hok hc hnx hnr hnn hr0 hr1 hlr hln hxm i0 i1
  go_enter Try.func18, Try.ntmps18
  go_upto_region 3 with (fail)
  go_quiet (fail)
  go_wp2_with (go_at_call 64; rw [show ((n : Int) + (nn : Int)) = ((n + nn : Nat) : Int) by omega]; refine Calls.mono (HG _ (pw_below_drewN (Below.refl _ _) _)).out ?_; rintro e w1 ⟨⟨u, rfl⟩, v1, zs1, f1, hH, hct, hfit, hK, how⟩; have HW := Aside0.mk (show WAt B w w1 b v room i o (cont zs f n) xs n nn 0 v1 zs1 f1 from ⟨hH, by simpa using hct, by omega, hfit, (Kp.drewN (Kp.refl b v w) _).trans hK (.inl rfl), how⟩); clear hH hct hfit hK how)
  have HH : Aside0 (∃ v' zs' f', WAt B w w1 b v room i o (cont zs f n) xs n nn 0 v' zs' f') := ⟨v1, zs1, f1, HW.out⟩
  clear HW HG h0 h1 h2 h3 h4 h5 e1 e2 e3
  go_loopw [6] (fun s6 wr => ∃ d : Nat, s6 = .int .i64 d ∧ Aside0 (∃ v' zs' f', WAt B w wr b v room i o (cont zs f n) xs n nn d v' zs' f')) (fun s6 _ => nn - num s6)
  case atStart => exact ⟨0, rfl, HH⟩
  case round =>
    clear HH
    obtain ⟨d, rfl, ⟨v2, zs2, f2, hA⟩⟩ := hrel
    by_cases hd : d < nn
    · have c0 : decide ((d : Int) < (nn : Int)) = true := decide_eq_true (by omega)
      have c1 : decide (d < nn) = true := decide_eq_true hd
      have c2 : ((d : Int) < (nn : Int)) = True := eq_true (by omega)
      have c3 : (d < nn) = True := eq_true hd
      have hfit := hA.fit
      have hf : f2 < zs2.length := by rcases hA.hz.lf with ⟨a, _⟩ | a <;> omega
      have hl2 : (zs2.length : Int) ≤ 1048576 := Int.le_trans hA.hz.lr HL.out.1
      obtain ⟨g, cz, rfl, hgB, hgl, -⟩ := Kd.R_form hA.hz.row (by omega)
      have hcz : zs2.length ≤ cz := (Kd.R_reads' hA.hz.row).2.1
      obtain ⟨h0, h1, h2, h3, h4, h5⟩ := hA.hz.cells
      have f3 := hA.hz.free 3
      obtain ⟨N1, hN1⟩ : ∃ N1, N1 = n + d := ⟨_, rfl⟩
      obtain ⟨at_, hat⟩ : ∃ at_, at_ = (f2 + N1) % zs2.length := ⟨_, rfl⟩
      have hatl : at_ < zs2.length := by rw [hat]; exact Nat.mod_lt _ (by omega)
      rw [← hN1] at h3
      have e3 : IntKind.i64.wrap ((f2 : Int) + (N1 : Int)) = (f2 : Int) + (N1 : Int) := wid _ (by omega) (by omega)
      have e6 : ((zs2.length : Int) == 0) = false := beq_eq_false_iff_ne.2 (by omega)
      have e7 : (zs2.length == 0) = false := beq_eq_false_iff_ne.2 (by omega)
      have ez : (zs2 = []) = False := eq_false (by intro e; rw [e] at hf; simp at hf)
      have e4 : ((f2 : Int) + (N1 : Int)).tmod (zs2.length : Int) = (at_ : Int) := by rw [hat]; rfl
      have e5 : ((f2 : Int) + (N1 : Int)) % (zs2.length : Int) = (at_ : Int) := by rw [hat]; rfl
      obtain ⟨en, hen⟩ : ∃ en, en = if at_ < f2 then f2 else zs2.length := ⟨_, rfl⟩
      have hen1 : at_ < en := by rw [hen]; split <;> omega
      have hen2 : en ≤ zs2.length := by rw [hen]; split <;> omega
      obtain ⟨k, hk⟩ : ∃ k, k = min (nn - d) (en - at_) := ⟨_, rfl⟩
      have hmin : Nat.min (nn - d) (en - at_) = k := hk.symm
      have hk1 : k ≤ nn - d := by omega
      have e8 : IntKind.i64.wrap ((d : Int) + (k : Int)) = (d : Int) + (k : Int) := wid _ (by omega) (by have := HX.out.2; have := HL.out.1; omega)
      have e9 : IntKind.i64.wrap ((N1 : Int) + (k : Int)) = (N1 : Int) + (k : Int) := wid _ (by omega) (by omega)
      obtain ⟨dp, hcutA, hdp, -⟩ := cut_two (some ⟨g, 0, none⟩) zs2.length cz at_ en (by omega) hen2 hcz
      obtain ⟨sp, hcutB, -, hsp⟩ := cut_two A xs.length c d nn (by omega) HX.out.1 HS.out.2.2
      have HD := Aside0.mk (And.intro (hdp g 0 rfl) hsp)
      have HA := Aside0.mk hA
      have HK := Aside0.mk (And.intro hmin (And.intro hk1 (And.intro hen1 hen2)))
      have HN := Aside0.mk hN1
      have HT := Aside0.mk hat
      have HE := Aside0.mk hen
      have HKK := Aside0.mk hk
      have HD0 := Aside0.mk hd
      have HGB := Aside0.mk hgB
      by_cases ca : at_ < f2
      all_goals
        first
        | (have d1 : decide ((at_ : Int) < (f2 : Int)) = true := decide_eq_true (by omega)
           have d2 : decide (at_ < f2) = true := decide_eq_true ca
           obtain rfl : en = f2 := by rw [hen, if_pos ca])
        | (have d1 : decide ((at_ : Int) < (f2 : Int)) = false := decide_eq_false (by omega)
           have d2 : decide (at_ < f2) = false := decide_eq_false ca
           obtain rfl : en = zs2.length := by rw [hen, if_neg ca])
        clear hA hd hfit hl2 hgB hgl hcz hN1 hat hatl hen hen1 hen2 hk hmin hk1 hdp hsp ca
        go_upto_region 7 with (fail)
        go_quiet (fail)
        go_upto_region 11 with (fail)
        have HAd := Aside0.mk (HA.out.drawn nq)
        clear HA
        go_region_law (refine R_copy_min rfl (.tmp 71) (.tmp 75) 23 23 5 rfl Try.underlying23 size5 at_ g zs2.length cz (_ - at_) (cz - at_) (c - d) (nn - d) k HK.out.1 zs2 ((xs.take nn).drop d) B (fun q => q ≠ b) sp dp rfl rfl (by have := HD.out.1; rw [Nat.zero_add] at this; exact this) (by have := HK.out.2.2; omega) HAd.out.hz.row (HD.out.2 _ xs rfl (HAd.out.src HS.out.1 HS.out.2.1)) ?_; intro w3 ho hg; have HX3 := Aside0.mk (HAd.out.next HD0.out HX.out.1 N1 at_ _ k HN.out HT.out HE.out HKK.out ho hg); have hb3 := blk_grown HAd.out.hz.blk hg (fun e => HAd.out.hz.ring_ne b e.symm rfl); rw [← HN.out] at hb3; clear ho hg h0 h1 h2 h3 h4 h5 f3; obtain ⟨h0, h1, h2, h3, h4, h5, f3, f4⟩ := cells_of hb3; clear hb3)
        go_wp2
        go_roundw
        case rel => exact ⟨d + k, by go_num, ⟨_, _, _, HX3.out.1⟩⟩
        case measure => simp only [num]; have := HX3.out.2; omega
    · have c1 : decide ((d : Int) < (nn : Int)) = false := decide_eq_false (by omega)
      have c2 : decide (d < nn) = false := decide_eq_false hd
      obtain rfl : d = nn := by have := hA.le; omega
      obtain ⟨h0, h1, h2, h3, h4, h5, f3, f4⟩ := cells_of hA.hz.blk
      have e1 : IntKind.i64.wrap (i + (d : Int)) = i + (d : Int) := wid _ (by have := HI.out; omega) (by have := HI.out; have := HX.out.2; have := HL.out.1; omega)
      have HA := Aside0.mk hA
      clear hA hd
      go_wp2
      go_ret
      have hA := HA.out
      refine ⟨rfl, v2, zs2, f2, ⟨blk_put hA.hz.blk 4 _ rfl, Kd.R_far hA.hz.row (fun _ hk => hk) _, hA.hz.lb, hA.hz.r0, hA.hz.r1, hA.hz.lr, hA.hz.ln, hA.hz.lf⟩, hA.ct, hA.kp.set _ _, hA.ow⟩
end Go.Proofs.Ytfmfpofbefgbgaa.HHose
