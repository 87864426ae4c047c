/- The laws of backlog: what a round of BacklogOnce knows. Conditions: each theorem's own. -/
import Derived.Test.YtimgfdkndlbfbaaPBackLx1
namespace Go.Proofs.Ytimgfdkndlbfbaa.PBackL
open Go.RowKit Go.Proofs.YtimgfdkndlbfbaaW.PrintWords Go.Proofs.YtimgfdkndlbfbaaW.PrintLast Go.Proofs.YtimgfdkndlbfbaaW.PrintMore Go.Proofs.Ytimgfdkndlbfbaa.HBk
set_option linter.unusedVariables false
set_option linter.unusedSimpArgs false
/-- An act, by its cells. -/
def Act1 (w : World) (ad : Addr) (d x : Int) : Prop := w.cell? ad = some (.int .i64 d) ∧ w.cell? ⟨ad.block, ad.off + 1, none⟩ = some (.int .i64 x)
def Acts (w : World) (A : Option Addr) (n : Nat) : Prop := ∀ i, i < n → ∃ ad, A = some ad ∧ ∃ d x, Act1 w (ad.add (i * 2)) d x
theorem Act1.below {w w' : World} {ad : Addr} {d x : Int} (h : Act1 w ad d x) (hb : Below w.heap.size w w') : Act1 w' ad d x := ⟨pw_cell_below hb h.1, pw_cell_below hb h.2⟩
/-- The law's own list, apart from the log. -/
structure Us (b0 : Nat) (w : World) (vh vr u : Value) (q : List Int) : Prop where
  sl : Sl b0 w u q
  ap : ∀ g, u.ownBlock = some g → vh.ownBlock ≠ some g ∧ vr.ownBlock ≠ some g
section
variable {w0 w w' : World} {b0 b k m c : Nat} {s s' : LS} {vh vr vh' vr' u u' : Value} {q q' : List Int} {A : Option Addr}
theorem Us.move (h : Us b0 w vh vr u q) (hL : Lg b0 w b s vh vr) (hM : Mv w w' b vh vr vh' vr') : Us b0 w' vh' vr' u q := by
  refine ⟨h.sl.keep fun g hg hlt => hM.old g hlt (h.sl.apart hL.blk (by decide) g hg) (h.ap g hg).1 (h.ap g hg).2, fun g hg => ⟨fun e => ?_, fun e => ?_⟩⟩
  · rcases hM.h g e with e | e
    · exact (h.ap g hg).1 e
    · have := (h.sl.low g hg).2; omega
  · rcases hM.r g e with e | e
    · exact (h.ap g hg).2 e
    · have := (h.sl.low g hg).2; omega
theorem Us.below (h : Us b0 w vh vr u q) (hb : Below w.heap.size w w') : Us b0 w' vh vr u q := ⟨h.sl.below hb, h.ap⟩
theorem At.grown (h : At w0 w b s vh vr) (hU : Us w0.heap.size w vh vr u q) (hg : w.grownBy w' u.ownBlock) : At w0 w' b s vh vr :=
  ⟨⟨blk_grown h.lg.blk hg (fun e => hU.sl.apart h.lg.blk (by decide) b e.symm rfl), h.lg.lo, h.lg.hs.grown hg (fun g hv e => (hU.ap g e.symm).1 hv), h.lg.rs.grown hg (fun g hv e => (hU.ap g e.symm).2 hv), h.lg.ap⟩,
    pw_below_grown h.bl u.ownBlock h.size hg (fun g hk => (hU.sl.low g hk).1)⟩
theorem Us.push (h : At w0 w b s vh vr) (hU : Us w0.heap.size w vh vr u q) (o : Obj) (hS : Sl w0.heap.size w' u' q') (hG : (w.alloc o).grownBy w' u.ownBlock) (hO : u'.ownBlock = u.ownBlock ∨ ∃ g, u'.ownBlock = some g ∧ (w.alloc o).heap.size ≤ g) : At w0 w' b s vh vr ∧ Us w0.heap.size w' vh vr u' q' := by
  have hB := below_alloc (Below.refl w.heap.size w) o
  refine ⟨(h.below hB).grown (hU.below hB) hG, hS, fun g hg => ?_⟩
  rcases hO with e | ⟨g', e, hle⟩
  · exact hU.ap g (e ▸ hg)
  · rw [e] at hg
    injection hg with hg
    subst hg
    have := hB.size
    exact ⟨fun e => by have := (h.lg.hs.low _ e).2; omega, fun e => by have := (h.lg.rs.low _ e).2; omega⟩
/-- What a round knows: the law's own list reads as who is ready. -/
def Om (w0 w : World) (b : Nat) (A : Option Addr) (m c k : Nat) : Prop := ∃ s vh vr, At w0 w b s vh vr ∧ Us w0.heap.size w vh vr (.slice A m c) s.r ∧ Jn s k ∧ m = s.r.length
theorem Om.more (h : Om w0 w b A m c k) : Om w0 w b A m c (k + 1) := by
  obtain ⟨s, vh, vr, h1, h2, h3, h4⟩ := h
  exact ⟨s, vh, vr, h1, h2, h3.more, h4⟩
theorem addF_r (s : LS) (x : Int) : (addF s x).1.r = s.r := by unfold addF; split; rfl; split <;> rfl
theorem Om.add (hA : At w0 w b s vh vr) (hU : Us w0.heap.size w vh vr (.slice A m c) s.r) (hJ : Jn s k) (hm : m = s.r.length) (x : Int) (hL : Lg w0.heap.size w' b (addF s x).1 vh' vr') (hM : Mv w w' b vh vr vh' vr') : Om w0 w' b A m c (k + 1) :=
  ⟨_, _, _, hA.move hL hM, by rw [addF_r]; exact hU.move hA.lg hM, hJ.add x, by rw [addF_r]; exact hm⟩
end
theorem Sl.head {b0 : Nat} {w : World} {A : Option Addr} {n c : Nat} {x : Int} {xs : List Int} (h : Sl b0 w (.slice A n c) (x :: xs)) : ∃ ad, A = some ad ∧ w.cell? ad = some (.int .i64 x) := by
  obtain ⟨ad, e, hc⟩ := (Kd.reads_of_C (enc := Value.int .i64) (d := (0 : Int)) (h1 := fun _ => rfl) h.reads).2.2 (by simp)
  have hx := hc 0 (by simp)
  rw [show ad.add 0 = ad by obtain ⟨g, o, q⟩ := ad; unfold Addr.add; split <;> simp_all] at hx
  exact ⟨ad, e, by simpa using hx⟩
theorem Sl.get {b0 : Nat} {w : World} {A : Option Addr} {n c : Nat} {xs : List Int} (h : Sl b0 w (.slice A n c) xs) {j : Nat} (hj : j < xs.length) : ∃ ad, A = some ad ∧ w.cell? (ad.add j) = some (.int .i64 (xs.getD j 0)) := by
  obtain ⟨ad, e, hc⟩ := (Kd.reads_of_C (enc := Value.int .i64) (d := (0 : Int)) (h1 := fun _ => rfl) h.reads).2.2 (by omega)
  exact ⟨ad, e, hc j hj⟩
/-- What is left behind j of the list. -/
def left (q : List Int) (x : Int) (j : Nat) : List Int := (q.take j).filter (fun y => y ≠ x)
theorem left_same {q : List Int} {x : Int} {j : Nat} (hj : j < q.length) (h : q.getD j 0 = x) : left q x (j + 1) = left q x j := by
  unfold left
  rw [List.take_succ_eq_append_getElem hj, List.filter_append]
  rw [List.getD_eq_getElem?_getD, List.getElem?_eq_getElem hj] at h
  simp at h
  simp [h]
theorem left_more {q : List Int} {x : Int} {j : Nat} (hj : j < q.length) (h : q.getD j 0 ≠ x) : left q x (j + 1) = left q x j ++ [q.getD j 0] := by
  unfold left
  rw [List.take_succ_eq_append_getElem hj, List.filter_append]
  rw [List.getD_eq_getElem?_getD, List.getElem?_eq_getElem hj] at h ⊢
  simp at h ⊢
  exact h
theorem left_len (q : List Int) (x : Int) (j : Nat) : (left q x j).length ≤ q.length := Nat.le_trans (List.length_filter_le _ _) (by simp; omega)
set_option maxRecDepth 100000 in
set_option maxHeartbeats 8000000 in
theorem once_all (A1 : Option Addr) (n c1 : Nat) (w : World) (h : Acts w A1 n) (hn : n ≤ 200) :
    Calls Try.prog 7 #[.slice A1 n c1] w fun e w' => e = .returned (.bool true) ∧ Below w.heap.size w w' := by
  have d0 : decide (200 < (n : Int)) = false := decide_eq_false (by omega)
  have HA := Aside0.mk h
  have HN := Aside0.mk hn
  clear h hn
  go_enter Try.func7, Try.ntmps7
  go_wp2_with (first | (go_at_call 29; refine (new_good 5 3 _ (by decide) (by decide) (by decide) (by decide)).mono ?_; rintro e w1 ⟨b, rfl, hL, hB⟩; have L := Aside0.mk (At.mk hL hB); clear hL hB) | (go_at_call 30; refine (code_calls _ _).mono ?_; rintro e w9 ⟨rfl, rfl⟩))
  have HH : Aside0 (0 ≤ n ∧ Om w w1 b none 0 0 0) := ⟨Nat.zero_le _, _, _, _, L.out, ⟨Sl.nil _ _, fun g hg => by cases hg⟩, ⟨by decide, by decide, by decide, by decide, by decide, by decide, by decide, by decide⟩, rfl⟩
  clear L
  go_loopw [6, 7] (fun u i wr => ∃ (k : Nat) (A : Option Addr) (m c : Nat), i = .int .i64 k ∧ u = .slice A m c ∧ Aside0 (k ≤ n ∧ Om w wr b A m c k)) (fun _ i _ => n - num i)
  case atStart => exact ⟨0, none, 0, 0, rfl, rfl, HH⟩
  case round =>
    clear HH
    obtain ⟨k, A, m, c, rfl, rfl, ⟨hk, hO⟩⟩ := hrel
    have hnn := HN.out
    by_cases hlt : k < n
    · have b0 : decide ((k : Int) < (n : Int)) = true := decide_eq_true (by omega)
      have b1 : decide (k < n) = true := decide_eq_true hlt
      have b2 : (k < n) = True := eq_true hlt
      have b3 : ((k : Int) < (n : Int)) = True := eq_true (by omega)
      have e1 : IntKind.i64.wrap ((k : Int) + 1) = (k : Int) + 1 := wid _ (by omega) (by omega)
      obtain ⟨ad, rfl, d, x, hact⟩ := HA.out k hlt
      have hO' := hO
      obtain ⟨s, vh, vr, hAt, hUs, hJ, hm⟩ := hO'
      obtain ⟨a0, a1⟩ := hact.below hAt.bl
      have HK := Aside0.mk (And.intro hlt (show k ≤ 300 by omega))
      have HT := Aside0.mk hact
      have HO := Aside0.mk hO
      have HAt := Aside0.mk hAt
      have HUs := Aside0.mk hUs
      have HJ := Aside0.mk (And.intro hJ hm)
      clear hk hnn hlt hact hO hAt hUs hJ hm
      by_cases hd0 : d = 0
      · subst hd0
        go_wp2_with (go_at_call 31; have hh := add_any HAt.out HJ.out.1 HK.out.2 x; with_reducible refine hh.mono ?_; clear hh; rintro e w2 ⟨rfl, vh2, vr2, hL, hM⟩; have P := Aside0.mk (Om.add HAt.out HUs.out HJ.out.1 HJ.out.2 x hL hM); clear hL hM)
        go_roundw
        case rel => exact ⟨k + 1, A, m, c, by go_num, rfl, ⟨HK.out.1, P.out⟩⟩
        case measure => simp only [num]; have := HK.out.1; omega
      have z0 : (d == 0) = false := beq_eq_false_iff_ne.2 hd0
      have y0 : decide (d = 0) = false := decide_eq_false hd0
      by_cases hd1 : d = 1
      · subst hd1
        clear hd0 z0 y0
        by_cases hx : x ∈ s.h
        · have HR := Aside0.mk (show readyF s x = ({ s with h := out s.h x, r := s.r ++ [x] }, 0) from if_pos hx)
          have hh := ready_any HAt.out HJ.out.1 HK.out.2 x
          have hJ2 := HJ.out.1.ready x
          rw [HR.out] at hh hJ2
          have CT := Aside0.mk hh
          have J2 := Aside0.mk hJ2
          clear hx hh hJ2 HR
          go_wp2_with (first | (go_at_call 33; refine CT.out.mono ?_; rintro e w2 ⟨rfl, vh2, vr2, hL, hM⟩; have A2 := Aside0.mk (HAt.out.move hL hM); have U2 := Aside0.mk (HUs.out.move HAt.out.lg hM); obtain ⟨i0, i1⟩ := HT.out.below A2.out.bl; clear hL hM) | (go_at_call 30; refine (code_calls _ _).mono ?_; rintro e w9 ⟨rfl, rfl⟩) | ((with_reducible refine gate_builtin (b := .append) (xs := #[.tmp 63, .tmp 69]) rfl ?_); refine append1_step rfl (.tmp 63) (.tmp 69) rfl w2.heap.size x rfl rfl (U2.out.sl.below (below_alloc (Below.refl _ w2) _)) ?aa ?al ((blk_cell (blk_new w2 _) 0).trans rfl) ?_; (case aa => exact Nat.le_trans A2.out.size (below_alloc (Below.refl w2.heap.size w2) _).size); (case al => have := HJ.out.1.ln; have := HK.out.2; omega); intro v3 w3 hS hG hO; obtain ⟨A3, c3, rfl, -, -⟩ := hS.shape; have P3 := Us.push A2.out U2.out _ hS hG hO; have P := Aside0.mk (show Om w w3 b A3 (s.r ++ [x]).length c3 (k + 1) from ⟨_, _, _, P3.1, P3.2, J2.out, rfl⟩); generalize (s.r ++ [x]).length = m3 at P ⊢; clear hS hG hO P3))
          go_roundw
          case rel => exact ⟨k + 1, A3, _, c3, by go_num, rfl, ⟨HK.out.1, P.out⟩⟩
          case measure => simp only [num]; have := HK.out.1; omega
        · have HR := Aside0.mk (show readyF s x = (s, 6) from if_neg hx)
          have hh := ready_any HAt.out HJ.out.1 HK.out.2 x
          rw [HR.out] at hh
          have CT := Aside0.mk hh
          clear hx hh HR
          go_wp2_with (first | (go_at_call 33; refine CT.out.mono ?_; rintro e w2 ⟨rfl, vh2, vr2, hL, hM⟩; have P := Aside0.mk (show Om w w2 b A m c (k + 1) from ⟨_, _, _, HAt.out.move hL hM, HUs.out.move HAt.out.lg hM, HJ.out.1.more, HJ.out.2⟩); clear hL hM) | (go_at_call 30; refine (code_calls _ _).mono ?_; rintro e w9 ⟨rfl, rfl⟩))
          go_roundw
          case rel => exact ⟨k + 1, A, m, c, by go_num, rfl, ⟨HK.out.1, P.out⟩⟩
          case measure => simp only [num]; have := HK.out.1; omega
      have z1 : (d == 1) = false := beq_eq_false_iff_ne.2 hd1
      have y1 : decide (d = 1) = false := decide_eq_false hd1
      by_cases hd2 : d = 2
      · subst hd2
        clear hd0 z0 y0 hd1 z1 y1
        by_cases hx : x ∈ s.h ∨ x ∈ s.r
        · have HR := Aside0.mk (show (dropF s x).2 = true by
            show (decide (x ∈ s.h) || decide (x ∈ s.r)) = true
            rcases hx with e | e
            · rw [decide_eq_true e]; rfl
            · rw [decide_eq_true e]; simp)
          have hh := drop_any HAt.out HJ.out.1 HK.out.2 x
          rw [HR.out] at hh
          have hJ2 := HJ.out.1.drop x
          have CT := Aside0.mk hh
          have J2 := Aside0.mk hJ2
          have HQ := Aside0.mk (show (dropF s x).1.r = left s.r x m by
            have hnd := (List.nodup_append.1 HJ.out.1.nd).2.1
            show out s.r x = _
            rw [out_filter hnd]; unfold left; rw [HJ.out.2, List.take_length])
          clear hx hh HR hJ2
          go_wp2_with (go_at_call 35; refine CT.out.mono ?_; rintro e w2 ⟨rfl, vh2, vr2, hL, hM⟩; have A2 := Aside0.mk (HAt.out.move hL hM); have U2 := Aside0.mk (HUs.out.move HAt.out.lg hM); clear hL hM)
          have HI : Aside0 (0 ≤ m ∧ Below w2.heap.size w2 w2 ∧ Sl w2.heap.size w2 (.slice none 0 0) (left s.r x 0) ∧ 0 = (left s.r x 0).length) := ⟨Nat.zero_le _, Below.refl _ _, Sl.nil _ _, rfl⟩
          go_loopw [8, 9] (fun rest jv wr2 => ∃ (j : Nat) (B : Option Addr) (r cb : Nat), jv = .int .i64 j ∧ rest = .slice B r cb ∧ Aside0 (j ≤ m ∧ Below w2.heap.size w2 wr2 ∧ Sl w2.heap.size wr2 (.slice B r cb) (left s.r x j) ∧ r = (left s.r x j).length)) (fun _ jv _ => m - num jv)
          case atStart => exact ⟨0, none, 0, 0, rfl, rfl, HI⟩
          case round =>
            clear HI
            obtain ⟨j, B, r, cb, rfl, rfl, ⟨hj, hB, hS, hr⟩⟩ := hrel
            have hm := HJ.out.2
            by_cases hjm : j < m
            · have d1 : decide ((j : Int) < (m : Int)) = true := decide_eq_true (by omega)
              have d2 : decide (j < m) = true := decide_eq_true hjm
              have d3 : (j < m) = True := eq_true hjm
              have d4 : ((j : Int) < (m : Int)) = True := eq_true (by omega)
              have e2 : IntKind.i64.wrap ((j : Int) + 1) = (j : Int) + 1 := wid _ (by omega) (by have := HJ.out.1.ln; have := HK.out.2; omega)
              obtain ⟨ad2, rfl, hy⟩ := Sl.get (U2.out.below hB).sl (show j < s.r.length by omega)
              obtain ⟨i0, i1⟩ := HT.out.below (below_step A2.out.bl hB)
              obtain ⟨y, hye⟩ : ∃ y, s.r.getD j 0 = y := ⟨_, rfl⟩
              rw [hye] at hy
              have HB := Aside0.mk (And.intro hB (And.intro hS hr))
              have HJJ := Aside0.mk (And.intro hjm hye)
              by_cases hyx : y = x
              · have g0 : (y == x) = true := beq_iff_eq.2 hyx
                have g1 : decide (y = x) = true := decide_eq_true hyx
                have HX := Aside0.mk (left_same (show j < s.r.length by omega) (hye.trans hyx))
                clear hj hB hS hr hm hjm hye hyx
                go_upto_region 23 with (fail)
                go_quiet (fail)
                go_wp2
                go_roundw
                case rel => exact ⟨j + 1, B, r, cb, by go_num, rfl, ⟨HJJ.out.1, pw_below_drewN HB.out.1 _, by rw [HX.out]; exact HB.out.2.1, by rw [HX.out]; exact HB.out.2.2⟩⟩
                case measure => simp only [num]; have := HJJ.out.1; omega
              · have g0 : (y == x) = false := beq_eq_false_iff_ne.2 hyx
                have g1 : decide (y = x) = false := decide_eq_false hyx
                have HX := Aside0.mk (left_more (show j < s.r.length by omega) (by rw [hye]; exact hyx))
                clear hj hB hS hr hm hjm hye hyx
                go_upto_region 23 with (fail)
                go_quiet (fail)
                have HB4 := Aside0.mk (And.intro (pw_below_drewN HB.out.1 nq) (And.intro (HB.out.2.1.below (pw_below_drewN (Below.refl _ _) nq)) HB.out.2.2))
                have hy4 : (World.drewN _ nq).cell? (ad2.add j) = some (.int .i64 y) := hy
                have i14 : (World.drewN _ nq).cell? _ = _ := i1
                clear hy i0 i1 HB
                generalize World.drewN _ nq = w4 at HB4 hy4 i14 ⊢
                go_wp2_with (((with_reducible refine gate_builtin (b := .append) (xs := #[.tmp 96, .tmp 101]) rfl ?_); refine append1_step rfl (.tmp 96) (.tmp 101) rfl w4.heap.size y rfl rfl (HB4.out.2.1.below (below_alloc (Below.refl _ w4) _)) ?aa ?al ((blk_cell (blk_new w4 _) 0).trans rfl) ?_; (case aa => exact Nat.le_trans HB4.out.1.size (below_alloc (Below.refl w4.heap.size w4) _).size); (case al => have h1 := left_len s.r x j; have := HJ.out.1.ln; have := HK.out.2; omega); intro v5 w5 hS hG hO; obtain ⟨A5, c5, rfl, -, -⟩ := hS.shape; have HB5 := Aside0.mk (pw_below_grown (below_step HB4.out.1 (below_alloc (Below.refl w4.heap.size w4) _)) _ (below_step HB4.out.1 (below_alloc (Below.refl w4.heap.size w4) _)).size hG (fun g hg => (HB4.out.2.1.low g hg).1)); generalize hlen : (left s.r x j ++ [y]).length = m5 at hS hO ⊢; rw [← HJJ.out.2, ← HX.out] at hS; have HS5 := Aside0.mk hS; have HLN := Aside0.mk hlen; clear hS hG hO hlen))
                go_roundw
                case rel => exact ⟨j + 1, A5, _, c5, by go_num, rfl, ⟨HJJ.out.1, HB5.out, HS5.out, by rw [HX.out, HJJ.out.2]; exact HLN.out.symm⟩⟩
                case measure => simp only [num]; have := HJJ.out.1; omega
            · have d1 : decide ((j : Int) < (m : Int)) = false := decide_eq_false (by omega)
              have d2 : decide (j < m) = false := decide_eq_false hjm
              obtain rfl : j = m := by omega
              have P := Aside0.mk (show Om w _ b B r cb (k + 1) from ⟨_, _, _, A2.out.below hB, by rw [HQ.out]; exact ⟨hS.mono A2.out.size, fun g hg => ⟨fun e => by have := (hS.low g hg).1; have := (A2.out.lg.hs.low g e).2; omega, fun e => by have := (hS.low g hg).1; have := (A2.out.lg.rs.low g e).2; omega⟩⟩, J2.out, by rw [HQ.out]; exact hr⟩)
              clear hj hB hS hr hjm
              go_wp2
              go_roundw
              case rel => exact ⟨k + 1, B, r, cb, by go_num, rfl, ⟨HK.out.1, P.out⟩⟩
              case measure => simp only [num]; have := HK.out.1; omega
        · have HR := Aside0.mk (show (dropF s x).2 = false by
            have c1 : x ∉ s.h := fun e => hx (.inl e)
            have c2 : x ∉ s.r := fun e => hx (.inr e)
            show (decide (x ∈ s.h) || decide (x ∈ s.r)) = false
            rw [decide_eq_false c1, decide_eq_false c2]; rfl)
          have HQ := Aside0.mk (show (dropF s x).1.r = s.r from if_neg (fun e => hx (.inr e)))
          have hh := drop_any HAt.out HJ.out.1 HK.out.2 x
          rw [HR.out] at hh
          have CT := Aside0.mk hh
          clear hx hh HR
          go_wp2_with (go_at_call 35; refine CT.out.mono ?_; rintro e w2 ⟨rfl, vh2, vr2, hL, hM⟩; have P := Aside0.mk (show Om w w2 b A m c (k + 1) from ⟨_, _, _, HAt.out.move hL hM, by rw [HQ.out]; exact HUs.out.move HAt.out.lg hM, HJ.out.1.drop x, by rw [HQ.out]; exact HJ.out.2⟩); clear hL hM)
          go_roundw
          case rel => exact ⟨k + 1, A, m, c, by go_num, rfl, ⟨HK.out.1, P.out⟩⟩
          case measure => simp only [num]; have := HK.out.1; omega
      have z2 : (d == 2) = false := beq_eq_false_iff_ne.2 hd2
      have y2 : decide (d = 2) = false := decide_eq_false hd2
      by_cases hd3 : d = 3
      · subst hd3
        clear hd0 z0 y0 hd1 z1 y1 hd2 z2 y2
        have hh := take_any HAt.out HJ.out.1 HK.out.2
        have hJ2 := HJ.out.1.take
        have hUs := HUs.out
        have hm := HJ.out.2
        cases hr : s.r with
        | nil =>
          rw [hr] at hm hUs
          obtain rfl : m = 0 := hm
          rw [show takeF s = (s, 0, false) by unfold takeF; rw [hr]] at hh hJ2
          have CT := Aside0.mk hh
          have J2 := Aside0.mk hJ2
          have HE := Aside0.mk hr
          clear hh hJ2 hUs hr
          go_wp2_with (go_at_call 37; refine CT.out.mono ?_; rintro e w2 ⟨rfl, vh2, vr2, hL, hM⟩; have P := Aside0.mk (show Om w w2 b A 0 c (k + 1) from ⟨_, _, _, HAt.out.move hL hM, HUs.out.move HAt.out.lg hM, J2.out, HJ.out.2⟩); clear hL hM)
          go_roundw
          case rel => exact ⟨k + 1, A, 0, c, by go_num, rfl, ⟨HK.out.1, P.out⟩⟩
          case measure => simp only [num]; have := HK.out.1; omega
        | cons x0 xs =>
          rw [hr] at hm hUs
          rw [show takeF s = ({ s with r := xs, tk := s.tk + 1 }, x0, true) by unfold takeF; rw [hr]] at hh hJ2
          obtain ⟨v', hcut, hS, hO⟩ := hUs.sl.tail
          obtain ⟨A3, c3, rfl, -, -⟩ := hS.shape
          obtain ⟨ad2, rfl, -⟩ := Sl.head hUs.sl
          have U3 := Aside0.mk (Us.mk hS (fun g hg => hUs.ap g (hO g hg)))
          have HU := Aside0.mk hUs
          have d1 : decide (0 < (m : Int)) = true := decide_eq_true (by simp at hm; omega)
          have d2 : decide (0 < m) = true := decide_eq_true (by simp at hm; omega)
          have d3 : (0 < m) = True := eq_true (by simp at hm; omega)
          have d4 : (0 < (m : Int)) = True := eq_true (by simp at hm; omega)
          have CT := Aside0.mk hh
          have J2 := Aside0.mk hJ2
          clear hh hJ2 hUs hm hr hS hO
          go_wp2_with (go_at_call 37; refine CT.out.mono ?_; rintro e w2 ⟨rfl, vh2, vr2, hL, hM⟩; have P := Aside0.mk (show Om w w2 b A3 xs.length c3 (k + 1) from ⟨_, _, _, HAt.out.move hL hM, U3.out.move HAt.out.lg hM, J2.out, rfl⟩); obtain ⟨ad3, e3, hx0⟩ := Sl.head (HU.out.move HAt.out.lg hM).sl; cases e3; generalize xs.length = m3 at P hcut ⊢; clear hL hM)
          go_roundw
          case rel => exact ⟨k + 1, A3, _, c3, by go_num, rfl, ⟨HK.out.1, P.out⟩⟩
          case measure => simp only [num]; have := HK.out.1; omega
      have z3 : (d == 3) = false := beq_eq_false_iff_ne.2 hd3
      have y3 : decide (d = 3) = false := decide_eq_false hd3
      go_wp2
      go_roundw
      case rel => exact ⟨k + 1, A, m, c, by go_num, rfl, ⟨HK.out.1, HO.out.more⟩⟩
      case measure => simp only [num]; have := HK.out.1; omega
    · have b0 : decide ((k : Int) < (n : Int)) = false := decide_eq_false (by omega)
      have b1 : decide (k < n) = false := decide_eq_false hlt
      have HB : Aside0 (Below w.heap.size w _) := ⟨by obtain ⟨s, vh, vr, hAt, -⟩ := hO; exact hAt.bl⟩
      clear hk hnn hlt hO
      go_wp2_with (first | (go_at_call 31; refine (nil_add _ _).mono ?_; rintro e w9 ⟨rfl, rfl⟩) | (go_at_call 33; refine (nil_ready _ _).mono ?_; rintro e w9 ⟨rfl, rfl⟩) | (go_at_call 35; refine (nil_drop _ _).mono ?_; rintro e w9 ⟨rfl, rfl⟩) | (go_at_call 37; refine (nil_take _).mono ?_; rintro e w9 ⟨rfl, rfl⟩) | (go_at_call 39; refine (nil_counts _).mono ?_; rintro e w9 ⟨rfl, rfl⟩) | (go_at_call 41; refine (nil_half _).mono ?_; rintro e w9 ⟨rfl, rfl⟩) | (go_at_call 43; refine (nil_waiting _).mono ?_; rintro e w9 ⟨rfl, rfl⟩) | (go_at_call 30; refine (code_calls _ _).mono ?_; rintro e w9 ⟨rfl, rfl⟩) | (go_at_call 28; refine (live_calls _).mono ?_; rintro e w8 ⟨rfl, hB⟩; replace HB := Aside0.mk (below_step HB.out hB); clear hB))
      go_ret
      exact ⟨rfl, HB.out⟩
set_option maxRecDepth 100000 in
set_option maxHeartbeats 4000000 in
theorem once_big (A1 : Option Addr) (n c1 : Nat) (w : World) (hn : 200 < n) :
    Calls Try.prog 7 #[.slice A1 n c1] w fun e w' => e = .returned (.bool true) ∧ Below w.heap.size w w' := by
  have d0 : decide (200 < (n : Int)) = true := decide_eq_true (by omega)
  clear hn
  go_enter Try.func7, Try.ntmps7
  go_wp2_with (go_at_call 28; refine (live_calls _).mono ?_; rintro e w8 ⟨rfl, hB⟩; have HB := Aside0.mk hB; clear hB)
  go_ret
  exact ⟨rfl, HB.out⟩
theorem towropelaw23_BacklogOnce.calls (A1 : Option Addr) (n c1 : Nat) (w : World) (h : Acts w A1 n) :
    Calls Try.prog 7 #[.slice A1 n c1] w fun e w' => e = .returned (.bool true) ∧ Below w.heap.size w w' := by
  by_cases hn : n ≤ 200
  · exact once_all A1 n c1 w h hn
  · exact once_big A1 n c1 w (by omega)
end Go.Proofs.Ytimgfdkndlbfbaa.PBackL
