/- The law BacklogPlays: its function answers true. Conditions: each theorem's own. -/
import Derived.Test.YtimgfdkndlbfbaaHBkS
import Derived.Deep.CutRange
import Derived.Deep.CutBlock
namespace Go.Proofs.Ytimgfdkndlbfbaa.PBackL
open Go.RowKit Go.Proofs.YtimgfdkndlbfbaaW.PrintWords Go.Proofs.YtimgfdkndlbfbaaW.PrintLast Go.Proofs.YtimgfdkndlbfbaaW.PrintMore Go.Proofs.Ytimgfdkndlbfbaa.HBk Go.Proofs.Ytimgfdkndlbfbaa.HBkR Go.Proofs.Ytimgfdkndlbfbaa.HReg
set_option linter.unusedVariables false
set_option linter.unusedSimpArgs false
/-- The program's log and the reference's, side by side: the log holds s; the reference's row is l; its box holds bx. -/
structure Pc (w0 w : World) (b G : Nat) (s : LS) (vh vr : Value) (A : Option Addr) (n c : Nat) (l : List (Int × Bool)) (bx : Array Value) : Prop where
  at_ : At w0 w b s vh vr
  row : Kd.R dd 159 w w0.heap.size (fun _ => True) (.slice A n c) l
  box : w.heap[G]? = some (.cells bx 74 (0, 0))
  lo : w0.heap.size ≤ G
section
variable {w0 w w' : World} {b G : Nat} {s s' : LS} {vh vr vh' vr' : Value} {A A' : Option Addr} {n c n' c' : Nat} {l l' : List (Int × Bool)} {bx : Array Value}
theorem Pc.prog (h : Pc w0 w b G s vh vr A n c l bx) (hL : Lg w0.heap.size w' b s' vh' vr') (hM : Mv w w' b vh vr vh' vr') : Pc w0 w' b G s' vh' vr' A n c l bx := by
  have hLg := h.at_.lg
  refine ⟨h.at_.move hL hM, ?_, ?_, h.lo⟩
  · refine Kd.R_mono (Kd.R_move (Kd.R_bound h.row) (fun k hk => ?_)) (fun _ _ => trivial)
    obtain ⟨_, _, hlt, q, hq, cells, hc⟩ := hk
    have hq' : q = 159 := by simpa [dd, Kd.pair, Kd.int, Kd.bool, Kd.scalar] using hq
    subst hq'
    exact hM.old k hlt (blk_ne hc hLg.blk (by decide)) (fun e => hLg.hs.apart hc (by decide) k e rfl) (fun e => hLg.rs.apart hc (by decide) k e rfl)
  · exact (hM.old G (blk_lt h.box) (blk_ne h.box hLg.blk (by decide)) (fun e => hLg.hs.apart h.box (by decide) G e rfl) (fun e => hLg.rs.apart h.box (by decide) G e rfl)).trans h.box
theorem Pc.ref (h : Pc w0 w b G s vh vr A n c l bx) (hR : Kd.R dd 159 w' w0.heap.size (fun _ => True) (.slice A' n' c') l') (hB : Below w.heap.size w w') : Pc w0 w' b G s vh vr A' n' c' l' bx := ⟨h.at_.below hB, hR, blk_below h.box hB, h.lo⟩
theorem Pc.below (h : Pc w0 w b G s vh vr A n c l bx) (hB : Below w.heap.size w w') : Pc w0 w' b G s vh vr A n c l bx := ⟨h.at_.below hB, Kd.R_below h.row hB, blk_below h.box hB, h.lo⟩
theorem At.put {g i : Nat} {cs : Array Value} {u : Value} (h : At w0 w b s vh vr) (hg : w.heap[g]? = some (.cells cs 74 (0, 0))) (hlo : w0.heap.size ≤ g) : At w0 (w.setCell ⟨g, i, none⟩ u) b s vh vr :=
  ⟨⟨blk_far h.lg.blk (p := ⟨g, i, none⟩) (blk_ne h.lg.blk hg (by decide)) u, h.lg.lo, h.lg.hs.put hg (by decide), h.lg.rs.put hg (by decide), h.lg.ap⟩, bput h.bl hlo⟩
theorem At.six {g : Nat} {x0 x1 x2 x3 x4 x5 : Value} (h : At w0 w b s vh vr) (hb : w.heap[g]? = some (.cells #[x0, x1, x2, x3, x4, x5] 74 (0, 0))) (hlo : w0.heap.size ≤ g) (y0 y1 y2 y3 y4 y5 : Value) : At w0 ((((((w.setCell ⟨g, 0, none⟩ y0).setCell ⟨g, 1, none⟩ y1).setCell ⟨g, 2, none⟩ y2).setCell ⟨g, 3, none⟩ y3).setCell ⟨g, 4, none⟩ y4).setCell ⟨g, 5, none⟩ y5) b s vh vr := by
  have b0 := blk_set hb 0 y0
  have b1 := blk_set b0 1 y1
  have b2 := blk_set b1 2 y2
  have b3 := blk_set b2 3 y3
  have b4 := blk_set b3 4 y4
  exact (((((h.put hb hlo).put b0 hlo).put b1 hlo).put b2 hlo).put b3 hlo).put b4 hlo
/-- The box is stored whole. -/
theorem Pc.put {x0 x1 x2 x3 x4 x5 : Value} (h : Pc w0 w b G s vh vr A n c l #[x0, x1, x2, x3, x4, x5]) (y0 y1 y2 y3 y4 y5 : Value) : Pc w0 ((((((w.setCell ⟨G, 0, none⟩ y0).setCell ⟨G, 1, none⟩ y1).setCell ⟨G, 2, none⟩ y2).setCell ⟨G, 3, none⟩ y3).setCell ⟨G, 4, none⟩ y4).setCell ⟨G, 5, none⟩ y5) b G s vh vr A n c l #[y0, y1, y2, y3, y4, y5] :=
  ⟨h.at_.six h.box h.lo _ _ _ _ _ _, dd_six h.row h.box _ _ _ _ _ _, six_put h.box _ _ _ _ _ _, h.lo⟩
/-- A box of the law's own beside it is stored whole. -/
theorem Pc.far {g : Nat} {x0 x1 x2 x3 x4 x5 : Value} (h : Pc w0 w b G s vh vr A n c l bx) (hb : w.heap[g]? = some (.cells #[x0, x1, x2, x3, x4, x5] 74 (0, 0))) (hlo : w0.heap.size ≤ g) (hg : G ≠ g) (y0 y1 y2 y3 y4 y5 : Value) : Pc w0 ((((((w.setCell ⟨g, 0, none⟩ y0).setCell ⟨g, 1, none⟩ y1).setCell ⟨g, 2, none⟩ y2).setCell ⟨g, 3, none⟩ y3).setCell ⟨g, 4, none⟩ y4).setCell ⟨g, 5, none⟩ y5) b G s vh vr A n c l bx :=
  ⟨h.at_.six hb hlo _ _ _ _ _ _, dd_six h.row hb _ _ _ _ _ _, six_far h.box hg _ _ _ _ _ _, h.lo⟩
end
def box (s : LS) (A : Option Addr) (n c : Nat) : Array Value := #[.int .i64 s.m0, .int .i64 s.m1, .slice A n c, .int .i64 s.ad, .int .i64 s.tk, .int .i64 s.rf]
/-- What a round knows. -/
def Pl (w0 w : World) (b G k : Nat) : Prop := ∃ s vh vr A n c l, Pc w0 w b G s vh vr A n c l #[.int .i64 s.m0, .int .i64 s.m1, .slice A n c, .int .i64 s.ad, .int .i64 s.tk, .int .i64 s.rf] ∧ Rel s l ∧ Jn s k
theorem Pl.bl {w0 w : World} {b G k : Nat} (h : Pl w0 w b G k) : Below w0.heap.size w0 w := by
  obtain ⟨s, vh, vr, A, n, c, l, h, -⟩ := h
  exact h.at_.bl
theorem pl_start {w w1 : World} {b : Nat} {half ready : Int} (h : At w w1 b ⟨half, ready, [], [], 0, 0, 0⟩ (.slice none 0 0) (.slice none 0 0)) : Pl w (w1.alloc (.cells #[.int .i64 half, .int .i64 ready, .slice none 0 0, .int .i64 0, .int .i64 0, .int .i64 0] 74)) b w1.heap.size 0 := by
  have hB := below_alloc (Below.refl w1.heap.size w1) (.cells #[.int .i64 half, .int .i64 ready, .slice none 0 0, .int .i64 0, .int .i64 0, .int .i64 0] 74)
  exact ⟨⟨half, ready, [], [], 0, 0, 0⟩, _, _, none, 0, 0, [], ⟨h.below hB, Kd.R_nil _ _ _ _ _, blk_new w1 _, h.size⟩, ⟨by decide, rfl, rfl⟩, ⟨by simp, by simp, by simp, by simp, by simp, by simp, by simp, by simp⟩⟩
set_option maxRecDepth 100000 in
set_option maxHeartbeats 60000000 in
theorem plays_all (half ready : Int) (A1 : Option Addr) (nn c1 : Nat) (w : World) (h : Acts w A1 nn) (hn : nn ≤ 200) (p0 : 1 ≤ half) (p1 : half ≤ 128) (p2 : 1 ≤ ready) (p3 : ready ≤ 128) :
    Calls Try.prog 6 #[.int .i64 half, .int .i64 ready, .slice A1 nn c1] w fun e w' => e = .returned (.bool true) ∧ Below w.heap.size w w' := by
  have d0 : decide (200 < (nn : Int)) = false := decide_eq_false (by omega)
  have d1 : decide (half < 1) = false := decide_eq_false (by omega)
  have d2 : decide (128 < half) = false := decide_eq_false (by omega)
  have d3 : decide (ready < 1) = false := decide_eq_false (by omega)
  have d4 : decide (128 < ready) = false := decide_eq_false (by omega)
  have HA := Aside0.mk h
  have HN := Aside0.mk hn
  have HC := Aside0.mk (new_good half ready w p0 p2 p1 p3)
  clear h hn p0 p1 p2 p3
  go_enter Try.func6, Try.ntmps6
  go_upto_region 9 with (first | (go_at_call 29; refine HC.out.mono ?_; rintro e w1 ⟨b, rfl, hL, hB⟩; have L := Aside0.mk (At.mk hL hB); clear hL hB HC) | (go_at_call 30; refine (code_calls _ _).mono ?_; rintro e w9 ⟨rfl, rfl⟩))
  have HP := Aside0.mk (pl_start L.out)
  clear L
  go_wp2
  obtain ⟨G, hG⟩ : ∃ G, G = w1.heap.size := ⟨_, rfl⟩
  rw [← hG] at HP ⊢
  clear hG
  generalize w1.alloc (.cells #[.int .i64 half, .int .i64 ready, .slice none 0 0, .int .i64 0, .int .i64 0, .int .i64 0] 74) = w2 at HP ⊢
  have HH : Aside0 (0 ≤ nn ∧ Pl w w2 b G 0) := ⟨Nat.zero_le _, HP.out⟩
  clear HP
  go_loopw [10] (fun i wr => ∃ k : Nat, i = .int .i64 k ∧ Aside0 (k ≤ nn ∧ Pl w wr b G k)) (fun i _ => nn - num i)
  case atStart => exact ⟨0, rfl, HH⟩
  case round =>
    clear HH
    obtain ⟨k, rfl, ⟨hk, hO⟩⟩ := hrel
    have hnn := HN.out
    by_cases hlt : k < nn
    · have b0 : decide ((k : Int) < (nn : Int)) = true := decide_eq_true (by omega)
      have b1 : decide (k < nn) = true := decide_eq_true hlt
      have b2 : (k < nn) = True := eq_true hlt
      have b3 : ((k : Int) < (nn : Int)) = True := eq_true (by omega)
      have e1 : IntKind.i64.wrap ((k : Int) + 1) = (k : Int) + 1 := wid _ (by omega) (by omega)
      obtain ⟨ad, rfl, d, x, hact⟩ := HA.out k hlt
      obtain ⟨s, vh, vr, A, n, c, l, hPc, hRel, hJ⟩ := hO
      obtain ⟨a0, a1⟩ := hact.below hPc.at_.bl
      have HK := Aside0.mk (And.intro hlt (show k ≤ 300 by omega))
      have HT := Aside0.mk hact
      have HPC := Aside0.mk hPc
      have HJ := Aside0.mk (And.intro hRel hJ)
      clear hk hnn hlt hact hPc hRel hJ
      go_upto_block 2 with (fail)
      go_cut [11, 12, 13, 14, 15, 16, 17, 18, 19, 20] from 68 to 206 (fun x11 x12 x13 x14 x15 x16 x17 x18 x19 x20 wx => ∃ cd : Int, x11 = .int .i64 cd ∧ x12 = .int .i64 cd ∧ Aside0 (Pl w wx b G (k + 1)))
      case first =>
        by_cases hd0 : d = 0
        · subst hd0
          have hh := add_any HPC.out.at_ HJ.out.2 HK.out.2 x
          have hg := fun (w2 : World) (hR : Kd.R dd 159 w2 w.heap.size (fun _ => True) (.slice A n c) l) (hb : w.heap.size ≤ w2.heap.size) => radd_sim hR HJ.out.1 HJ.out.2 HK.out.2 hb x
          have hj := HJ.out.2.add x
          generalize (addF s x).1 = s1 at hh hg hj
          generalize (addF s x).2 = cd at hh hg
          have HC1 := Aside0.mk hh
          have HC2 := Aside0.mk hg
          have HJ1 := Aside0.mk hj
          clear hh hg hj
          go_upto_region 16 with (first | (go_at_call 31; refine HC1.out.mono ?_; rintro e w4 ⟨rfl, vh1, vr1, hL, hM⟩; replace HPC := Aside0.mk (HPC.out.prog hL hM); clear hL hM a0 a1; obtain ⟨a0, a1⟩ := HT.out.below HPC.out.at_.bl) | (go_at_call 30; refine (code_calls _ _).mono ?_; rintro e w9 ⟨rfl, rfl⟩))
          refine start_ (n := 12) (S := fun w' => w'.heap[G]? = some (.cells #[.int .i64 s.m0, .int .i64 s.m1, .slice A n c, .int .i64 s.ad, .int .i64 s.tk, .int .i64 s.rf] 74 (0, 0)) ∧ w'.cell? ⟨(ad.add (k * 2)).block, (ad.add (k * 2)).off + 1, none⟩ = some (.int .i64 x)) (ds := [10]) (bb 12 0) (by kernel_rfl) rfl rfl (⟨HPC.out.box, a1⟩) (fun hHeld => ?_)
          replace HPC := Aside0.mk (HPC.out.below (below_drew (Below.refl _ _)))
          clear a0 a1
          generalize w4.drew = w5 at HPC hHeld ⊢
          refine take_ (i := 0) (N := some 90) (v := ?_) (a' := ?_) (bb 12 1) rfl rfl (by kernel_rfl) (fun _ _ _ h => h) (Or.inl ⟨by rfl, ?_⟩) hHeld ?_ ?_
          rotate_left
          · intro w' hSw
            obtain ⟨q0, q1, q2, q3, q4, q5, -⟩ := six hSw.1
            go_simp
            with_reducible rfl
          rotate_left
          · simp only [Act.put, List.setIfInBounds_toArray, List.set_cons_zero, List.set_cons_succ, i64_w, i32_w]
            rfl
          refine pure_ (i := 1) (N := some 91) (v := ?_) (a' := ?_) (bb 12 3) rfl rfl (by kernel_rfl) (fun _ _ _ h => h) (Or.inl ⟨by rfl, ?_⟩) ?_ ?_
          rotate_left
          · intro w'
            go_simp
            with_reducible rfl
          rotate_left
          · simp only [Act.put, List.setIfInBounds_toArray, List.set_cons_zero, List.set_cons_succ, i64_w, i32_w]
            rfl
          refine pure_ (i := 2) (N := some 92) (v := ?_) (a' := ?_) (bb 12 7) rfl rfl (by kernel_rfl) (fun _ _ _ h => h) (Or.inl ⟨by rfl, ?_⟩) ?_ ?_
          rotate_left
          · intro w'
            go_simp
            with_reducible rfl
          rotate_left
          · simp only [Act.put, List.setIfInBounds_toArray, List.set_cons_zero, List.set_cons_succ, i64_w, i32_w]
            rfl
          refine pure_ (i := 3) (N := some 93) (v := ?_) (a' := ?_) (bb 12 15) rfl rfl (by kernel_rfl) (fun _ _ _ h => h) (Or.inl ⟨by rfl, ?_⟩) ?_ ?_
          rotate_left
          · intro w'
            go_simp
            with_reducible rfl
          rotate_left
          · simp only [Act.put, List.setIfInBounds_toArray, List.set_cons_zero, List.set_cons_succ, i64_w, i32_w]
            rfl
          refine pure_ (i := 4) (N := some 94) (v := ?_) (a' := ?_) (bb 12 31) rfl rfl (by kernel_rfl) (fun _ _ _ h => h) (Or.inl ⟨by rfl, ?_⟩) ?_ ?_
          rotate_left
          · intro w'
            go_simp
            with_reducible rfl
          rotate_left
          · simp only [Act.put, List.setIfInBounds_toArray, List.set_cons_zero, List.set_cons_succ, i64_w, i32_w]
            rfl
          refine take_ (i := 5) (N := some 95) (v := ?_) (a' := ?_) (bb 12 63) rfl rfl (by kernel_rfl) (fun _ _ _ h => h) (Or.inl ⟨by rfl, ?_⟩) hHeld ?_ ?_
          rotate_left
          · intro w' hSw
            have a1 := hSw.2
            go_simp
            with_reducible rfl
          rotate_left
          · simp only [Act.put, List.setIfInBounds_toArray, List.set_cons_zero, List.set_cons_succ, i64_w, i32_w]
            rfl
          refine one_ (i := 6) (N := some 96) (bb 12 127) rfl rfl (by kernel_rfl) (by decide) (fun K hK => ?_)
          refine goes_ Try.func32 (by kernel_rfl) rfl #[rv s.m0 s.m1 A n c s.ad s.tk s.rf, .int .i64 x] (by rfl) rfl rfl (by (try simp only [List.map_toArray, List.map_cons, List.map_nil]); first | done | rfl | (go_simp; done) | (go_simp; omega)) ?_
          refine Calls.mono (HC2.out _ HPC.out.row HPC.out.at_.size) ?_
          rintro e w' ⟨A2, n2, c2, l2, rfl, hR, hrl, hB⟩
          refine ⟨_, rfl, ?_⟩
          replace HPC := Aside0.mk (HPC.out.ref hR hB)
          have HR1 := Aside0.mk hrl
          obtain ⟨b0_, b1_⟩ := HT.out.below HPC.out.at_.bl
          clear hR hrl hB
          unfold rv
          refine hK.out _ _ (⟨HPC.out.box, b1_⟩) (fun hHeld => ?_)
          clear hK K
          refine norm_ (a' := ?_) ?_ ?_
          rotate_left
          · show Act.put _ (some 96) _ = _
            simp only [Act.put, List.setIfInBounds_toArray, List.set_cons_zero, List.set_cons_succ, i64_w, i32_w]
            rfl
          refine pure_ (i := 7) (N := some 89) (v := ?_) (a' := ?_) (bb 12 255) rfl rfl (by kernel_rfl) (fun _ _ _ h => h) (Or.inl ⟨by rfl, ?_⟩) ?_ ?_
          rotate_left
          · intro w'
            go_simp
            with_reducible rfl
          rotate_left
          · simp only [Act.put, List.setIfInBounds_toArray, List.set_cons_zero, List.set_cons_succ, i64_w, i32_w]
            rfl
          refine pure_ (i := 8) (N := some 97) (v := ?_) (a' := ?_) (bb 12 511) rfl rfl (by kernel_rfl) (fun _ _ _ h => h) (Or.inl ⟨by rfl, ?_⟩) ?_ ?_
          rotate_left
          · intro w'
            go_simp
            with_reducible rfl
          rotate_left
          · simp only [Act.put, List.setIfInBounds_toArray, List.set_cons_zero, List.set_cons_succ, i64_w, i32_w]
            rfl
          refine pure_ (i := 9) (N := some 98) (v := ?_) (a' := ?_) (bb 12 1023) rfl rfl (by kernel_rfl) (fun _ _ _ h => h) (Or.inl ⟨by rfl, ?_⟩) ?_ ?_
          rotate_left
          · intro w'
            go_simp
            with_reducible rfl
          rotate_left
          · simp only [Act.put, List.setIfInBounds_toArray, List.set_cons_zero, List.set_cons_succ, i64_w, i32_w]
            rfl
          obtain ⟨w6, hw6⟩ : ∃ w6, w6 = w' := ⟨_, rfl⟩
          rw [← hw6] at HPC ⊢
          clear hw6 hHeld b0_ b1_
          obtain ⟨q0, q1, q2, q3, q4, q5, s0, s1_, s2, s3, s4, s5⟩ := six HPC.out.box
          refine last_ (i := 10) (N := none) (bb 12 2047) rfl rfl (by kernel_rfl) (by decide) (fun K hK => ?_)
          refine skip_ (w1 := (((((w6.setCell ⟨G, 0, none⟩ (.int .i64 s1.m0)).setCell ⟨G, 1, none⟩ (.int .i64 s1.m1)).setCell ⟨G, 2, none⟩ (.slice A2 n2 c2)).setCell ⟨G, 3, none⟩ (.int .i64 s1.ad)).setCell ⟨G, 4, none⟩ (.int .i64 s1.tk)).setCell ⟨G, 5, none⟩ (.int .i64 s1.rf)) (by rfl) rfl (by first | (go_simp; done) | (go_simp; rfl)) ?_
          refine hK.out _ _ ?_
          clear hK K
          refine pure_ (i := 11) (N := some 12) (v := ?_) (a' := ?_) (bb 12 4095) rfl rfl (by kernel_rfl) (fun _ _ _ h => h) (Or.inl ⟨by rfl, ?_⟩) ?_ ?_
          rotate_left
          · intro w'
            go_simp
            with_reducible rfl
          rotate_left
          · simp only [Act.put, List.setIfInBounds_toArray, List.set_cons_zero, List.set_cons_succ, i64_w, i32_w]
            rfl
          refine done_ (by kernel_rfl) ?_
          replace HPC := Aside0.mk (HPC.out.put (.int .i64 s1.m0) (.int .i64 s1.m1) (.slice A2 n2 c2) (.int .i64 s1.ad) (.int .i64 s1.tk) (.int .i64 s1.rf))
          clear q0 q1 q2 q3 q4 q5 s0 s1_ s2 s3 s4 s5 HC1 HC2
          generalize (((((w6.setCell ⟨G, 0, none⟩ (.int .i64 s1.m0)).setCell ⟨G, 1, none⟩ (.int .i64 s1.m1)).setCell ⟨G, 2, none⟩ (.slice A2 n2 c2)).setCell ⟨G, 3, none⟩ (.int .i64 s1.ad)).setCell ⟨G, 4, none⟩ (.int .i64 s1.tk)).setCell ⟨G, 5, none⟩ (.int .i64 s1.rf) = w7 at HPC ⊢
          go_wp2
          go_meet
          exact ⟨cd, rfl, rfl, ⟨s1, _, _, A2, n2, c2, l2, HPC.out, HR1.out, HJ1.out⟩⟩
        have z0 : (d == 0) = false := beq_eq_false_iff_ne.2 hd0
        have y0 : decide (d = 0) = false := decide_eq_false hd0
        by_cases hd1 : d = 1
        · subst hd1
          clear hd0 z0 y0
          have hh := ready_any HPC.out.at_ HJ.out.2 HK.out.2 x
          have hg := fun (w2 : World) (hR : Kd.R dd 159 w2 w.heap.size (fun _ => True) (.slice A n c) l) (hb : w.heap.size ≤ w2.heap.size) => rready_sim hR HJ.out.1 HJ.out.2 HK.out.2 hb x
          have hj := HJ.out.2.ready x
          generalize (readyF s x).1 = s1 at hh hg hj
          generalize (readyF s x).2 = cd at hh hg
          have HC1 := Aside0.mk hh
          have HC2 := Aside0.mk hg
          have HJ1 := Aside0.mk hj
          clear hh hg hj
          go_upto_region 19 with (first | (go_at_call 33; refine HC1.out.mono ?_; rintro e w4 ⟨rfl, vh1, vr1, hL, hM⟩; replace HPC := Aside0.mk (HPC.out.prog hL hM); clear hL hM a0 a1; obtain ⟨a0, a1⟩ := HT.out.below HPC.out.at_.bl) | (go_at_call 30; refine (code_calls _ _).mono ?_; rintro e w9 ⟨rfl, rfl⟩))
          refine start_ (n := 12) (S := fun w' => w'.heap[G]? = some (.cells #[.int .i64 s.m0, .int .i64 s.m1, .slice A n c, .int .i64 s.ad, .int .i64 s.tk, .int .i64 s.rf] 74 (0, 0)) ∧ w'.cell? ⟨(ad.add (k * 2)).block, (ad.add (k * 2)).off + 1, none⟩ = some (.int .i64 x)) (ds := [10]) (bb 12 0) (by kernel_rfl) rfl rfl (⟨HPC.out.box, a1⟩) (fun hHeld => ?_)
          replace HPC := Aside0.mk (HPC.out.below (below_drew (Below.refl _ _)))
          clear a0 a1
          generalize w4.drew = w5 at HPC hHeld ⊢
          refine take_ (i := 0) (N := some 110) (v := ?_) (a' := ?_) (bb 12 1) rfl rfl (by kernel_rfl) (fun _ _ _ h => h) (Or.inl ⟨by rfl, ?_⟩) hHeld ?_ ?_
          rotate_left
          · intro w' hSw
            obtain ⟨q0, q1, q2, q3, q4, q5, -⟩ := six hSw.1
            go_simp
            with_reducible rfl
          rotate_left
          · simp only [Act.put, List.setIfInBounds_toArray, List.set_cons_zero, List.set_cons_succ, i64_w, i32_w]
            rfl
          refine pure_ (i := 1) (N := some 111) (v := ?_) (a' := ?_) (bb 12 3) rfl rfl (by kernel_rfl) (fun _ _ _ h => h) (Or.inl ⟨by rfl, ?_⟩) ?_ ?_
          rotate_left
          · intro w'
            go_simp
            with_reducible rfl
          rotate_left
          · simp only [Act.put, List.setIfInBounds_toArray, List.set_cons_zero, List.set_cons_succ, i64_w, i32_w]
            rfl
          refine pure_ (i := 2) (N := some 112) (v := ?_) (a' := ?_) (bb 12 7) rfl rfl (by kernel_rfl) (fun _ _ _ h => h) (Or.inl ⟨by rfl, ?_⟩) ?_ ?_
          rotate_left
          · intro w'
            go_simp
            with_reducible rfl
          rotate_left
          · simp only [Act.put, List.setIfInBounds_toArray, List.set_cons_zero, List.set_cons_succ, i64_w, i32_w]
            rfl
          refine pure_ (i := 3) (N := some 113) (v := ?_) (a' := ?_) (bb 12 15) rfl rfl (by kernel_rfl) (fun _ _ _ h => h) (Or.inl ⟨by rfl, ?_⟩) ?_ ?_
          rotate_left
          · intro w'
            go_simp
            with_reducible rfl
          rotate_left
          · simp only [Act.put, List.setIfInBounds_toArray, List.set_cons_zero, List.set_cons_succ, i64_w, i32_w]
            rfl
          refine pure_ (i := 4) (N := some 114) (v := ?_) (a' := ?_) (bb 12 31) rfl rfl (by kernel_rfl) (fun _ _ _ h => h) (Or.inl ⟨by rfl, ?_⟩) ?_ ?_
          rotate_left
          · intro w'
            go_simp
            with_reducible rfl
          rotate_left
          · simp only [Act.put, List.setIfInBounds_toArray, List.set_cons_zero, List.set_cons_succ, i64_w, i32_w]
            rfl
          refine take_ (i := 5) (N := some 115) (v := ?_) (a' := ?_) (bb 12 63) rfl rfl (by kernel_rfl) (fun _ _ _ h => h) (Or.inl ⟨by rfl, ?_⟩) hHeld ?_ ?_
          rotate_left
          · intro w' hSw
            have a1 := hSw.2
            go_simp
            with_reducible rfl
          rotate_left
          · simp only [Act.put, List.setIfInBounds_toArray, List.set_cons_zero, List.set_cons_succ, i64_w, i32_w]
            rfl
          refine one_ (i := 6) (N := some 116) (bb 12 127) rfl rfl (by kernel_rfl) (by decide) (fun K hK => ?_)
          refine goes_ Try.func34 (by kernel_rfl) rfl #[rv s.m0 s.m1 A n c s.ad s.tk s.rf, .int .i64 x] (by rfl) rfl rfl (by (try simp only [List.map_toArray, List.map_cons, List.map_nil]); first | done | rfl | (go_simp; done) | (go_simp; omega)) ?_
          refine Calls.mono (HC2.out _ HPC.out.row HPC.out.at_.size) ?_
          rintro e w' ⟨A2, n2, c2, l2, rfl, hR, hrl, hB⟩
          refine ⟨_, rfl, ?_⟩
          replace HPC := Aside0.mk (HPC.out.ref hR hB)
          have HR1 := Aside0.mk hrl
          obtain ⟨b0_, b1_⟩ := HT.out.below HPC.out.at_.bl
          clear hR hrl hB
          unfold rv
          refine hK.out _ _ (⟨HPC.out.box, b1_⟩) (fun hHeld => ?_)
          clear hK K
          refine norm_ (a' := ?_) ?_ ?_
          rotate_left
          · show Act.put _ (some 116) _ = _
            simp only [Act.put, List.setIfInBounds_toArray, List.set_cons_zero, List.set_cons_succ, i64_w, i32_w]
            rfl
          refine pure_ (i := 7) (N := some 109) (v := ?_) (a' := ?_) (bb 12 255) rfl rfl (by kernel_rfl) (fun _ _ _ h => h) (Or.inl ⟨by rfl, ?_⟩) ?_ ?_
          rotate_left
          · intro w'
            go_simp
            with_reducible rfl
          rotate_left
          · simp only [Act.put, List.setIfInBounds_toArray, List.set_cons_zero, List.set_cons_succ, i64_w, i32_w]
            rfl
          refine pure_ (i := 8) (N := some 117) (v := ?_) (a' := ?_) (bb 12 511) rfl rfl (by kernel_rfl) (fun _ _ _ h => h) (Or.inl ⟨by rfl, ?_⟩) ?_ ?_
          rotate_left
          · intro w'
            go_simp
            with_reducible rfl
          rotate_left
          · simp only [Act.put, List.setIfInBounds_toArray, List.set_cons_zero, List.set_cons_succ, i64_w, i32_w]
            rfl
          refine pure_ (i := 9) (N := some 118) (v := ?_) (a' := ?_) (bb 12 1023) rfl rfl (by kernel_rfl) (fun _ _ _ h => h) (Or.inl ⟨by rfl, ?_⟩) ?_ ?_
          rotate_left
          · intro w'
            go_simp
            with_reducible rfl
          rotate_left
          · simp only [Act.put, List.setIfInBounds_toArray, List.set_cons_zero, List.set_cons_succ, i64_w, i32_w]
            rfl
          obtain ⟨w6, hw6⟩ : ∃ w6, w6 = w' := ⟨_, rfl⟩
          rw [← hw6] at HPC ⊢
          clear hw6 hHeld b0_ b1_
          obtain ⟨q0, q1, q2, q3, q4, q5, s0, s1_, s2, s3, s4, s5⟩ := six HPC.out.box
          refine last_ (i := 10) (N := none) (bb 12 2047) rfl rfl (by kernel_rfl) (by decide) (fun K hK => ?_)
          refine skip_ (w1 := (((((w6.setCell ⟨G, 0, none⟩ (.int .i64 s1.m0)).setCell ⟨G, 1, none⟩ (.int .i64 s1.m1)).setCell ⟨G, 2, none⟩ (.slice A2 n2 c2)).setCell ⟨G, 3, none⟩ (.int .i64 s1.ad)).setCell ⟨G, 4, none⟩ (.int .i64 s1.tk)).setCell ⟨G, 5, none⟩ (.int .i64 s1.rf)) (by rfl) rfl (by first | (go_simp; done) | (go_simp; rfl)) ?_
          refine hK.out _ _ ?_
          clear hK K
          refine pure_ (i := 11) (N := some 12) (v := ?_) (a' := ?_) (bb 12 4095) rfl rfl (by kernel_rfl) (fun _ _ _ h => h) (Or.inl ⟨by rfl, ?_⟩) ?_ ?_
          rotate_left
          · intro w'
            go_simp
            with_reducible rfl
          rotate_left
          · simp only [Act.put, List.setIfInBounds_toArray, List.set_cons_zero, List.set_cons_succ, i64_w, i32_w]
            rfl
          refine done_ (by kernel_rfl) ?_
          replace HPC := Aside0.mk (HPC.out.put (.int .i64 s1.m0) (.int .i64 s1.m1) (.slice A2 n2 c2) (.int .i64 s1.ad) (.int .i64 s1.tk) (.int .i64 s1.rf))
          clear q0 q1 q2 q3 q4 q5 s0 s1_ s2 s3 s4 s5 HC1 HC2
          generalize (((((w6.setCell ⟨G, 0, none⟩ (.int .i64 s1.m0)).setCell ⟨G, 1, none⟩ (.int .i64 s1.m1)).setCell ⟨G, 2, none⟩ (.slice A2 n2 c2)).setCell ⟨G, 3, none⟩ (.int .i64 s1.ad)).setCell ⟨G, 4, none⟩ (.int .i64 s1.tk)).setCell ⟨G, 5, none⟩ (.int .i64 s1.rf) = w7 at HPC ⊢
          go_wp2
          go_meet
          exact ⟨cd, rfl, rfl, ⟨s1, _, _, A2, n2, c2, l2, HPC.out, HR1.out, HJ1.out⟩⟩
        have z1 : (d == 1) = false := beq_eq_false_iff_ne.2 hd1
        have y1 : decide (d = 1) = false := decide_eq_false hd1
        by_cases hd2 : d = 2
        · subst hd2
          clear hd0 z0 y0 hd1 z1 y1
          have hh := drop_any HPC.out.at_ HJ.out.2 HK.out.2 x
          have hg := fun (w2 : World) (hR : Kd.R dd 159 w2 w.heap.size (fun _ => True) (.slice A n c) l) (hb : w.heap.size ≤ w2.heap.size) => rdrop_sim hR HJ.out.1 HJ.out.2 HK.out.2 hb x
          have hj := HJ.out.2.drop x
          generalize (dropF s x).1 = s1 at hh hg hj
          generalize (dropF s x).2 = t1 at hh hg
          have HC1 := Aside0.mk hh
          have HC2 := Aside0.mk hg
          have HJ1 := Aside0.mk hj
          clear hh hg hj
          go_upto_region 22 with (first | (go_at_call 35; refine HC1.out.mono ?_; rintro e w4 ⟨rfl, vh1, vr1, hL, hM⟩; replace HPC := Aside0.mk (HPC.out.prog hL hM); clear hL hM a0 a1; obtain ⟨a0, a1⟩ := HT.out.below HPC.out.at_.bl) | (go_at_call 30; refine (code_calls _ _).mono ?_; rintro e w9 ⟨rfl, rfl⟩))
          refine start_ (n := 13) (S := fun w' => w'.heap[G]? = some (.cells #[.int .i64 s.m0, .int .i64 s.m1, .slice A n c, .int .i64 s.ad, .int .i64 s.tk, .int .i64 s.rf] 74 (0, 0)) ∧ w'.cell? ⟨(ad.add (k * 2)).block, (ad.add (k * 2)).off + 1, none⟩ = some (.int .i64 x)) (ds := [11]) (bb 13 0) (by kernel_rfl) rfl rfl (⟨HPC.out.box, a1⟩) (fun hHeld => ?_)
          replace HPC := Aside0.mk (HPC.out.below (below_drew (Below.refl _ _)))
          clear a0 a1
          generalize w4.drew = w5 at HPC hHeld ⊢
          refine take_ (i := 0) (N := some 129) (v := ?_) (a' := ?_) (bb 13 1) rfl rfl (by kernel_rfl) (fun _ _ _ h => h) (Or.inl ⟨by rfl, ?_⟩) hHeld ?_ ?_
          rotate_left
          · intro w' hSw
            obtain ⟨q0, q1, q2, q3, q4, q5, -⟩ := six hSw.1
            go_simp
            with_reducible rfl
          rotate_left
          · simp only [Act.put, List.setIfInBounds_toArray, List.set_cons_zero, List.set_cons_succ, i64_w, i32_w]
            rfl
          refine pure_ (i := 1) (N := some 130) (v := ?_) (a' := ?_) (bb 13 3) rfl rfl (by kernel_rfl) (fun _ _ _ h => h) (Or.inl ⟨by rfl, ?_⟩) ?_ ?_
          rotate_left
          · intro w'
            go_simp
            with_reducible rfl
          rotate_left
          · simp only [Act.put, List.setIfInBounds_toArray, List.set_cons_zero, List.set_cons_succ, i64_w, i32_w]
            rfl
          refine pure_ (i := 2) (N := some 131) (v := ?_) (a' := ?_) (bb 13 7) rfl rfl (by kernel_rfl) (fun _ _ _ h => h) (Or.inl ⟨by rfl, ?_⟩) ?_ ?_
          rotate_left
          · intro w'
            go_simp
            with_reducible rfl
          rotate_left
          · simp only [Act.put, List.setIfInBounds_toArray, List.set_cons_zero, List.set_cons_succ, i64_w, i32_w]
            rfl
          refine pure_ (i := 3) (N := some 132) (v := ?_) (a' := ?_) (bb 13 15) rfl rfl (by kernel_rfl) (fun _ _ _ h => h) (Or.inl ⟨by rfl, ?_⟩) ?_ ?_
          rotate_left
          · intro w'
            go_simp
            with_reducible rfl
          rotate_left
          · simp only [Act.put, List.setIfInBounds_toArray, List.set_cons_zero, List.set_cons_succ, i64_w, i32_w]
            rfl
          refine pure_ (i := 4) (N := some 133) (v := ?_) (a' := ?_) (bb 13 31) rfl rfl (by kernel_rfl) (fun _ _ _ h => h) (Or.inl ⟨by rfl, ?_⟩) ?_ ?_
          rotate_left
          · intro w'
            go_simp
            with_reducible rfl
          rotate_left
          · simp only [Act.put, List.setIfInBounds_toArray, List.set_cons_zero, List.set_cons_succ, i64_w, i32_w]
            rfl
          refine take_ (i := 5) (N := some 134) (v := ?_) (a' := ?_) (bb 13 63) rfl rfl (by kernel_rfl) (fun _ _ _ h => h) (Or.inl ⟨by rfl, ?_⟩) hHeld ?_ ?_
          rotate_left
          · intro w' hSw
            have a1 := hSw.2
            go_simp
            with_reducible rfl
          rotate_left
          · simp only [Act.put, List.setIfInBounds_toArray, List.set_cons_zero, List.set_cons_succ, i64_w, i32_w]
            rfl
          refine two_ (i := 6) (j := 10) (Ni := some 135) (Nj := some 14) (bb 13 127) (bb 13 1087) rfl rfl rfl rfl (by kernel_rfl) (by decide) (by decide) (fun K hK => ?_) (fun K hK => ?_)
          · refine goes_ Try.func36 (by kernel_rfl) rfl #[rv s.m0 s.m1 A n c s.ad s.tk s.rf, .int .i64 x] (by rfl) rfl rfl (by (try simp only [List.map_toArray, List.map_cons, List.map_nil]); first | done | rfl | (go_simp; done) | (go_simp; omega)) ?_
            refine Calls.mono (HC2.out _ HPC.out.row HPC.out.at_.size) ?_
            rintro e w' ⟨A2, n2, c2, l2, rfl, hR, hrl, hB⟩
            refine ⟨_, rfl, ?_⟩
            replace HPC := Aside0.mk (HPC.out.ref hR hB)
            have HR1 := Aside0.mk hrl
            obtain ⟨b0_, b1_⟩ := HT.out.below HPC.out.at_.bl
            clear hR hrl hB
            unfold rv
            refine hK.out _ _ (⟨HPC.out.box, b1_⟩) (fun hHeld => ?_)
            clear hK K
            refine norm_ (a' := ?_) ?_ ?_
            rotate_left
            · show Act.put _ (some 135) _ = _
              simp only [Act.put, List.setIfInBounds_toArray, List.set_cons_zero, List.set_cons_succ, i64_w, i32_w]
              rfl
            refine pure_ (i := 7) (N := some 128) (v := ?_) (a' := ?_) (bb 13 255) rfl rfl (by kernel_rfl) (fun _ _ _ h => h) (Or.inl ⟨by rfl, ?_⟩) ?_ ?_
            rotate_left
            · intro w'
              go_simp
              with_reducible rfl
            rotate_left
            · simp only [Act.put, List.setIfInBounds_toArray, List.set_cons_zero, List.set_cons_succ, i64_w, i32_w]
              rfl
            refine pure_ (i := 8) (N := some 136) (v := ?_) (a' := ?_) (bb 13 511) rfl rfl (by kernel_rfl) (fun _ _ _ h => h) (Or.inl ⟨by rfl, ?_⟩) ?_ ?_
            rotate_left
            · intro w'
              go_simp
              with_reducible rfl
            rotate_left
            · simp only [Act.put, List.setIfInBounds_toArray, List.set_cons_zero, List.set_cons_succ, i64_w, i32_w]
              rfl
            refine pure_ (i := 9) (N := some 137) (v := ?_) (a' := ?_) (bb 13 1023) rfl rfl (by kernel_rfl) (fun _ _ _ h => h) (Or.inl ⟨by rfl, ?_⟩) ?_ ?_
            rotate_left
            · intro w'
              go_simp
              with_reducible rfl
            rotate_left
            · simp only [Act.put, List.setIfInBounds_toArray, List.set_cons_zero, List.set_cons_succ, i64_w, i32_w]
              rfl
            refine one_ (i := 10) (N := some 14) (bb 13 2047) rfl rfl (by kernel_rfl) (by decide) (fun K hK => ?_)
            refine event_step (by rfl) (show _ = Result.ok (Next.value (.pointer (some ⟨w'.heap.size, 0, none⟩))) (World.alloc _ (.cells #[.int .i64 0, .int .i64 0, .slice none 0 0, .int .i64 0, .int .i64 0, .int .i64 0] 74)) from by first | (go_simp; done) | (go_simp; rfl)) ?_
            have hB := below_alloc (Below.refl _ w') (.cells #[.int .i64 0, .int .i64 0, .slice none 0 0, .int .i64 0, .int .i64 0, .int .i64 0] 74)
            have hN := blk_new w' (.cells #[.int .i64 0, .int .i64 0, .slice none 0 0, .int .i64 0, .int .i64 0, .int .i64 0] 74)
            have hz1 := HPC.out.at_.size
            have hz2 := blk_lt HPC.out.box
            obtain ⟨g4, hg4⟩ : ∃ g4, g4 = w'.heap.size := ⟨_, rfl⟩
            have HG4 := Aside0.mk (show w.heap.size ≤ g4 ∧ G ≠ g4 by omega)
            rw [← hg4] at hN ⊢
            clear hz1 hz2 hg4
            generalize World.alloc w' (.cells #[.int .i64 0, .int .i64 0, .slice none 0 0, .int .i64 0, .int .i64 0, .int .i64 0] 74) = w5_ at hB hN ⊢
            have HN4 := Aside0.mk hN
            replace HPC := Aside0.mk (HPC.out.below hB)
            obtain ⟨b0_, b1_⟩ := HT.out.below HPC.out.at_.bl
            clear hB hN
            refine hK.out _ _ (⟨HPC.out.box, b1_⟩) (fun hHeld => ?_)
            clear hK K
            refine norm_ (a' := ?_) ?_ ?_
            rotate_left
            · show Act.put _ (some 14) _ = _
              simp only [Act.put, List.setIfInBounds_toArray, List.set_cons_zero, List.set_cons_succ, i64_w, i32_w]
              rfl
            obtain ⟨w6, hw6⟩ : ∃ w6, w6 = w5_ := ⟨_, rfl⟩
            rw [← hw6] at HPC HN4 ⊢
            clear hw6 hHeld b0_ b1_
            obtain ⟨q0, q1, q2, q3, q4, q5, s0, s1_, s2, s3, s4, s5⟩ := six HN4.out
            refine last_ (i := 11) (N := none) (bb 13 4095) rfl rfl (by kernel_rfl) (by decide) (fun K hK => ?_)
            refine skip_ (w1 := (((((w6.setCell ⟨g4, 0, none⟩ (.int .i64 s1.m0)).setCell ⟨g4, 1, none⟩ (.int .i64 s1.m1)).setCell ⟨g4, 2, none⟩ (.slice A2 n2 c2)).setCell ⟨g4, 3, none⟩ (.int .i64 s1.ad)).setCell ⟨g4, 4, none⟩ (.int .i64 s1.tk)).setCell ⟨g4, 5, none⟩ (.int .i64 s1.rf)) (by rfl) rfl (by first | (go_simp; done) | (go_simp; rfl)) ?_
            refine hK.out _ _ ?_
            clear hK K
            refine pure_ (i := 12) (N := some 15) (v := ?_) (a' := ?_) (bb 13 8191) rfl rfl (by kernel_rfl) (fun _ _ _ h => h) (Or.inl ⟨by rfl, ?_⟩) ?_ ?_
            rotate_left
            · intro w'
              go_simp
              with_reducible rfl
            rotate_left
            · simp only [Act.put, List.setIfInBounds_toArray, List.set_cons_zero, List.set_cons_succ, i64_w, i32_w]
              rfl
            refine done_ (by kernel_rfl) ?_
            have HN5 := Aside0.mk (six_put HN4.out (.int .i64 s1.m0) (.int .i64 s1.m1) (.slice A2 n2 c2) (.int .i64 s1.ad) (.int .i64 s1.tk) (.int .i64 s1.rf))
            replace HPC := Aside0.mk (HPC.out.far HN4.out HG4.out.1 HG4.out.2 (.int .i64 s1.m0) (.int .i64 s1.m1) (.slice A2 n2 c2) (.int .i64 s1.ad) (.int .i64 s1.tk) (.int .i64 s1.rf))
            clear q0 q1 q2 q3 q4 q5 s0 s1_ s2 s3 s4 s5 HC1 HC2 HN4
            generalize (((((w6.setCell ⟨g4, 0, none⟩ (.int .i64 s1.m0)).setCell ⟨g4, 1, none⟩ (.int .i64 s1.m1)).setCell ⟨g4, 2, none⟩ (.slice A2 n2 c2)).setCell ⟨g4, 3, none⟩ (.int .i64 s1.ad)).setCell ⟨g4, 4, none⟩ (.int .i64 s1.tk)).setCell ⟨g4, 5, none⟩ (.int .i64 s1.rf) = w7 at HPC HN5 ⊢
            obtain ⟨q0, q1, q2, q3, q4, q5, -⟩ := six HN5.out
            obtain ⟨r0, r1, r2, r3, r4, r5, s0, s1_, s2, s3, s4, s5⟩ := six HPC.out.box
            have hbt : (t1 != t1) = false := bne_self_eq_false t1
            go_upto_region 24 with (fail)
            replace HPC := Aside0.mk (HPC.out.put (.int .i64 s1.m0) (.int .i64 s1.m1) (.slice A2 n2 c2) (.int .i64 s1.ad) (.int .i64 s1.tk) (.int .i64 s1.rf))
            clear q0 q1 q2 q3 q4 q5 r0 r1 r2 r3 r4 r5 s0 s1_ s2 s3 s4 s5 HN5
            generalize (((((w7.setCell ⟨G, 0, none⟩ (.int .i64 s1.m0)).setCell ⟨G, 1, none⟩ (.int .i64 s1.m1)).setCell ⟨G, 2, none⟩ (.slice A2 n2 c2)).setCell ⟨G, 3, none⟩ (.int .i64 s1.ad)).setCell ⟨G, 4, none⟩ (.int .i64 s1.tk)).setCell ⟨G, 5, none⟩ (.int .i64 s1.rf) = w9_ at HPC ⊢
            go_wp2
            go_meet
            exact ⟨0, rfl, rfl, ⟨s1, _, _, A2, n2, c2, l2, HPC.out, HR1.out, HJ1.out⟩⟩
          · refine event_step (by rfl) (show _ = Result.ok (Next.value (.pointer (some ⟨w5.heap.size, 0, none⟩))) (World.alloc _ (.cells #[.int .i64 0, .int .i64 0, .slice none 0 0, .int .i64 0, .int .i64 0, .int .i64 0] 74)) from by first | (go_simp; done) | (go_simp; rfl)) ?_
            have hB := below_alloc (Below.refl _ w5) (.cells #[.int .i64 0, .int .i64 0, .slice none 0 0, .int .i64 0, .int .i64 0, .int .i64 0] 74)
            have hN := blk_new w5 (.cells #[.int .i64 0, .int .i64 0, .slice none 0 0, .int .i64 0, .int .i64 0, .int .i64 0] 74)
            have hz1 := HPC.out.at_.size
            have hz2 := blk_lt HPC.out.box
            obtain ⟨g4, hg4⟩ : ∃ g4, g4 = w5.heap.size := ⟨_, rfl⟩
            have HG4 := Aside0.mk (show w.heap.size ≤ g4 ∧ G ≠ g4 by omega)
            rw [← hg4] at hN ⊢
            clear hz1 hz2 hg4
            generalize World.alloc w5 (.cells #[.int .i64 0, .int .i64 0, .slice none 0 0, .int .i64 0, .int .i64 0, .int .i64 0] 74) = w5_ at hB hN ⊢
            have HN4 := Aside0.mk hN
            replace HPC := Aside0.mk (HPC.out.below hB)
            obtain ⟨b0_, b1_⟩ := HT.out.below HPC.out.at_.bl
            clear hB hN
            refine hK.out _ _ (⟨HPC.out.box, b1_⟩) (fun hHeld => ?_)
            clear hK K
            refine norm_ (a' := ?_) ?_ ?_
            rotate_left
            · show Act.put _ (some 14) _ = _
              simp only [Act.put, List.setIfInBounds_toArray, List.set_cons_zero, List.set_cons_succ, i64_w, i32_w]
              rfl
            refine one_ (i := 6) (N := some 135) (bb 13 1151) rfl rfl (by kernel_rfl) (by decide) (fun K hK => ?_)
            refine goes_ Try.func36 (by kernel_rfl) rfl #[rv s.m0 s.m1 A n c s.ad s.tk s.rf, .int .i64 x] (by rfl) rfl rfl (by (try simp only [List.map_toArray, List.map_cons, List.map_nil]); first | done | rfl | (go_simp; done) | (go_simp; omega)) ?_
            refine Calls.mono (HC2.out _ HPC.out.row HPC.out.at_.size) ?_
            rintro e w' ⟨A2, n2, c2, l2, rfl, hR, hrl, hB⟩
            refine ⟨_, rfl, ?_⟩
            replace HPC := Aside0.mk (HPC.out.ref hR hB)
            have HR1 := Aside0.mk hrl
            replace HN4 := Aside0.mk (blk_below HN4.out hB)
            obtain ⟨b0_, b1_⟩ := HT.out.below HPC.out.at_.bl
            clear hR hrl hB
            unfold rv
            refine hK.out _ _ (⟨HPC.out.box, b1_⟩) (fun hHeld => ?_)
            clear hK K
            refine norm_ (a' := ?_) ?_ ?_
            rotate_left
            · show Act.put _ (some 135) _ = _
              simp only [Act.put, List.setIfInBounds_toArray, List.set_cons_zero, List.set_cons_succ, i64_w, i32_w]
              rfl
            refine pure_ (i := 7) (N := some 128) (v := ?_) (a' := ?_) (bb 13 1279) rfl rfl (by kernel_rfl) (fun _ _ _ h => h) (Or.inl ⟨by rfl, ?_⟩) ?_ ?_
            rotate_left
            · intro w'
              go_simp
              with_reducible rfl
            rotate_left
            · simp only [Act.put, List.setIfInBounds_toArray, List.set_cons_zero, List.set_cons_succ, i64_w, i32_w]
              rfl
            refine pure_ (i := 8) (N := some 136) (v := ?_) (a' := ?_) (bb 13 1535) rfl rfl (by kernel_rfl) (fun _ _ _ h => h) (Or.inl ⟨by rfl, ?_⟩) ?_ ?_
            rotate_left
            · intro w'
              go_simp
              with_reducible rfl
            rotate_left
            · simp only [Act.put, List.setIfInBounds_toArray, List.set_cons_zero, List.set_cons_succ, i64_w, i32_w]
              rfl
            refine pure_ (i := 9) (N := some 137) (v := ?_) (a' := ?_) (bb 13 2047) rfl rfl (by kernel_rfl) (fun _ _ _ h => h) (Or.inl ⟨by rfl, ?_⟩) ?_ ?_
            rotate_left
            · intro w'
              go_simp
              with_reducible rfl
            rotate_left
            · simp only [Act.put, List.setIfInBounds_toArray, List.set_cons_zero, List.set_cons_succ, i64_w, i32_w]
              rfl
            obtain ⟨w6, hw6⟩ : ∃ w6, w6 = w' := ⟨_, rfl⟩
            rw [← hw6] at HPC HN4 ⊢
            clear hw6 hHeld b0_ b1_
            obtain ⟨q0, q1, q2, q3, q4, q5, s0, s1_, s2, s3, s4, s5⟩ := six HN4.out
            refine last_ (i := 11) (N := none) (bb 13 4095) rfl rfl (by kernel_rfl) (by decide) (fun K hK => ?_)
            refine skip_ (w1 := (((((w6.setCell ⟨g4, 0, none⟩ (.int .i64 s1.m0)).setCell ⟨g4, 1, none⟩ (.int .i64 s1.m1)).setCell ⟨g4, 2, none⟩ (.slice A2 n2 c2)).setCell ⟨g4, 3, none⟩ (.int .i64 s1.ad)).setCell ⟨g4, 4, none⟩ (.int .i64 s1.tk)).setCell ⟨g4, 5, none⟩ (.int .i64 s1.rf)) (by rfl) rfl (by first | (go_simp; done) | (go_simp; rfl)) ?_
            refine hK.out _ _ ?_
            clear hK K
            refine pure_ (i := 12) (N := some 15) (v := ?_) (a' := ?_) (bb 13 8191) rfl rfl (by kernel_rfl) (fun _ _ _ h => h) (Or.inl ⟨by rfl, ?_⟩) ?_ ?_
            rotate_left
            · intro w'
              go_simp
              with_reducible rfl
            rotate_left
            · simp only [Act.put, List.setIfInBounds_toArray, List.set_cons_zero, List.set_cons_succ, i64_w, i32_w]
              rfl
            refine done_ (by kernel_rfl) ?_
            have HN5 := Aside0.mk (six_put HN4.out (.int .i64 s1.m0) (.int .i64 s1.m1) (.slice A2 n2 c2) (.int .i64 s1.ad) (.int .i64 s1.tk) (.int .i64 s1.rf))
            replace HPC := Aside0.mk (HPC.out.far HN4.out HG4.out.1 HG4.out.2 (.int .i64 s1.m0) (.int .i64 s1.m1) (.slice A2 n2 c2) (.int .i64 s1.ad) (.int .i64 s1.tk) (.int .i64 s1.rf))
            clear q0 q1 q2 q3 q4 q5 s0 s1_ s2 s3 s4 s5 HC1 HC2 HN4
            generalize (((((w6.setCell ⟨g4, 0, none⟩ (.int .i64 s1.m0)).setCell ⟨g4, 1, none⟩ (.int .i64 s1.m1)).setCell ⟨g4, 2, none⟩ (.slice A2 n2 c2)).setCell ⟨g4, 3, none⟩ (.int .i64 s1.ad)).setCell ⟨g4, 4, none⟩ (.int .i64 s1.tk)).setCell ⟨g4, 5, none⟩ (.int .i64 s1.rf) = w7 at HPC HN5 ⊢
            obtain ⟨q0, q1, q2, q3, q4, q5, -⟩ := six HN5.out
            obtain ⟨r0, r1, r2, r3, r4, r5, s0, s1_, s2, s3, s4, s5⟩ := six HPC.out.box
            have hbt : (t1 != t1) = false := bne_self_eq_false t1
            go_upto_region 24 with (fail)
            replace HPC := Aside0.mk (HPC.out.put (.int .i64 s1.m0) (.int .i64 s1.m1) (.slice A2 n2 c2) (.int .i64 s1.ad) (.int .i64 s1.tk) (.int .i64 s1.rf))
            clear q0 q1 q2 q3 q4 q5 r0 r1 r2 r3 r4 r5 s0 s1_ s2 s3 s4 s5 HN5
            generalize (((((w7.setCell ⟨G, 0, none⟩ (.int .i64 s1.m0)).setCell ⟨G, 1, none⟩ (.int .i64 s1.m1)).setCell ⟨G, 2, none⟩ (.slice A2 n2 c2)).setCell ⟨G, 3, none⟩ (.int .i64 s1.ad)).setCell ⟨G, 4, none⟩ (.int .i64 s1.tk)).setCell ⟨G, 5, none⟩ (.int .i64 s1.rf) = w9_ at HPC ⊢
            go_wp2
            go_meet
            exact ⟨0, rfl, rfl, ⟨s1, _, _, A2, n2, c2, l2, HPC.out, HR1.out, HJ1.out⟩⟩
        have z2 : (d == 2) = false := beq_eq_false_iff_ne.2 hd2
        have y2 : decide (d = 2) = false := decide_eq_false hd2
        by_cases hd3 : d = 3
        · subst hd3
          clear hd0 z0 y0 hd1 z1 y1 hd2 z2 y2
          have hh := take_any HPC.out.at_ HJ.out.2 HK.out.2
          have hg := fun (w2 : World) (hR : Kd.R dd 159 w2 w.heap.size (fun _ => True) (.slice A n c) l) (hb : w.heap.size ≤ w2.heap.size) => rtake_sim hR HJ.out.1 HJ.out.2 HK.out.2 hb
          have hj := HJ.out.2.take
          generalize (takeF s).1 = s1 at hh hg hj
          generalize (takeF s).2.1 = id1 at hh hg
          generalize (takeF s).2.2 = t1 at hh hg
          have HC1 := Aside0.mk hh
          have HC2 := Aside0.mk hg
          have HJ1 := Aside0.mk hj
          clear hh hg hj
          go_upto_region 28 with (first | (go_at_call 37; refine HC1.out.mono ?_; rintro e w4 ⟨rfl, vh1, vr1, hL, hM⟩; replace HPC := Aside0.mk (HPC.out.prog hL hM); clear hL hM a0 a1; obtain ⟨a0, a1⟩ := HT.out.below HPC.out.at_.bl) | (go_at_call 30; refine (code_calls _ _).mono ?_; rintro e w9 ⟨rfl, rfl⟩))
          obtain ⟨q0, q1, q2, q3, q4, q5, -⟩ := six HPC.out.box
          go_upto_region 29 with (go_at_call 38; refine (HC2.out _ HPC.out.row HPC.out.at_.size).mono ?_; rintro e w5 ⟨A2, n2, c2, l2, rfl, hR, hrl, hB⟩; replace HPC := Aside0.mk (HPC.out.ref hR hB); have HR1 := Aside0.mk hrl; unfold rv; clear hR hrl hB q0 q1 q2 q3 q4 q5 a0 a1)
          have hB := below_alloc (Below.refl _ w5) (.cells #[.int .i64 s1.m0, .int .i64 s1.m1, .slice A2 n2 c2, .int .i64 s1.ad, .int .i64 s1.tk, .int .i64 s1.rf] 74)
          have hN := blk_new w5 (.cells #[.int .i64 s1.m0, .int .i64 s1.m1, .slice A2 n2 c2, .int .i64 s1.ad, .int .i64 s1.tk, .int .i64 s1.rf] 74)
          have hz1 := HPC.out.at_.size
          have hz2 := blk_lt HPC.out.box
          obtain ⟨g4, hg4⟩ : ∃ g4, g4 = w5.heap.size := ⟨_, rfl⟩
          have HG4 := Aside0.mk (show w.heap.size ≤ g4 ∧ G ≠ g4 by omega)
          rw [← hg4] at hN ⊢
          clear hz1 hz2 hg4
          generalize World.alloc w5 (.cells #[.int .i64 s1.m0, .int .i64 s1.m1, .slice A2 n2 c2, .int .i64 s1.ad, .int .i64 s1.tk, .int .i64 s1.rf] 74) = w7 at hB hN ⊢
          have HN4 := Aside0.mk hN
          have HN5 := Aside0.mk hN
          replace HPC := Aside0.mk (HPC.out.below hB)
          clear hB hN HC1 HC2
          obtain ⟨q0, q1, q2, q3, q4, q5, -⟩ := six HN5.out
          obtain ⟨r0, r1, r2, r3, r4, r5, s0, s1_, s2, s3, s4, s5⟩ := six HPC.out.box
          have hbt : (t1 != t1) = false := bne_self_eq_false t1
          go_upto_region 30 with (fail)
          replace HPC := Aside0.mk (HPC.out.put (.int .i64 s1.m0) (.int .i64 s1.m1) (.slice A2 n2 c2) (.int .i64 s1.ad) (.int .i64 s1.tk) (.int .i64 s1.rf))
          clear q0 q1 q2 q3 q4 q5 r0 r1 r2 r3 r4 r5 s0 s1_ s2 s3 s4 s5 HN5
          generalize (((((w7.setCell ⟨G, 0, none⟩ (.int .i64 s1.m0)).setCell ⟨G, 1, none⟩ (.int .i64 s1.m1)).setCell ⟨G, 2, none⟩ (.slice A2 n2 c2)).setCell ⟨G, 3, none⟩ (.int .i64 s1.ad)).setCell ⟨G, 4, none⟩ (.int .i64 s1.tk)).setCell ⟨G, 5, none⟩ (.int .i64 s1.rf) = w9_ at HPC ⊢
          go_wp2
          go_meet
          exact ⟨0, rfl, rfl, ⟨s1, _, _, A2, n2, c2, l2, HPC.out, HR1.out, HJ1.out⟩⟩
        have z3 : (d == 3) = false := beq_eq_false_iff_ne.2 hd3
        have y3 : decide (d = 3) = false := decide_eq_false hd3
        have HR1 := Aside0.mk HJ.out.1
        have HJ1 := Aside0.mk HJ.out.2.more
        go_wp2
        go_meet
        exact ⟨0, rfl, rfl, ⟨s, _, _, A, n, c, l, HPC.out, HR1.out, HJ1.out⟩⟩
      case rest =>
        obtain ⟨cd, rfl, rfl, ⟨s1, vh1, vr1, A2, n2, c2, l2, hPc1, hRel1, hJn1⟩⟩ := hcut
        clear HPC HJ a0 a1
        have HPC := Aside0.mk hPc1
        have HR1 := Aside0.mk hRel1
        have HJ1 := Aside0.mk hJn1
        clear hPc1 hRel1 hJn1
        have jl := HJ1.out.ln
        have rl := HR1.out.len
        have hk3 := HK.out.2
        have hln : l2.length = n2 := by obtain ⟨A', c', e, -, -⟩ := Kd.R_reads HPC.out.row; injection e with e1 e2 e3; exact e2.symm
        have HL := Aside0.mk (And.intro hln (show n2 ≤ 1000 by omega))
        have HS1 := Aside0.mk (And.intro (show s1.h.length ≤ 1000 by omega) (And.intro (show s1.r.length ≤ 1000 by omega) (And.intro (show idsF l2 false n2 = s1.h by rw [idsF_all l2 false n2 hln, HR1.out.h]) (show idsF l2 true n2 = s1.r by rw [idsF_all l2 true n2 hln, HR1.out.r]))))
        clear jl rl hk3 hln
        go_upto_region 33 with (go_at_call 39; refine (counts_calls HPC.out.at_.lg).mono ?_; rintro e w9 ⟨rfl, m, rfl⟩; replace HPC := Aside0.mk (HPC.out.below (pw_below_drewN (Below.refl _ _) m)))
        generalize World.drewN _ m = w8 at HPC ⊢
        refine start_ (n := 37) (S := fun w' => w'.heap[G]? = some (.cells #[.int .i64 s1.m0, .int .i64 s1.m1, .slice A2 n2 c2, .int .i64 s1.ad, .int .i64 s1.tk, .int .i64 s1.rf] 74 (0, 0))) (ds := []) (bb 37 0) (by kernel_rfl) rfl rfl (HPC.out.box) (fun hHeld => ?_)
        replace HPC := Aside0.mk (HPC.out.below (below_drew (Below.refl _ _)))
        generalize w8.drew = w10 at HPC hHeld ⊢
        refine pure_ (i := 0) (N := some 170) (v := ?_) (a' := ?_) (bb 37 1) rfl rfl (by kernel_rfl) (fun _ _ _ h => h) (Or.inl ⟨by rfl, ?_⟩) ?_ ?_
        rotate_left
        · intro w'
          go_simp
          with_reducible rfl
        rotate_left
        · simp only [Act.put, List.setIfInBounds_toArray, List.set_cons_zero, List.set_cons_succ, i64_w, i32_w]
          rfl
        refine pure_ (i := 1) (N := some 171) (v := ?_) (a' := ?_) (bb 37 3) rfl rfl (by kernel_rfl) (fun _ _ _ h => h) (Or.inl ⟨by rfl, ?_⟩) ?_ ?_
        rotate_left
        · intro w'
          go_simp
          with_reducible rfl
        rotate_left
        · simp only [Act.put, List.setIfInBounds_toArray, List.set_cons_zero, List.set_cons_succ, i64_w, i32_w]
          rfl
        refine pure_ (i := 2) (N := some 172) (v := ?_) (a' := ?_) (bb 37 7) rfl rfl (by kernel_rfl) (fun _ _ _ h => h) (Or.inl ⟨by rfl, ?_⟩) ?_ ?_
        rotate_left
        · intro w'
          go_simp
          with_reducible rfl
        rotate_left
        · simp only [Act.put, List.setIfInBounds_toArray, List.set_cons_zero, List.set_cons_succ, i64_w, i32_w]
          rfl
        refine pure_ (i := 3) (N := some 173) (v := ?_) (a' := ?_) (bb 37 15) rfl rfl (by kernel_rfl) (fun _ _ _ h => h) (Or.inl ⟨by rfl, ?_⟩) ?_ ?_
        rotate_left
        · intro w'
          go_simp
          with_reducible rfl
        rotate_left
        · simp only [Act.put, List.setIfInBounds_toArray, List.set_cons_zero, List.set_cons_succ, i64_w, i32_w]
          rfl
        refine pure_ (i := 4) (N := some 174) (v := ?_) (a' := ?_) (bb 37 31) rfl rfl (by kernel_rfl) (fun _ _ _ h => h) (Or.inl ⟨by rfl, ?_⟩) ?_ ?_
        rotate_left
        · intro w'
          go_simp
          with_reducible rfl
        rotate_left
        · simp only [Act.put, List.setIfInBounds_toArray, List.set_cons_zero, List.set_cons_succ, i64_w, i32_w]
          rfl
        refine take_ (i := 6) (N := some 176) (v := ?_) (a' := ?_) (bb 37 95) rfl rfl (by kernel_rfl) (fun _ _ _ h => h) (Or.inl ⟨by rfl, ?_⟩) hHeld ?_ ?_
        rotate_left
        · intro w' hSw
          obtain ⟨q0, q1, q2, q3, q4, q5, -⟩ := six hSw
          go_simp
          with_reducible rfl
        rotate_left
        · simp only [Act.put, List.setIfInBounds_toArray, List.set_cons_zero, List.set_cons_succ, i64_w, i32_w]
          rfl
        refine one_ (i := 5) (N := some 175) (bb 37 127) rfl rfl (by kernel_rfl) (by decide) (fun K hK => ?_)
        refine goes_ Try.func41 (by kernel_rfl) rfl #[.pointer (some ⟨b, 0, none⟩)] (by rfl) rfl rfl (by (try simp only [List.map_toArray, List.map_cons, List.map_nil]); first | done | rfl | (go_simp; done) | (go_simp; omega)) ?_
        refine Calls.mono (half_calls HPC.out.at_.lg (by have := HS1.out.1; omega)) ?_
        rintro e w' ⟨v5, rfl, hS, hB⟩
        refine ⟨_, rfl, ?_⟩
        have HV5 := Aside0.mk (hS.mono (Nat.zero_le _))
        replace HPC := Aside0.mk (HPC.out.below hB)
        clear hS hB
        refine hK.out _ _ (HPC.out.box) (fun hHeld => ?_)
        clear hK K
        refine norm_ (a' := ?_) ?_ ?_
        rotate_left
        · show Act.put _ (some 175) _ = _
          simp only [Act.put, List.setIfInBounds_toArray, List.set_cons_zero, List.set_cons_succ, i64_w, i32_w]
          rfl
        refine one_ (i := 7) (N := some 177) (bb 37 255) rfl rfl (by kernel_rfl) (by decide) (fun K hK => ?_)
        refine goes_ Try.func42 (by kernel_rfl) rfl #[rv s1.m0 s1.m1 A2 n2 c2 s1.ad s1.tk s1.rf, .bool false] (by rfl) rfl rfl (by (try simp only [List.map_toArray, List.map_cons, List.map_nil]); first | done | rfl | (go_simp; done) | (go_simp; omega)) ?_
        refine Calls.mono (ids_calls s1.m0 s1.m1 A2 n2 c2 s1.ad s1.tk s1.rf l2 HL.out.1 HL.out.2 false _ (Ones.of_C (by obtain ⟨A', c', e, hl, hc⟩ := Kd.R_reads HPC.out.row; injection e with e1 e2 e3; subst e1; subst e2; exact hc))) ?_
        rintro e w' ⟨v7, rfl, hS, hB⟩
        refine ⟨_, rfl, ?_⟩
        rw [HS1.out.2.2.1] at hS
        have HV7 := Aside0.mk (hS.mono (Nat.zero_le _))
        replace HV5 := Aside0.mk (HV5.out.below hB)
        replace HPC := Aside0.mk (HPC.out.below hB)
        clear hS hB
        refine hK.out _ _ (HPC.out.box) (fun hHeld => ?_)
        clear hK K
        refine norm_ (a' := ?_) ?_ ?_
        rotate_left
        · show Act.put _ (some 177) _ = _
          simp only [Act.put, List.setIfInBounds_toArray, List.set_cons_zero, List.set_cons_succ, i64_w, i32_w]
          rfl
        refine one_ (i := 8) (N := some 178) (bb 37 511) rfl rfl (by kernel_rfl) (by decide) (fun K hK => ?_)
        refine goes_ Try.func40 (by kernel_rfl) rfl #[v5, v7] (by rfl) rfl rfl (by (try simp only [List.map_toArray, List.map_cons, List.map_nil]); first | done | rfl | (go_simp; done) | (go_simp; omega)) ?_
        refine Calls.mono (same_calls _ HV5.out HV7.out HS1.out.1) ?_
        rintro e w' ⟨rfl, hB⟩
        refine ⟨_, rfl, ?_⟩
        replace HPC := Aside0.mk (HPC.out.below hB)
        clear hB HV5 HV7
        refine hK.out _ _ (HPC.out.box) (fun hHeld => ?_)
        clear hK K
        refine norm_ (a' := ?_) ?_ ?_
        rotate_left
        · show Act.put _ (some 178) _ = _
          simp only [Act.put, List.setIfInBounds_toArray, List.set_cons_zero, List.set_cons_succ, i64_w, i32_w]
          rfl
        refine pure_ (i := 9) (N := some 179) (v := ?_) (a' := ?_) (bb 37 1023) rfl rfl (by kernel_rfl) (fun _ _ _ h => h) (Or.inl ⟨by rfl, ?_⟩) ?_ ?_
        rotate_left
        · intro w'
          go_simp
          with_reducible rfl
        rotate_left
        · simp only [Act.put, List.setIfInBounds_toArray, List.set_cons_zero, List.set_cons_succ, i64_w, i32_w]
          rfl
        refine pure_ (i := 10) (N := some 180) (v := ?_) (a' := ?_) (bb 37 2047) rfl rfl (by kernel_rfl) (fun _ _ _ h => h) (Or.inl ⟨by rfl, ?_⟩) ?_ ?_
        rotate_left
        · intro w'
          go_simp
          with_reducible rfl
        rotate_left
        · simp only [Act.put, List.setIfInBounds_toArray, List.set_cons_zero, List.set_cons_succ, i64_w, i32_w]
          rfl
        refine pure_ (i := 11) (N := some 181) (v := ?_) (a' := ?_) (bb 37 4095) rfl rfl (by kernel_rfl) (fun _ _ _ h => h) (Or.inl ⟨by rfl, ?_⟩) ?_ ?_
        rotate_left
        · intro w'
          go_simp
          with_reducible rfl
        rotate_left
        · simp only [Act.put, List.setIfInBounds_toArray, List.set_cons_zero, List.set_cons_succ, i64_w, i32_w]
          rfl
        refine pure_ (i := 12) (N := some 182) (v := ?_) (a' := ?_) (bb 37 8191) rfl rfl (by kernel_rfl) (fun _ _ _ h => h) (Or.inl ⟨by rfl, ?_⟩) ?_ ?_
        rotate_left
        · intro w'
          go_simp
          with_reducible rfl
        rotate_left
        · simp only [Act.put, List.setIfInBounds_toArray, List.set_cons_zero, List.set_cons_succ, i64_w, i32_w]
          rfl
        refine take_ (i := 14) (N := some 184) (v := ?_) (a' := ?_) (bb 37 24575) rfl rfl (by kernel_rfl) (fun _ _ _ h => h) (Or.inl ⟨by rfl, ?_⟩) hHeld ?_ ?_
        rotate_left
        · intro w' hSw
          obtain ⟨q0, q1, q2, q3, q4, q5, -⟩ := six hSw
          go_simp
          with_reducible rfl
        rotate_left
        · simp only [Act.put, List.setIfInBounds_toArray, List.set_cons_zero, List.set_cons_succ, i64_w, i32_w]
          rfl
        refine one_ (i := 13) (N := some 183) (bb 37 32767) rfl rfl (by kernel_rfl) (by decide) (fun K hK => ?_)
        refine goes_ Try.func43 (by kernel_rfl) rfl #[.pointer (some ⟨b, 0, none⟩)] (by rfl) rfl rfl (by (try simp only [List.map_toArray, List.map_cons, List.map_nil]); first | done | rfl | (go_simp; done) | (go_simp; omega)) ?_
        refine Calls.mono (waiting_calls HPC.out.at_.lg (by have := HS1.out.2.1; omega)) ?_
        rintro e w' ⟨v13, rfl, hS, hB⟩
        refine ⟨_, rfl, ?_⟩
        have HV13 := Aside0.mk (hS.mono (Nat.zero_le _))
        replace HPC := Aside0.mk (HPC.out.below hB)
        clear hS hB
        refine hK.out _ _ (HPC.out.box) (fun hHeld => ?_)
        clear hK K
        refine norm_ (a' := ?_) ?_ ?_
        rotate_left
        · show Act.put _ (some 183) _ = _
          simp only [Act.put, List.setIfInBounds_toArray, List.set_cons_zero, List.set_cons_succ, i64_w, i32_w]
          rfl
        refine one_ (i := 15) (N := some 185) (bb 37 65535) rfl rfl (by kernel_rfl) (by decide) (fun K hK => ?_)
        refine goes_ Try.func42 (by kernel_rfl) rfl #[rv s1.m0 s1.m1 A2 n2 c2 s1.ad s1.tk s1.rf, .bool true] (by rfl) rfl rfl (by (try simp only [List.map_toArray, List.map_cons, List.map_nil]); first | done | rfl | (go_simp; done) | (go_simp; omega)) ?_
        refine Calls.mono (ids_calls s1.m0 s1.m1 A2 n2 c2 s1.ad s1.tk s1.rf l2 HL.out.1 HL.out.2 true _ (Ones.of_C (by obtain ⟨A', c', e, hl, hc⟩ := Kd.R_reads HPC.out.row; injection e with e1 e2 e3; subst e1; subst e2; exact hc))) ?_
        rintro e w' ⟨v15, rfl, hS, hB⟩
        refine ⟨_, rfl, ?_⟩
        rw [HS1.out.2.2.2] at hS
        have HV15 := Aside0.mk (hS.mono (Nat.zero_le _))
        replace HV13 := Aside0.mk (HV13.out.below hB)
        replace HPC := Aside0.mk (HPC.out.below hB)
        clear hS hB
        refine hK.out _ _ (HPC.out.box) (fun hHeld => ?_)
        clear hK K
        refine norm_ (a' := ?_) ?_ ?_
        rotate_left
        · show Act.put _ (some 185) _ = _
          simp only [Act.put, List.setIfInBounds_toArray, List.set_cons_zero, List.set_cons_succ, i64_w, i32_w]
          rfl
        refine one_ (i := 16) (N := some 186) (bb 37 131071) rfl rfl (by kernel_rfl) (by decide) (fun K hK => ?_)
        refine goes_ Try.func40 (by kernel_rfl) rfl #[v13, v15] (by rfl) rfl rfl (by (try simp only [List.map_toArray, List.map_cons, List.map_nil]); first | done | rfl | (go_simp; done) | (go_simp; omega)) ?_
        refine Calls.mono (same_calls _ HV13.out HV15.out HS1.out.2.1) ?_
        rintro e w' ⟨rfl, hB⟩
        refine ⟨_, rfl, ?_⟩
        replace HPC := Aside0.mk (HPC.out.below hB)
        clear hB HV13 HV15
        refine hK.out _ _ (HPC.out.box) (fun hHeld => ?_)
        clear hK K
        refine norm_ (a' := ?_) ?_ ?_
        rotate_left
        · show Act.put _ (some 186) _ = _
          simp only [Act.put, List.setIfInBounds_toArray, List.set_cons_zero, List.set_cons_succ, i64_w, i32_w]
          rfl
        refine pure_ (i := 17) (N := some 187) (v := ?_) (a' := ?_) (bb 37 262143) rfl rfl (by kernel_rfl) (fun _ _ _ h => h) (Or.inl ⟨by rfl, ?_⟩) ?_ ?_
        rotate_left
        · intro w'
          go_simp
          with_reducible rfl
        rotate_left
        · simp only [Act.put, List.setIfInBounds_toArray, List.set_cons_zero, List.set_cons_succ, i64_w, i32_w]
          rfl
        refine pure_ (i := 18) (N := some 188) (v := ?_) (a' := ?_) (bb 37 524287) rfl rfl (by kernel_rfl) (fun _ _ _ h => h) (Or.inl ⟨by rfl, ?_⟩) ?_ ?_
        rotate_left
        · intro w'
          go_simp
          with_reducible rfl
        rotate_left
        · simp only [Act.put, List.setIfInBounds_toArray, List.set_cons_zero, List.set_cons_succ, i64_w, i32_w]
          rfl
        refine pure_ (i := 19) (N := some 189) (v := ?_) (a' := ?_) (bb 37 1048575) rfl rfl (by kernel_rfl) (fun _ _ _ h => h) (Or.inl ⟨by rfl, ?_⟩) ?_ ?_
        rotate_left
        · intro w'
          go_simp
          with_reducible rfl
        rotate_left
        · simp only [Act.put, List.setIfInBounds_toArray, List.set_cons_zero, List.set_cons_succ, i64_w, i32_w]
          rfl
        refine pure_ (i := 20) (N := some 190) (v := ?_) (a' := ?_) (bb 37 2097151) rfl rfl (by kernel_rfl) (fun _ _ _ h => h) (Or.inl ⟨by rfl, ?_⟩) ?_ ?_
        rotate_left
        · intro w'
          go_simp
          with_reducible rfl
        rotate_left
        · simp only [Act.put, List.setIfInBounds_toArray, List.set_cons_zero, List.set_cons_succ, i64_w, i32_w]
          rfl
        refine pure_ (i := 21) (N := some 191) (v := ?_) (a' := ?_) (bb 37 4194303) rfl rfl (by kernel_rfl) (fun _ _ _ h => h) (Or.inl ⟨by rfl, ?_⟩) ?_ ?_
        rotate_left
        · intro w'
          go_simp
          with_reducible rfl
        rotate_left
        · simp only [Act.put, List.setIfInBounds_toArray, List.set_cons_zero, List.set_cons_succ, i64_w, i32_w]
          rfl
        refine take_ (i := 22) (N := some 192) (v := ?_) (a' := ?_) (bb 37 8388607) rfl rfl (by kernel_rfl) (fun _ _ _ h => h) (Or.inl ⟨by rfl, ?_⟩) hHeld ?_ ?_
        rotate_left
        · intro w' hSw
          obtain ⟨q0, q1, q2, q3, q4, q5, -⟩ := six hSw
          go_simp
          with_reducible rfl
        rotate_left
        · simp only [Act.put, List.setIfInBounds_toArray, List.set_cons_zero, List.set_cons_succ, i64_w, i32_w]
          rfl
        refine pure_ (i := 23) (N := some 193) (v := ?_) (a' := ?_) (bb 37 16777215) rfl rfl (by kernel_rfl) (fun _ _ _ h => h) (Or.inl ⟨by rfl, ?_⟩) ?_ ?_
        rotate_left
        · intro w'
          go_simp
          with_reducible rfl
        rotate_left
        · simp only [Act.put, List.setIfInBounds_toArray, List.set_cons_zero, List.set_cons_succ, i64_w, i32_w]
          rfl
        refine pure_ (i := 24) (N := some 194) (v := ?_) (a' := ?_) (bb 37 33554431) rfl rfl (by kernel_rfl) (fun _ _ _ h => h) (Or.inl ⟨by rfl, ?_⟩) ?_ ?_
        rotate_left
        · intro w'
          go_simp
          with_reducible rfl
        rotate_left
        · simp only [Act.put, List.setIfInBounds_toArray, List.set_cons_zero, List.set_cons_succ, i64_w, i32_w]
          rfl
        refine pure_ (i := 25) (N := some 195) (v := ?_) (a' := ?_) (bb 37 67108863) rfl rfl (by kernel_rfl) (fun _ _ _ h => h) (Or.inl ⟨by rfl, ?_⟩) ?_ ?_
        rotate_left
        · intro w'
          go_simp
          with_reducible rfl
        rotate_left
        · simp only [Act.put, List.setIfInBounds_toArray, List.set_cons_zero, List.set_cons_succ, i64_w, i32_w]
          rfl
        refine pure_ (i := 26) (N := some 196) (v := ?_) (a' := ?_) (bb 37 134217727) rfl rfl (by kernel_rfl) (fun _ _ _ h => h) (Or.inl ⟨by rfl, ?_⟩) ?_ ?_
        rotate_left
        · intro w'
          go_simp
          with_reducible rfl
        rotate_left
        · simp only [Act.put, List.setIfInBounds_toArray, List.set_cons_zero, List.set_cons_succ, i64_w, i32_w]
          rfl
        refine pure_ (i := 27) (N := some 197) (v := ?_) (a' := ?_) (bb 37 268435455) rfl rfl (by kernel_rfl) (fun _ _ _ h => h) (Or.inl ⟨by rfl, ?_⟩) ?_ ?_
        rotate_left
        · intro w'
          go_simp
          with_reducible rfl
        rotate_left
        · simp only [Act.put, List.setIfInBounds_toArray, List.set_cons_zero, List.set_cons_succ, i64_w, i32_w]
          rfl
        refine take_ (i := 28) (N := some 198) (v := ?_) (a' := ?_) (bb 37 536870911) rfl rfl (by kernel_rfl) (fun _ _ _ h => h) (Or.inl ⟨by rfl, ?_⟩) hHeld ?_ ?_
        rotate_left
        · intro w' hSw
          obtain ⟨q0, q1, q2, q3, q4, q5, -⟩ := six hSw
          go_simp
          with_reducible rfl
        rotate_left
        · simp only [Act.put, List.setIfInBounds_toArray, List.set_cons_zero, List.set_cons_succ, i64_w, i32_w]
          rfl
        refine pure_ (i := 29) (N := some 199) (v := ?_) (a' := ?_) (bb 37 1073741823) rfl rfl (by kernel_rfl) (fun _ _ _ h => h) (Or.inl ⟨by rfl, ?_⟩) ?_ ?_
        rotate_left
        · intro w'
          go_simp
          with_reducible rfl
        rotate_left
        · simp only [Act.put, List.setIfInBounds_toArray, List.set_cons_zero, List.set_cons_succ, i64_w, i32_w]
          rfl
        refine pure_ (i := 30) (N := some 200) (v := ?_) (a' := ?_) (bb 37 2147483647) rfl rfl (by kernel_rfl) (fun _ _ _ h => h) (Or.inl ⟨by rfl, ?_⟩) ?_ ?_
        rotate_left
        · intro w'
          go_simp
          with_reducible rfl
        rotate_left
        · simp only [Act.put, List.setIfInBounds_toArray, List.set_cons_zero, List.set_cons_succ, i64_w, i32_w]
          rfl
        refine pure_ (i := 31) (N := some 201) (v := ?_) (a' := ?_) (bb 37 4294967295) rfl rfl (by kernel_rfl) (fun _ _ _ h => h) (Or.inl ⟨by rfl, ?_⟩) ?_ ?_
        rotate_left
        · intro w'
          go_simp
          with_reducible rfl
        rotate_left
        · simp only [Act.put, List.setIfInBounds_toArray, List.set_cons_zero, List.set_cons_succ, i64_w, i32_w]
          rfl
        refine pure_ (i := 32) (N := some 202) (v := ?_) (a' := ?_) (bb 37 8589934591) rfl rfl (by kernel_rfl) (fun _ _ _ h => h) (Or.inl ⟨by rfl, ?_⟩) ?_ ?_
        rotate_left
        · intro w'
          go_simp
          with_reducible rfl
        rotate_left
        · simp only [Act.put, List.setIfInBounds_toArray, List.set_cons_zero, List.set_cons_succ, i64_w, i32_w]
          rfl
        refine pure_ (i := 33) (N := some 203) (v := ?_) (a' := ?_) (bb 37 17179869183) rfl rfl (by kernel_rfl) (fun _ _ _ h => h) (Or.inl ⟨by rfl, ?_⟩) ?_ ?_
        rotate_left
        · intro w'
          go_simp
          with_reducible rfl
        rotate_left
        · simp only [Act.put, List.setIfInBounds_toArray, List.set_cons_zero, List.set_cons_succ, i64_w, i32_w]
          rfl
        refine take_ (i := 34) (N := some 204) (v := ?_) (a' := ?_) (bb 37 34359738367) rfl rfl (by kernel_rfl) (fun _ _ _ h => h) (Or.inl ⟨by rfl, ?_⟩) hHeld ?_ ?_
        rotate_left
        · intro w' hSw
          obtain ⟨q0, q1, q2, q3, q4, q5, -⟩ := six hSw
          go_simp
          with_reducible rfl
        rotate_left
        · simp only [Act.put, List.setIfInBounds_toArray, List.set_cons_zero, List.set_cons_succ, i64_w, i32_w]
          rfl
        refine pure_ (i := 35) (N := some 205) (v := ?_) (a' := ?_) (bb 37 68719476735) rfl rfl (by kernel_rfl) (fun _ _ _ h => h) (Or.inl ⟨by rfl, ?_⟩) ?_ ?_
        rotate_left
        · intro w'
          go_simp
          with_reducible rfl
        rotate_left
        · simp only [Act.put, List.setIfInBounds_toArray, List.set_cons_zero, List.set_cons_succ, i64_w, i32_w]
          rfl
        refine pure_ (i := 36) (N := some 206) (v := ?_) (a' := ?_) (bb 37 137438953471) rfl rfl (by kernel_rfl) (fun _ _ _ h => h) (Or.inl ⟨by rfl, ?_⟩) ?_ ?_
        rotate_left
        · intro w'
          go_simp
          with_reducible rfl
        rotate_left
        · simp only [Act.put, List.setIfInBounds_toArray, List.set_cons_zero, List.set_cons_succ, i64_w, i32_w]
          rfl
        refine done_ (by kernel_rfl) ?_
        clear hHeld
        obtain ⟨w11, hw11⟩ : ∃ w11, w11 = w' := ⟨_, rfl⟩
        rw [← hw11] at HPC ⊢
        clear hw11
        go_wp2
        go_roundw
        case rel => exact ⟨k + 1, by go_num, ⟨HK.out.1, s1, _, _, A2, n2, c2, l2, HPC.out, HR1.out, HJ1.out⟩⟩
        case measure => simp only [num]; have := HK.out.1; omega
    · have b0 : decide ((k : Int) < (nn : Int)) = false := decide_eq_false (by omega)
      have b1 : decide (k < nn) = false := decide_eq_false hlt
      have HB := Aside0.mk hO.bl
      clear hk hnn hlt hO
      go_wp2_with (go_at_call 28; refine (live_calls _).mono ?_; rintro e w8 ⟨rfl, hB⟩; replace HB := Aside0.mk (below_step HB.out hB); clear hB)
      go_ret
      exact ⟨rfl, HB.out⟩
end Go.Proofs.Ytimgfdkndlbfbaa.PBackL
