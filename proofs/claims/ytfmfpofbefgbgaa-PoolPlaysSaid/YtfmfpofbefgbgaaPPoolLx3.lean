/- The law PoolPlays: for any acts. Conditions: each theorem's own. -/
import Derived.Test.YtfmfpofbefgbgaaHPoolR6
import Derived.Deep.CutBlock
namespace Go.Proofs.Ytfmfpofbefgbgaa.PPoolL
open Go.RowKit Go.Proofs.YtfmfpofbefgbgaaW.PrintWords Go.Proofs.YtfmfpofbefgbgaaW.PrintLast Go.Proofs.YtfmfpofbefgbgaaW.PrintMore Go.Proofs.Ytfmfpofbefgbgaa.HPoolS Go.Proofs.Ytfmfpofbefgbgaa.HPool Go.Proofs.Ytfmfpofbefgbgaa.HSl Go.Proofs.Ytfmfpofbefgbgaa.HPoolR Go.Proofs.Ytfmfpofbefgbgaa.HReg
set_option linter.unusedVariables false
set_option linter.unusedSimpArgs false
theorem zeros_at : ∀ j, j < 32 → (#[.slice none 0 0, .slice none 0 0, .slice none 0 0, .slice none 0 0, .slice none 0 0, .slice none 0 0, .slice none 0 0, .slice none 0 0, .slice none 0 0, .slice none 0 0, .slice none 0 0, .slice none 0 0, .slice none 0 0, .slice none 0 0, .slice none 0 0, .slice none 0 0, .slice none 0 0, .slice none 0 0, .slice none 0 0, .slice none 0 0, .slice none 0 0, .slice none 0 0, .slice none 0 0, .slice none 0 0, .slice none 0 0, .slice none 0 0, .slice none 0 0, .slice none 0 0, .slice none 0 0, .slice none 0 0, .slice none 0 0, .slice none 0 0] : Array Value)[j]? = some (.slice none 0 0) := by
  intro j hj
  rcases j with _ | _ | _ | _ | _ | _ | _ | _ | _ | _ | _ | _ | _ | _ | _ | _ | _ | _ | _ | _ | _ | _ | _ | _ | _ | _ | _ | _ | _ | _ | _ | _ | j <;> first | rfl | omega
/-- What a round knows. -/
structure Pm (w0 w : World) (pb gr : Nat) (r : RS) (cells : Array Value) : Prop where
  tq : Tq w0 w pb r
  rf : Rf w cells r
  bx : w.heap[gr]? = some (.cells cells 93 (0, 0))
  lo : w0.heap.size ≤ gr
theorem Pm.start {w0 w : World} {pb : Nat} (h : Tq w0 w pb r0) : Pm w0 (w.alloc (.cells #[.slice none 0 0, .slice none 0 0, .slice none 0 0, .slice none 0 0, .slice none 0 0, .slice none 0 0, .slice none 0 0, .slice none 0 0, .slice none 0 0, .slice none 0 0, .slice none 0 0, .slice none 0 0, .slice none 0 0, .slice none 0 0, .slice none 0 0, .slice none 0 0, .slice none 0 0, .slice none 0 0, .slice none 0 0, .slice none 0 0, .slice none 0 0, .slice none 0 0, .slice none 0 0, .slice none 0 0, .slice none 0 0, .slice none 0 0, .slice none 0 0, .slice none 0 0, .slice none 0 0, .slice none 0 0, .slice none 0 0, .slice none 0 0] 93)) pb w.heap.size r0 #[.slice none 0 0, .slice none 0 0, .slice none 0 0, .slice none 0 0, .slice none 0 0, .slice none 0 0, .slice none 0 0, .slice none 0 0, .slice none 0 0, .slice none 0 0, .slice none 0 0, .slice none 0 0, .slice none 0 0, .slice none 0 0, .slice none 0 0, .slice none 0 0, .slice none 0 0, .slice none 0 0, .slice none 0 0, .slice none 0 0, .slice none 0 0, .slice none 0 0, .slice none 0 0, .slice none 0 0, .slice none 0 0, .slice none 0 0, .slice none 0 0, .slice none 0 0, .slice none 0 0, .slice none 0 0, .slice none 0 0, .slice none 0 0] :=
  ⟨h.below (below_alloc (Below.refl _ _) _), ⟨rfl, fun i hi => ⟨_, zeros_at _ (by omega), Rb.nil _⟩, fun i hi => ⟨_, zeros_at _ (by omega), Rb.nil _⟩⟩, blk_new w _, h.bl.size⟩
section
variable {w0 w w' : World} {pb gr : Nat} {r r' : RS} {cells cells' : Array Value}
theorem Pm.below (h : Pm w0 w pb gr r cells) (hB : Below w.heap.size w w') : Pm w0 w' pb gr r cells := ⟨h.tq.below hB, h.rf.below hB, blk_below h.bx hB, h.lo⟩
theorem Tq.row {g : Nat} {cs cs2 : Array Value} (h : Tq w0 w pb r) (hg : w.heap[g]? = some (.cells cs 93 (0, 0))) (hlo : w0.heap.size ≤ g) : Tq w0 (w.setRow g cs2) pb r := by
  obtain ⟨mp, fv, s, hP, hR⟩ := h.ex
  obtain ⟨cells, h1, h2, h3⟩ := hP.blk
  have hne : ∀ (k : Nat) (o : Obj), w.heap[k]? = some o → (∀ cs, o ≠ .cells cs 93 (0, 0)) → (w.setRow g cs2).heap[k]? = w.heap[k]? := fun k o hk ho => setRow_other w g k _ (by rintro rfl; rw [hg] at hk; injection hk with hk; exact ho _ hk.symm)
  refine ⟨⟨mp, fv, s, ⟨⟨cells, (hne pb _ h1 (fun cs e => by cases e)).trans h1, h2, h3⟩, hP.lo, fun i hi => ?_, fun i hi => (hP.F i hi).keep (fun k hk _ => ?_), hP.apM, hP.apF⟩, hR⟩, row_below h.bl hlo _⟩
  · obtain ⟨es, clock, hb, -⟩ := hP.M i hi
    exact (hP.M i hi).keep (hne _ _ hb (fun cs e => by cases e))
  · obtain ⟨cur, hc⟩ := Sl.own_cells (hP.F i hi) hk
    exact hne k _ hc (fun cs e => by cases e)
/-- The reference's answer is stored. -/
theorem Pm.store (hT : Tq w0 w pb r') (hR : Rf w' cells' r') (hB : Below w.heap.size w w') (hx : w.heap[gr]? = some (.cells cells 93 (0, 0))) (hlo : w0.heap.size ≤ gr) : Pm w0 (w'.setRow gr cells') pb gr r' cells' := by
  have hx' := blk_below hx hB
  exact ⟨Tq.row (hT.below hB) hx' hlo, hR.row hx' (by decide), setRow_heap w' gr _ cells' 93 (0, 0) hx', hlo⟩
theorem row_kept {g : Nat} {cs cs2 old : Array Value} {t : TypeId} (h : w.heap[g]? = some (.cells cs t (0, 0))) (hx : w.heap[gr]? = some (.cells old 93 (0, 0))) (ht : t ≠ 93) : (w.setRow gr cs2).heap[g]? = some (.cells cs t (0, 0)) := (setRow_other w gr g _ (by
  rintro rfl
  rw [hx] at h
  injection h with h
  injection h with _ h
  exact ht h.symm)).trans h
end
set_option maxRecDepth 100000 in
set_option maxHeartbeats 16000000 in
theorem plays_all (A1 : Option Addr) (n c1 : Nat) (w : World) (h : Acts w A1 n) (hn : n ≤ 60) :
    Calls Try.prog 11 #[.slice A1 n c1] w fun e w' => e = .returned (.bool true) ∧ Below w.heap.size w w' := by
  have d0 : decide (60 < (n : Int)) = false := decide_eq_false (by omega)
  have HA := Aside0.mk h
  have HN := Aside0.mk hn
  clear h hn
  go_enter Try.func11, Try.ntmps11
  go_upto_region 4 with (go_at_call 29; refine (new_q _).mono ?_; rintro e w1 ⟨pb, rfl, hT, hB⟩; have L := Aside0.mk (Pm.start (show Tq w w1 pb r0 from hT)); clear hT hB)
  go_wp2
  obtain ⟨gr, hgr⟩ : ∃ gr, gr = w1.heap.size := ⟨_, rfl⟩
  rw [← hgr] at L ⊢
  clear hgr
  have HH : Aside0 (0 ≤ n ∧ ∃ r cells, Pm w (w1.alloc (.cells #[.slice none 0 0, .slice none 0 0, .slice none 0 0, .slice none 0 0, .slice none 0 0, .slice none 0 0, .slice none 0 0, .slice none 0 0, .slice none 0 0, .slice none 0 0, .slice none 0 0, .slice none 0 0, .slice none 0 0, .slice none 0 0, .slice none 0 0, .slice none 0 0, .slice none 0 0, .slice none 0 0, .slice none 0 0, .slice none 0 0, .slice none 0 0, .slice none 0 0, .slice none 0 0, .slice none 0 0, .slice none 0 0, .slice none 0 0, .slice none 0 0, .slice none 0 0, .slice none 0 0, .slice none 0 0, .slice none 0 0, .slice none 0 0] 93)) pb gr r cells) := ⟨Nat.zero_le _, _, _, L.out⟩
  generalize w1.alloc (.cells #[.slice none 0 0, .slice none 0 0, .slice none 0 0, .slice none 0 0, .slice none 0 0, .slice none 0 0, .slice none 0 0, .slice none 0 0, .slice none 0 0, .slice none 0 0, .slice none 0 0, .slice none 0 0, .slice none 0 0, .slice none 0 0, .slice none 0 0, .slice none 0 0, .slice none 0 0, .slice none 0 0, .slice none 0 0, .slice none 0 0, .slice none 0 0, .slice none 0 0, .slice none 0 0, .slice none 0 0, .slice none 0 0, .slice none 0 0, .slice none 0 0, .slice none 0 0, .slice none 0 0, .slice none 0 0, .slice none 0 0, .slice none 0 0] 93) = w2 at HH ⊢
  clear L
  go_loopw [5] (fun i wr => ∃ (k : Nat), i = .int .i64 k ∧ Aside0 (k ≤ n ∧ ∃ r cells, Pm w wr pb gr r cells)) (fun i _ => n - num i)
  case atStart => exact ⟨0, rfl, HH⟩
  case round =>
    clear HH
    obtain ⟨k, rfl, ⟨hk, r, cells, hP⟩⟩ := hrel
    have hnn := HN.out
    by_cases hlt : k < n
    · have b0 : decide ((k : Int) < (n : Int)) = true := decide_eq_true (by omega)
      have b1 : decide (k < n) = true := decide_eq_true hlt
      have b2 : (k < n) = True := eq_true hlt
      have b3 : ((k : Int) < (n : Int)) = True := eq_true (by omega)
      have e1 : IntKind.i64.wrap ((k : Int) + 1) = (k : Int) + 1 := wid _ (by omega) (by omega)
      obtain ⟨ad, rfl, d, g, i, nn, z, hact⟩ := HA.out k hlt
      obtain ⟨a0, a1, a2, a3, a4, wi⟩ := hact.below hP.tq.bl
      have HK := Aside0.mk hlt
      have HJ := Aside0.mk wi
      have HB := Aside0.mk (below_alloc (Below.refl wr.heap.size wr) (.cells #[.int .i64 d, .int .i64 g, .int .i64 i, .int .i64 nn, .int .i64 z] 51))
      have HG := Aside0.mk (blk_new wr (.cells #[.int .i64 d, .int .i64 g, .int .i64 i, .int .i64 nn, .int .i64 z] 51))
      have HP := Aside0.mk (hP.below HB.out)
      clear hk hnn hlt hact hP wi
      go_upto_region 9 with (fail)
      clear a0 a1 a2 a3 a4 HB
      obtain ⟨g9, hg9⟩ : ∃ g9, g9 = wr.heap.size := ⟨_, rfl⟩
      rw [← hg9] at HG ⊢
      clear hg9
      generalize wr.alloc (.cells #[.int .i64 d, .int .i64 g, .int .i64 i, .int .i64 nn, .int .i64 z] 51) = w2 at HG HP ⊢
      have z0 := (blk_cell HG.out 0).trans rfl; have z1 := (blk_cell HG.out 1).trans rfl; have z2 := (blk_cell HG.out 2).trans rfl; have z3 := (blk_cell HG.out 3).trans rfl; have z4 := (blk_cell HG.out 4).trans rfl
      go_upto_block 2 with (fail)
      go_cut [7, 8, 9, 10, 11, 12, 13, 14, 15, 16, 17] from 37 to 127 (fun x7 x8 x9 x10 x11 x12 x13 x14 x15 x16 x17 wx => ∃ p q s : Int, x7 = .int .i64 p ∧ x8 = .int .i64 p ∧ x9 = .int .i64 q ∧ x10 = .int .i64 q ∧ x11 = .int .i64 s ∧ x12 = .int .i64 s ∧ Aside0 (∃ r' cells', Pm w wx pb gr r' cells' ∧ wx.heap[g9]? = some (.cells #[.int .i64 d, .int .i64 g, .int .i64 i, .int .i64 nn, .int .i64 z] 51 (0, 0))))
      case first =>
        by_cases hd0 : d = 0
        · subst hd0
          obtain ⟨r2, cd, hR⟩ : ∃ r2 cd, provR r g i nn z = (r2, cd) := ⟨_, _, rfl⟩
          go_wp2_with (first | (go_at_call 30; have hh := provide_q HP.out.tq g i nn z; rw [hR] at hh; with_reducible refine hh.mono ?_; clear hh; rintro e w3 ⟨rfl, hT, hK⟩; have HT3 := Aside0.mk hT; have HR3 := Aside0.mk (HP.out.rf.kq hK); have HX3 := Aside0.mk (hK.old gr _ 93 HP.out.bx (by decide) (by decide)); replace HG := Aside0.mk (box_kq HG.out hK); clear hT hK z0 z1 z2 z3 z4; have z0 := (blk_cell HG.out 0).trans rfl; have z1 := (blk_cell HG.out 1).trans rfl; have z2 := (blk_cell HG.out 2).trans rfl; have z3 := (blk_cell HG.out 3).trans rfl; have z4 := (blk_cell HG.out 4).trans rfl) | (go_at_call 51; have hh := rprov_calls HR3.out (Tq.few HP.out.tq) g i nn z; rw [hR] at hh; with_reducible refine hh.mono ?_; clear hh; rintro e w5 ⟨cells5, rfl, hR5, hB5⟩; have HP5 := Aside0.mk (Pm.store HT3.out hR5 hB5 HX3.out HP.out.lo); have HS5 := Aside0.mk (And.intro hR5.sz hR5.one); have HX5 := Aside0.mk (blk_below HX3.out hB5); have HG5 := Aside0.mk (blk_below HG.out hB5); clear hR5 hB5) | ((with_reducible refine wpList_load_row rfl 93 (.tmp 4) rfl gr rfl 93 cells (0, 0) _ HX3.out Try.underlying93 rfl ?hi ?_); (case hi => rw [info93, HP.out.rf.sz])) | ((with_reducible refine store_step rfl (.tmp 4) (.tmp 61) rfl rfl gr cells5 rfl rfl _ HX5.out HS5.out.1 HP.out.rf.sz HS5.out.2 ?_); replace HG := Aside0.mk (row_kept (cs2 := cells5) HG5.out HX5.out (by decide)); generalize World.setRow _ gr cells5 = w7 at HP5 HG ⊢; clear HG5 HX5 z0 z1 z2 z3 z4) | (go_at_call 32; refine (code_calls _ _).mono ?_; rintro e w9 ⟨rfl, rfl⟩))
          go_meet
          exact ⟨cd, 0, 0, rfl, rfl, rfl, rfl, rfl, rfl, ⟨_, _, HP5.out, HG.out⟩⟩
        have q0 : (d == 0) = false := beq_eq_false_iff_ne.2 hd0
        have y0 : decide (d = 0) = false := decide_eq_false hd0
        by_cases hd1 : d = 1
        · subst hd1
          obtain ⟨r2, x, zz, cd, hR⟩ : ∃ r2 x zz cd, takeR r g = (r2, x, zz, cd) := ⟨_, _, _, _, rfl⟩
          go_wp2_with (first | (go_at_call 31; have hh := take_q HP.out.tq g; rw [hR] at hh; with_reducible refine hh.mono ?_; clear hh; rintro e w3 ⟨rfl, hT, hK⟩; have HT3 := Aside0.mk hT; have HR3 := Aside0.mk (HP.out.rf.kq hK); have HX3 := Aside0.mk (hK.old gr _ 93 HP.out.bx (by decide) (by decide)); replace HG := Aside0.mk (box_kq HG.out hK); clear hT hK z0 z1 z2 z3 z4; have z0 := (blk_cell HG.out 0).trans rfl; have z1 := (blk_cell HG.out 1).trans rfl; have z2 := (blk_cell HG.out 2).trans rfl; have z3 := (blk_cell HG.out 3).trans rfl; have z4 := (blk_cell HG.out 4).trans rfl) | (go_at_call 52; have hh := rtake_calls HR3.out (Tq.few HP.out.tq) g; rw [hR] at hh; with_reducible refine hh.mono ?_; clear hh; rintro e w5 ⟨cells5, rfl, hR5, hB5⟩; have HP5 := Aside0.mk (Pm.store HT3.out hR5 hB5 HX3.out HP.out.lo); have HS5 := Aside0.mk (And.intro hR5.sz hR5.one); have HX5 := Aside0.mk (blk_below HX3.out hB5); have HG5 := Aside0.mk (blk_below HG.out hB5); clear hR5 hB5) | ((with_reducible refine wpList_load_row rfl 93 (.tmp 4) rfl gr rfl 93 cells (0, 0) _ HX3.out Try.underlying93 rfl ?hi ?_); (case hi => rw [info93, HP.out.rf.sz])) | ((with_reducible refine store_step rfl (.tmp 4) (.tmp 82) rfl rfl gr cells5 rfl rfl _ HX5.out HS5.out.1 HP.out.rf.sz HS5.out.2 ?_); replace HG := Aside0.mk (row_kept (cs2 := cells5) HG5.out HX5.out (by decide)); generalize World.setRow _ gr cells5 = w7 at HP5 HG ⊢; clear HG5 HX5 z0 z1 z2 z3 z4) | (go_at_call 32; refine (code_calls _ _).mono ?_; rintro e w9 ⟨rfl, rfl⟩))
          go_meet
          exact ⟨cd, x, zz, rfl, rfl, rfl, rfl, rfl, rfl, ⟨_, _, HP5.out, HG.out⟩⟩
        have q1 : (d == 1) = false := beq_eq_false_iff_ne.2 hd1
        have y1 : decide (d = 1) = false := decide_eq_false hd1
        by_cases hd2 : d = 2
        · subst hd2
          obtain ⟨r2, cd, hR⟩ : ∃ r2 cd, giveR r g i = (r2, cd) := ⟨_, _, rfl⟩
          go_wp2_with (first | (go_at_call 33; have hh := give_q HP.out.tq g i HJ.out; rw [hR] at hh; with_reducible refine hh.mono ?_; clear hh; rintro e w3 ⟨rfl, hT, hK⟩; have HT3 := Aside0.mk hT; have HR3 := Aside0.mk (HP.out.rf.kq hK); have HX3 := Aside0.mk (hK.old gr _ 93 HP.out.bx (by decide) (by decide)); replace HG := Aside0.mk (box_kq HG.out hK); clear hT hK z0 z1 z2 z3 z4; have z0 := (blk_cell HG.out 0).trans rfl; have z1 := (blk_cell HG.out 1).trans rfl; have z2 := (blk_cell HG.out 2).trans rfl; have z3 := (blk_cell HG.out 3).trans rfl; have z4 := (blk_cell HG.out 4).trans rfl) | (go_at_call 53; have hh := rgive_calls HR3.out (Tq.few HP.out.tq) g i; rw [hR] at hh; with_reducible refine hh.mono ?_; clear hh; rintro e w5 ⟨cells5, rfl, hR5, hB5⟩; have HP5 := Aside0.mk (Pm.store HT3.out hR5 hB5 HX3.out HP.out.lo); have HS5 := Aside0.mk (And.intro hR5.sz hR5.one); have HX5 := Aside0.mk (blk_below HX3.out hB5); have HG5 := Aside0.mk (blk_below HG.out hB5); clear hR5 hB5) | ((with_reducible refine wpList_load_row rfl 93 (.tmp 4) rfl gr rfl 93 cells (0, 0) _ HX3.out Try.underlying93 rfl ?hi ?_); (case hi => rw [info93, HP.out.rf.sz])) | ((with_reducible refine store_step rfl (.tmp 4) (.tmp 102) rfl rfl gr cells5 rfl rfl _ HX5.out HS5.out.1 HP.out.rf.sz HS5.out.2 ?_); replace HG := Aside0.mk (row_kept (cs2 := cells5) HG5.out HX5.out (by decide)); generalize World.setRow _ gr cells5 = w7 at HP5 HG ⊢; clear HG5 HX5 z0 z1 z2 z3 z4) | (go_at_call 32; refine (code_calls _ _).mono ?_; rintro e w9 ⟨rfl, rfl⟩))
          go_meet
          exact ⟨cd, 0, 0, rfl, rfl, rfl, rfl, rfl, rfl, ⟨_, _, HP5.out, HG.out⟩⟩
        have q2 : (d == 2) = false := beq_eq_false_iff_ne.2 hd2
        have y2 : decide (d = 2) = false := decide_eq_false hd2
        by_cases hd3 : d = 3
        · subst hd3
          obtain ⟨r2, x, cd, hR⟩ : ∃ r2 x cd, remR r g nn = (r2, x, cd) := ⟨_, _, _, rfl⟩
          go_wp2_with (first | (go_at_call 34; have hh := remove_q HP.out.tq g nn; rw [hR] at hh; with_reducible refine hh.mono ?_; clear hh; rintro e w3 ⟨rfl, hT, hK⟩; have HT3 := Aside0.mk hT; have HR3 := Aside0.mk (HP.out.rf.kq hK); have HX3 := Aside0.mk (hK.old gr _ 93 HP.out.bx (by decide) (by decide)); replace HG := Aside0.mk (box_kq HG.out hK); clear hT hK z0 z1 z2 z3 z4; have z0 := (blk_cell HG.out 0).trans rfl; have z1 := (blk_cell HG.out 1).trans rfl; have z2 := (blk_cell HG.out 2).trans rfl; have z3 := (blk_cell HG.out 3).trans rfl; have z4 := (blk_cell HG.out 4).trans rfl) | (go_at_call 54; have hh := rrem_calls HR3.out (Tq.few HP.out.tq) g nn; rw [hR] at hh; with_reducible refine hh.mono ?_; clear hh; rintro e w5 ⟨cells5, rfl, hR5, hB5⟩; have HP5 := Aside0.mk (Pm.store HT3.out hR5 hB5 HX3.out HP.out.lo); have HS5 := Aside0.mk (And.intro hR5.sz hR5.one); have HX5 := Aside0.mk (blk_below HX3.out hB5); have HG5 := Aside0.mk (blk_below HG.out hB5); clear hR5 hB5) | ((with_reducible refine wpList_load_row rfl 93 (.tmp 4) rfl gr rfl 93 cells (0, 0) _ HX3.out Try.underlying93 rfl ?hi ?_); (case hi => rw [info93, HP.out.rf.sz])) | ((with_reducible refine store_step rfl (.tmp 4) (.tmp 125) rfl rfl gr cells5 rfl rfl _ HX5.out HS5.out.1 HP.out.rf.sz HS5.out.2 ?_); replace HG := Aside0.mk (row_kept (cs2 := cells5) HG5.out HX5.out (by decide)); generalize World.setRow _ gr cells5 = w7 at HP5 HG ⊢; clear HG5 HX5 z0 z1 z2 z3 z4) | (go_at_call 32; refine (code_calls _ _).mono ?_; rintro e w9 ⟨rfl, rfl⟩))
          go_meet
          exact ⟨cd, x, 0, rfl, rfl, rfl, rfl, rfl, rfl, ⟨_, _, HP5.out, HG.out⟩⟩
        have q3 : (d == 3) = false := beq_eq_false_iff_ne.2 hd3
        have y3 : decide (d = 3) = false := decide_eq_false hd3
        go_wp2
        go_meet
        exact ⟨0, 0, 0, rfl, rfl, rfl, rfl, rfl, rfl, ⟨_, _, HP.out, HG.out⟩⟩
      case rest =>
        obtain ⟨p, q, s, rfl, rfl, rfl, rfl, rfl, rfl, ⟨r', cells', hP', hG'⟩⟩ := hcut
        have HP := Aside0.mk hP'
        have HG := Aside0.mk hG'
        have t1 : (p != p) = false := bne_self_eq_false _
        have t2 : (q != q) = false := bne_self_eq_false _
        have t3 : (s != s) = false := bne_self_eq_false _
        have t4 : (stR r' g i != stR r' g i) = false := bne_self_eq_false _
        clear hP' hG' z0 z1 z2 z3 z4
        go_upto_region 25 with (fail)
        refine start_ (n := 28) (S := fun w' => w'.heap[gr]? = some (.cells cells' 93 (0, 0)) ∧ w'.heap[g9]? = some (.cells #[.int .i64 d, .int .i64 g, .int .i64 i, .int .i64 nn, .int .i64 z] 51 (0, 0))) (ds := []) (bb 28 0) (by kernel_rfl) rfl rfl (⟨HP.out.bx, HG.out⟩) (fun hHeld => ?_)
        replace HP := Aside0.mk (HP.out.below (below_drew (Below.refl _ _)))
        replace HG := Aside0.mk (blk_drew HG.out)
        generalize World.drew _ = w20 at HP HG hHeld ⊢
        refine pure_ (i := 0) (N := some 128) (v := ?_) (a' := ?_) (bb 28 1) rfl rfl (by kernel_rfl) (fun _ _ _ h => h) (Or.inl ⟨by rfl, ?_⟩) ?_ ?_
        rotate_left
        · intro w'
          go_simp
          with_reducible rfl
        rotate_left
        · simp only [Act.put, List.setIfInBounds_toArray, List.set_cons_zero, List.set_cons_succ, i64_w, i32_w]
          rfl
        refine pure_ (i := 1) (N := some 129) (v := ?_) (a' := ?_) (bb 28 3) rfl rfl (by kernel_rfl) (fun _ _ _ h => h) (Or.inl ⟨by rfl, ?_⟩) ?_ ?_
        rotate_left
        · intro w'
          go_simp
          with_reducible rfl
        rotate_left
        · simp only [Act.put, List.setIfInBounds_toArray, List.set_cons_zero, List.set_cons_succ, i64_w, i32_w]
          rfl
        refine pure_ (i := 2) (N := some 130) (v := ?_) (a' := ?_) (bb 28 7) rfl rfl (by kernel_rfl) (fun _ _ _ h => h) (Or.inl ⟨by rfl, ?_⟩) ?_ ?_
        rotate_left
        · intro w'
          go_simp
          with_reducible rfl
        rotate_left
        · simp only [Act.put, List.setIfInBounds_toArray, List.set_cons_zero, List.set_cons_succ, i64_w, i32_w]
          rfl
        refine pure_ (i := 3) (N := some 131) (v := ?_) (a' := ?_) (bb 28 15) rfl rfl (by kernel_rfl) (fun _ _ _ h => h) (Or.inl ⟨by rfl, ?_⟩) ?_ ?_
        rotate_left
        · intro w'
          go_simp
          with_reducible rfl
        rotate_left
        · simp only [Act.put, List.setIfInBounds_toArray, List.set_cons_zero, List.set_cons_succ, i64_w, i32_w]
          rfl
        refine pure_ (i := 4) (N := some 132) (v := ?_) (a' := ?_) (bb 28 31) rfl rfl (by kernel_rfl) (fun _ _ _ h => h) (Or.inl ⟨by rfl, ?_⟩) ?_ ?_
        rotate_left
        · intro w'
          go_simp
          with_reducible rfl
        rotate_left
        · simp only [Act.put, List.setIfInBounds_toArray, List.set_cons_zero, List.set_cons_succ, i64_w, i32_w]
          rfl
        refine pure_ (i := 5) (N := some 133) (v := ?_) (a' := ?_) (bb 28 63) rfl rfl (by kernel_rfl) (fun _ _ _ h => h) (Or.inl ⟨by rfl, ?_⟩) ?_ ?_
        rotate_left
        · intro w'
          go_simp
          with_reducible rfl
        rotate_left
        · simp only [Act.put, List.setIfInBounds_toArray, List.set_cons_zero, List.set_cons_succ, i64_w, i32_w]
          rfl
        refine pure_ (i := 6) (N := some 134) (v := ?_) (a' := ?_) (bb 28 127) rfl rfl (by kernel_rfl) (fun _ _ _ h => h) (Or.inl ⟨by rfl, ?_⟩) ?_ ?_
        rotate_left
        · intro w'
          go_simp
          with_reducible rfl
        rotate_left
        · simp only [Act.put, List.setIfInBounds_toArray, List.set_cons_zero, List.set_cons_succ, i64_w, i32_w]
          rfl
        refine pure_ (i := 7) (N := some 135) (v := ?_) (a' := ?_) (bb 28 255) rfl rfl (by kernel_rfl) (fun _ _ _ h => h) (Or.inl ⟨by rfl, ?_⟩) ?_ ?_
        rotate_left
        · intro w'
          go_simp
          with_reducible rfl
        rotate_left
        · simp only [Act.put, List.setIfInBounds_toArray, List.set_cons_zero, List.set_cons_succ, i64_w, i32_w]
          rfl
        refine pure_ (i := 8) (N := some 136) (v := ?_) (a' := ?_) (bb 28 511) rfl rfl (by kernel_rfl) (fun _ _ _ h => h) (Or.inl ⟨by rfl, ?_⟩) ?_ ?_
        rotate_left
        · intro w'
          go_simp
          with_reducible rfl
        rotate_left
        · simp only [Act.put, List.setIfInBounds_toArray, List.set_cons_zero, List.set_cons_succ, i64_w, i32_w]
          rfl
        refine pure_ (i := 9) (N := some 137) (v := ?_) (a' := ?_) (bb 28 1023) rfl rfl (by kernel_rfl) (fun _ _ _ h => h) (Or.inl ⟨by rfl, ?_⟩) ?_ ?_
        rotate_left
        · intro w'
          go_simp
          with_reducible rfl
        rotate_left
        · simp only [Act.put, List.setIfInBounds_toArray, List.set_cons_zero, List.set_cons_succ, i64_w, i32_w]
          rfl
        refine pure_ (i := 10) (N := some 138) (v := ?_) (a' := ?_) (bb 28 2047) rfl rfl (by kernel_rfl) (fun _ _ _ h => h) (Or.inl ⟨by rfl, ?_⟩) ?_ ?_
        rotate_left
        · intro w'
          go_simp
          with_reducible rfl
        rotate_left
        · simp only [Act.put, List.setIfInBounds_toArray, List.set_cons_zero, List.set_cons_succ, i64_w, i32_w]
          rfl
        refine pure_ (i := 11) (N := some 139) (v := ?_) (a' := ?_) (bb 28 4095) rfl rfl (by kernel_rfl) (fun _ _ _ h => h) (Or.inl ⟨by rfl, ?_⟩) ?_ ?_
        rotate_left
        · intro w'
          go_simp
          with_reducible rfl
        rotate_left
        · simp only [Act.put, List.setIfInBounds_toArray, List.set_cons_zero, List.set_cons_succ, i64_w, i32_w]
          rfl
        refine pure_ (i := 12) (N := some 140) (v := ?_) (a' := ?_) (bb 28 8191) rfl rfl (by kernel_rfl) (fun _ _ _ h => h) (Or.inl ⟨by rfl, ?_⟩) ?_ ?_
        rotate_left
        · intro w'
          go_simp
          with_reducible rfl
        rotate_left
        · simp only [Act.put, List.setIfInBounds_toArray, List.set_cons_zero, List.set_cons_succ, i64_w, i32_w]
          rfl
        refine pure_ (i := 13) (N := some 141) (v := ?_) (a' := ?_) (bb 28 16383) rfl rfl (by kernel_rfl) (fun _ _ _ h => h) (Or.inl ⟨by rfl, ?_⟩) ?_ ?_
        rotate_left
        · intro w'
          go_simp
          with_reducible rfl
        rotate_left
        · simp only [Act.put, List.setIfInBounds_toArray, List.set_cons_zero, List.set_cons_succ, i64_w, i32_w]
          rfl
        refine pure_ (i := 14) (N := some 142) (v := ?_) (a' := ?_) (bb 28 32767) rfl rfl (by kernel_rfl) (fun _ _ _ h => h) (Or.inl ⟨by rfl, ?_⟩) ?_ ?_
        rotate_left
        · intro w'
          go_simp
          with_reducible rfl
        rotate_left
        · simp only [Act.put, List.setIfInBounds_toArray, List.set_cons_zero, List.set_cons_succ, i64_w, i32_w]
          rfl
        refine pure_ (i := 15) (N := some 143) (v := ?_) (a' := ?_) (bb 28 65535) rfl rfl (by kernel_rfl) (fun _ _ _ h => h) (Or.inl ⟨by rfl, ?_⟩) ?_ ?_
        rotate_left
        · intro w'
          go_simp
          with_reducible rfl
        rotate_left
        · simp only [Act.put, List.setIfInBounds_toArray, List.set_cons_zero, List.set_cons_succ, i64_w, i32_w]
          rfl
        refine take_ (i := 16) (N := some 144) (v := ?_) (a' := ?_) (bb 28 131071) rfl rfl (by kernel_rfl) (fun _ _ _ h => h) (Or.inl ⟨by rfl, ?_⟩) hHeld ?_ ?_
        rotate_left
        · intro w' hSw
          obtain ⟨y1, y2⟩ := hSw
          have z1 := (blk_cell y2 1).trans rfl
          have z2 := (blk_cell y2 2).trans rfl
          go_simp
          with_reducible rfl
        rotate_left
        · simp only [Act.put, List.setIfInBounds_toArray, List.set_cons_zero, List.set_cons_succ, i64_w, i32_w]
          rfl
        refine pure_ (i := 17) (N := some 145) (v := ?_) (a' := ?_) (bb 28 262143) rfl rfl (by kernel_rfl) (fun _ _ _ h => h) (Or.inl ⟨by rfl, ?_⟩) ?_ ?_
        rotate_left
        · intro w'
          go_simp
          with_reducible rfl
        rotate_left
        · simp only [Act.put, List.setIfInBounds_toArray, List.set_cons_zero, List.set_cons_succ, i64_w, i32_w]
          rfl
        refine take_ (i := 18) (N := some 146) (v := ?_) (a' := ?_) (bb 28 524287) rfl rfl (by kernel_rfl) (fun _ _ _ h => h) (Or.inl ⟨by rfl, ?_⟩) hHeld ?_ ?_
        rotate_left
        · intro w' hSw
          obtain ⟨y1, y2⟩ := hSw
          have z1 := (blk_cell y2 1).trans rfl
          have z2 := (blk_cell y2 2).trans rfl
          go_simp
          with_reducible rfl
        rotate_left
        · simp only [Act.put, List.setIfInBounds_toArray, List.set_cons_zero, List.set_cons_succ, i64_w, i32_w]
          rfl
        refine take_ (i := 20) (N := some 148) (v := ?_) (a' := ?_) (bb 28 1572863) rfl rfl (by kernel_rfl) (fun _ _ _ h => h) (Or.inl ⟨by rfl, ?_⟩) hHeld ?_ ?_
        rotate_left
        · intro w' hSw
          obtain ⟨y1, y2⟩ := hSw
          have z1 := (blk_cell y2 1).trans rfl
          have z2 := (blk_cell y2 2).trans rfl
          refine (load_run (.tmp 4) rfl rfl HP.out.rf.sz y1).trans ?_
          with_reducible rfl
        rotate_left
        · simp only [Act.put, List.setIfInBounds_toArray, List.set_cons_zero, List.set_cons_succ, i64_w, i32_w]
          rfl
        refine pure_ (i := 21) (N := some 149) (v := ?_) (a' := ?_) (bb 28 3670015) rfl rfl (by kernel_rfl) (fun _ _ _ h => h) (Or.inl ⟨by rfl, ?_⟩) ?_ ?_
        rotate_left
        · intro w'
          go_simp
          with_reducible rfl
        rotate_left
        · simp only [Act.put, List.setIfInBounds_toArray, List.set_cons_zero, List.set_cons_succ, i64_w, i32_w]
          rfl
        refine take_ (i := 22) (N := some 150) (v := ?_) (a' := ?_) (bb 28 7864319) rfl rfl (by kernel_rfl) (fun _ _ _ h => h) (Or.inl ⟨by rfl, ?_⟩) hHeld ?_ ?_
        rotate_left
        · intro w' hSw
          obtain ⟨y1, y2⟩ := hSw
          have z1 := (blk_cell y2 1).trans rfl
          have z2 := (blk_cell y2 2).trans rfl
          go_simp
          with_reducible rfl
        rotate_left
        · simp only [Act.put, List.setIfInBounds_toArray, List.set_cons_zero, List.set_cons_succ, i64_w, i32_w]
          rfl
        refine pure_ (i := 23) (N := some 151) (v := ?_) (a' := ?_) (bb 28 16252927) rfl rfl (by kernel_rfl) (fun _ _ _ h => h) (Or.inl ⟨by rfl, ?_⟩) ?_ ?_
        rotate_left
        · intro w'
          go_simp
          with_reducible rfl
        rotate_left
        · simp only [Act.put, List.setIfInBounds_toArray, List.set_cons_zero, List.set_cons_succ, i64_w, i32_w]
          rfl
        refine take_ (i := 24) (N := some 152) (v := ?_) (a' := ?_) (bb 28 33030143) rfl rfl (by kernel_rfl) (fun _ _ _ h => h) (Or.inl ⟨by rfl, ?_⟩) hHeld ?_ ?_
        rotate_left
        · intro w' hSw
          obtain ⟨y1, y2⟩ := hSw
          have z1 := (blk_cell y2 1).trans rfl
          have z2 := (blk_cell y2 2).trans rfl
          go_simp
          with_reducible rfl
        rotate_left
        · simp only [Act.put, List.setIfInBounds_toArray, List.set_cons_zero, List.set_cons_succ, i64_w, i32_w]
          rfl
        refine one_ (i := 19) (N := some 147) (bb 28 33554431) rfl rfl (by kernel_rfl) (by decide) (fun K hK => ?_)
        refine goes_ Try.func55 (by kernel_rfl) rfl #[.pointer (some ⟨pb, 0, none⟩), .int .i64 g, .int .i64 i] (by rfl) rfl rfl (by (try simp only [List.map_toArray, List.map_cons, List.map_nil]); first | done | rfl | (go_simp; done) | (go_simp; omega)) ?_
        refine Calls.mono (state_q HP.out.tq g i HJ.out) ?_
        rintro e w' ⟨rfl, hB⟩
        refine ⟨_, rfl, ?_⟩
        replace HP := Aside0.mk (HP.out.below hB)
        replace HG := Aside0.mk (blk_below HG.out hB)
        clear hB
        refine hK.out _ _ (⟨HP.out.bx, HG.out⟩) (fun hHeld => ?_)
        clear hK K
        refine norm_ (a' := ?_) ?_ ?_
        rotate_left
        · show Act.put _ (some 147) _ = _
          simp only [Act.put, List.setIfInBounds_toArray, List.set_cons_zero, List.set_cons_succ, i64_w, i32_w]
          rfl
        refine one_ (i := 25) (N := some 153) (bb 28 67108863) rfl rfl (by kernel_rfl) (by decide) (fun K hK => ?_)
        refine goes_ Try.func56 (by kernel_rfl) rfl #[.agg cells', .int .i64 g, .int .i64 i] (by rfl) rfl rfl (by (try simp only [List.map_toArray, List.map_cons, List.map_nil]); first | done | rfl | (go_simp; done) | (go_simp; omega)) ?_
        refine Calls.mono (rst_calls HP.out.rf (Tq.few HP.out.tq) g i) ?_
        rintro e w' ⟨rfl, hB⟩
        refine ⟨_, rfl, ?_⟩
        replace HP := Aside0.mk (HP.out.below hB)
        replace HG := Aside0.mk (blk_below HG.out hB)
        clear hB
        refine hK.out _ _ (⟨HP.out.bx, HG.out⟩) (fun hHeld => ?_)
        clear hK K
        refine norm_ (a' := ?_) ?_ ?_
        rotate_left
        · show Act.put _ (some 153) _ = _
          simp only [Act.put, List.setIfInBounds_toArray, List.set_cons_zero, List.set_cons_succ, i64_w, i32_w]
          rfl
        refine pure_ (i := 26) (N := some 154) (v := ?_) (a' := ?_) (bb 28 134217727) rfl rfl (by kernel_rfl) (fun _ _ _ h => h) (Or.inl ⟨by rfl, ?_⟩) ?_ ?_
        rotate_left
        · intro w'
          go_simp
          with_reducible rfl
        rotate_left
        · simp only [Act.put, List.setIfInBounds_toArray, List.set_cons_zero, List.set_cons_succ, i64_w, i32_w]
          rfl
        refine pure_ (i := 27) (N := some 155) (v := ?_) (a' := ?_) (bb 28 268435455) rfl rfl (by kernel_rfl) (fun _ _ _ h => h) (Or.inl ⟨by rfl, ?_⟩) ?_ ?_
        rotate_left
        · intro w'
          go_simp
          with_reducible rfl
        rotate_left
        · simp only [Act.put, List.setIfInBounds_toArray, List.set_cons_zero, List.set_cons_succ, i64_w, i32_w]
          rfl
        refine done_ (by kernel_rfl) ?_
        clear hHeld t1 t2 t3 t4
        have z1 := (blk_cell HG.out 1).trans rfl
        by_cases o1 : g < 0
        · have p1 : decide (g < 0) = true := decide_eq_true o1
          have HO : Aside0 (HPoolS.Out g) := ⟨.inl o1⟩
          clear o1
          go_upto_region 28 with (fail)
          clear z1
          have hw0 : wrap64 0 = 0 := by unfold wrap64; omega
          have hw1 : wrap64 (0 + 0) = 0 := by unfold wrap64; omega
          refine start_ (n := 11) (S := fun w' => w'.heap[gr]? = some (.cells cells' 93 (0, 0)) ∧ w'.heap[g9]? = some (.cells #[.int .i64 d, .int .i64 g, .int .i64 i, .int .i64 nn, .int .i64 z] 51 (0, 0))) (ds := []) (bb 11 0) (by kernel_rfl) rfl rfl (⟨HP.out.bx, HG.out⟩) (fun hHeld => ?_)
          replace HP := Aside0.mk (HP.out.below (below_drew (Below.refl _ _)))
          replace HG := Aside0.mk (blk_drew HG.out)
          generalize World.drew _ = w21 at HP HG hHeld ⊢
          refine pure_ (i := 0) (N := some 164) (v := ?_) (a' := ?_) (bb 11 1) rfl rfl (by kernel_rfl) (fun _ _ _ h => h) (Or.inl ⟨by rfl, ?_⟩) ?_ ?_
          rotate_left
          · intro w'
            go_simp
            with_reducible rfl
          rotate_left
          · simp only [Act.put, List.setIfInBounds_toArray, List.set_cons_zero, List.set_cons_succ, i64_w, i32_w]
            rfl
          refine pure_ (i := 1) (N := some 165) (v := ?_) (a' := ?_) (bb 11 3) rfl rfl (by kernel_rfl) (fun _ _ _ h => h) (Or.inl ⟨by rfl, ?_⟩) ?_ ?_
          rotate_left
          · intro w'
            go_simp
            with_reducible rfl
          rotate_left
          · simp only [Act.put, List.setIfInBounds_toArray, List.set_cons_zero, List.set_cons_succ, i64_w, i32_w]
            rfl
          refine take_ (i := 2) (N := some 166) (v := ?_) (a' := ?_) (bb 11 7) rfl rfl (by kernel_rfl) (fun _ _ _ h => h) (Or.inl ⟨by rfl, ?_⟩) hHeld ?_ ?_
          rotate_left
          · intro w' hSw
            obtain ⟨y1, y2⟩ := hSw
            have z1 := (blk_cell y2 1).trans rfl
            have z2 := (blk_cell y2 2).trans rfl
            go_simp
            with_reducible rfl
          rotate_left
          · simp only [Act.put, List.setIfInBounds_toArray, List.set_cons_zero, List.set_cons_succ, i64_w, i32_w]
            rfl
          refine pure_ (i := 5) (N := some 169) (v := ?_) (a' := ?_) (bb 11 39) rfl rfl (by kernel_rfl) (fun _ _ _ h => h) (Or.inl ⟨by rfl, ?_⟩) ?_ ?_
          rotate_left
          · intro w'
            go_simp
            with_reducible rfl
          rotate_left
          · simp only [Act.put, List.setIfInBounds_toArray, List.set_cons_zero, List.set_cons_succ, i64_w, i32_w]
            rfl
          refine pure_ (i := 6) (N := some 170) (v := ?_) (a' := ?_) (bb 11 103) rfl rfl (by kernel_rfl) (fun _ _ _ h => h) (Or.inl ⟨by rfl, ?_⟩) ?_ ?_
          rotate_left
          · intro w'
            go_simp
            with_reducible rfl
          rotate_left
          · simp only [Act.put, List.setIfInBounds_toArray, List.set_cons_zero, List.set_cons_succ, i64_w, i32_w]
            rfl
          refine take_ (i := 7) (N := some 171) (v := ?_) (a' := ?_) (bb 11 231) rfl rfl (by kernel_rfl) (fun _ _ _ h => h) (Or.inl ⟨by rfl, ?_⟩) hHeld ?_ ?_
          rotate_left
          · intro w' hSw
            obtain ⟨y1, y2⟩ := hSw
            have z1 := (blk_cell y2 1).trans rfl
            have z2 := (blk_cell y2 2).trans rfl
            go_simp
            with_reducible rfl
          rotate_left
          · simp only [Act.put, List.setIfInBounds_toArray, List.set_cons_zero, List.set_cons_succ, i64_w, i32_w]
            rfl
          refine one_ (i := 3) (N := some 167) (bb 11 239) rfl rfl (by kernel_rfl) (by decide) (fun K hK => ?_)
          refine goes_ Try.func57 (by kernel_rfl) rfl #[.pointer (some ⟨pb, 0, none⟩), .int .i64 g] (by rfl) rfl rfl (by (try simp only [List.map_toArray, List.map_cons, List.map_nil]); first | done | rfl | (go_simp; done) | (go_simp; omega)) ?_
          refine Calls.mono (free_out HP.out.tq g HO.out) ?_
          rintro e w' ⟨rfl, rfl⟩
          refine ⟨_, rfl, ?_⟩
          refine hK.out _ _ (hHeld) (fun hHeld => ?_)
          clear hK K
          refine norm_ (a' := ?_) ?_ ?_
          rotate_left
          · show Act.put _ (some 167) _ = _
            simp only [Act.put, List.setIfInBounds_toArray, List.set_cons_zero, List.set_cons_succ, i64_w, i32_w]
            rfl
          refine take_ (i := 4) (N := some 168) (v := ?_) (a' := ?_) (bb 11 255) rfl rfl (by kernel_rfl) (fun _ _ _ h => h) (Or.inl ⟨by rfl, ?_⟩) hHeld ?_ ?_
          rotate_left
          · intro w' hSw
            obtain ⟨y1, y2⟩ := hSw
            have z1 := (blk_cell y2 1).trans rfl
            have z2 := (blk_cell y2 2).trans rfl
            go_simp
            with_reducible rfl
          rotate_left
          · simp only [Act.put, List.setIfInBounds_toArray, List.set_cons_zero, List.set_cons_succ, i64_w, i32_w]
            rfl
          refine one_ (i := 8) (N := some 172) (bb 11 511) rfl rfl (by kernel_rfl) (by decide) (fun K hK => ?_)
          refine goes_ Try.func58 (by kernel_rfl) rfl #[.pointer (some ⟨pb, 0, none⟩), .int .i64 g] (by rfl) rfl rfl (by (try simp only [List.map_toArray, List.map_cons, List.map_nil]); first | done | rfl | (go_simp; done) | (go_simp; omega)) ?_
          refine Calls.mono (out_out HP.out.tq g HO.out) ?_
          rintro e w' ⟨rfl, rfl⟩
          refine ⟨_, rfl, ?_⟩
          refine hK.out _ _ (hHeld) (fun hHeld => ?_)
          clear hK K
          refine norm_ (a' := ?_) ?_ ?_
          rotate_left
          · show Act.put _ (some 172) _ = _
            simp only [Act.put, List.setIfInBounds_toArray, List.set_cons_zero, List.set_cons_succ, i64_w, i32_w]
            rfl
          refine pure_ (i := 9) (N := some 173) (v := ?_) (a' := ?_) (bb 11 1023) rfl rfl (by kernel_rfl) (fun _ _ _ h => h) (Or.inl ⟨by rfl, ?_⟩) ?_ ?_
          rotate_left
          · intro w'
            go_simp
            with_reducible rfl
          rotate_left
          · simp only [Act.put, List.setIfInBounds_toArray, List.set_cons_zero, List.set_cons_succ, i64_w, i32_w]
            rfl
          refine pure_ (i := 10) (N := some 174) (v := ?_) (a' := ?_) (bb 11 2047) rfl rfl (by kernel_rfl) (fun _ _ _ h => h) (Or.inl ⟨by rfl, ?_⟩) ?_ ?_
          rotate_left
          · intro w'
            go_simp
            with_reducible rfl
          rotate_left
          · simp only [Act.put, List.setIfInBounds_toArray, List.set_cons_zero, List.set_cons_succ, i64_w, i32_w]
            rfl
          refine done_ (by kernel_rfl) ?_
          clear hHeld
          go_wp2
          go_roundw
          case rel => exact ⟨k + 1, by go_num, ⟨HK.out, _, _, HP.out⟩⟩
          case measure => simp only [num]; have := HK.out; omega
        have p1 : decide (g < 0) = false := decide_eq_false o1
        by_cases o2 : 15 < g
        · have p2 : decide (15 < g) = true := decide_eq_true o2
          have HO : Aside0 (HPoolS.Out g) := ⟨.inr o2⟩
          clear o1 o2
          go_upto_region 28 with (fail)
          clear z1
          have hw0 : wrap64 0 = 0 := by unfold wrap64; omega
          have hw1 : wrap64 (0 + 0) = 0 := by unfold wrap64; omega
          refine start_ (n := 11) (S := fun w' => w'.heap[gr]? = some (.cells cells' 93 (0, 0)) ∧ w'.heap[g9]? = some (.cells #[.int .i64 d, .int .i64 g, .int .i64 i, .int .i64 nn, .int .i64 z] 51 (0, 0))) (ds := []) (bb 11 0) (by kernel_rfl) rfl rfl (⟨HP.out.bx, HG.out⟩) (fun hHeld => ?_)
          replace HP := Aside0.mk (HP.out.below (below_drew (Below.refl _ _)))
          replace HG := Aside0.mk (blk_drew HG.out)
          generalize World.drew _ = w21 at HP HG hHeld ⊢
          refine pure_ (i := 0) (N := some 164) (v := ?_) (a' := ?_) (bb 11 1) rfl rfl (by kernel_rfl) (fun _ _ _ h => h) (Or.inl ⟨by rfl, ?_⟩) ?_ ?_
          rotate_left
          · intro w'
            go_simp
            with_reducible rfl
          rotate_left
          · simp only [Act.put, List.setIfInBounds_toArray, List.set_cons_zero, List.set_cons_succ, i64_w, i32_w]
            rfl
          refine pure_ (i := 1) (N := some 165) (v := ?_) (a' := ?_) (bb 11 3) rfl rfl (by kernel_rfl) (fun _ _ _ h => h) (Or.inl ⟨by rfl, ?_⟩) ?_ ?_
          rotate_left
          · intro w'
            go_simp
            with_reducible rfl
          rotate_left
          · simp only [Act.put, List.setIfInBounds_toArray, List.set_cons_zero, List.set_cons_succ, i64_w, i32_w]
            rfl
          refine take_ (i := 2) (N := some 166) (v := ?_) (a' := ?_) (bb 11 7) rfl rfl (by kernel_rfl) (fun _ _ _ h => h) (Or.inl ⟨by rfl, ?_⟩) hHeld ?_ ?_
          rotate_left
          · intro w' hSw
            obtain ⟨y1, y2⟩ := hSw
            have z1 := (blk_cell y2 1).trans rfl
            have z2 := (blk_cell y2 2).trans rfl
            go_simp
            with_reducible rfl
          rotate_left
          · simp only [Act.put, List.setIfInBounds_toArray, List.set_cons_zero, List.set_cons_succ, i64_w, i32_w]
            rfl
          refine pure_ (i := 5) (N := some 169) (v := ?_) (a' := ?_) (bb 11 39) rfl rfl (by kernel_rfl) (fun _ _ _ h => h) (Or.inl ⟨by rfl, ?_⟩) ?_ ?_
          rotate_left
          · intro w'
            go_simp
            with_reducible rfl
          rotate_left
          · simp only [Act.put, List.setIfInBounds_toArray, List.set_cons_zero, List.set_cons_succ, i64_w, i32_w]
            rfl
          refine pure_ (i := 6) (N := some 170) (v := ?_) (a' := ?_) (bb 11 103) rfl rfl (by kernel_rfl) (fun _ _ _ h => h) (Or.inl ⟨by rfl, ?_⟩) ?_ ?_
          rotate_left
          · intro w'
            go_simp
            with_reducible rfl
          rotate_left
          · simp only [Act.put, List.setIfInBounds_toArray, List.set_cons_zero, List.set_cons_succ, i64_w, i32_w]
            rfl
          refine take_ (i := 7) (N := some 171) (v := ?_) (a' := ?_) (bb 11 231) rfl rfl (by kernel_rfl) (fun _ _ _ h => h) (Or.inl ⟨by rfl, ?_⟩) hHeld ?_ ?_
          rotate_left
          · intro w' hSw
            obtain ⟨y1, y2⟩ := hSw
            have z1 := (blk_cell y2 1).trans rfl
            have z2 := (blk_cell y2 2).trans rfl
            go_simp
            with_reducible rfl
          rotate_left
          · simp only [Act.put, List.setIfInBounds_toArray, List.set_cons_zero, List.set_cons_succ, i64_w, i32_w]
            rfl
          refine one_ (i := 3) (N := some 167) (bb 11 239) rfl rfl (by kernel_rfl) (by decide) (fun K hK => ?_)
          refine goes_ Try.func57 (by kernel_rfl) rfl #[.pointer (some ⟨pb, 0, none⟩), .int .i64 g] (by rfl) rfl rfl (by (try simp only [List.map_toArray, List.map_cons, List.map_nil]); first | done | rfl | (go_simp; done) | (go_simp; omega)) ?_
          refine Calls.mono (free_out HP.out.tq g HO.out) ?_
          rintro e w' ⟨rfl, rfl⟩
          refine ⟨_, rfl, ?_⟩
          refine hK.out _ _ (hHeld) (fun hHeld => ?_)
          clear hK K
          refine norm_ (a' := ?_) ?_ ?_
          rotate_left
          · show Act.put _ (some 167) _ = _
            simp only [Act.put, List.setIfInBounds_toArray, List.set_cons_zero, List.set_cons_succ, i64_w, i32_w]
            rfl
          refine take_ (i := 4) (N := some 168) (v := ?_) (a' := ?_) (bb 11 255) rfl rfl (by kernel_rfl) (fun _ _ _ h => h) (Or.inl ⟨by rfl, ?_⟩) hHeld ?_ ?_
          rotate_left
          · intro w' hSw
            obtain ⟨y1, y2⟩ := hSw
            have z1 := (blk_cell y2 1).trans rfl
            have z2 := (blk_cell y2 2).trans rfl
            go_simp
            with_reducible rfl
          rotate_left
          · simp only [Act.put, List.setIfInBounds_toArray, List.set_cons_zero, List.set_cons_succ, i64_w, i32_w]
            rfl
          refine one_ (i := 8) (N := some 172) (bb 11 511) rfl rfl (by kernel_rfl) (by decide) (fun K hK => ?_)
          refine goes_ Try.func58 (by kernel_rfl) rfl #[.pointer (some ⟨pb, 0, none⟩), .int .i64 g] (by rfl) rfl rfl (by (try simp only [List.map_toArray, List.map_cons, List.map_nil]); first | done | rfl | (go_simp; done) | (go_simp; omega)) ?_
          refine Calls.mono (out_out HP.out.tq g HO.out) ?_
          rintro e w' ⟨rfl, rfl⟩
          refine ⟨_, rfl, ?_⟩
          refine hK.out _ _ (hHeld) (fun hHeld => ?_)
          clear hK K
          refine norm_ (a' := ?_) ?_ ?_
          rotate_left
          · show Act.put _ (some 172) _ = _
            simp only [Act.put, List.setIfInBounds_toArray, List.set_cons_zero, List.set_cons_succ, i64_w, i32_w]
            rfl
          refine pure_ (i := 9) (N := some 173) (v := ?_) (a' := ?_) (bb 11 1023) rfl rfl (by kernel_rfl) (fun _ _ _ h => h) (Or.inl ⟨by rfl, ?_⟩) ?_ ?_
          rotate_left
          · intro w'
            go_simp
            with_reducible rfl
          rotate_left
          · simp only [Act.put, List.setIfInBounds_toArray, List.set_cons_zero, List.set_cons_succ, i64_w, i32_w]
            rfl
          refine pure_ (i := 10) (N := some 174) (v := ?_) (a' := ?_) (bb 11 2047) rfl rfl (by kernel_rfl) (fun _ _ _ h => h) (Or.inl ⟨by rfl, ?_⟩) ?_ ?_
          rotate_left
          · intro w'
            go_simp
            with_reducible rfl
          rotate_left
          · simp only [Act.put, List.setIfInBounds_toArray, List.set_cons_zero, List.set_cons_succ, i64_w, i32_w]
            rfl
          refine done_ (by kernel_rfl) ?_
          clear hHeld
          go_wp2
          go_roundw
          case rel => exact ⟨k + 1, by go_num, ⟨HK.out, _, _, HP.out⟩⟩
          case measure => simp only [num]; have := HK.out; omega
        have p2 : decide (15 < g) = false := decide_eq_false o2
        obtain ⟨ii, rfl, hi⟩ := nat_of (g := g) (fun e => e.elim o1 o2)
        have d3 : decide ((ii : Int) < 16) = true := decide_eq_true (by omega)
        have d4 : decide (ii < 16) = true := decide_eq_true hi
        have d5 : (ii < 16) = True := eq_true hi
        have d6 : ii * 2 = 2 * ii := Nat.mul_comm _ _
        have d7 : ((ii : Int) < 16) = True := eq_true (by omega)
        have d8 : (0 ≤ (ii : Int)) = True := eq_true (by omega)
        obtain ⟨vF, eF, hF⟩ := HP.out.rf.F ii hi
        obtain ⟨vO, eO, hO⟩ := HP.out.rf.O ii hi
        obtain ⟨Af, cf, rfl, -, -⟩ := hF.shape
        obtain ⟨Ao, co, rfl, -, -⟩ := hO.shape
        have hfew := Tq.few HP.out.tq ii hi
        have HII := Aside0.mk (And.intro hi hfew)
        clear o1 o2 hi hO hfew hF
        have HFF := Aside0.mk (fun (W : World) (hq : Pm w W pb gr r' cells') => (show Rb W (.slice Af (r' ii).1.length cf) (r' ii).1 from by obtain ⟨v_, e_, h_⟩ := hq.rf.F ii HII.out.1; rw [eF] at e_; injection e_ with e_; subst e_; exact h_))
        have HFR := Aside0.mk (free_q HP.out.tq ii HII.out.1)
        generalize hN1 : (r' ii).1.length = N1 at eF HFF
        generalize hN2 : (r' ii).2.length = N2 at eO
        have HN1 := Aside0.mk (And.intro hN1 hN2)
        clear hN1 hN2
        go_upto_region 31 with (go_at_call 57; refine HFR.out.mono ?_; rintro e w9 ⟨v9, rfl, hS9, hB⟩; obtain ⟨A9, c9, rfl, -, -⟩ := hS9.shape; have hN9 : ((r' ii).1.map Prod.fst).length = N1 := (by rw [List.length_map]; exact HN1.out.1); rw [hN9] at hS9 ⊢; have HS9 := Aside0.mk hS9; replace HP := Aside0.mk (HP.out.below hB); replace HG := Aside0.mk (blk_below HG.out hB); clear hB hS9 hN9 z1)
        clear HFR
        have t1 : ((N1 : Int) != (N1 : Int)) = false := bne_self_eq_false _
        have t2 : ((N2 : Int) != (N2 : Int)) = false := bne_self_eq_false _
        refine start_ (n := 22) (S := fun w' => w'.heap[gr]? = some (.cells cells' 93 (0, 0)) ∧ w'.heap[g9]? = some (.cells #[.int .i64 d, .int .i64 (ii : Int), .int .i64 i, .int .i64 nn, .int .i64 z] 51 (0, 0))) (ds := []) (bb 22 0) (by kernel_rfl) rfl rfl (⟨HP.out.bx, HG.out⟩) (fun hHeld => ?_)
        replace HP := Aside0.mk (HP.out.below (below_drew (Below.refl _ _)))
        replace HG := Aside0.mk (blk_drew HG.out)
        replace HS9 := Aside0.mk (HS9.out.below (below_drew (Below.refl _ _)))
        generalize World.drew _ = w22 at HP HG HS9 hHeld ⊢
        refine pure_ (i := 0) (N := some 179) (v := ?_) (a' := ?_) (bb 22 1) rfl rfl (by kernel_rfl) (fun _ _ _ h => h) (Or.inl ⟨by rfl, ?_⟩) ?_ ?_
        rotate_left
        · intro w'
          go_simp
          with_reducible rfl
        rotate_left
        · simp only [Act.put, List.setIfInBounds_toArray, List.set_cons_zero, List.set_cons_succ, i64_w, i32_w]
          rfl
        refine take_ (i := 1) (N := some 180) (v := ?_) (a' := ?_) (bb 22 3) rfl rfl (by kernel_rfl) (fun _ _ _ h => h) (Or.inl ⟨by rfl, ?_⟩) hHeld ?_ ?_
        rotate_left
        · intro w' hSw
          obtain ⟨y1, y2⟩ := hSw
          have z1 := (blk_cell y2 1).trans rfl
          have x1 := (blk_cell y1 (2 * ii)).trans eF
          have x2 := (blk_cell y1 (2 * ii + 1)).trans eO
          have x3 := blk_lt y1
          go_simp
          with_reducible rfl
        rotate_left
        · simp only [Act.put, List.setIfInBounds_toArray, List.set_cons_zero, List.set_cons_succ, i64_w, i32_w]
          rfl
        refine pure_ (i := 2) (N := some 181) (v := ?_) (a' := ?_) (bb 22 7) rfl rfl (by kernel_rfl) (fun _ _ _ h => h) (Or.inl ⟨by rfl, ?_⟩) ?_ ?_
        rotate_left
        · intro w'
          go_simp
          with_reducible rfl
        rotate_left
        · simp only [Act.put, List.setIfInBounds_toArray, List.set_cons_zero, List.set_cons_succ, i64_w, i32_w]
          rfl
        refine take_ (i := 3) (N := some 182) (v := ?_) (a' := ?_) (bb 22 15) rfl rfl (by kernel_rfl) (fun _ _ _ h => h) (Or.inl ⟨by rfl, ?_⟩) hHeld ?_ ?_
        rotate_left
        · intro w' hSw
          obtain ⟨y1, y2⟩ := hSw
          have z1 := (blk_cell y2 1).trans rfl
          have x1 := (blk_cell y1 (2 * ii)).trans eF
          have x2 := (blk_cell y1 (2 * ii + 1)).trans eO
          have x3 := blk_lt y1
          go_simp
          with_reducible rfl
        rotate_left
        · simp only [Act.put, List.setIfInBounds_toArray, List.set_cons_zero, List.set_cons_succ, i64_w, i32_w]
          rfl
        refine pure_ (i := 4) (N := some 183) (v := ?_) (a' := ?_) (bb 22 31) rfl rfl (by kernel_rfl) (fun _ _ _ h => h) (Or.inl ⟨by rfl, ?_⟩) ?_ ?_
        rotate_left
        · intro w'
          go_simp
          with_reducible rfl
        rotate_left
        · simp only [Act.put, List.setIfInBounds_toArray, List.set_cons_zero, List.set_cons_succ, i64_w, i32_w]
          rfl
        refine pure_ (i := 5) (N := some 184) (v := ?_) (a' := ?_) (bb 22 63) rfl rfl (by kernel_rfl) (fun _ _ _ h => h) (Or.inl ⟨by rfl, ?_⟩) ?_ ?_
        rotate_left
        · intro w'
          go_simp
          with_reducible rfl
        rotate_left
        · simp only [Act.put, List.setIfInBounds_toArray, List.set_cons_zero, List.set_cons_succ, i64_w, i32_w]
          rfl
        refine take_ (i := 6) (N := some 185) (v := ?_) (a' := ?_) (bb 22 127) rfl rfl (by kernel_rfl) (fun _ _ _ h => h) (Or.inl ⟨by rfl, ?_⟩) hHeld ?_ ?_
        rotate_left
        · intro w' hSw
          obtain ⟨y1, y2⟩ := hSw
          have z1 := (blk_cell y2 1).trans rfl
          have x1 := (blk_cell y1 (2 * ii)).trans eF
          have x2 := (blk_cell y1 (2 * ii + 1)).trans eO
          have x3 := blk_lt y1
          go_simp
          with_reducible rfl
        rotate_left
        · simp only [Act.put, List.setIfInBounds_toArray, List.set_cons_zero, List.set_cons_succ, i64_w, i32_w]
          rfl
        refine take_ (i := 7) (N := some 186) (v := ?_) (a' := ?_) (bb 22 255) rfl rfl (by kernel_rfl) (fun _ _ _ h => h) (Or.inl ⟨by rfl, ?_⟩) hHeld ?_ ?_
        rotate_left
        · intro w' hSw
          obtain ⟨y1, y2⟩ := hSw
          have z1 := (blk_cell y2 1).trans rfl
          have x1 := (blk_cell y1 (2 * ii)).trans eF
          have x2 := (blk_cell y1 (2 * ii + 1)).trans eO
          have x3 := blk_lt y1
          go_simp
          with_reducible rfl
        rotate_left
        · simp only [Act.put, List.setIfInBounds_toArray, List.set_cons_zero, List.set_cons_succ, i64_w, i32_w]
          rfl
        refine pure_ (i := 8) (N := some 187) (v := ?_) (a' := ?_) (bb 22 511) rfl rfl (by kernel_rfl) (fun _ _ _ h => h) (Or.inl ⟨by rfl, ?_⟩) ?_ ?_
        rotate_left
        · intro w'
          go_simp
          with_reducible rfl
        rotate_left
        · simp only [Act.put, List.setIfInBounds_toArray, List.set_cons_zero, List.set_cons_succ, i64_w, i32_w]
          rfl
        refine pure_ (i := 9) (N := some 188) (v := ?_) (a' := ?_) (bb 22 1023) rfl rfl (by kernel_rfl) (fun _ _ _ h => h) (Or.inl ⟨by rfl, ?_⟩) ?_ ?_
        rotate_left
        · intro w'
          go_simp
          with_reducible rfl
        rotate_left
        · simp only [Act.put, List.setIfInBounds_toArray, List.set_cons_zero, List.set_cons_succ, i64_w, i32_w]
          rfl
        refine pure_ (i := 10) (N := some 189) (v := ?_) (a' := ?_) (bb 22 2047) rfl rfl (by kernel_rfl) (fun _ _ _ h => h) (Or.inl ⟨by rfl, ?_⟩) ?_ ?_
        rotate_left
        · intro w'
          go_simp
          with_reducible rfl
        rotate_left
        · simp only [Act.put, List.setIfInBounds_toArray, List.set_cons_zero, List.set_cons_succ, i64_w, i32_w]
          rfl
        refine pure_ (i := 11) (N := some 190) (v := ?_) (a' := ?_) (bb 22 4095) rfl rfl (by kernel_rfl) (fun _ _ _ h => h) (Or.inl ⟨by rfl, ?_⟩) ?_ ?_
        rotate_left
        · intro w'
          go_simp
          with_reducible rfl
        rotate_left
        · simp only [Act.put, List.setIfInBounds_toArray, List.set_cons_zero, List.set_cons_succ, i64_w, i32_w]
          rfl
        refine take_ (i := 12) (N := some 191) (v := ?_) (a' := ?_) (bb 22 8191) rfl rfl (by kernel_rfl) (fun _ _ _ h => h) (Or.inl ⟨by rfl, ?_⟩) hHeld ?_ ?_
        rotate_left
        · intro w' hSw
          obtain ⟨y1, y2⟩ := hSw
          have z1 := (blk_cell y2 1).trans rfl
          have x1 := (blk_cell y1 (2 * ii)).trans eF
          have x2 := (blk_cell y1 (2 * ii + 1)).trans eO
          have x3 := blk_lt y1
          go_simp
          with_reducible rfl
        rotate_left
        · simp only [Act.put, List.setIfInBounds_toArray, List.set_cons_zero, List.set_cons_succ, i64_w, i32_w]
          rfl
        refine pure_ (i := 14) (N := some 193) (v := ?_) (a' := ?_) (bb 22 24575) rfl rfl (by kernel_rfl) (fun _ _ _ h => h) (Or.inl ⟨by rfl, ?_⟩) ?_ ?_
        rotate_left
        · intro w'
          go_simp
          with_reducible rfl
        rotate_left
        · simp only [Act.put, List.setIfInBounds_toArray, List.set_cons_zero, List.set_cons_succ, i64_w, i32_w]
          rfl
        refine take_ (i := 15) (N := some 194) (v := ?_) (a' := ?_) (bb 22 57343) rfl rfl (by kernel_rfl) (fun _ _ _ h => h) (Or.inl ⟨by rfl, ?_⟩) hHeld ?_ ?_
        rotate_left
        · intro w' hSw
          obtain ⟨y1, y2⟩ := hSw
          have z1 := (blk_cell y2 1).trans rfl
          have x1 := (blk_cell y1 (2 * ii)).trans eF
          have x2 := (blk_cell y1 (2 * ii + 1)).trans eO
          have x3 := blk_lt y1
          go_simp
          with_reducible rfl
        rotate_left
        · simp only [Act.put, List.setIfInBounds_toArray, List.set_cons_zero, List.set_cons_succ, i64_w, i32_w]
          rfl
        refine pure_ (i := 16) (N := some 195) (v := ?_) (a' := ?_) (bb 22 122879) rfl rfl (by kernel_rfl) (fun _ _ _ h => h) (Or.inl ⟨by rfl, ?_⟩) ?_ ?_
        rotate_left
        · intro w'
          go_simp
          with_reducible rfl
        rotate_left
        · simp only [Act.put, List.setIfInBounds_toArray, List.set_cons_zero, List.set_cons_succ, i64_w, i32_w]
          rfl
        refine pure_ (i := 17) (N := some 196) (v := ?_) (a' := ?_) (bb 22 253951) rfl rfl (by kernel_rfl) (fun _ _ _ h => h) (Or.inl ⟨by rfl, ?_⟩) ?_ ?_
        rotate_left
        · intro w'
          go_simp
          with_reducible rfl
        rotate_left
        · simp only [Act.put, List.setIfInBounds_toArray, List.set_cons_zero, List.set_cons_succ, i64_w, i32_w]
          rfl
        refine take_ (i := 18) (N := some 197) (v := ?_) (a' := ?_) (bb 22 516095) rfl rfl (by kernel_rfl) (fun _ _ _ h => h) (Or.inl ⟨by rfl, ?_⟩) hHeld ?_ ?_
        rotate_left
        · intro w' hSw
          obtain ⟨y1, y2⟩ := hSw
          have z1 := (blk_cell y2 1).trans rfl
          have x1 := (blk_cell y1 (2 * ii)).trans eF
          have x2 := (blk_cell y1 (2 * ii + 1)).trans eO
          have x3 := blk_lt y1
          go_simp
          with_reducible rfl
        rotate_left
        · simp only [Act.put, List.setIfInBounds_toArray, List.set_cons_zero, List.set_cons_succ, i64_w, i32_w]
          rfl
        refine take_ (i := 19) (N := some 198) (v := ?_) (a' := ?_) (bb 22 1040383) rfl rfl (by kernel_rfl) (fun _ _ _ h => h) (Or.inl ⟨by rfl, ?_⟩) hHeld ?_ ?_
        rotate_left
        · intro w' hSw
          obtain ⟨y1, y2⟩ := hSw
          have z1 := (blk_cell y2 1).trans rfl
          have x1 := (blk_cell y1 (2 * ii)).trans eF
          have x2 := (blk_cell y1 (2 * ii + 1)).trans eO
          have x3 := blk_lt y1
          go_simp
          with_reducible rfl
        rotate_left
        · simp only [Act.put, List.setIfInBounds_toArray, List.set_cons_zero, List.set_cons_succ, i64_w, i32_w]
          rfl
        refine one_ (i := 13) (N := some 192) (bb 22 1048575) rfl rfl (by kernel_rfl) (by decide) (fun K hK => ?_)
        refine goes_ Try.func58 (by kernel_rfl) rfl #[.pointer (some ⟨pb, 0, none⟩), .int .i64 ii] (by rfl) rfl rfl (by (try simp only [List.map_toArray, List.map_cons, List.map_nil]); first | done | rfl | (go_simp; done) | (go_simp; omega)) ?_
        refine Calls.mono (out_q HP.out.tq ii HII.out.1) ?_
        rintro e w' ⟨rfl, hB⟩
        refine ⟨_, rfl, ?_⟩
        rw [HN1.out.2]
        replace HP := Aside0.mk (HP.out.below hB)
        replace HG := Aside0.mk (blk_below HG.out hB)
        replace HS9 := Aside0.mk (HS9.out.below hB)
        clear hB
        refine hK.out _ _ (⟨HP.out.bx, HG.out⟩) (fun hHeld => ?_)
        clear hK K
        refine norm_ (a' := ?_) ?_ ?_
        rotate_left
        · show Act.put _ (some 192) _ = _
          simp only [Act.put, List.setIfInBounds_toArray, List.set_cons_zero, List.set_cons_succ, i64_w, i32_w]
          rfl
        refine pure_ (i := 20) (N := some 199) (v := ?_) (a' := ?_) (bb 22 2097151) rfl rfl (by kernel_rfl) (fun _ _ _ h => h) (Or.inl ⟨by rfl, ?_⟩) ?_ ?_
        rotate_left
        · intro w'
          go_simp
          with_reducible rfl
        rotate_left
        · simp only [Act.put, List.setIfInBounds_toArray, List.set_cons_zero, List.set_cons_succ, i64_w, i32_w]
          rfl
        refine pure_ (i := 21) (N := some 200) (v := ?_) (a' := ?_) (bb 22 4194303) rfl rfl (by kernel_rfl) (fun _ _ _ h => h) (Or.inl ⟨by rfl, ?_⟩) ?_ ?_
        rotate_left
        · intro w'
          go_simp
          with_reducible rfl
        rotate_left
        · simp only [Act.put, List.setIfInBounds_toArray, List.set_cons_zero, List.set_cons_succ, i64_w, i32_w]
          rfl
        refine done_ (by kernel_rfl) ?_
        clear hHeld t1 t2
        go_upto_region 33 with (fail)
        go_wp2
        have HI : Aside0 (0 ≤ N1 ∧ Below w'.heap.size w' w') := ⟨Nat.zero_le _, Below.refl _ _⟩
        go_loopw [19] (fun jv wq => ∃ j : Nat, jv = .int .i64 j ∧ Aside0 (j ≤ N1 ∧ Below w'.heap.size w' wq)) (fun jv _ => N1 - num jv)
        case atStart => exact ⟨0, rfl, HI⟩
        case round =>
          clear HI
          obtain ⟨j, rfl, ⟨hj, hB⟩⟩ := hrel
          have hn1 := HN1.out.1
          have hfw := HII.out.2
          by_cases hjn : j < N1
          · have q1 : decide ((j : Int) < (N1 : Int)) = true := decide_eq_true (by omega)
            have q2 : decide (j < N1) = true := decide_eq_true hjn
            have q3 : (j < N1) = True := eq_true hjn
            have q4 : ((j : Int) < (N1 : Int)) = True := eq_true (by omega)
            have e2 : IntKind.i64.wrap ((j : Int) + 1) = (j : Int) + 1 := wid _ (by omega) (by omega)
            have hPq := HP.out.below hB
            obtain ⟨adF, rfl, hx, -⟩ := (HFF.out _ hPq).get (show j < (r' ii).1.length by omega)
            obtain ⟨ad9, rfl, hrd⟩ := (Kd.reads_of_C (enc := Value.int .i64) (d := (0 : Int)) (h1 := fun _ => rfl) (HS9.out.below hB).reads).2.2 (by rw [List.length_map]; omega)
            have hy := hrd j (by rw [List.length_map]; omega)
            have hey : ((r' ii).1.map Prod.fst).getD j 0 = ((r' ii).1.getD j (0, 0)).1 := by
              rw [List.getD_eq_getElem?_getD, List.getD_eq_getElem?_getD, List.getElem?_map, List.getElem?_eq_getElem (show j < (r' ii).1.length by omega)]
              rfl
            rw [hey] at hy
            generalize ((r' ii).1.getD j (0, 0)).1 = y at hx hy
            have ty : (y != y) = false := bne_self_eq_false _
            have y1 := hPq.bx
            have x1 := (blk_cell y1 (2 * ii)).trans eF
            have x3 := blk_lt y1
            have z1 := (blk_cell (blk_below HG.out hB) 1).trans rfl
            have HB := Aside0.mk hB
            have HJJ := Aside0.mk hjn
            clear hj hB hn1 hfw hjn hPq hrd hey y1
            go_upto_region 36 with (fail)
            go_quiet (fail)
            go_wp2
            go_roundw
            case rel => exact ⟨j + 1, by go_num, ⟨HJJ.out, pw_below_drewN HB.out _⟩⟩
            case measure => simp only [num]; have := HJJ.out; omega
          · have q1 : decide ((j : Int) < (N1 : Int)) = false := decide_eq_false (by omega)
            have q2 : decide (j < N1) = false := decide_eq_false hjn
            have HPE := Aside0.mk (HP.out.below hB)
            clear hj hB hn1 hfw hjn
            go_wp2
            go_roundw
            case rel => exact ⟨k + 1, by go_num, ⟨HK.out, _, _, HPE.out⟩⟩
            case measure => simp only [num]; have := HK.out; omega
    · have b0 : decide ((k : Int) < (n : Int)) = false := decide_eq_false (by omega)
      have b1 : decide (k < n) = false := decide_eq_false hlt
      have HB : Aside0 (Below w.heap.size w wr) := ⟨hP.tq.bl⟩
      clear hk hnn hlt hP
      go_wp2_with (go_at_call 28; refine (live_calls _).mono ?_; rintro e w8 ⟨rfl, hB⟩; replace HB := Aside0.mk (below_step HB.out hB); clear hB)
      go_ret
      exact ⟨rfl, HB.out⟩
set_option maxRecDepth 100000 in
set_option maxHeartbeats 16000000 in
theorem plays_big (A1 : Option Addr) (n c1 : Nat) (w : World) (hn : 60 < n) :
    Calls Try.prog 11 #[.slice A1 n c1] w fun e w' => e = .returned (.bool true) ∧ Below w.heap.size w w' := by
  have d0 : decide (60 < (n : Int)) = true := decide_eq_true (by omega)
  clear hn
  go_enter Try.func11, Try.ntmps11
  go_wp2_with (go_at_call 28; refine (live_calls _).mono ?_; rintro e w8 ⟨rfl, hB⟩; have HB := Aside0.mk hB; clear hB)
  go_ret
  exact ⟨rfl, HB.out⟩
theorem towropelaw17_PoolPlays.calls (A1 : Option Addr) (n c1 : Nat) (w : World) (h : Acts w A1 n) :
    Calls Try.prog 11 #[.slice A1 n c1] w fun e w' => e = .returned (.bool true) ∧ Below w.heap.size w w' := by
  by_cases hn : n ≤ 60
  · exact plays_all A1 n c1 w h hn
  · exact plays_big A1 n c1 w (by omega)
end Go.Proofs.Ytfmfpofbefgbgaa.PPoolL
