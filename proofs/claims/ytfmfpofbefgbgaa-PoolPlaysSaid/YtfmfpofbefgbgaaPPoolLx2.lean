/- The law PoolOnce: for any acts. Conditions: each theorem's own. -/
import Derived.Test.YtfmfpofbefgbgaaHPoolO
namespace Go.Proofs.Ytfmfpofbefgbgaa.PPoolL
open Go.RowKit Go.Proofs.YtfmfpofbefgbgaaW.PrintWords Go.Proofs.YtfmfpofbefgbgaaW.PrintLast Go.Proofs.YtfmfpofbefgbgaaW.PrintMore Go.Proofs.Ytfmfpofbefgbgaa.HPoolS Go.Proofs.Ytfmfpofbefgbgaa.HPool Go.Proofs.Ytfmfpofbefgbgaa.HSl
set_option linter.unusedVariables false
set_option linter.unusedSimpArgs false
/-- An act, by its cells. -/
def Act1 (w : World) (ad : Addr) (d g i n z : Int) : Prop := w.cell? ad = some (.int .i64 d) ∧ w.cell? ⟨ad.block, ad.off + 1, none⟩ = some (.int .i64 g) ∧ w.cell? ⟨ad.block, ad.off + 2, none⟩ = some (.int .i64 i) ∧ w.cell? ⟨ad.block, ad.off + 3, none⟩ = some (.int .i64 n) ∧ w.cell? ⟨ad.block, ad.off + 4, none⟩ = some (.int .i64 z) ∧ (Lit.int .i64 i).wf = true
def Acts (w : World) (A : Option Addr) (n : Nat) : Prop := ∀ i, i < n → ∃ ad, A = some ad ∧ ∃ d g x n z, Act1 w (ad.add (i * 5)) d g x n z
theorem Act1.below {w w' : World} {ad : Addr} {d g i n z : Int} (h : Act1 w ad d g i n z) (hb : Below w.heap.size w w') : Act1 w' ad d g i n z := ⟨pw_cell_below hb h.1, pw_cell_below hb h.2.1, pw_cell_below hb h.2.2.1, pw_cell_below hb h.2.2.2.1, pw_cell_below hb h.2.2.2.2.1, h.2.2.2.2.2⟩
/-- What a round knows. -/
def Om (w0 w : World) (pb : Nat) (A : Option Addr) (m c k : Nat) : Prop := ∃ r l, Tq w0 w pb r ∧ Pr w0.heap.size w (.slice A m c) l ∧ m = l.length ∧ Ow r l ∧ l.length ≤ k
theorem Om.more {w0 w : World} {pb : Nat} {A : Option Addr} {m c k : Nat} (h : Om w0 w pb A m c k) : Om w0 w pb A m c (k + 1) := by
  obtain ⟨r, l, h1, h2, h3, h4, h5⟩ := h
  exact ⟨r, l, h1, h2, h3, h4, Nat.le_succ_of_le h5⟩
theorem pushed {w0 w w' : World} {pb : Nat} {r : RS} {v v' : Value} {l l' : List (Int × Int)} (hT : Tq w0 w pb r) (hP : Pr w0.heap.size w v l) (hP' : Pr w0.heap.size w' v' l') (hG : w.grownBy w' v.ownBlock) : Tq w0 w' pb r := Tq.grown hT hG (fun k hk => hP.low k hk)
theorem box_kq {w w' : World} {g : Nat} {cs : Array Value} (h : w.heap[g]? = some (.cells cs 51 (0, 0))) (hK : Kq w w') : w'.heap[g]? = some (.cells cs 51 (0, 0)) := hK.old g cs 51 h (by decide) (by decide)
/-- What is left behind j of the list. -/
def left (q : List (Int × Int)) (x : Int × Int) (j : Nat) : List (Int × Int) := (q.take j).filter (fun y => y ≠ x)
theorem left_same {q : List (Int × Int)} {x : Int × Int} {j : Nat} (hj : j < q.length) (h : q.getD j (0, 0) = x) : left q x (j + 1) = left q x j := by
  unfold left
  rw [List.take_succ_eq_append_getElem hj, List.filter_append]
  rw [List.getD_eq_getElem?_getD, List.getElem?_eq_getElem hj] at h
  simp only [Option.getD_some] at h
  simp [h]
theorem left_more {q : List (Int × Int)} {x : Int × Int} {j : Nat} (hj : j < q.length) (h : q.getD j (0, 0) ≠ x) : left q x (j + 1) = left q x j ++ [q.getD j (0, 0)] := by
  unfold left
  rw [List.take_succ_eq_append_getElem hj, List.filter_append]
  rw [List.getD_eq_getElem?_getD, List.getElem?_eq_getElem hj] at h ⊢
  simp only [Option.getD_some] at h ⊢
  simp [h]
theorem left_len (q : List (Int × Int)) (x : Int × Int) (j : Nat) : (left q x j).length ≤ q.length := Nat.le_trans (List.length_filter_le _ _) (by simp; omega)
set_option maxRecDepth 100000 in
set_option maxHeartbeats 8000000 in
theorem once_all (A1 : Option Addr) (n c1 : Nat) (w : World) (h : Acts w A1 n) (hn : n ≤ 100) :
    Calls Try.prog 6 #[.slice A1 n c1] w fun e w' => e = .returned (.bool true) ∧ Below w.heap.size w w' := by
  have d0 : decide (100 < (n : Int)) = false := decide_eq_false (by omega)
  have HA := Aside0.mk h
  have HN := Aside0.mk hn
  clear h hn
  go_enter Try.func6, Try.ntmps6
  go_wp2_with (go_at_call 29; refine (new_q _).mono ?_; rintro e w1 ⟨pb, rfl, hT, hB⟩; have L := Aside0.mk hT; clear hT hB)
  have HH : Aside0 (0 ≤ n ∧ Om w w1 pb none 0 0 0) := ⟨Nat.zero_le _, _, [], L.out, Pr.nil _ _, rfl, Ow.nil, Nat.le_refl _⟩
  clear L
  go_loopw [4, 5] (fun u i wr => ∃ (k : Nat) (A : Option Addr) (m c : Nat), i = .int .i64 k ∧ u = .slice A m c ∧ Aside0 (k ≤ n ∧ Om w wr pb A m c k)) (fun _ i _ => n - num i)
  case atStart => exact ⟨0, none, 0, 0, rfl, rfl, HH⟩
  case round =>
    clear HH
    obtain ⟨k, A, m, c, rfl, rfl, ⟨hk, hO⟩⟩ := hrel
    have hnn := HN.out
    by_cases hlt : k < n
    · have b0 : decide ((k : Int) < (n : Int)) = true := decide_eq_true (by omega)
      have b1 : decide (k < n) = true := decide_eq_true hlt
      have b2 : (k < n) = True := eq_true hlt
      have b3 : ((k : Int) < (n : Int)) = True := eq_true (by omega)
      have e1 : IntKind.i64.wrap ((k : Int) + 1) = (k : Int) + 1 := wid _ (by omega) (by omega)
      obtain ⟨ad, rfl, d, g, i, nn, z, hact⟩ := HA.out k hlt
      obtain ⟨r, l, hT, hP, hm, hOw, hlk⟩ := hO
      obtain ⟨a0, a1, a2, a3, a4, wi⟩ := hact.below hT.bl
      have HK := Aside0.mk (And.intro hlt (show k ≤ 300 by omega))
      have HJ := Aside0.mk (And.intro hm (And.intro hOw (And.intro hlk wi)))
      have HB := Aside0.mk (below_alloc (Below.refl wr.heap.size wr) (.cells #[.int .i64 d, .int .i64 g, .int .i64 i, .int .i64 nn, .int .i64 z] 51))
      have HG := Aside0.mk (blk_new wr (.cells #[.int .i64 d, .int .i64 g, .int .i64 i, .int .i64 nn, .int .i64 z] 51))
      have HT := Aside0.mk (hT.below HB.out)
      have HP := Aside0.mk (hP.below HB.out)
      clear hk hnn hlt hact hT hP hm hOw hlk wi
      go_upto_region 9 with (fail)
      clear a0 a1 a2 a3 a4 HB
      obtain ⟨g9, hg9⟩ : ∃ g9, g9 = wr.heap.size := ⟨_, rfl⟩
      rw [← hg9] at HG ⊢
      clear hg9
      generalize wr.alloc (.cells #[.int .i64 d, .int .i64 g, .int .i64 i, .int .i64 nn, .int .i64 z] 51) = w2 at HG HT HP ⊢
      have z0 := (blk_cell HG.out 0).trans rfl
      have z1 := (blk_cell HG.out 1).trans rfl
      have z2 := (blk_cell HG.out 2).trans rfl
      have z3 := (blk_cell HG.out 3).trans rfl
      have z4 := (blk_cell HG.out 4).trans rfl
      by_cases hd0 : d = 0
      · subst hd0
        go_wp2_with (go_at_call 30; refine (provide_q HT.out g i nn z).mono ?_; rintro e w3 ⟨rfl, hT, hK⟩; have P := Aside0.mk (show Om w w3 pb A m c (k + 1) from ⟨_, l, hT, HP.out.kq hK, HJ.out.1, HJ.out.2.1.prov _ _ _ _, Nat.le_succ_of_le HJ.out.2.2.1⟩); clear hT hK z0 z1 z2 z3 z4)
        go_roundw
        case rel => exact ⟨k + 1, A, m, c, by go_num, rfl, ⟨HK.out.1, P.out⟩⟩
        case measure => simp only [num]; have := HK.out.1; omega
      have q0 : (d == 0) = false := beq_eq_false_iff_ne.2 hd0
      have y0 : decide (d = 0) = false := decide_eq_false hd0
      by_cases hd1 : d = 1
      · subst hd1
        clear hd0 q0 y0
        obtain ⟨r2, x, zz, cd, hR⟩ : ∃ r2 x zz cd, takeR r g = (r2, x, zz, cd) := ⟨_, _, _, _, rfl⟩
        have hh := take_q HT.out g
        by_cases hcd : cd = 0
        · subst hcd
          have hOT := HJ.out.2.1.take HT.out g (by rw [hR])
          rw [hR] at hh hOT
          have CT := Aside0.mk hh
          have HOT := Aside0.mk hOT
          clear hh hOT hR
          go_upto_region 15 with (first | (go_at_call 31; refine CT.out.mono ?_; rintro e w3 ⟨rfl, hT, hK⟩; have HT3 := Aside0.mk hT; have HP3 := Aside0.mk (HP.out.kq hK); have HG3 := Aside0.mk (box_kq HG.out hK); clear hT hK z0 z1 z2 z3 z4; have z1 := (blk_cell HG3.out 1).trans rfl) | (go_at_call 32; refine (code_calls _ _).mono ?_; rintro e w9 ⟨rfl, rfl⟩))
          go_wp2
          clear z1
          have HI : Aside0 (0 ≤ m ∧ Below w3.heap.size w3 w3) := ⟨Nat.zero_le _, Below.refl _ _⟩
          go_loopw [10] (fun jv wq => ∃ j : Nat, jv = .int .i64 j ∧ Aside0 (j ≤ m ∧ Below w3.heap.size w3 wq)) (fun jv _ => m - num jv)
          case atStart => exact ⟨0, rfl, HI⟩
          case round =>
            clear HI
            obtain ⟨j, rfl, ⟨hj, hB⟩⟩ := hrel
            have hm := HJ.out.1
            have hlk := HJ.out.2.2.1
            have hk3 := HK.out.2
            by_cases hjm : j < m
            · have d1 : decide ((j : Int) < (m : Int)) = true := decide_eq_true (by omega)
              have d2 : decide (j < m) = true := decide_eq_true hjm
              have d3 : (j < m) = True := eq_true hjm
              have d4 : ((j : Int) < (m : Int)) = True := eq_true (by omega)
              have e2 : IntKind.i64.wrap ((j : Int) + 1) = (j : Int) + 1 := wid _ (by omega) (by omega)
              obtain ⟨ad2, rfl, hy0, hy1⟩ := (HP3.out.below hB).get (show j < l.length by omega)
              have z1 := (blk_cell (blk_below HG3.out hB) 1).trans rfl
              have hne : ¬ ((l.getD j (0, 0)).1 = g ∧ (l.getD j (0, 0)).2 = x) := fun e => HOT.out.1 (by
                have h1 : l.getD j (0, 0) = (g, x) := Prod.ext e.1 e.2
                rw [← h1, List.getD_eq_getElem?_getD, List.getElem?_eq_getElem (show j < l.length by omega)]
                exact List.getElem_mem _)
              obtain ⟨y, yy, hyy⟩ : ∃ y yy, l.getD j (0, 0) = (y, yy) := ⟨_, _, rfl⟩
              rw [hyy] at hy0 hy1 hne
              simp only at hy0 hy1 hne
              have hq := eql55 y yy g x
              have hbf : (y == g && yy == x) = false := by
                cases h1 : (y == g) <;> cases h2 : (yy == x) <;> simp_all
              rw [hbf] at hq
              have HB := Aside0.mk hB
              have HJJ := Aside0.mk hjm
              clear hj hB hm hlk hk3 hjm hne hbf hyy
              go_upto_region 18 with (fail)
              go_quiet (fail)
              go_wp2
              go_roundw
              case rel => exact ⟨j + 1, by go_num, ⟨HJJ.out, pw_below_drewN HB.out _⟩⟩
              case measure => simp only [num]; have := HJJ.out; omega
            · have d1 : decide ((j : Int) < (m : Int)) = false := decide_eq_false (by omega)
              have d2 : decide (j < m) = false := decide_eq_false hjm
              obtain rfl : j = m := by omega
              have HT4 := Aside0.mk (HT3.out.below hB)
              have HP4 := Aside0.mk (HP3.out.below hB)
              have z1 := (blk_cell (blk_below HG3.out hB) 1).trans rfl
              have HLL : Aside0 (l.length ≤ 100000) := ⟨by omega⟩
              clear hj hB hlk hk3 hjm
              go_wp2_with (((with_reducible refine gate_builtin (b := .append) (xs := #[.tmp 70, .tmp 75]) rfl ?_); refine append2_step rfl (.tmp 70) (.tmp 75) rfl wr.heap.size g x rfl rfl (HP4.out.below (below_alloc (Below.refl _ wr) _)) ?aa HLL.out ((blk_cell (blk_new wr _) 0).trans rfl) ((blk_cell (blk_new wr _) 1).trans rfl) ?_; (case aa => exact Nat.le_trans HT4.out.bl.size (below_alloc (Below.refl wr.heap.size wr) _).size); intro v5 w5 hP5 hG5; obtain ⟨A5, c5, rfl⟩ := hP5.shape; have P := Aside0.mk (show Om w w5 pb A5 (l ++ [(g, x)]).length c5 (k + 1) from ⟨_, _, pushed (HT4.out.below (below_alloc (Below.refl _ wr) _)) (HP4.out.below (below_alloc (Below.refl _ wr) _)) hP5 hG5, hP5, rfl, HOT.out.2, by have := HJ.out.2.2.1; rw [List.length_append]; simp; omega⟩); generalize (l ++ [(g, x)]).length = m5 at P ⊢; clear hP5 hG5 z1))
              go_roundw
              case rel => exact ⟨k + 1, A5, m5, c5, by go_num, rfl, ⟨HK.out.1, P.out⟩⟩
              case measure => simp only [num]; have := HK.out.1; omega
        · have hOT := HJ.out.2.1.take_no g (by rw [hR]; exact hcd)
          rw [hR] at hh hOT
          have t1 : (cd != 0) = true := bne_iff_ne.2 hcd
          have t2 : (cd == 0) = false := beq_eq_false_iff_ne.2 hcd
          have t3 : decide (cd = 0) = false := decide_eq_false hcd
          have CT := Aside0.mk hh
          have HOT := Aside0.mk hOT
          clear hh hOT hR hcd
          go_wp2_with (first | (go_at_call 31; refine CT.out.mono ?_; rintro e w3 ⟨rfl, hT, hK⟩; have P := Aside0.mk (show Om w w3 pb A m c (k + 1) from ⟨_, l, hT, HP.out.kq hK, HJ.out.1, HOT.out, Nat.le_succ_of_le HJ.out.2.2.1⟩); clear hT hK z0 z1 z2 z3 z4) | (go_at_call 32; refine (code_calls _ _).mono ?_; rintro e w9 ⟨rfl, rfl⟩))
          go_roundw
          case rel => exact ⟨k + 1, A, m, c, by go_num, rfl, ⟨HK.out.1, P.out⟩⟩
          case measure => simp only [num]; have := HK.out.1; omega
      have q1 : (d == 1) = false := beq_eq_false_iff_ne.2 hd1
      have y1 : decide (d = 1) = false := decide_eq_false hd1
      by_cases hd2 : d = 2
      · subst hd2
        clear hd0 q0 y0 hd1 q1 y1
        obtain ⟨r2, cd, hR⟩ : ∃ r2 cd, giveR r g i = (r2, cd) := ⟨_, _, rfl⟩
        have hh := give_q HT.out g i HJ.out.2.2.2
        by_cases hcd : cd = 0
        · subst hcd
          have hOT := HJ.out.2.1.give HT.out g i (by rw [hR])
          rw [hR] at hh hOT
          have CT := Aside0.mk hh
          have HOT := Aside0.mk hOT
          clear hh hOT hR
          go_upto_region 23 with (first | (go_at_call 33; refine CT.out.mono ?_; rintro e w3 ⟨rfl, hT, hK⟩; have HT3 := Aside0.mk hT; have HP3 := Aside0.mk (HP.out.kq hK); have HG3 := Aside0.mk (box_kq HG.out hK); clear hT hK z0 z1 z2 z3 z4) | (go_at_call 32; refine (code_calls _ _).mono ?_; rintro e w9 ⟨rfl, rfl⟩))
          go_wp2
          have HI : Aside0 (0 ≤ m ∧ Below w3.heap.size w3 w3 ∧ Pr w3.heap.size w3 (.slice none 0 0) (left l (g, i) 0) ∧ 0 = (left l (g, i) 0).length) := ⟨Nat.zero_le _, Below.refl _ _, Pr.nil _ _, rfl⟩
          go_loopw [11, 12] (fun rest jv wq => ∃ (j : Nat) (B : Option Addr) (rr cb : Nat), jv = .int .i64 j ∧ rest = .slice B rr cb ∧ Aside0 (j ≤ m ∧ Below w3.heap.size w3 wq ∧ Pr w3.heap.size wq (.slice B rr cb) (left l (g, i) j) ∧ rr = (left l (g, i) j).length)) (fun _ jv _ => m - num jv)
          case atStart => exact ⟨0, none, 0, 0, rfl, rfl, HI⟩
          case round =>
            clear HI
            obtain ⟨j, B, rr, cb, rfl, rfl, ⟨hj, hB, hS, hr⟩⟩ := hrel
            have hm := HJ.out.1
            have hlk := HJ.out.2.2.1
            have hk3 := HK.out.2
            by_cases hjm : j < m
            · have d1 : decide ((j : Int) < (m : Int)) = true := decide_eq_true (by omega)
              have d2 : decide (j < m) = true := decide_eq_true hjm
              have d3 : (j < m) = True := eq_true hjm
              have d4 : ((j : Int) < (m : Int)) = True := eq_true (by omega)
              have e2 : IntKind.i64.wrap ((j : Int) + 1) = (j : Int) + 1 := wid _ (by omega) (by omega)
              obtain ⟨ad2, rfl, hy0, hy1⟩ := (HP3.out.below hB).get (show j < l.length by omega)
              have z1 := (blk_cell (blk_below HG3.out hB) 1).trans rfl
              have z2 := (blk_cell (blk_below HG3.out hB) 2).trans rfl
              obtain ⟨y, yy, hyy⟩ : ∃ y yy, l.getD j (0, 0) = (y, yy) := ⟨_, _, rfl⟩
              rw [hyy] at hy0 hy1
              simp only at hy0 hy1
              have hq := neq55 y yy g i
              have HB := Aside0.mk (And.intro hB (And.intro hS hr))
              have HJJ := Aside0.mk hjm
              have HLL : Aside0 ((left l (g, i) j).length ≤ 100000) := ⟨Nat.le_trans (left_len _ _ _) (by omega)⟩
              by_cases hyx : (y, yy) = (g, i)
              · have hbf : (y == g && yy == i) = true := by
                  injection hyx with h1 h2
                  subst h1; subst h2
                  simp
                rw [hbf] at hq
                simp only [Bool.not_true] at hq
                have HX := Aside0.mk (left_same (show j < l.length by omega) (hyy.trans hyx))
                clear hj hB hS hr hm hlk hk3 hjm hyx hbf hyy
                go_upto_region 27 with (fail)
                go_quiet (fail)
                go_wp2
                go_roundw
                case rel => exact ⟨j + 1, B, rr, cb, by go_num, rfl, ⟨HJJ.out, pw_below_drewN HB.out.1 _, by rw [HX.out]; exact HB.out.2.1, by rw [HX.out]; exact HB.out.2.2⟩⟩
                case measure => simp only [num]; have := HJJ.out; omega
              · have hbf : (y == g && yy == i) = false := by
                  cases h1 : (y == g) <;> cases h2 : (yy == i) <;> simp_all
                rw [hbf] at hq
                simp only [Bool.not_false] at hq
                have HX := Aside0.mk (left_more (show j < l.length by omega) (by rw [hyy]; exact hyx))
                have HYY := Aside0.mk hyy
                clear hj hB hS hr hm hlk hk3 hjm hyx hbf hyy
                go_upto_region 27 with (fail)
                go_quiet (fail)
                have HB4 := Aside0.mk (And.intro (pw_below_drewN HB.out.1 nq) (And.intro (HB.out.2.1.below (pw_below_drewN (Below.refl _ _) nq)) HB.out.2.2))
                have hy40 : (World.drewN _ nq).cell? (ad2.add (j * 2)) = some (.int .i64 y) := hy0
                have hy41 : (World.drewN _ nq).cell? _ = some (.int .i64 yy) := hy1
                clear hy0 hy1 z1 z2 HB hq
                generalize World.drewN _ nq = w4 at HB4 hy40 hy41 ⊢
                go_wp2_with (((with_reducible refine gate_builtin (b := .append) (xs := #[.tmp 103, .tmp 108]) rfl ?_); refine append2_step rfl (.tmp 103) (.tmp 108) rfl w4.heap.size y yy rfl rfl (HB4.out.2.1.below (below_alloc (Below.refl _ w4) _)) ?aa HLL.out ((blk_cell (blk_new w4 _) 0).trans rfl) ((blk_cell (blk_new w4 _) 1).trans rfl) ?_; (case aa => exact Nat.le_trans HB4.out.1.size (below_alloc (Below.refl w4.heap.size w4) _).size); intro v5 w5 hS hG; obtain ⟨A5, c5, rfl⟩ := hS.shape; have HB5 := Aside0.mk (pw_below_grown (below_step HB4.out.1 (below_alloc (Below.refl w4.heap.size w4) _)) _ (below_step HB4.out.1 (below_alloc (Below.refl w4.heap.size w4) _)).size hG (fun q hq => (HB4.out.2.1.low q hq).1)); generalize hlen : (left l (g, i) j ++ [(y, yy)]).length = m5 at hS ⊢; rw [← HYY.out, ← HX.out] at hS; have HS5 := Aside0.mk hS; have HLN := Aside0.mk hlen; clear hS hG hlen))
                go_roundw
                case rel => exact ⟨j + 1, A5, m5, c5, by go_num, rfl, ⟨HJJ.out, HB5.out, HS5.out, by rw [HX.out, HYY.out]; exact HLN.out.symm⟩⟩
                case measure => simp only [num]; have := HJJ.out; omega
            · have d1 : decide ((j : Int) < (m : Int)) = false := decide_eq_false (by omega)
              have d2 : decide (j < m) = false := decide_eq_false hjm
              obtain rfl : j = m := by omega
              have hfull : left l (g, i) j = l.filter (fun p => p ≠ (g, i)) := by unfold left; rw [hm, List.take_length]
              have hfl := filter_len HJ.out.2.1.nd HOT.out.1
              rw [← hfull, ← hr, ← hm] at hfl
              have P := Aside0.mk (show Om w _ pb B rr cb (k + 1) from ⟨r2, left l (g, i) j, HT3.out.below hB, hS.mono HT3.out.bl.size, hr, by rw [hfull]; exact HOT.out.2, by omega⟩)
              have t4 : IntKind.i64.wrap ((rr : Int) + 1) = (j : Int) := by rw [wid _ (by omega) (by omega)]; omega
              have t5 : ((j : Int) != (j : Int)) = false := bne_self_eq_false _
              clear hj hB hS hr hm hlk hk3 hjm hfull hfl
              go_wp2
              go_roundw
              case rel => exact ⟨k + 1, B, rr, cb, by go_num, rfl, ⟨HK.out.1, P.out⟩⟩
              case measure => simp only [num]; have := HK.out.1; omega
        · have hOT := HJ.out.2.1.give_no g i (by rw [hR]; exact hcd)
          rw [hR] at hh hOT
          have t1 : (cd != 0) = true := bne_iff_ne.2 hcd
          have t2 : (cd == 0) = false := beq_eq_false_iff_ne.2 hcd
          have t3 : decide (cd = 0) = false := decide_eq_false hcd
          have CT := Aside0.mk hh
          have HOT := Aside0.mk hOT
          clear hh hOT hR hcd
          go_wp2_with (first | (go_at_call 33; refine CT.out.mono ?_; rintro e w3 ⟨rfl, hT, hK⟩; have P := Aside0.mk (show Om w w3 pb A m c (k + 1) from ⟨_, l, hT, HP.out.kq hK, HJ.out.1, HOT.out, Nat.le_succ_of_le HJ.out.2.2.1⟩); clear hT hK z0 z1 z2 z3 z4) | (go_at_call 32; refine (code_calls _ _).mono ?_; rintro e w9 ⟨rfl, rfl⟩))
          go_roundw
          case rel => exact ⟨k + 1, A, m, c, by go_num, rfl, ⟨HK.out.1, P.out⟩⟩
          case measure => simp only [num]; have := HK.out.1; omega
      have q2 : (d == 2) = false := beq_eq_false_iff_ne.2 hd2
      have y2 : decide (d = 2) = false := decide_eq_false hd2
      by_cases hd3 : d = 3
      · subst hd3
        clear hd0 q0 y0 hd1 q1 y1 hd2 q2 y2
        go_wp2_with (go_at_call 34; refine (remove_q HT.out g nn).mono ?_; rintro e w3 ⟨rfl, hT, hK⟩; have P := Aside0.mk (show Om w w3 pb A m c (k + 1) from ⟨_, l, hT, HP.out.kq hK, HJ.out.1, HJ.out.2.1.rem _ _, Nat.le_succ_of_le HJ.out.2.2.1⟩); clear hT hK z0 z1 z2 z3 z4)
        go_roundw
        case rel => exact ⟨k + 1, A, m, c, by go_num, rfl, ⟨HK.out.1, P.out⟩⟩
        case measure => simp only [num]; have := HK.out.1; omega
      have q3 : (d == 3) = false := beq_eq_false_iff_ne.2 hd3
      have y3 : decide (d = 3) = false := decide_eq_false hd3
      have P := Aside0.mk (show Om w w2 pb A m c (k + 1) from ⟨r, l, HT.out, HP.out, HJ.out.1, HJ.out.2.1, Nat.le_succ_of_le HJ.out.2.2.1⟩)
      go_wp2
      go_roundw
      case rel => exact ⟨k + 1, A, m, c, by go_num, rfl, ⟨HK.out.1, P.out⟩⟩
      case measure => simp only [num]; have := HK.out.1; omega
    · have b0 : decide ((k : Int) < (n : Int)) = false := decide_eq_false (by omega)
      have b1 : decide (k < n) = false := decide_eq_false hlt
      have HB : Aside0 (Below w.heap.size w wr) := ⟨by obtain ⟨r, l, hT, -⟩ := hO; exact hT.bl⟩
      clear hk hnn hlt hO
      go_wp2_with (go_at_call 28; refine (live_calls _).mono ?_; rintro e w8 ⟨rfl, hB⟩; replace HB := Aside0.mk (below_step HB.out hB); clear hB)
      go_ret
      exact ⟨rfl, HB.out⟩
set_option maxRecDepth 100000 in
set_option maxHeartbeats 4000000 in
theorem once_big (A1 : Option Addr) (n c1 : Nat) (w : World) (hn : 100 < n) :
    Calls Try.prog 6 #[.slice A1 n c1] w fun e w' => e = .returned (.bool true) ∧ Below w.heap.size w w' := by
  have d0 : decide (100 < (n : Int)) = true := decide_eq_true (by omega)
  clear hn
  go_enter Try.func6, Try.ntmps6
  go_wp2_with (go_at_call 28; refine (live_calls _).mono ?_; rintro e w8 ⟨rfl, hB⟩; have HB := Aside0.mk hB; clear hB)
  go_ret
  exact ⟨rfl, HB.out⟩
theorem towropelaw17_PoolOnce.calls (A1 : Option Addr) (n c1 : Nat) (w : World) (h : Acts w A1 n) :
    Calls Try.prog 6 #[.slice A1 n c1] w fun e w' => e = .returned (.bool true) ∧ Below w.heap.size w w' := by
  by_cases hn : n ≤ 100
  · exact once_all A1 n c1 w h hn
  · exact once_big A1 n c1 w (by omega)
end Go.Proofs.Ytfmfpofbefgbgaa.PPoolL
