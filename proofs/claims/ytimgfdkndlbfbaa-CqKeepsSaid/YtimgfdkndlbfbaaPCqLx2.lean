/- The law CqKeeps of cq. Conditions: each theorem's own. -/
import Derived.Test.YtimgfdkndlbfbaaPCqLx0
import Derived.Test.YtimgfdkndlbfbaaHCqK
namespace Go.Proofs.Ytimgfdkndlbfbaa.PCqL
open Go.RowKit Go.Proofs.YtimgfdkndlbfbaaW.PrintWords Go.Proofs.YtimgfdkndlbfbaaW.PrintLast Go.Proofs.YtimgfdkndlbfbaaW.PrintMore Go.Proofs.Ytimgfdkndlbfbaa.PCq Go.Proofs.Ytimgfdkndlbfbaa.HRng Go.Proofs.Ytimgfdkndlbfbaa.HReg Go.Proofs.Ytimgfdkndlbfbaa.HCq
set_option linter.unusedVariables false
set_option linter.unusedSimpArgs false
theorem ring_nums {a : Int} (h0 : 0 ≤ a) (h1 : a ≤ 255) : ∃ E : Nat, 1 ≤ E ∧ E ≤ 1024 ∧ IntKind.i64.wrap a = a ∧ IntKind.i64.wrap (1 + Int.tmod a 20) = E ∧ wrap64 (1 + Int.tmod a 20) = E := by
  obtain ⟨n, rfl⟩ : ∃ n : Nat, a = n := ⟨a.toNat, by omega⟩
  have hm : Int.tmod (n : Int) 20 = ((n % 20 : Nat) : Int) := by rw [Int.tmod_eq_emod_of_nonneg (by omega)]; omega
  rw [hm]
  refine ⟨n % 20 + 1, by omega, by omega, wid _ (by omega) (by omega), ?_, ?_⟩
  · rw [wid _ (by omega) (by omega)]; omega
  · rw [w64 _ (by omega) (by omega)]; omega
theorem int_at {kd : IntKind} {w : World} {A : Option Addr} {n : Nat} {xs : List Int} (h : (Kd.int kd).C w A n xs) {j : Nat} {u : Int} (hu : xs[j]? = some u) : ∃ ad, A = some ad ∧ w.cell? (ad.add j) = some (.int kd u) := by
  have hj := (List.getElem?_eq_some_iff.1 hu).1
  have hl := h.1
  obtain ⟨ad, rfl, hel⟩ := h.2.2 (by omega)
  obtain ⟨cs, hcl, hK, hc⟩ := hel j u hu
  have hK' : cs = [.int kd u] := hK
  subst hK'
  have h0 := hc 0 _ rfl
  have hz : (Kd.int kd).sz = 1 := rfl
  rw [hz, Nat.mul_one, Nat.add_zero] at h0
  exact ⟨ad, rfl, h0⟩
theorem int_cell {kd : IntKind} {w : World} {ad : Addr} {n : Nat} {xs : List Int} (h : (Kd.int kd).C w (some ad) n xs) {j : Nat} {u : Int} (hu : xs[j]? = some u) : w.cell? (ad.add j) = some (.int kd u) := by
  obtain ⟨ad2, e, h0⟩ := int_at h hu
  injection e with e
  rw [e]
  exact h0
theorem get_some {us : List Int} {i : Nat} (h : i < us.length) : ∃ u, us[i]? = some u := ⟨_, List.getElem?_eq_getElem h⟩
set_option maxRecDepth 100000 in
set_option maxHeartbeats 8000000 in
theorem keeps_calls (a0 a1 : Int) (A2 : Option Addr) (c2 : Nat) (us : List Int) (A3 : Option Addr) (c3 : Nat) (rs : List Int) (w : World) (h00 : 0 ≤ a0) (h01 : a0 ≤ 255) (h10 : 0 ≤ a1) (h11 : a1 ≤ 255) (hC2 : (Kd.int .u64).C w A2 us.length us) (hC3 : (Kd.int .u8).C w A3 rs.length rs) (hr3 : ∀ x ∈ rs, 0 ≤ x ∧ x ≤ 255) :
    Calls Try.prog 3 #[.int .u8 a0, .int .u8 a1, .slice A2 us.length c2, .slice A3 rs.length c3] w fun e w' => e = .returned (.bool true) ∧ Below w.heap.size w w' := by
  have hmx := Kd.C_max hC2
  have hmx3 := Kd.C_max hC3
  by_cases hbig : us.length > 300
  · have b0 : decide ((us.length : Int) > 300) = true := decide_eq_true (by omega)
    have b0' : decide ((300 : Int) < (us.length : Int)) = true := decide_eq_true (by omega)
    have HB := Aside0.mk (Below.refl w.heap.size w)
    generalize us.length = n at b0 b0' ⊢
    generalize rs.length = n3 at ⊢
    clear hC2 hC3 hr3 hmx hmx3 hbig
    go_enter Try.func3, Try.ntmps3
    go_wp2_with (go_at_call 12; (with_reducible refine (live_calls _).mono ?_); rintro e3 w3 ⟨rfl, hB⟩; replace HB := Aside0.mk (below_then HB.out HB.out.size hB); clear hB; dsimp only)
    go_ret
    exact ⟨rfl, HB.out⟩
  · obtain ⟨E, hE1, hE2, e1, e2, e3⟩ := ring_nums h00 h01
    obtain ⟨D, hD1, hD2, d1, d2, d3⟩ := ring_nums h10 h11
    have HNW := Aside0.mk (new_ok E D ⟨hE1, hE2⟩ ⟨hD1, hD2⟩ w)
    have b0 : decide ((us.length : Int) > 300) = false := decide_eq_false (by omega)
    have b0' : decide ((300 : Int) < (us.length : Int)) = false := decide_eq_false (by omega)
    obtain ⟨n, hn⟩ : ∃ n, n = us.length := ⟨_, rfl⟩
    obtain ⟨n3, hn3⟩ : ∃ n, n = rs.length := ⟨_, rfl⟩
    rw [← hn] at b0 b0' ⊢
    rw [← hn3]
    have HA := Aside0.mk (And.intro hn (And.intro hC2 (show us.length ≤ 300 by omega)))
    have HR := Aside0.mk (And.intro hn3 (And.intro hC3 (And.intro hr3 hmx3)))
    clear hn hn3 hC2 hC3 hr3 hmx hmx3 hbig h00 h01 h10 h11 hE1 hE2 hD1 hD2
    go_enter Try.func3, Try.ntmps3
    go_upto_region 9 with (first | (go_at_call 13; (with_reducible refine HNW.out.mono ?_); rintro e5 w1 ⟨rb, eb, db, rfl, hQ, hB⟩; have HQ := Aside0.mk hQ; have HB := Aside0.mk hB; clear hQ hB; dsimp only) | (go_at_call 14; (with_reducible refine (code_calls _ _).mono ?_); rintro e6 w6 ⟨rfl, rfl⟩; dsimp only))
    have HK0 := Aside0.mk (Kp.new (us := us) HQ.out HB.out HA.out.2.2)
    clear e1 e2 e3 d1 d2 d3 b0 b0' HNW HQ HB
    go_loopw [11, 12, 13] (fun gv nv iv wr => ∃ (i nx g : Nat) (A : Option Addr) (c : Nat), gv = .slice A g c ∧ nv = .int .i64 nx ∧ iv = .int .i64 i ∧ Aside0 (Kp E us w.heap.size w wr rb eb db i nx nx g (.slice A g c))) (fun _ _ iv _ => n - num iv)
    case atStart => exact ⟨0, 0, 0, none, 0, rfl, rfl, rfl, HK0⟩
    case round =>
      clear HK0
      obtain ⟨i, nx, g, A, c, rfl, rfl, rfl, ⟨hK⟩⟩ := hrel
      have hL := hK.le
      have hA := HA.out
      have w1_ : IntKind.i64.wrap ((i : Int) + 1) = (i : Int) + 1 := wid _ (by omega) (by omega)
      by_cases hlt : i < n
      · have b0 : decide ((i : Int) < (n : Int)) = true := decide_eq_true (by omega)
        have b1 : decide (i < n) = true := decide_eq_true hlt
        have b3 : (i < n) = True := eq_true hlt
        have b4 : ((i : Int) < (n : Int)) = True := eq_true (by omega)
        obtain ⟨u, hu⟩ := get_some (show i < us.length by omega)
        obtain ⟨ad, rfl, -⟩ := int_at hA.2.1 hu
        have HKs := Aside0.mk (show Aside0 (Kp E us w.heap.size w wr rb eb db i nx nx g (.slice A g c)) from ⟨hK⟩)
        have HU := Aside0.mk (And.intro hu hlt)
        clear hK hL hA hlt hu
        go_upto_region 11 with (fail)
        go_loopw [12] (fun nv wr2 => ∃ (nx : Nat), nv = .int .i64 nx ∧ Aside0 (Kp E us w.heap.size w wr2 rb eb db i nx nx g (.slice A g c))) (fun nv _ => i - num nv)
        case atStart => exact ⟨nx, rfl, HKs.out⟩
        case round =>
          clear HKs
          obtain ⟨nx, rfl, ⟨hK⟩⟩ := hrel
          have hL := hK.le
          have hA := HA.out
          have r0 := int_cell (Kd.C_below hA.2.1 hK.bl) HU.out.1
          by_cases hr : i - nx = E
          · have HSB := Aside0.mk (fun (b : Nat) (W : World) (hb : Below wr.heap.size wr W) (hlo : wr.heap.size ≤ b) hg => Kp.sub0 hK hr (u := u) (b := b) (w1 := W) hb hlo hg)
            have hlt : nx < i := by have := hK.qlen; omega
            clear hK hL hA
            go_upto_region 12 with (go_at_call 15; (with_reducible refine (HSB.out _ _ (below_alloc (Below.refl _ _) _) (Nat.le_refl _) (blk_new _ _)).mono ?_); rintro e5 w5 ⟨rfl, hK5⟩; have HK5 := Aside0.mk hK5; clear hK5; dsimp only)
            obtain ⟨v, hv⟩ := get_some (show nx < us.length by have := HK5.out.le; omega)
            have HNX := Aside0.mk (HK5.out.next hlt hv)
            have HV := Aside0.mk (And.intro hv hlt)
            clear hv hlt hr r0 HSB
            go_upto_region 13 with (go_at_call 16; (with_reducible refine HNX.out.mono ?_); rintro e6 w6 ⟨A6, c6, rfl, hK6⟩; have HK6 := Aside0.mk hK6; clear hK6; dsimp only)
            have HK7 := Aside0.mk (HK6.out.below (below_alloc (Below.refl _ _) (.cells #[.int .u8 0, .int .u8 0, .int .i64 0, .int .u32 0, .int .u16 0, .int .i64 0, .int .i64 0, .int .i64 0, .int .u64 0, .int .u64 v, .slice A6 0 c6] 37)))
            have HG := Aside0.mk (blk_new w6 (.cells #[.int .u8 0, .int .u8 0, .int .i64 0, .int .u32 0, .int .u16 0, .int .i64 0, .int .i64 0, .int .i64 0, .int .u64 0, .int .u64 v, .slice A6 0 c6] 37))
            obtain ⟨bq, hbq⟩ : ∃ bq, bq = w6.heap.size := ⟨_, rfl⟩
            rw [← hbq] at HG ⊢
            clear hbq HK5 HNX HK6
            generalize w6.alloc (.cells #[.int .u8 0, .int .u8 0, .int .i64 0, .int .u32 0, .int .u16 0, .int .i64 0, .int .i64 0, .int .i64 0, .int .u64 0, .int .u64 v, .slice A6 0 c6] 37) = w7 at HK7 HG ⊢
            have hn := HA.out.1
            have hL := HK7.out.le
            have r9 := (blk_cell HG.out 9).trans rfl
            have ru := int_cell (Kd.C_below HA.out.2.1 HK7.out.bl) HV.out.1
            have hlt : nx < n := by omega
            have n0 : decide ((nx : Int) < (n : Int)) = true := decide_eq_true (by omega)
            have n1 : decide (nx < n) = true := decide_eq_true hlt
            have n3_ : (nx < n) = True := eq_true hlt
            have n4 : ((nx : Int) < (n : Int)) = True := eq_true (by omega)
            have w2_ : IntKind.i64.wrap ((nx : Int) + 1) = (nx : Int) + 1 := wid _ (by omega) (by omega)
            clear hn hL hlt
            go_quiet (fail)
            go_upto_region 15 with (fail)
            have HK8 := Aside0.mk (HK7.out.below (pw_below_drewN (Below.refl _ _) nq))
            have HG8 := Aside0.mk (blk_below HG.out (pw_below_drewN (Below.refl _ _) nq))
            clear r9 ru HK7 HG
            generalize w7.drewN nq = w8 at HK8 HG8 ⊢
            have r9 := (blk_cell HG8.out 9).trans rfl
            have HPS := Aside0.mk (HK8.out.post (Nat.lt_succ_self nx) HV.out.1)
            go_wp2_with (go_at_call 17; (with_reducible refine HPS.out.mono ?_); rintro e9 w9 ⟨rfl, hK9⟩; have HK9 := Aside0.mk hK9; clear hK9; dsimp only)
            go_roundw
            case rel => exact ⟨nx + 1, by go_num, HK9⟩
            case measure => simp only [num]; have := HV.out.2; omega
          · have HSB := Aside0.mk (fun (b : Nat) (W : World) (hb : Below wr.heap.size wr W) (hlo : wr.heap.size ≤ b) hg => Kp.sub1 hK hr (u := u) HU.out.1 (b := b) (w1 := W) hb hlo hg)
            clear hK hL hA
            go_upto_region 17 with (go_at_call 15; (with_reducible refine (HSB.out _ _ (below_alloc (Below.refl _ _) _) (Nat.le_refl _) (blk_new _ _)).mono ?_); rintro e5 w5 ⟨rfl, hK5⟩; have HK5 := Aside0.mk hK5; clear hK5; dsimp only)
            clear HSB r0 hr
            by_cases hj : i < n3
            · have j0 : decide ((i : Int) < (n3 : Int)) = true := decide_eq_true (by omega)
              have j1 : decide (i < n3) = true := decide_eq_true hj
              have j3 : (i < n3) = True := eq_true hj
              have j4 : ((i : Int) < (n3 : Int)) = True := eq_true (by omega)
              obtain ⟨x, hx⟩ := get_some (show i < rs.length by have := HR.out.1; omega)
              obtain ⟨ad3, rfl, -⟩ := int_at HR.out.2.1 hx
              have rx := int_cell (Kd.C_below HR.out.2.1 HK5.out.bl) hx
              have hxr := HR.out.2.2.1 x (List.mem_of_getElem? hx)
              have wx : IntKind.i64.wrap x = x := wid _ (by omega) (by omega)
              have HRP := Aside0.mk (HK5.out.reap x hxr.1)
              clear hj hx hxr
              go_upto_region 10 with (first | (go_at_call 18; (with_reducible refine HRP.out.mono ?_); rintro e6 w6 ⟨m, A6, c6, ok6, okp6, news, rfl, hR6⟩; have HR6 := Aside0.mk hR6; clear hR6; dsimp only) | ((with_reducible refine gate_builtin (b := .append) (xs := #[.tmp 85, .tmp 92]) rfl ?_); at_builtin; refine Kd.N_append_rows k43 (w0 := w6) w.heap.size rfl (.tmp 85) (.tmp 92) 30 43 (.agg #[.int .u64 0, .int .i64 0, .int .u8 0, .int .i64 0, .slice none 0 0]) 56 rfl Try.underlying30 full43 rfl (by decide) (by decide) (.slice A g c) ((us.take g).map zc) news A6 m c6 ok6 okp6 rfl rfl HR6.out.old HR6.out.new HR6.out.ap HR6.out.fr (Below.refl _ _) HR6.out.hB HR6.out.lb ?_; intro v7 w7 hN7 hB7 hG7 hA7; have HK7 := Aside0.mk (HR6.out.go v7 w7 hN7 hG7 hA7); obtain ⟨A7, c7, e7⟩ := HK7.out.form; subst e7; clear hN7 hB7 hG7 hA7; dsimp only))
              go_wp2
              go_roundw
              case rel => exact ⟨i + 1, nx, g + m, A7, c7, rfl, rfl, by go_num, HK7⟩
              case measure => simp only [num]; have := HU.out.2; omega
            · have j0 : decide ((i : Int) < (n3 : Int)) = false := decide_eq_false (by omega)
              have j1 : decide (i < n3) = false := decide_eq_false hj
              have j3 : (i < n3) = False := eq_false hj
              have j4 : ((i : Int) < (n3 : Int)) = False := eq_false (by omega)
              clear hj
              go_upto_region 10 with (fail)
              go_wp2
              go_roundw
              case rel => exact ⟨i + 1, nx, g, A, c, rfl, rfl, by go_num, HK5⟩
              case measure => simp only [num]; have := HU.out.2; omega
      · obtain rfl : i = n := by omega
        have b0 : decide ((i : Int) < (i : Int)) = false := decide_eq_false (by omega)
        have b1 : decide (i < i) = false := decide_eq_false (by omega)
        have HKs := Aside0.mk (show Aside0 (Kp E us w.heap.size w wr rb eb db i nx nx g (.slice A g c)) from ⟨hK⟩)
        clear hK hL hA hlt w1_
        go_upto_region 19 with (fail)
        clear b0 b1
        go_loopw [12] (fun nv wr2 => ∃ (nx : Nat), nv = .int .i64 nx ∧ Aside0 (Kp E us w.heap.size w wr2 rb eb db i nx nx g (.slice A g c))) (fun nv _ => i - num nv)
        case atStart => exact ⟨nx, rfl, HKs.out⟩
        case round =>
          clear HKs
          obtain ⟨nx, rfl, ⟨hK⟩⟩ := hrel
          have hL := hK.le
          have hA := HA.out
          by_cases hlt : nx < i
          · have n0 : decide ((nx : Int) < (i : Int)) = true := decide_eq_true (by omega)
            have n1 : decide (nx < i) = true := decide_eq_true hlt
            have n3_ : (nx < i) = True := eq_true hlt
            have n4 : ((nx : Int) < (i : Int)) = True := eq_true (by omega)
            have w2_ : IntKind.i64.wrap ((nx : Int) + 1) = (nx : Int) + 1 := wid _ (by omega) (by omega)
            obtain ⟨v, hv⟩ := get_some (show nx < us.length by omega)
            obtain ⟨ad, rfl, -⟩ := int_at hA.2.1 hv
            have HNX := Aside0.mk (hK.next hlt hv)
            have HV := Aside0.mk (And.intro hv hlt)
            clear hv hlt hK hL hA
            go_upto_region 21 with (go_at_call 16; (with_reducible refine HNX.out.mono ?_); rintro e6 w6 ⟨A6, c6, rfl, hK6⟩; have HK6 := Aside0.mk hK6; clear hK6; dsimp only)
            have HK7 := Aside0.mk (HK6.out.below (below_alloc (Below.refl _ _) (.cells #[.int .u8 0, .int .u8 0, .int .i64 0, .int .u32 0, .int .u16 0, .int .i64 0, .int .i64 0, .int .i64 0, .int .u64 0, .int .u64 v, .slice A6 0 c6] 37)))
            have HG := Aside0.mk (blk_new w6 (.cells #[.int .u8 0, .int .u8 0, .int .i64 0, .int .u32 0, .int .u16 0, .int .i64 0, .int .i64 0, .int .i64 0, .int .u64 0, .int .u64 v, .slice A6 0 c6] 37))
            obtain ⟨bq, hbq⟩ : ∃ bq, bq = w6.heap.size := ⟨_, rfl⟩
            rw [← hbq] at HG ⊢
            clear hbq HNX HK6
            generalize w6.alloc (.cells #[.int .u8 0, .int .u8 0, .int .i64 0, .int .u32 0, .int .u16 0, .int .i64 0, .int .i64 0, .int .i64 0, .int .u64 0, .int .u64 v, .slice A6 0 c6] 37) = w7 at HK7 HG ⊢
            have r9 := (blk_cell HG.out 9).trans rfl
            have ru := int_cell (Kd.C_below HA.out.2.1 HK7.out.bl) HV.out.1
            go_quiet (fail)
            go_upto_region 23 with (fail)
            have HK8 := Aside0.mk (HK7.out.below (pw_below_drewN (Below.refl _ _) nq))
            have HG8 := Aside0.mk (blk_below HG.out (pw_below_drewN (Below.refl _ _) nq))
            clear r9 ru HK7 HG
            generalize w7.drewN nq = w8 at HK8 HG8 ⊢
            have r9 := (blk_cell HG8.out 9).trans rfl
            have HPS := Aside0.mk (HK8.out.post (Nat.lt_succ_self nx) HV.out.1)
            go_wp2_with (go_at_call 17; (with_reducible refine HPS.out.mono ?_); rintro e9 w9 ⟨rfl, hK9⟩; have HK9 := Aside0.mk hK9; clear hK9; dsimp only)
            go_roundw
            case rel => exact ⟨nx + 1, by go_num, HK9⟩
            case measure => simp only [num]; have := HV.out.2; omega
          · obtain rfl : nx = i := by omega
            have n0 : decide ((nx : Int) < (nx : Int)) = false := decide_eq_false (by omega)
            have n1 : decide (nx < nx) = false := decide_eq_false (by omega)
            have HKs := Aside0.mk (show Aside0 (Kp E us w.heap.size w wr rb eb db nx nx nx g (.slice A g c)) from ⟨hK⟩)
            have HI := Aside0.mk (And.intro hA.1 (show nx ≤ 300 by omega))
            clear hK hL hA hlt
            go_upto_region 26 with (fail)
            clear n0 n1
            go_loopw [11, 18] (fun gv jv wr2 => ∃ (j g : Nat) (A : Option Addr) (c : Nat), gv = .slice A g c ∧ jv = .int .i64 j ∧ Aside0 (j ≤ g ∧ Kp E us w.heap.size w wr2 rb eb db nx nx nx g (.slice A g c))) (fun _ jv _ => nx + 1 - num jv)
            case atStart => exact ⟨0, g, A, c, rfl, rfl, ⟨Nat.zero_le _, HKs.out.out⟩⟩
            case round =>
              clear HKs
              obtain ⟨j, g, A, c, rfl, rfl, ⟨hjg, hK⟩⟩ := hrel
              have hL := hK.le
              have hI := HI.out
              by_cases hlt : g < nx
              · have n0 : decide ((j : Int) < 400) = true := decide_eq_true (by omega)
                have n1 : decide (j < 400) = true := decide_eq_true (by omega)
                have n2 : decide ((g : Int) < (nx : Int)) = true := decide_eq_true (by omega)
                have n3_ : decide (g < nx) = true := decide_eq_true hlt
                have w2_ : IntKind.i64.wrap ((j : Int) + 1) = (j : Int) + 1 := wid _ (by omega) (by omega)
                have HRP := Aside0.mk (hK.reap (1 + (j : Int) % 3) (by omega))
                have HV := Aside0.mk (And.intro hlt (And.intro hjg (show (0 : Int) < 1 + (j : Int) % 3 by omega)))
                clear hK hL hI hlt hjg
                go_upto_region 27 with (first | (go_at_call 18; (with_reducible refine HRP.out.mono ?_); rintro e6 w6 ⟨m, A6, c6, ok6, okp6, news, rfl, hR6⟩; have HR6 := Aside0.mk hR6; clear hR6; dsimp only) | ((with_reducible refine gate_builtin (b := .append) (xs := #[.tmp 132, .tmp 137]) rfl ?_); at_builtin; refine Kd.N_append_rows k43 (w0 := w6) w.heap.size rfl (.tmp 132) (.tmp 137) 30 43 (.agg #[.int .u64 0, .int .i64 0, .int .u8 0, .int .i64 0, .slice none 0 0]) 56 rfl Try.underlying30 full43 rfl (by decide) (by decide) (.slice A g c) ((us.take g).map zc) news A6 m c6 ok6 okp6 rfl rfl HR6.out.old HR6.out.new HR6.out.ap HR6.out.fr (Below.refl _ _) HR6.out.hB HR6.out.lb ?_; intro v7 w7 hN7 hB7 hG7 hA7; have HK7 := Aside0.mk (HR6.out.go v7 w7 hN7 hG7 hA7); obtain ⟨A7, c7, e7⟩ := HK7.out.form; subst e7; have HM := Aside0.mk HR6.out.pos; clear hN7 hB7 hG7 hA7; dsimp only))
                go_wp2
                go_roundw
                case rel => exact ⟨j + 1, g + m, A7, c7, rfl, by go_num, ⟨by have := HM.out HV.out.2.2 HV.out.1; have := HV.out.2.1; omega, HK7.out⟩⟩
                case measure => simp only [num]; have := HV.out.2.1; have := HV.out.1; omega
              · obtain rfl : g = nx := by omega
                have n0 : decide ((j : Int) < 400) = true := decide_eq_true (by omega)
                have n1 : decide (j < 400) = true := decide_eq_true (by omega)
                have n2 : decide ((g : Int) < (g : Int)) = false := decide_eq_false (by omega)
                have n3_ : decide (g < g) = false := decide_eq_false (by omega)
                have HKs := Aside0.mk (show Aside0 (Kp E us w.heap.size w wr rb eb db g g g g (.slice A g c)) from ⟨hK⟩)
                clear hK hL hI hlt hjg
                go_upto_region 32 with (fail)
                clear n0 n1 n2 n3_
                go_loopw [19] (fun jv wr2 => ∃ (j : Nat), jv = .int .i64 j ∧ Aside0 (j ≤ g ∧ Kp E us w.heap.size w wr2 rb eb db g g g g (.slice A g c))) (fun jv _ => g - num jv)
                case atStart => exact ⟨0, rfl, ⟨Nat.zero_le _, HKs.out.out⟩⟩
                case round =>
                  clear HKs
                  obtain ⟨j, rfl, ⟨hj, hK⟩⟩ := hrel
                  have hI := HI.out
                  by_cases hlt : j < g
                  · have n0 : decide ((j : Int) < (g : Int)) = true := decide_eq_true (by omega)
                    have n1 : decide (j < g) = true := decide_eq_true hlt
                    have n3_ : (j < g) = True := eq_true hlt
                    have n4 : ((j : Int) < (g : Int)) = True := eq_true (by omega)
                    have w2_ : IntKind.i64.wrap ((j : Int) + 1) = (j : Int) + 1 := wid _ (by omega) (by omega)
                    obtain ⟨v, hv⟩ := get_some (show j < us.length by omega)
                    obtain ⟨ad, rfl, -⟩ := int_at HA.out.2.1 hv
                    have ru := int_cell (Kd.C_below HA.out.2.1 hK.bl) hv
                    obtain ⟨-, ad2, c2_, e2, rg⟩ := hK.elem hlt hv
                    injection e2 with e2
                    subst e2
                    have HV := Aside0.mk (And.intro hlt (And.intro hj hv))
                    have HK := Aside0.mk hK
                    clear hK hlt hj hv hI
                    go_upto_region 34 with (fail)
                    go_quiet (fail)
                    go_wp2
                    go_roundw
                    case rel => exact ⟨j + 1, by go_num, ⟨HV.out.1, HK.out.below (pw_below_drewN (Below.refl _ _) _)⟩⟩
                    case measure => simp only [num]; have := HV.out.1; omega
                  · obtain rfl : j = g := by omega
                    have n0 : decide ((j : Int) < (j : Int)) = false := decide_eq_false (by omega)
                    have n1 : decide (j < j) = false := decide_eq_false (by omega)
                    have HB := Aside0.mk (And.intro hK.bl hK.hB)
                    clear hK hlt hj hI
                    go_wp2_with (go_at_call 12; (with_reducible refine (live_calls _).mono ?_); rintro e3 w3 ⟨rfl, hB⟩; have HB3 := Aside0.mk (below_then HB.out.1 HB.out.2 hB); clear hB; dsimp only)
                    go_ret
                    exact ⟨rfl, HB3.out⟩
theorem wf_u8 {x : Int} (h : (Lit.int .u8 x).wf = true) : 0 ≤ x ∧ x ≤ 255 := by simpa [Lit.wf, IntKind.min, IntKind.max, IntKind.signed, IntKind.bits] using h
theorem keeps_row (a0 a1 : Int) (A2 : Option Addr) (c2 : Nat) (l2 : List Int) (A3 : Option Addr) (c3 : Nat) (l3 : List Int) (w : World) (wa0 : (Lit.int .u8 a0).wf = true) (wa1 : (Lit.int .u8 a1).wf = true) (hC2 : (Kd.int .u64).C w A2 l2.length l2) (hC3 : (Kd.int .u8).C w A3 l3.length l3) (hc3 : l3.length ≤ c3) (hw3 : ∀ x ∈ l3, (Lit.int .u8 x).wf = true) :
    Calls Try.prog 3 #[.int .u8 a0, .int .u8 a1, .slice A2 l2.length c2, .slice A3 l3.length c3] w fun e w' => e = .returned (.bool true) ∧ Below w.heap.size w w' :=
  keeps_calls a0 a1 A2 c2 l2 A3 c3 l3 w (wf_u8 wa0).1 (wf_u8 wa0).2 (wf_u8 wa1).1 (wf_u8 wa1).2 hC2 hC3 (fun x hx => wf_u8 (hw3 x hx))
end Go.Proofs.Ytimgfdkndlbfbaa.PCqL
