/- seg.Read: for every slice of bytes (fewer than 2^47) the options are read kind by kind, or refused; nothing that was there changes. Conditions: each lemma's own. -/
import Derived.Test.YtilkbmjkjlbfmaaHExt
import Derived.Test.YtilkbmjkjlbfmaaHSum
import Derived.WalkSpells
import Derived.WalkLawsBesides
namespace Go.Proofs.Ytilkbmjkjlbfmaa.HRead
open Go.RowKit Go.Proofs.YtilkbmjkjlbfmaaW.PrintWords Go.Proofs.YtilkbmjkjlbfmaaW.PrintLast Go.Proofs.YtilkbmjkjlbfmaaW.PrintMore Go.Proofs.Ytilkbmjkjlbfmaa.HSum
set_option linter.unusedVariables false
set_option linter.unusedSimpArgs false

/-- What is read of options: kind by kind. -/
def readF (g : List Int → Option (Int × Int)) : Nat → List Int → Int → Int → Option (Int × Int × Int)
  | 0, _, _, _ => none
  | k + 1, xs, m, s =>
    if 0 < xs.length then
      if rd xs 0 = 0 then some (m, s, 0)
      else if rd xs 0 = 1 then readF g k (xs.drop 1) m s
      else if xs.length < 2 then some (0, 0, 3)
      else if rd xs 1 < 2 then some (0, 0, 3)
      else if rd xs 1 > (xs.length : Int) then some (0, 0, 3)
      else if rd xs 0 = 2 then (if rd xs 1 = 4 then (g xs).bind fun p => readF g k (xs.drop 4) p.1 s else some (0, 0, 3))
      else if rd xs 0 = 3 then (if rd xs 1 = 3 then readF g k (xs.drop 3) m (1 + mn (rd xs 2) 14) else some (0, 0, 3))
      else readF g k (xs.drop (rd xs 1).toNat) m s
    else some (m, s, 0)
def lenOf : Value → Nat
  | .slice _ n _ => n
  | _ => 0
/-- The slot that holds what is left of the options. -/
def Left (w : World) (o : Value) (xs : List Int) : Prop := ∃ A c, o = .slice A xs.length c ∧ Kd.C (Kd.int .u8) w A xs.length xs ∧ xs.length ≤ c
/-- The box of the lengths that are wanted. -/
def Box (W w : World) (B : Nat) : Prop := Below W.heap.size W w ∧ B = W.heap.size ∧ w.heap[B]? = some (.cells #[.int .i64 0, .int .i64 0, .int .i64 4, .int .i64 3] 103 (0, 0))
def Ends (g : List Int → Option (Int × Int)) (r : Int × Int × Int) (xs : List Int) (m s : Int) : Prop := ∃ K, readF g K xs m s = some r


/-- What a round knows. -/
structure Now (W w : World) (A : Option Addr) (c : Nat) (xs : List Int) : Prop where
  row : Kd.C (Kd.int .u8) w A xs.length xs
  cap : xs.length ≤ c
  box : Box W w W.heap.size
  byt : bytesB xs = true
  lim : xs.length ≤ 140737488351232
def After (g : List Int → Option (Int × Int)) (W w : World) (o : Value) (xs : List Int) (m s : Int) (r : Int × Int × Int) : Prop := Left w o xs ∧ Box W w W.heap.size ∧ bytesB xs = true ∧ xs.length ≤ 140737488351232 ∧ Ends g r xs m s
theorem bytes_drop {xs : List Int} (h : bytesB xs = true) (n : Nat) : bytesB (xs.drop n) = true := by
  unfold bytesB at *
  rw [List.all_eq_true] at *
  exact fun x hx => h x (List.mem_of_mem_drop hx)
theorem Now.next {g : List Int → Option (Int × Int)} {W w : World} {A : Option Addr} {c : Nat} {xs : List Int} (h : Now W w A c xs) (w' : World) (hw : Below w.heap.size w w') (n : Nat) (hn : n ≤ xs.length) (m s : Int) (r : Int × Int × Int) (hr : Ends g r (xs.drop n) m s) :
    After g W w' (.slice (if c = n then A else A.map (·.add n)) (xs.length - n) (c - n)) (xs.drop n) m s r := by
  have hd := Kd.C_drop (k := Kd.int .u8) (Kd.C_below h.row hw) hn h.cap
  rw [show n * (Kd.int .u8).sz = n from Nat.mul_one n] at hd
  refine ⟨⟨_, c - n, by rw [List.length_drop], hd, by rw [List.length_drop]; have := h.cap; omega⟩, ?_, bytes_drop h.byt n, by rw [List.length_drop]; have := h.lim; omega, hr⟩
  exact ⟨below_step h.box.1 hw, rfl, blk_below h.box.2.2 hw⟩
theorem below_drewN' (w : World) (n : Nat) : Below w.heap.size w (w.drewN n) := pw_below_drewN (Below.refl _ _) n
theorem info5' : (Try.prog.info? 5).map (fun i => (i.zero, i.size, i.bytes)) = some (some (.int .u8 0), 1, 1) := by kernel_rfl

set_option maxRecDepth 100000 in
set_option maxHeartbeats 8000000 in
theorem calls (g : List Int → Option (Int × Int)) (A0 : Option Addr) (c0 : Nat) (l0 : List Int) (r : Int × Int × Int) (w : World) (hr0 : Kd.C (Kd.int .u8) w A0 l0.length l0) (hc0 : l0.length ≤ c0) (hb : bytesB l0 = true) (hlen : l0.length ≤ 140737488351232) (h : Ends g r l0 0 0)
    (hG : ∀ (A : Option Addr) (c : Nat) (l : List Int) (p : Int × Int) (w : World), Kd.C (Kd.int .u8) w A l.length l → l.length ≤ c → g l = some p →
      Calls Try.prog 64 #[.slice A l.length c, .int .i64 2] w fun e w' => e = .returned (.tuple #[.int .i64 p.1, .int .i64 p.2]) ∧ Below w.heap.size w w') :
    Calls Try.prog 39 #[.slice A0 l0.length c0] w fun e w' => e = .returned (.tuple #[.int .i64 r.1, .int .i64 r.2.1, .int .i64 r.2.2]) ∧ Below w.heap.size w w' := by
  have HG := Aside0.mk hG
  have HH : Aside0 (After g w (w.alloc (.cells #[.int .i64 0, .int .i64 0, .int .i64 4, .int .i64 3] 103)) (.slice A0 l0.length c0) l0 0 0 r) := ⟨⟨A0, c0, rfl, Kd.C_alloc hr0 _, hc0⟩, ⟨(Below.refl _ _).alloc (Nat.le_refl _) _, rfl, Go.heap_alloc_new _ _⟩, hb, hlen, h⟩
  clear hG hr0 hc0 hb h hlen
  go_enter Try.func39, Try.ntmps39
  go_wp2
  go_step3
  go_wp2
  go_step3
  go_wp2
  go_loopw [0, 2, 3] (fun o m s wr => ∃ (xs : List Int) (mm ss : Int), m = .int .i64 mm ∧ s = .int .i64 ss ∧ lenOf o = xs.length ∧ Aside0 (After g w wr o xs mm ss r)) (fun o _ _ _ => lenOf o)
  case atStart => exact ⟨l0, 0, 0, rfl, rfl, rfl, HH⟩
  case round =>
    clear HH
    obtain ⟨xs, mm, ss, rfl, rfl, hlo, ⟨⟨A, c, rfl, hC, hc⟩, hB, hbx, hlx, K, hK⟩⟩ := hrel
    clear hlo
    have HN := Aside0.mk (Now.mk hC hc hB hbx hlx)
    obtain ⟨K, rfl⟩ : ∃ j, K = j + 1 := ⟨K - 1, by cases K with | zero => simp [readF] at hK | succ n => omega⟩
    simp only [readF] at hK
    by_cases h0 : 0 < xs.length
    rotate_left
    · rw [if_neg h0] at hK
      have hd0 : decide (0 < (xs.length : Int)) = false := decide_eq_false (by omega)
      have hd1 : decide (0 < xs.length) = false := decide_eq_false h0
      obtain rfl := Option.some.inj hK
      clear hC hc hB hbx hlx hK h0
      go_wp2
      skip
      (try rw [Exit.noGoto_ret])
      go_ret3
      exact ⟨rfl, HN.out.box.1⟩
    rw [if_pos h0] at hK
    have hd0 : decide (0 < (xs.length : Int)) = true := decide_eq_true (by omega)
    have hd1 : decide (0 < xs.length) = true := decide_eq_true h0
    have b0 := bytes_rd hbx 0
    obtain ⟨ad, e0, hx0⟩ := Kd.at_int hC 0 (by omega) (by omega)
    subst e0
    (try simp only [show (0 : Int).toNat = 0 from rfl, Nat.reduceMul, Nat.reduceEqDiff, Go.Addr.add, ↓reduceIte] at hx0)
    have qi0 : (0 < xs.length) = True := eq_true h0
    by_cases k0 : rd xs 0 = 0
    · rw [if_pos k0] at hK
      have kb0 : (rd xs 0 == 0) = true := beq_iff_eq.2 k0
      obtain rfl := Option.some.inj hK
      clear hC hc hB hbx hlx hK h0 k0
      go_wp2
      (try rw [Exit.noGoto_ret])
      go_ret3
      exact ⟨rfl, HN.out.box.1⟩
    rw [if_neg k0] at hK
    have kb0 : (rd xs 0 == 0) = false := beq_eq_false_iff_ne.2 k0
    by_cases k1 : rd xs 0 = 1
    · rw [if_pos k1] at hK
      have kb1 : (rd xs 0 == 1) = true := beq_iff_eq.2 k1
      have HK := Aside0.mk hK
      obtain ⟨i0, hi0, _, hsz0, _⟩ := info_parts info5'
      have hcut := cut_from (P := Try.prog) 24 5 .i64 Try.underlying24 hi0 1 hsz0 (some ad) xs.length c 1 (by omega) (by omega)
      clear hC hc hB hbx hlx hK k0 k1
      go_wp2
      go_roundw
      case rel => exact ⟨_, _, _, rfl, rfl, by simp [lenOf], ⟨HN.out.next _ (below_drewN' _ 0) 1 (by omega) _ _ _ ⟨_, HK.out⟩⟩⟩
      case measure => simp [lenOf]; omega
    rw [if_neg k1] at hK
    have kb1 : (rd xs 0 == 1) = false := beq_eq_false_iff_ne.2 k1
    by_cases l2 : xs.length < 2
    · rw [if_pos l2] at hK
      have lb : decide (xs.length < 2) = true := decide_eq_true l2
      have lb' : decide ((xs.length : Int) < 2) = true := decide_eq_true (by omega)
      obtain rfl := Option.some.inj hK
      clear hC hc hB hbx hlx hK k0 k1
      go_wp2
      (try rw [Exit.noGoto_ret])
      go_ret3
      exact ⟨rfl, HN.out.box.1⟩
    rw [if_neg l2] at hK
    have lb : decide (xs.length < 2) = false := decide_eq_false l2
    have lb' : decide ((xs.length : Int) < 2) = false := decide_eq_false (by omega)
    have b1 := bytes_rd hbx 1
    obtain ⟨ad', e1, hx1⟩ := Kd.at_int hC 1 (by omega) (by omega)
    obtain rfl : ad = ad' := by injection e1
    clear e1
    (try simp only [show (1 : Int).toNat = 1 from rfl, Nat.reduceMul, Nat.reduceEqDiff, Go.Addr.add, ↓reduceIte] at hx1)
    have qi1 : (1 < xs.length) = True := eq_true (by omega)
    have q1 : ((1 : Int) < (xs.length : Int)) = True := eq_true (by omega)
    have q1b : decide ((1 : Int) < (xs.length : Int)) = true := decide_eq_true (by omega)
    by_cases l3 : rd xs 1 < 2
    · rw [if_pos l3] at hK
      have lc : decide (rd xs 1 < 2) = true := decide_eq_true l3
      obtain rfl := Option.some.inj hK
      clear hC hc hB hbx hlx hK k0 k1 l2 h0
      go_wp2
      (try rw [Exit.noGoto_ret])
      go_ret3
      exact ⟨rfl, HN.out.box.1⟩
    rw [if_neg l3] at hK
    have lc : decide (rd xs 1 < 2) = false := decide_eq_false l3
    by_cases l4 : rd xs 1 > (xs.length : Int)
    · rw [if_pos l4] at hK
      have ld : decide ((xs.length : Int) < rd xs 1) = true := decide_eq_true l4
      obtain rfl := Option.some.inj hK
      clear hC hc hB hbx hlx hK k0 k1 l2 h0 l3
      go_wp2
      (try rw [Exit.noGoto_ret])
      go_ret3
      exact ⟨rfl, HN.out.box.1⟩
    rw [if_neg l4] at hK
    have ld : decide ((xs.length : Int) < rd xs 1) = false := decide_eq_false l4
    obtain ⟨i0, hi0, _, hsz0, _⟩ := info_parts info5'
    have want2 : wr.cell? ⟨w.heap.size, 2, none⟩ = some (.int .i64 4) := (blk_cell hB.2.2 2).trans rfl
    have want3 : wr.cell? ⟨w.heap.size, 3, none⟩ = some (.int .i64 3) := (blk_cell hB.2.2 3).trans rfl
    by_cases k2 : rd xs 0 = 2
    · rw [if_pos k2] at hK
      rw [k2] at hx0
      by_cases k4 : rd xs 1 = 4
      · rw [if_pos k4] at hK
        obtain ⟨p, hp, hK⟩ := Option.bind_eq_some_iff.1 hK
        have HP := Aside0.mk hp
        have HK := Aside0.mk hK
        have hl4 : 4 ≤ xs.length := by omega
        rw [k4] at hx1
        have ld4 : decide ((xs.length : Int) < 4) = false := decide_eq_false (by omega)
        have hlt1 : ad.block < wr.heap.size := World.block_lt_of_cell? wr ⟨ad.block, ad.off + 1, none⟩ hx1
        have hcut := cut_from (P := Try.prog) 24 5 .u8 Try.underlying24 hi0 1 hsz0 (some ad) xs.length c 4 (by omega) (by omega)
        clear hC hc hbx hlx hK hp k0 k1 kb0 kb1 l2 h0 l3 l4 k2 k4 lc ld b0 b1
        go_wp2
        go_quiet (fail)
        go_wp2_with (go_at_call 64; refine (HG.out _ _ xs p _ (Kd.C_drewN HN.out.row _) HN.out.cap HP.out).mono ?_; rintro e w1 ⟨rfl, hb1⟩; have hx1w := (hb1.cell (p := ⟨ad.block, ad.off + 1, none⟩) hlt1).trans hx1)
        go_roundw
        case rel => exact ⟨_, _, _, rfl, rfl, by simp [lenOf], ⟨HN.out.next _ (below_step (below_drewN' _ _) hb1) 4 hl4 _ _ _ ⟨_, HK.out⟩⟩⟩
        case measure => simp [lenOf]; omega
      · rw [if_neg k4] at hK
        have kb4 : (rd xs 1 != 4) = true := by simpa using k4
        obtain rfl := Option.some.inj hK
        clear hC hc hB hbx hlx hK k0 k1 kb0 kb1 l2 h0 l3 l4 k4 k2 b0
        go_wp2
        go_quiet (fail)
        go_wp2
        (try rw [Exit.noGoto_ret])
        go_ret3
        exact ⟨rfl, below_step HN.out.box.1 (below_drewN' _ _)⟩
    rw [if_neg k2] at hK
    have kb2 : (rd xs 0 == 2) = false := beq_eq_false_iff_ne.2 k2
    by_cases k3 : rd xs 0 = 3
    · rw [if_pos k3] at hK
      rw [k3] at hx0
      by_cases k4 : rd xs 1 = 3
      · rw [if_pos k4] at hK
        have HK := Aside0.mk hK
        rw [k4] at hx1
        have ld4 : decide ((xs.length : Int) < 3) = false := decide_eq_false (by omega)
        have hl3 : 3 ≤ xs.length := by omega
        have b2 := bytes_rd hbx 2
        obtain ⟨ad2, e2, hx2⟩ := Kd.at_int hC 2 (by omega) (by omega)
        obtain rfl : ad = ad2 := by injection e2
        clear e2
        (try simp only [show (2 : Int).toNat = 2 from rfl, Nat.reduceMul, Nat.reduceEqDiff, Go.Addr.add, ↓reduceIte] at hx2)
        have qi2 : (2 < xs.length) = True := eq_true (by omega)
        have q2 : ((2 : Int) < (xs.length : Int)) = True := eq_true (by omega)
        have q2b : decide ((2 : Int) < (xs.length : Int)) = true := decide_eq_true (by omega)
        have hcut := cut_from (P := Try.prog) 24 5 .u8 Try.underlying24 hi0 1 hsz0 (some ad) xs.length c 3 (by omega) (by omega)
        clear hC hc hbx hlx hK k0 k1 kb0 kb1 kb2 l2 h0 l3 l4 k2 k3 k4 lc ld b0 b1
        go_wp2
        go_quiet (fail)
        go_wp2
        go_roundw
        case rel => exact ⟨_, _, _, rfl, rfl, by simp [lenOf], ⟨HN.out.next _ (below_drewN' _ _) 3 hl3 _ _ _ ⟨_, HK.out⟩⟩⟩
        case measure => simp [lenOf]; omega
      · rw [if_neg k4] at hK
        have kb4 : (rd xs 1 != 3) = true := by simpa using k4
        obtain rfl := Option.some.inj hK
        clear hC hc hB hbx hlx hK k0 k1 kb0 kb1 kb2 l2 h0 l3 l4 k2 k3 k4 b0
        go_wp2
        go_quiet (fail)
        go_wp2
        (try rw [Exit.noGoto_ret])
        go_ret3
        exact ⟨rfl, below_step HN.out.box.1 (below_drewN' _ _)⟩
    rw [if_neg k3] at hK
    have kb3 : (rd xs 0 == 3) = false := beq_eq_false_iff_ne.2 k3
    have kl : decide (rd xs 0 < 4) = false := decide_eq_false (by omega)
    have HK := Aside0.mk hK
    have hcut := cut_from (P := Try.prog) 24 5 .u8 Try.underlying24 hi0 1 hsz0 (some ad) xs.length c (rd xs 1) (by omega) (by omega)
    clear hC hc hbx hlx hK k0 k1 l2 h0 k2 k3
    go_wp2
    go_quiet (fail)
    go_wp2
    go_roundw
    case rel => exact ⟨_, _, _, rfl, rfl, by simp [lenOf], ⟨HN.out.next _ (below_drewN' _ _) (rd xs 1).toNat (by omega) _ _ _ ⟨_, HK.out⟩⟩⟩
    case measure => simp [lenOf]; omega
end Go.Proofs.Ytilkbmjkjlbfmaa.HRead
