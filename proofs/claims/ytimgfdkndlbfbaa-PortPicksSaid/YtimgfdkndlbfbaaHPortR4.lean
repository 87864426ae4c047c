/- The reference of port: New, Pick. Conditions: each theorem's own. -/
import Derived.Test.YtimgfdkndlbfbaaHPortR3
namespace Go.Proofs.Ytimgfdkndlbfbaa.HPortR
open Go.RowKit Go.Proofs.YtimgfdkndlbfbaaW.PrintWords Go.Proofs.YtimgfdkndlbfbaaW.PrintLast Go.Proofs.YtimgfdkndlbfbaaW.PrintMore Go.Proofs.Ytimgfdkndlbfbaa.HPort Go.Proofs.Ytimgfdkndlbfbaa.PRp Go.Proofs.Ytimgfdkndlbfbaa.HReg
set_option linter.unusedVariables false
set_option linter.unusedSimpArgs false
theorem boxed2 (w : World) (o1 o2 : Obj) : ((w.alloc o1).alloc o2).heap[w.heap.size]? = some o1 ∧ ((w.alloc o1).alloc o2).heap[w.heap.size + 1]? = some o2 ∧ Below w.heap.size w ((w.alloc o1).alloc o2) := by
  have b := fun (W : World) (o : Obj) => below_alloc (Below.refl W.heap.size W) o
  have z1 : (w.alloc o1).heap.size = w.heap.size + 1 := by simp
  have h2 := blk_new (w.alloc o1) o2
  rw [z1] at h2
  exact ⟨blk_below (blk_new w o1) (b _ _), h2, below_step (b _ _) (b _ _)⟩
structure Fp (w0 w : World) (g k1 : Nat) (bx zx : Array Value) (A : Option Addr) (n c : Nat) (l : List S175) (A' : Option Addr) (n' c' : Nat) (l' : List S177) : Prop where
  p1 : w.heap[g]? = some (.cells bx 100 (0, 0))
  p2 : w.heap[k1]? = some (.cells zx 100 (0, 0))
  rw : Rw w A n c l A' n' c' l'
  bl : Below w0.heap.size w0 w
theorem Fp.below {w0 w w' : World} {g k1 : Nat} {bx zx : Array Value} {A : Option Addr} {n c : Nat} {l : List S175} {A' : Option Addr} {n' c' : Nat} {l' : List S177} (h : Fp w0 w g k1 bx zx A n c l A' n' c' l') (hb : Below w.heap.size w w') : Fp w0 w' g k1 bx zx A n c l A' n' c' l' :=
  ⟨blk_below h.p1 hb, blk_below h.p2 hb, h.rw.below hb, below_step h.bl hb⟩
/-- Is p asked in round r? -/
def cand (la : Int) (r : Nat) (p : Int) : Bool := decide (la < p) == decide (r = 0)
set_option maxRecDepth 100000 in
set_option maxHeartbeats 16000000 in
theorem rpick_at (lo hi la : Int) {A : Option Addr} {n c : Nat} {l : List S175} {A' : Option Addr} {n' c' : Nat} {l' : List S177} {w : World} (h : Rw w A n c l A' n' c' l') (a P : Int) (R0 : Nat) (h0 : 1 ≤ lo ∧ hi ≤ 65535 ∧ R0 < 2 ∧ lo ≤ P ∧ P ≤ hi)
    (hT : ∀ (r : Nat) (p : Int), lo ≤ p → p ≤ hi → (r < R0 ∨ r = R0 ∧ p < P) → cand la r p = true → l.any (tkL a p) = true) (hP : cand la R0 P = true ∧ l.any (tkL a P) = false) :
    Calls Try.prog 86 #[rt lo hi la A n c A' n' c', .int .u32 a] w fun e w' => e = .returned (.tuple #[rt lo hi P A n c A' n' c', .int .u16 P, .int .i64 0]) ∧ Below w.heap.size w w' := by
  have HP := Aside0.mk hP
  have H := Aside0.mk h
  have H0 := Aside0.mk h0
  have HT := Aside0.mk hT
  unfold rt
  clear h h0 hT hP
  go_enter Try.func86, Try.ntmps86
  go_upto_region 1 with (fail)
  obtain ⟨hb1, hb2, hB⟩ := boxed2 w (.cells #[.int .i64 lo, .int .i64 hi, .int .i64 la, .slice A n c, .slice A' n' c'] 100) (.cells #[.int .i64 0, .int .i64 0, .int .i64 0, .slice none 0 0, .slice none 0 0] 100)
  generalize (w.alloc (.cells #[.int .i64 lo, .int .i64 hi, .int .i64 la, .slice A n c, .slice A' n' c'] 100)).alloc (.cells #[.int .i64 0, .int .i64 0, .int .i64 0, .slice none 0 0, .slice none 0 0] 100) = w1 at hb1 hb2 hB ⊢
  have H1 := H.out.below hB
  obtain ⟨k1, hk1⟩ : ∃ k1, k1 = w.heap.size + 1 := ⟨_, rfl⟩
  rw [← hk1] at hb2 ⊢
  obtain ⟨g, hg⟩ : ∃ g, w.heap.size = g := ⟨_, rfl⟩
  rw [hg] at hb1 ⊢
  have HG := Aside0.mk (show w.heap.size ≤ g ∧ w.heap.size ≤ k1 ∧ k1 ≠ g by omega)
  have HH : Aside0 (0 ≤ R0 ∧ Fp w w1 g k1 #[.int .i64 lo, .int .i64 hi, .int .i64 la, .slice A n c, .slice A' n' c'] #[.int .i64 0, .int .i64 0, .int .i64 0, .slice none 0 0, .slice none 0 0] A n c l A' n' c' l') := ⟨Nat.zero_le _, hb1, hb2, H1, hB⟩
  clear hb1 hb2 hB H1 hk1 hg
  go_wp2
  go_loopw [7] (fun i wr => ∃ r : Nat, i = .int .i64 r ∧ Aside0 (r ≤ R0 ∧ Fp w wr g k1 #[.int .i64 lo, .int .i64 hi, .int .i64 la, .slice A n c, .slice A' n' c'] #[.int .i64 0, .int .i64 0, .int .i64 0, .slice none 0 0, .slice none 0 0] A n c l A' n' c' l')) (fun i _ => 2 - num i)
  case atStart => exact ⟨0, rfl, HH⟩
  case round =>
    clear HH
    obtain ⟨r, rfl, ⟨hr, hF⟩⟩ := hrel
    have h0 := H0.out
    by_cases hrl : r < R0
    · have q0 : decide ((r : Int) < 2) = true := decide_eq_true (by omega)
      have q2 : ((r : Int) == 0) = decide (r = 0) := by by_cases hz : r = 0 <;> simp [hz]
      have q3 : IntKind.i64.wrap ((r : Int) + 1) = (r : Int) + 1 := wid _ (by omega) (by omega)
      obtain ⟨br, hbr⟩ : ∃ br, decide (r = 0) = br := ⟨_, rfl⟩
      rw [hbr] at q2
      have HBR := Aside0.mk hbr
      have HF := Aside0.mk hF
      obtain ⟨p0, p1, p2, p3, p4, -⟩ := five HF.out.p1
      have HR := Aside0.mk hrl
      clear hr hF hbr h0
      go_upto_region 4 with (fail)
      have HJ : Aside0 (lo ≤ lo ∧ (lo ≤ hi + 1 ∨ lo = lo) ∧ Fp w wr g k1 #[.int .i64 lo, .int .i64 hi, .int .i64 la, .slice A n c, .slice A' n' c'] #[.int .i64 0, .int .i64 0, .int .i64 0, .slice none 0 0, .slice none 0 0] A n c l A' n' c' l') := ⟨Int.le_refl _, .inr rfl, HF.out⟩
      go_wp2
      clear HF p0 p1 p2 p3 p4
      go_loopw [8] (fun i wq => ∃ p : Int, i = .int .i64 p ∧ Aside0 (lo ≤ p ∧ (p ≤ hi + 1 ∨ p = lo) ∧ Fp w wq g k1 #[.int .i64 lo, .int .i64 hi, .int .i64 la, .slice A n c, .slice A' n' c'] #[.int .i64 0, .int .i64 0, .int .i64 0, .slice none 0 0, .slice none 0 0] A n c l A' n' c' l')) (fun i _ => (hi + 1 - intOf i).toNat)
      case atStart => exact ⟨lo, rfl, ⟨HJ.out.1, .inr rfl, HJ.out.2.2⟩⟩
      case round =>
        clear HJ
        obtain ⟨p, rfl, ⟨hp0, hp1, hF⟩⟩ := hrel
        have h0 := H0.out
        have HF := Aside0.mk hF
        obtain ⟨p0, p1, p2, p3, p4, s0, s1, s2, s3, s4⟩ := five HF.out.p1
        by_cases hle : p ≤ hi
        · have e1 : IntKind.i64.wrap (p + 1) = p + 1 := wid _ (by omega) (by omega)
          have e2 : IntKind.u16.wrap p = p := by simp [IntKind.wrap, IntKind.bits, IntKind.signed]; omega
          have d0 : decide (p ≤ hi) = true := decide_eq_true (by omega)
          obtain ⟨bl, hbl⟩ : ∃ bl, decide (la < p) = bl := ⟨_, rfl⟩
          have hc : cand la r p = (bl == br) := by unfold cand; rw [hbl, HBR.out]
          cases hq : (bl == br) with
          | false =>
            have HZ := Aside0.mk (And.intro (show lo ≤ p + 1 by omega) (And.intro (show p + 1 ≤ hi + 1 ∨ p + 1 = lo by omega) (show p ≤ hi by omega)))
            clear hp0 hp1 hF h0 hc
            go_wp2
            go_roundw
            case rel => exact ⟨p + 1, by go_num, ⟨HZ.out.1, HZ.out.2.1, HF.out⟩⟩
            case measure => simp only [intOf]; have := HZ.out.2.2; omega
          | true =>
            have HX := Aside0.mk (And.intro (show l.any (tkL a p) = true from HT.out r p hp0 (by omega) (.inl HR.out) (by rw [hc]; exact hq)) trivial)
            have HZ := Aside0.mk (And.intro (show lo ≤ p + 1 by omega) (And.intro (show p + 1 ≤ hi + 1 ∨ p + 1 = lo by omega) (show p ≤ hi by omega)))
            clear hp0 hp1 hF h0 hc
            go_wp2_with (go_at_call 101; refine (taken_ref (lo := lo) (hi := hi) (la := la) HF.out.rw a p).mono ?_; rintro e w2 ⟨rfl, hB⟩; rw [HX.out.1]; replace HF := Aside0.mk (HF.out.below hB); clear hB p0 p1 p2 p3 p4 s0 s1 s2 s3 s4; obtain ⟨p0, p1, p2, p3, p4, s0, s1, s2, s3, s4⟩ := five HF.out.p1)
            go_roundw
            case rel => exact ⟨p + 1, by go_num, ⟨HZ.out.1, HZ.out.2.1, HF.out⟩⟩
            case measure => simp only [intOf]; have := HZ.out.2.2; omega
        · have d0 : decide (p ≤ hi) = false := decide_eq_false hle
          clear hp0 hp1 hF h0 hle
          go_wp2
          go_roundw
          case rel => exact ⟨r + 1, by go_num, ⟨HR.out, HF.out⟩⟩
          case measure => simp only [num]; have := HR.out; have := H0.out; omega
    · obtain rfl : r = R0 := by omega
      have q0 : decide ((r : Int) < 2) = true := decide_eq_true (by omega)
      have q2 : ((r : Int) == 0) = decide (r = 0) := by by_cases hz : r = 0 <;> simp [hz]
      have q3 : IntKind.i64.wrap ((r : Int) + 1) = (r : Int) + 1 := wid _ (by omega) (by omega)
      obtain ⟨br, hbr⟩ : ∃ br, decide (r = 0) = br := ⟨_, rfl⟩
      rw [hbr] at q2
      have HBR := Aside0.mk hbr
      have HF := Aside0.mk hF
      obtain ⟨p0, p1, p2, p3, p4, -⟩ := five HF.out.p1
      clear hr hF hbr h0
      go_upto_region 4 with (fail)
      have HJ : Aside0 (lo ≤ lo ∧ lo ≤ P ∧ Fp w wr g k1 #[.int .i64 lo, .int .i64 hi, .int .i64 la, .slice A n c, .slice A' n' c'] #[.int .i64 0, .int .i64 0, .int .i64 0, .slice none 0 0, .slice none 0 0] A n c l A' n' c' l') := ⟨Int.le_refl _, H0.out.2.2.2.1, HF.out⟩
      go_wp2
      clear HF p0 p1 p2 p3 p4
      go_loopw [8] (fun i wq => ∃ p : Int, i = .int .i64 p ∧ Aside0 (lo ≤ p ∧ (p ≤ P) ∧ Fp w wq g k1 #[.int .i64 lo, .int .i64 hi, .int .i64 la, .slice A n c, .slice A' n' c'] #[.int .i64 0, .int .i64 0, .int .i64 0, .slice none 0 0, .slice none 0 0] A n c l A' n' c' l')) (fun i _ => (hi + 1 - intOf i).toNat)
      case atStart => exact ⟨lo, rfl, HJ⟩
      case round =>
        clear HJ
        obtain ⟨p, rfl, ⟨hp0, hp1, hF⟩⟩ := hrel
        have h0 := H0.out
        have HF := Aside0.mk hF
        obtain ⟨p0, p1, p2, p3, p4, s0, s1, s2, s3, s4⟩ := five HF.out.p1
        by_cases hlt : p < P
        · have e1 : IntKind.i64.wrap (p + 1) = p + 1 := wid _ (by omega) (by omega)
          have e2 : IntKind.u16.wrap p = p := by simp [IntKind.wrap, IntKind.bits, IntKind.signed]; omega
          have d0 : decide (p ≤ hi) = true := decide_eq_true (by omega)
          obtain ⟨bl, hbl⟩ : ∃ bl, decide (la < p) = bl := ⟨_, rfl⟩
          have hc : cand la r p = (bl == br) := by unfold cand; rw [hbl, HBR.out]
          cases hq : (bl == br) with
          | false =>
            have HZ := Aside0.mk (And.intro (show lo ≤ p + 1 by omega) (And.intro (show p + 1 ≤ P by omega) (show p ≤ hi by omega)))
            clear hp0 hp1 hF h0 hc
            go_wp2
            go_roundw
            case rel => exact ⟨p + 1, by go_num, ⟨HZ.out.1, HZ.out.2.1, HF.out⟩⟩
            case measure => simp only [intOf]; have := HZ.out.2.2; omega
          | true =>
            have HX := Aside0.mk (And.intro (show l.any (tkL a p) = true from HT.out r p hp0 (by omega) (.inr ⟨rfl, hlt⟩) (by rw [hc]; exact hq)) trivial)
            have HZ := Aside0.mk (And.intro (show lo ≤ p + 1 by omega) (And.intro (show p + 1 ≤ P by omega) (show p ≤ hi by omega)))
            clear hp0 hp1 hF h0 hc
            go_wp2_with (go_at_call 101; refine (taken_ref (lo := lo) (hi := hi) (la := la) HF.out.rw a p).mono ?_; rintro e w2 ⟨rfl, hB⟩; rw [HX.out.1]; replace HF := Aside0.mk (HF.out.below hB); clear hB p0 p1 p2 p3 p4 s0 s1 s2 s3 s4; obtain ⟨p0, p1, p2, p3, p4, s0, s1, s2, s3, s4⟩ := five HF.out.p1)
            go_roundw
            case rel => exact ⟨p + 1, by go_num, ⟨HZ.out.1, HZ.out.2.1, HF.out⟩⟩
            case measure => simp only [intOf]; have := HZ.out.2.2; omega
        · obtain rfl : p = P := by omega
          have e1 : IntKind.i64.wrap (p + 1) = p + 1 := wid _ (by omega) (by omega)
          have e2 : IntKind.u16.wrap p = p := by simp [IntKind.wrap, IntKind.bits, IntKind.signed]; omega
          have d0 : decide (p ≤ hi) = true := decide_eq_true (by omega)
          obtain ⟨bl, hbl⟩ : ∃ bl, decide (la < p) = bl := ⟨_, rfl⟩
          have hq : (bl == br) = true := by have := HP.out.1; unfold cand at this; rw [hbl, HBR.out] at this; exact this
          have HX := Aside0.mk (And.intro HP.out.2 trivial)
          clear hp0 hp1 hF h0 hlt
          go_upto_region 8 with (go_at_call 101; refine (taken_ref (lo := lo) (hi := hi) (la := la) HF.out.rw a p).mono ?_; rintro e w2 ⟨rfl, hB⟩; rw [HX.out.1]; replace HF := Aside0.mk (HF.out.below hB); clear hB p0 p1 p2 p3 p4 s0 s1 s2 s3 s4; obtain ⟨p0, p1, p2, p3, p4, s0, s1, s2, s3, s4⟩ := five HF.out.p1)
          go_upto_region 9 with (fail)
          have HP3 := Aside0.mk (blk_put HF.out.p1 2 (.int .i64 p) rfl)
          have HP2 := Aside0.mk (blk_far HF.out.p2 (p := ⟨g, 2, none⟩) HG.out.2.2 (.int .i64 p))
          have HB := Aside0.mk (bput (i := 2) (u := .int .i64 p) HF.out.bl HG.out.1)
          clear p0 p1 p2 p3 p4 s0 s1 s2 s3 s4 HF
          generalize World.setCell _ ⟨g, 2, none⟩ (.int .i64 p) = w9 at HP3 HP2 HB ⊢
          obtain ⟨p0, p1, p2, p3, p4, -⟩ := five HP3.out
          obtain ⟨r0, r1, r2, r3, r4, u0, u1, u2, u3, u4⟩ := five HP2.out
          go_wp2
          refine bodyPost_ret (results_ctt rfl _ _ k1 100 #[.int .i64 lo, .int .i64 hi, .int .i64 p, .slice A n c, .slice A' n' c'] (0, 0) _ rfl (five_put HP2.out _ _ _ _ _) Try.underlying100 rfl (by kernel_rfl)) rfl ?_
          exact ⟨rfl, five_b HB.out HG.out.2.1 _ _ _ _ _⟩
set_option maxRecDepth 100000 in
set_option maxHeartbeats 16000000 in
theorem rpick_full (lo hi la : Int) {A : Option Addr} {n c : Nat} {l : List S175} {A' : Option Addr} {n' c' : Nat} {l' : List S177} {w : World} (h : Rw w A n c l A' n' c' l') (a : Int) (h0 : 1 ≤ lo ∧ hi ≤ 65535)
    (hT : ∀ (r : Nat) (p : Int), lo ≤ p → p ≤ hi → r < 2 → cand la r p = true → l.any (tkL a p) = true) :
    Calls Try.prog 86 #[rt lo hi la A n c A' n' c', .int .u32 a] w fun e w' => e = .returned (.tuple #[rt lo hi la A n c A' n' c', .int .u16 0, .int .i64 5]) ∧ Below w.heap.size w w' := by
  have H := Aside0.mk h
  have H0 := Aside0.mk h0
  have HT := Aside0.mk hT
  unfold rt
  clear h h0 hT
  go_enter Try.func86, Try.ntmps86
  go_upto_region 1 with (fail)
  obtain ⟨hb1, hb2, hB⟩ := boxed2 w (.cells #[.int .i64 lo, .int .i64 hi, .int .i64 la, .slice A n c, .slice A' n' c'] 100) (.cells #[.int .i64 0, .int .i64 0, .int .i64 0, .slice none 0 0, .slice none 0 0] 100)
  generalize (w.alloc (.cells #[.int .i64 lo, .int .i64 hi, .int .i64 la, .slice A n c, .slice A' n' c'] 100)).alloc (.cells #[.int .i64 0, .int .i64 0, .int .i64 0, .slice none 0 0, .slice none 0 0] 100) = w1 at hb1 hb2 hB ⊢
  have H1 := H.out.below hB
  obtain ⟨k1, hk1⟩ : ∃ k1, k1 = w.heap.size + 1 := ⟨_, rfl⟩
  rw [← hk1] at hb2 ⊢
  obtain ⟨g, hg⟩ : ∃ g, w.heap.size = g := ⟨_, rfl⟩
  rw [hg] at hb1 ⊢
  have HG := Aside0.mk (show w.heap.size ≤ g ∧ w.heap.size ≤ k1 ∧ k1 ≠ g by omega)
  have HH : Aside0 (0 ≤ 2 ∧ Fp w w1 g k1 #[.int .i64 lo, .int .i64 hi, .int .i64 la, .slice A n c, .slice A' n' c'] #[.int .i64 0, .int .i64 0, .int .i64 0, .slice none 0 0, .slice none 0 0] A n c l A' n' c' l') := ⟨Nat.zero_le _, hb1, hb2, H1, hB⟩
  clear hb1 hb2 hB H1 hk1 hg
  go_wp2
  go_loopw [7] (fun i wr => ∃ r : Nat, i = .int .i64 r ∧ Aside0 (r ≤ 2 ∧ Fp w wr g k1 #[.int .i64 lo, .int .i64 hi, .int .i64 la, .slice A n c, .slice A' n' c'] #[.int .i64 0, .int .i64 0, .int .i64 0, .slice none 0 0, .slice none 0 0] A n c l A' n' c' l')) (fun i _ => 2 - num i)
  case atStart => exact ⟨0, rfl, HH⟩
  case round =>
    clear HH
    obtain ⟨r, rfl, ⟨hr, hF⟩⟩ := hrel
    have h0 := H0.out
    by_cases hrl : r < 2
    · have q0 : decide ((r : Int) < 2) = true := decide_eq_true (by omega)
      have q2 : ((r : Int) == 0) = decide (r = 0) := by by_cases hz : r = 0 <;> simp [hz]
      have q3 : IntKind.i64.wrap ((r : Int) + 1) = (r : Int) + 1 := wid _ (by omega) (by omega)
      obtain ⟨br, hbr⟩ : ∃ br, decide (r = 0) = br := ⟨_, rfl⟩
      rw [hbr] at q2
      have HBR := Aside0.mk hbr
      have HF := Aside0.mk hF
      obtain ⟨p0, p1, p2, p3, p4, -⟩ := five HF.out.p1
      have HR := Aside0.mk hrl
      clear hr hF hbr h0
      go_upto_region 4 with (fail)
      have HJ : Aside0 (lo ≤ lo ∧ (lo ≤ hi + 1 ∨ lo = lo) ∧ Fp w wr g k1 #[.int .i64 lo, .int .i64 hi, .int .i64 la, .slice A n c, .slice A' n' c'] #[.int .i64 0, .int .i64 0, .int .i64 0, .slice none 0 0, .slice none 0 0] A n c l A' n' c' l') := ⟨Int.le_refl _, .inr rfl, HF.out⟩
      go_wp2
      clear HF p0 p1 p2 p3 p4
      go_loopw [8] (fun i wq => ∃ p : Int, i = .int .i64 p ∧ Aside0 (lo ≤ p ∧ (p ≤ hi + 1 ∨ p = lo) ∧ Fp w wq g k1 #[.int .i64 lo, .int .i64 hi, .int .i64 la, .slice A n c, .slice A' n' c'] #[.int .i64 0, .int .i64 0, .int .i64 0, .slice none 0 0, .slice none 0 0] A n c l A' n' c' l')) (fun i _ => (hi + 1 - intOf i).toNat)
      case atStart => exact ⟨lo, rfl, ⟨HJ.out.1, .inr rfl, HJ.out.2.2⟩⟩
      case round =>
        clear HJ
        obtain ⟨p, rfl, ⟨hp0, hp1, hF⟩⟩ := hrel
        have h0 := H0.out
        have HF := Aside0.mk hF
        obtain ⟨p0, p1, p2, p3, p4, s0, s1, s2, s3, s4⟩ := five HF.out.p1
        by_cases hle : p ≤ hi
        · have e1 : IntKind.i64.wrap (p + 1) = p + 1 := wid _ (by omega) (by omega)
          have e2 : IntKind.u16.wrap p = p := by simp [IntKind.wrap, IntKind.bits, IntKind.signed]; omega
          have d0 : decide (p ≤ hi) = true := decide_eq_true (by omega)
          obtain ⟨bl, hbl⟩ : ∃ bl, decide (la < p) = bl := ⟨_, rfl⟩
          have hc : cand la r p = (bl == br) := by unfold cand; rw [hbl, HBR.out]
          cases hq : (bl == br) with
          | false =>
            have HZ := Aside0.mk (And.intro (show lo ≤ p + 1 by omega) (And.intro (show p + 1 ≤ hi + 1 ∨ p + 1 = lo by omega) (show p ≤ hi by omega)))
            clear hp0 hp1 hF h0 hc
            go_wp2
            go_roundw
            case rel => exact ⟨p + 1, by go_num, ⟨HZ.out.1, HZ.out.2.1, HF.out⟩⟩
            case measure => simp only [intOf]; have := HZ.out.2.2; omega
          | true =>
            have HX := Aside0.mk (And.intro (show l.any (tkL a p) = true from HT.out r p hp0 (by omega) HR.out (by rw [hc]; exact hq)) trivial)
            have HZ := Aside0.mk (And.intro (show lo ≤ p + 1 by omega) (And.intro (show p + 1 ≤ hi + 1 ∨ p + 1 = lo by omega) (show p ≤ hi by omega)))
            clear hp0 hp1 hF h0 hc
            go_wp2_with (go_at_call 101; refine (taken_ref (lo := lo) (hi := hi) (la := la) HF.out.rw a p).mono ?_; rintro e w2 ⟨rfl, hB⟩; rw [HX.out.1]; replace HF := Aside0.mk (HF.out.below hB); clear hB p0 p1 p2 p3 p4 s0 s1 s2 s3 s4; obtain ⟨p0, p1, p2, p3, p4, s0, s1, s2, s3, s4⟩ := five HF.out.p1)
            go_roundw
            case rel => exact ⟨p + 1, by go_num, ⟨HZ.out.1, HZ.out.2.1, HF.out⟩⟩
            case measure => simp only [intOf]; have := HZ.out.2.2; omega
        · have d0 : decide (p ≤ hi) = false := decide_eq_false hle
          clear hp0 hp1 hF h0 hle
          go_wp2
          go_roundw
          case rel => exact ⟨r + 1, by go_num, ⟨HR.out, HF.out⟩⟩
          case measure => simp only [num]; have := HR.out; omega
    · have q0 : decide ((r : Int) < 2) = false := decide_eq_false (by omega)
      have HP1 := Aside0.mk hF.p1
      have HP2 := Aside0.mk hF.p2
      have HB := Aside0.mk hF.bl
      clear hr hF h0 hrl
      obtain ⟨p0, p1, p2, p3, p4, -⟩ := five HP1.out
      obtain ⟨r0, r1, r2, r3, r4, u0, u1, u2, u3, u4⟩ := five HP2.out
      go_wp2
      refine bodyPost_ret (results_ctt rfl _ _ k1 100 #[.int .i64 lo, .int .i64 hi, .int .i64 la, .slice A n c, .slice A' n' c'] (0, 0) _ rfl (five_put HP2.out _ _ _ _ _) Try.underlying100 rfl (by kernel_rfl)) rfl ?_
      exact ⟨rfl, five_b HB.out HG.out.2.1 _ _ _ _ _⟩
theorem rnew_calls (lo hi : Int) (w : World) : Calls Try.prog 47 #[.int .i64 lo, .int .i64 hi] w fun e w' => ∃ A c A' c', e = .returned (rt lo hi hi A 0 c A' 0 c') ∧ Kd.R k175 175 w' w.heap.size (fun _ => True) (.slice A 0 c) [] ∧ Kd.R k177 177 w' w.heap.size (fun _ => True) (.slice A' 0 c') [] ∧ Below w.heap.size w w' := by
  refine (towroperef18_New.calls lo hi lo hi hi [] [] w (by rfl)).mono ?_
  rintro e w' ⟨v3, v4, rfl, h3, h4, hB⟩
  obtain ⟨A, c, rfl⟩ := Kd.R_slice h3
  obtain ⟨A', c', rfl⟩ := Kd.R_slice h4
  exact ⟨A, c, A', c', rfl, h3, h4, hB⟩
end Go.Proofs.Ytimgfdkndlbfbaa.HPortR
