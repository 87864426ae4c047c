/- The reference of port: its table in a box; Bind, Join. Conditions: each theorem's own. -/
import Derived.Test.YtimgfdkndlbfbaaHPortR
namespace Go.Proofs.Ytimgfdkndlbfbaa.HPortR
open Go.RowKit Go.Proofs.YtimgfdkndlbfbaaW.PrintWords Go.Proofs.YtimgfdkndlbfbaaW.PrintLast Go.Proofs.YtimgfdkndlbfbaaW.PrintMore Go.Proofs.Ytimgfdkndlbfbaa.HPort Go.Proofs.Ytimgfdkndlbfbaa.PRp Go.Proofs.Ytimgfdkndlbfbaa.HReg
set_option linter.unusedVariables false
set_option linter.unusedSimpArgs false
/-- The reference's table, as a value. -/
def rt (lo hi la : Int) (A : Option Addr) (n c : Nat) (A' : Option Addr) (n' c' : Nat) : Value := .agg #[.int .i64 lo, .int .i64 hi, .int .i64 la, .slice A n c, .slice A' n' c']
/-- Its rows are read. -/
structure Rw (w : World) (A : Option Addr) (n c : Nat) (l : List S175) (A' : Option Addr) (n' c' : Nat) (l' : List S177) : Prop where
  C : Kd.C k175 w A n l
  len : l.length = n
  cap : n ≤ c
  few : n ≤ 1200
  C' : Kd.C k177 w A' n' l'
  len' : l'.length = n'
  cap' : n' ≤ c'
  few' : n' ≤ 1200
section
variable {w w' : World} {A A' : Option Addr} {n c n' c' : Nat} {l : List S175} {l' : List S177} {lo hi la : Int}
theorem Rw.below (h : Rw w A n c l A' n' c' l') (hb : Below w.heap.size w w') : Rw w' A n c l A' n' c' l' := ⟨Kd.C_below h.C hb, h.len, h.cap, h.few, Kd.C_below h.C' hb, h.len', h.cap', h.few'⟩
theorem taken_ref (h : Rw w A n c l A' n' c' l') (a p : Int) : Calls Try.prog 101 #[rt lo hi la A n c A' n' c', .agg #[.int .u32 a, .int .u16 p]] w fun e w' => e = .returned (.bool (l.any (tkL a p))) ∧ Below w.heap.size w w' := by
  have h1 := h.len; have h2 := h.len'
  subst h1; subst h2
  exact towroperef18_Taken.calls (l.length + 1) lo hi la A c l A' c' l' a p _ w h.C h.cap h.C' h.cap' (by
    have := taken_l lo hi la l l' a p (by have := h.few; omega) (l.length + 1) 0 (by omega) (Nat.zero_le _)
    rw [List.drop_zero] at this
    exact this)
def ownL (l : List S175) (a p : Int) : Int × Bool := if (fbL l a p).isSome then ((fbL l a p).getD 0, true) else ((fbL l 0 p).getD 0, (fbL l 0 p).isSome)
theorem owner_ref (h : Rw w A n c l A' n' c' l') (a p : Int) : Calls Try.prog 50 #[rt lo hi la A n c A' n' c', .agg #[.int .u32 a, .int .u16 p]] w fun e w' => e = .returned (.tuple #[.int .i64 (ownL l a p).1, .bool (ownL l a p).2]) ∧ Below w.heap.size w w' := by
  have h1 := h.len; have h2 := h.len'
  subst h1; subst h2
  exact towroperef18_Owner.calls (l.length + l.length + 2) lo hi la A c l A' c' l' a p _ _ w h.C h.cap h.C' h.cap' (by
    have := owner_l0 lo hi la l l' a p (by have := h.few; omega) (l.length + l.length + 2) 0 (by omega) (Nat.zero_le _)
    rw [List.drop_zero] at this
    unfold towroperef18_Owner.f
    rw [show (0 : Int) = ((0 : Nat) : Int) from rfl, this]
    unfold ownL
    have e : (fbL l a p).isSome = (l.find? (isE a p)).isSome := by unfold fbL; simp
    rw [e]
    split <;> rfl)
theorem talks_ref (h : Rw w A n c l A' n' c' l') (a p d1 d2 : Int) : Calls Try.prog 52 #[rt lo hi la A n c A' n' c', .agg #[.int .u32 a, .int .u16 p, .int .u32 d1, .int .u16 d2]] w fun e w' => e = .returned (.tuple #[.int .i64 ((fjL l' a p d1 d2).getD 0), .bool (fjL l' a p d1 d2).isSome]) ∧ Below w.heap.size w w' := by
  have h1 := h.len; have h2 := h.len'
  subst h1; subst h2
  exact towroperef18_Talks.calls (l'.length + 1) lo hi la A c l A' c' l' a p d1 d2 _ _ w h.C h.cap h.C' h.cap' (by
    have := talks_l lo hi la l l' a p d1 d2 (by have := h.few'; omega) (l'.length + 1) 0 (by omega) (Nat.zero_le _)
    rw [List.drop_zero] at this
    exact this)
end
theorem bput {b : Nat} {a w : World} {g i : Nat} {u : Value} (h : Below b a w) (hg : b ≤ g) : Below b a (w.setCell ⟨g, i, none⟩ u) :=
  ⟨h.os, h.tape, h.output, Nat.le_trans h.size (by simp [World.setCell]), fun k hk => (Below.heap_setCell w _ _ k (by show k ≠ g; omega)).trans (h.block k hk)⟩
def put5 (w : World) (g : Nat) (y0 y1 y2 y3 y4 : Value) : World := ((((w.setCell ⟨g, 0, none⟩ y0).setCell ⟨g, 1, none⟩ y1).setCell ⟨g, 2, none⟩ y2).setCell ⟨g, 3, none⟩ y3).setCell ⟨g, 4, none⟩ y4
section
variable {w : World} {g : Nat} {x0 x1 x2 x3 x4 : Value}
theorem five (h : w.heap[g]? = some (.cells #[x0, x1, x2, x3, x4] 100 (0, 0))) : w.cell? ⟨g, 0, none⟩ = some x0 ∧ w.cell? ⟨g, 1, none⟩ = some x1 ∧ w.cell? ⟨g, 2, none⟩ = some x2 ∧ w.cell? ⟨g, 3, none⟩ = some x3 ∧ w.cell? ⟨g, 4, none⟩ = some x4 ∧ w.frozen? ⟨g, 0, none⟩ = false ∧ w.frozen? ⟨g, 1, none⟩ = false ∧ w.frozen? ⟨g, 2, none⟩ = false ∧ w.frozen? ⟨g, 3, none⟩ = false ∧ w.frozen? ⟨g, 4, none⟩ = false :=
  ⟨(blk_cell h 0).trans rfl, (blk_cell h 1).trans rfl, (blk_cell h 2).trans rfl, (blk_cell h 3).trans rfl, (blk_cell h 4).trans rfl, blk_frozen h _, blk_frozen h _, blk_frozen h _, blk_frozen h _, blk_frozen h _⟩
theorem five_put (h : w.heap[g]? = some (.cells #[x0, x1, x2, x3, x4] 100 (0, 0))) (y0 y1 y2 y3 y4 : Value) : (put5 w g y0 y1 y2 y3 y4).heap[g]? = some (.cells #[y0, y1, y2, y3, y4] 100 (0, 0)) :=
  blk_put (blk_put (blk_put (blk_put (blk_put h 0 _ rfl) 1 _ rfl) 2 _ rfl) 3 _ rfl) 4 _ rfl
theorem five_far {k : Nat} {cs : Array Value} {t : TypeId} (h : w.heap[k]? = some (.cells cs t (0, 0))) (hk : k ≠ g) (y0 y1 y2 y3 y4 : Value) : (put5 w g y0 y1 y2 y3 y4).heap[k]? = some (.cells cs t (0, 0)) :=
  blk_far (blk_far (blk_far (blk_far (blk_far h (p := ⟨g, 0, none⟩) hk _) (p := ⟨g, 1, none⟩) hk _) (p := ⟨g, 2, none⟩) hk _) (p := ⟨g, 3, none⟩) hk _) (p := ⟨g, 4, none⟩) hk _
theorem five_b {b : Nat} {a : World} (h : Below b a w) (hg : b ≤ g) (y0 y1 y2 y3 y4 : Value) : Below b a (put5 w g y0 y1 y2 y3 y4) := bput (bput (bput (bput (bput h hg) hg) hg) hg) hg
theorem e175 : ∀ q, q ∈ 175 :: k175.E → q ≠ 100 := by
  intro q hq
  have : q = 175 := by simpa [k175, k105, Kd.iso, Kd.pair, Kd.int, Kd.scalar] using hq
  omega
theorem e177 : ∀ q, q ∈ 177 :: k177.E → q ≠ 100 := by
  intro q hq
  have : q = 177 := by simpa [k177, k107, k105, Kd.iso, Kd.pair, Kd.int, Kd.scalar] using hq
  omega
theorem R_five {α : Type} {d : Kd α} {e base : Nat} {v : Value} {l : List α} (h : Kd.R d e w base (fun _ => True) v l) (he : ∀ q, q ∈ e :: d.E → q ≠ 100) (hb : w.heap[g]? = some (.cells #[x0, x1, x2, x3, x4] 100 (0, 0))) (y0 y1 y2 y3 y4 : Value) : Kd.R d e (put5 w g y0 y1 y2 y3 y4) base (fun _ => True) v l := by
  have b0 := blk_set hb 0 y0
  have b1 := blk_set b0 1 y1
  have b2 := blk_set b1 2 y2
  have b3 := blk_set b2 3 y3
  exact Kd.R_set (Kd.R_set (Kd.R_set (Kd.R_set (Kd.R_set h hb he 0 y0) b0 he 1 y1) b1 he 2 y2) b2 he 3 y3) b3 he 4 y4
end
theorem boxed3 (w : World) (o1 o2 o3 : Obj) : (((w.alloc o1).alloc o2).alloc o3).heap[w.heap.size]? = some o1 ∧ (((w.alloc o1).alloc o2).alloc o3).heap[w.heap.size + 1]? = some o2 ∧ (((w.alloc o1).alloc o2).alloc o3).heap[w.heap.size + 1 + 1]? = some o3 ∧ Below w.heap.size w (((w.alloc o1).alloc o2).alloc o3) := by
  have b := fun (W : World) (o : Obj) => below_alloc (Below.refl W.heap.size W) o
  have z1 : (w.alloc o1).heap.size = w.heap.size + 1 := by simp
  have z2 : ((w.alloc o1).alloc o2).heap.size = w.heap.size + 1 + 1 := by simp
  have h2 := blk_new (w.alloc o1) o2
  have h3 := blk_new ((w.alloc o1).alloc o2) o3
  rw [z1] at h2
  rw [z2] at h3
  exact ⟨blk_below (blk_below (blk_new w o1) (b _ _)) (b _ _), blk_below h2 (b _ _), h3, below_step (below_step (b _ _) (b _ _)) (b _ _)⟩
theorem info175 : (Try.prog.info? 175).map (fun i => (i.zero, i.size, i.bytes)) = some (some (.agg #[.int .u32 0, .int .u16 0, .int .i64 0]), 3, 16) := by kernel_rfl
theorem info177 : (Try.prog.info? 177).map (fun i => (i.zero, i.size, i.bytes)) = some (some (.agg #[.int .u32 0, .int .u16 0, .int .u32 0, .int .u16 0, .int .i64 0]), 5, 24) := by kernel_rfl
/-- A block of one element, read. -/
theorem one_C {α : Type} {d : Kd α} {w : World} {g : Nat} {x : α} {cs : List Value} {t : TypeId} (hk : d.K w x cs) (hb : w.heap[g]? = some (.cells cs.toArray t (0, 0))) : Kd.C d w (some ⟨g, 0, none⟩) 1 [x] := by
  refine ⟨rfl, by decide, fun _ => ⟨_, rfl, fun j y hj => ?_⟩⟩
  obtain rfl : j = 0 := by have := (List.getElem?_eq_some_iff.1 hj).1; simpa using this
  obtain rfl : x = y := by simpa using hj
  refine ⟨cs, d.K_len hk, hk, fun i u hi => ?_⟩
  rw [Nat.zero_mul, Nat.zero_add, add_plain, blk_cell hb]
  simpa using hi
theorem k175_mk (w : World) (a p o : Int) : k175.K w ⟨⟨a, p⟩, o⟩ [.int .u32 a, .int .u16 p, .int .i64 o] := ⟨[.int .u32 a, .int .u16 p], [.int .i64 o], rfl, ⟨[.int .u32 a], [.int .u16 p], rfl, rfl, rfl⟩, rfl⟩
theorem k177_mk (w : World) (a p c d o : Int) : k177.K w ⟨⟨⟨a, p⟩, ⟨c, d⟩⟩, o⟩ [.int .u32 a, .int .u16 p, .int .u32 c, .int .u16 d, .int .i64 o] := ⟨[.int .u32 a, .int .u16 p, .int .u32 c, .int .u16 d], [.int .i64 o], rfl, ⟨[.int .u32 a, .int .u16 p], [.int .u32 c, .int .u16 d], rfl, ⟨[.int .u32 a], [.int .u16 p], rfl, rfl, rfl⟩, ⟨[.int .u32 c], [.int .u16 d], rfl, rfl, rfl⟩⟩, rfl⟩
set_option maxRecDepth 100000 in
set_option maxHeartbeats 16000000 in
theorem rbind_zero (lo hi la : Int) {A : Option Addr} {n c : Nat} {l : List S175} {A' : Option Addr} {n' c' : Nat} {l' : List S177} {w : World} (h : Rw w A n c l A' n' c' l') (a p o : Int) (hp : p = 0) :
    Calls Try.prog 84 #[rt lo hi la A n c A' n' c', .agg #[.int .u32 a, .int .u16 p], .int .i64 o] w fun e w' => e = .returned (.tuple #[rt lo hi la A n c A' n' c', .int .i64 8]) ∧ Below w.heap.size w w' := by
  have zp1 : (p == 0) = true := beq_iff_eq.2 hp
  have zp2 : decide (p = 0) = true := decide_eq_true hp
  clear hp
  have H := Aside0.mk h
  unfold rt
  clear h
  go_enter Try.func84, Try.ntmps84
  go_upto_region 1 with (fail)
  obtain ⟨hb1, hbe, hb2, hB⟩ := boxed3 w (.cells #[.int .i64 lo, .int .i64 hi, .int .i64 la, .slice A n c, .slice A' n' c'] 100) (.cells #[.int .u32 a, .int .u16 p] 105) (.cells #[.int .i64 0, .int .i64 0, .int .i64 0, .slice none 0 0, .slice none 0 0] 100)
  generalize ((w.alloc (.cells #[.int .i64 lo, .int .i64 hi, .int .i64 la, .slice A n c, .slice A' n' c'] 100)).alloc (.cells #[.int .u32 a, .int .u16 p] 105)).alloc (.cells #[.int .i64 0, .int .i64 0, .int .i64 0, .slice none 0 0, .slice none 0 0] 100) = w1 at hb1 hbe hb2 hB ⊢
  have HB := Aside0.mk hB
  have H1 := Aside0.mk (H.out.below hB)
  obtain ⟨k1, hk1⟩ : ∃ k1, k1 = w.heap.size + 1 + 1 := ⟨_, rfl⟩
  obtain ⟨ge, hge⟩ : ∃ ge, ge = w.heap.size + 1 := ⟨_, rfl⟩
  rw [← hk1] at hb2 ⊢
  rw [← hge] at hbe ⊢
  obtain ⟨g, hg⟩ : ∃ g, w.heap.size = g := ⟨_, rfl⟩
  rw [hg] at hb1 ⊢
  have HG := Aside0.mk (show w.heap.size ≤ g ∧ w.heap.size ≤ k1 ∧ k1 ≠ g ∧ g ≠ k1 ∧ ge ≠ g ∧ ge ≠ k1 by omega)
  have HP1 := Aside0.mk hb1
  have HPE := Aside0.mk hbe
  have HP2 := Aside0.mk hb2
  clear hB hb1 hbe hb2 hg hk1 hge
  obtain ⟨p0, p1, p2, p3, p4, s0, s1, s2, s3, s4⟩ := five HP1.out
  obtain ⟨r0, r1, r2, r3, r4, u0, u1, u2, u3, u4⟩ := five HP2.out
  have e0 := (blk_cell HPE.out 0).trans rfl
  have e1 := (blk_cell HPE.out 1).trans rfl
  have gl0 := blk_lt HP1.out
  have gl2 := blk_lt HP2.out
  have gle := blk_lt HPE.out
  go_wp2
  refine bodyPost_ret (results_ct rfl _ _ k1 100 #[.int .i64 lo, .int .i64 hi, .int .i64 la, .slice A n c, .slice A' n' c'] (0, 0) _ rfl (five_put HP2.out _ _ _ _ _) Try.underlying100 rfl (by kernel_rfl)) rfl ?_
  exact ⟨rfl, five_b HB.out HG.out.2.1 _ _ _ _ _⟩
set_option maxRecDepth 100000 in
set_option maxHeartbeats 16000000 in
theorem rbind_taken (lo hi la : Int) {A : Option Addr} {n c : Nat} {l : List S175} {A' : Option Addr} {n' c' : Nat} {l' : List S177} {w : World} (h : Rw w A n c l A' n' c' l') (a p o : Int) (hp : p ≠ 0) (hx : l.any (tkL a p) = true) :
    Calls Try.prog 84 #[rt lo hi la A n c A' n' c', .agg #[.int .u32 a, .int .u16 p], .int .i64 o] w fun e w' => e = .returned (.tuple #[rt lo hi la A n c A' n' c', .int .i64 140]) ∧ Below w.heap.size w w' := by
  have zp1 : (p == 0) = false := beq_eq_false_iff_ne.2 hp
  have zp2 : decide (p = 0) = false := decide_eq_false hp
  have HX := Aside0.mk hx
  clear hp hx
  have H := Aside0.mk h
  unfold rt
  clear h
  go_enter Try.func84, Try.ntmps84
  go_upto_region 1 with (fail)
  obtain ⟨hb1, hbe, hb2, hB⟩ := boxed3 w (.cells #[.int .i64 lo, .int .i64 hi, .int .i64 la, .slice A n c, .slice A' n' c'] 100) (.cells #[.int .u32 a, .int .u16 p] 105) (.cells #[.int .i64 0, .int .i64 0, .int .i64 0, .slice none 0 0, .slice none 0 0] 100)
  generalize ((w.alloc (.cells #[.int .i64 lo, .int .i64 hi, .int .i64 la, .slice A n c, .slice A' n' c'] 100)).alloc (.cells #[.int .u32 a, .int .u16 p] 105)).alloc (.cells #[.int .i64 0, .int .i64 0, .int .i64 0, .slice none 0 0, .slice none 0 0] 100) = w1 at hb1 hbe hb2 hB ⊢
  have HB := Aside0.mk hB
  have H1 := Aside0.mk (H.out.below hB)
  obtain ⟨k1, hk1⟩ : ∃ k1, k1 = w.heap.size + 1 + 1 := ⟨_, rfl⟩
  obtain ⟨ge, hge⟩ : ∃ ge, ge = w.heap.size + 1 := ⟨_, rfl⟩
  rw [← hk1] at hb2 ⊢
  rw [← hge] at hbe ⊢
  obtain ⟨g, hg⟩ : ∃ g, w.heap.size = g := ⟨_, rfl⟩
  rw [hg] at hb1 ⊢
  have HG := Aside0.mk (show w.heap.size ≤ g ∧ w.heap.size ≤ k1 ∧ k1 ≠ g ∧ g ≠ k1 ∧ ge ≠ g ∧ ge ≠ k1 by omega)
  have HP1 := Aside0.mk hb1
  have HPE := Aside0.mk hbe
  have HP2 := Aside0.mk hb2
  clear hB hb1 hbe hb2 hg hk1 hge
  obtain ⟨p0, p1, p2, p3, p4, s0, s1, s2, s3, s4⟩ := five HP1.out
  obtain ⟨r0, r1, r2, r3, r4, u0, u1, u2, u3, u4⟩ := five HP2.out
  have e0 := (blk_cell HPE.out 0).trans rfl
  have e1 := (blk_cell HPE.out 1).trans rfl
  have gl0 := blk_lt HP1.out
  have gl2 := blk_lt HP2.out
  have gle := blk_lt HPE.out
  go_wp2_with (go_at_call 101; refine (taken_ref (lo := lo) (hi := hi) (la := la) H1.out a p).mono ?_; rintro e w2 ⟨rfl, hB⟩; rw [HX.out]; replace HP1 := Aside0.mk (blk_below HP1.out hB); replace HPE := Aside0.mk (blk_below HPE.out hB); replace HP2 := Aside0.mk (blk_below HP2.out hB); replace H1 := Aside0.mk (H1.out.below hB); replace HB := Aside0.mk (below_step HB.out hB); clear hB; clear p0 p1 p2 p3 p4 s0 s1 s2 s3 s4 r0 r1 r2 r3 r4 u0 u1 u2 u3 u4 gl0 gl2 gle e0 e1; obtain ⟨p0, p1, p2, p3, p4, s0, s1, s2, s3, s4⟩ := five HP1.out; obtain ⟨r0, r1, r2, r3, r4, u0, u1, u2, u3, u4⟩ := five HP2.out; have e0 := (blk_cell HPE.out 0).trans rfl; have e1 := (blk_cell HPE.out 1).trans rfl; have gl0 := blk_lt HP1.out; have gl2 := blk_lt HP2.out; have gle := blk_lt HPE.out)
  refine bodyPost_ret (results_ct rfl _ _ k1 100 #[.int .i64 lo, .int .i64 hi, .int .i64 la, .slice A n c, .slice A' n' c'] (0, 0) _ rfl (five_put HP2.out _ _ _ _ _) Try.underlying100 rfl (by kernel_rfl)) rfl ?_
  exact ⟨rfl, five_b HB.out HG.out.2.1 _ _ _ _ _⟩
set_option maxRecDepth 100000 in
set_option maxHeartbeats 16000000 in
theorem rbind_full (lo hi la : Int) {A : Option Addr} {n c : Nat} {l : List S175} {A' : Option Addr} {n' c' : Nat} {l' : List S177} {w : World} (h : Rw w A n c l A' n' c' l') (a p o : Int) (hp : p ≠ 0) (hx : l.any (tkL a p) = false) (hn : 1024 ≤ n) :
    Calls Try.prog 84 #[rt lo hi la A n c A' n' c', .agg #[.int .u32 a, .int .u16 p], .int .i64 o] w fun e w' => e = .returned (.tuple #[rt lo hi la A n c A' n' c', .int .i64 5]) ∧ Below w.heap.size w w' := by
  have zp1 : (p == 0) = false := beq_eq_false_iff_ne.2 hp
  have zp2 : decide (p = 0) = false := decide_eq_false hp
  have HX := Aside0.mk hx
  have n1 : decide (1024 ≤ (n : Int)) = true := decide_eq_true (by omega)
  clear hp hx hn
  have H := Aside0.mk h
  unfold rt
  clear h
  go_enter Try.func84, Try.ntmps84
  go_upto_region 1 with (fail)
  obtain ⟨hb1, hbe, hb2, hB⟩ := boxed3 w (.cells #[.int .i64 lo, .int .i64 hi, .int .i64 la, .slice A n c, .slice A' n' c'] 100) (.cells #[.int .u32 a, .int .u16 p] 105) (.cells #[.int .i64 0, .int .i64 0, .int .i64 0, .slice none 0 0, .slice none 0 0] 100)
  generalize ((w.alloc (.cells #[.int .i64 lo, .int .i64 hi, .int .i64 la, .slice A n c, .slice A' n' c'] 100)).alloc (.cells #[.int .u32 a, .int .u16 p] 105)).alloc (.cells #[.int .i64 0, .int .i64 0, .int .i64 0, .slice none 0 0, .slice none 0 0] 100) = w1 at hb1 hbe hb2 hB ⊢
  have HB := Aside0.mk hB
  have H1 := Aside0.mk (H.out.below hB)
  obtain ⟨k1, hk1⟩ : ∃ k1, k1 = w.heap.size + 1 + 1 := ⟨_, rfl⟩
  obtain ⟨ge, hge⟩ : ∃ ge, ge = w.heap.size + 1 := ⟨_, rfl⟩
  rw [← hk1] at hb2 ⊢
  rw [← hge] at hbe ⊢
  obtain ⟨g, hg⟩ : ∃ g, w.heap.size = g := ⟨_, rfl⟩
  rw [hg] at hb1 ⊢
  have HG := Aside0.mk (show w.heap.size ≤ g ∧ w.heap.size ≤ k1 ∧ k1 ≠ g ∧ g ≠ k1 ∧ ge ≠ g ∧ ge ≠ k1 by omega)
  have HP1 := Aside0.mk hb1
  have HPE := Aside0.mk hbe
  have HP2 := Aside0.mk hb2
  clear hB hb1 hbe hb2 hg hk1 hge
  obtain ⟨p0, p1, p2, p3, p4, s0, s1, s2, s3, s4⟩ := five HP1.out
  obtain ⟨r0, r1, r2, r3, r4, u0, u1, u2, u3, u4⟩ := five HP2.out
  have e0 := (blk_cell HPE.out 0).trans rfl
  have e1 := (blk_cell HPE.out 1).trans rfl
  have gl0 := blk_lt HP1.out
  have gl2 := blk_lt HP2.out
  have gle := blk_lt HPE.out
  go_wp2_with (go_at_call 101; refine (taken_ref (lo := lo) (hi := hi) (la := la) H1.out a p).mono ?_; rintro e w2 ⟨rfl, hB⟩; rw [HX.out]; replace HP1 := Aside0.mk (blk_below HP1.out hB); replace HPE := Aside0.mk (blk_below HPE.out hB); replace HP2 := Aside0.mk (blk_below HP2.out hB); replace H1 := Aside0.mk (H1.out.below hB); replace HB := Aside0.mk (below_step HB.out hB); clear hB; clear p0 p1 p2 p3 p4 s0 s1 s2 s3 s4 r0 r1 r2 r3 r4 u0 u1 u2 u3 u4 gl0 gl2 gle e0 e1; obtain ⟨p0, p1, p2, p3, p4, s0, s1, s2, s3, s4⟩ := five HP1.out; obtain ⟨r0, r1, r2, r3, r4, u0, u1, u2, u3, u4⟩ := five HP2.out; have e0 := (blk_cell HPE.out 0).trans rfl; have e1 := (blk_cell HPE.out 1).trans rfl; have gl0 := blk_lt HP1.out; have gl2 := blk_lt HP2.out; have gle := blk_lt HPE.out)
  refine bodyPost_ret (results_ct rfl _ _ k1 100 #[.int .i64 lo, .int .i64 hi, .int .i64 la, .slice A n c, .slice A' n' c'] (0, 0) _ rfl (five_put HP2.out _ _ _ _ _) Try.underlying100 rfl (by kernel_rfl)) rfl ?_
  exact ⟨rfl, five_b HB.out HG.out.2.1 _ _ _ _ _⟩
set_option maxRecDepth 100000 in
set_option maxHeartbeats 16000000 in
theorem rjoin_zero1 (lo hi la : Int) {A : Option Addr} {n c : Nat} {l : List S175} {A' : Option Addr} {n' c' : Nat} {l' : List S177} {w : World} (h : Rw w A n c l A' n' c' l') (a p d1 d2 o : Int) (hp : p = 0) :
    Calls Try.prog 87 #[rt lo hi la A n c A' n' c', .agg #[.int .u32 a, .int .u16 p, .int .u32 d1, .int .u16 d2], .int .i64 o] w fun e w' => e = .returned (.tuple #[rt lo hi la A n c A' n' c', .int .i64 8]) ∧ Below w.heap.size w w' := by
  have zp1 : (p == 0) = true := beq_iff_eq.2 hp
  have zp2 : decide (p = 0) = true := decide_eq_true hp
  clear hp
  have H := Aside0.mk h
  unfold rt
  clear h
  go_enter Try.func87, Try.ntmps87
  go_upto_region 1 with (fail)
  obtain ⟨hb1, hbe, hb2, hB⟩ := boxed3 w (.cells #[.int .i64 lo, .int .i64 hi, .int .i64 la, .slice A n c, .slice A' n' c'] 100) (.cells #[.int .u32 a, .int .u16 p, .int .u32 d1, .int .u16 d2] 107) (.cells #[.int .i64 0, .int .i64 0, .int .i64 0, .slice none 0 0, .slice none 0 0] 100)
  generalize ((w.alloc (.cells #[.int .i64 lo, .int .i64 hi, .int .i64 la, .slice A n c, .slice A' n' c'] 100)).alloc (.cells #[.int .u32 a, .int .u16 p, .int .u32 d1, .int .u16 d2] 107)).alloc (.cells #[.int .i64 0, .int .i64 0, .int .i64 0, .slice none 0 0, .slice none 0 0] 100) = w1 at hb1 hbe hb2 hB ⊢
  have HB := Aside0.mk hB
  have H1 := Aside0.mk (H.out.below hB)
  obtain ⟨k1, hk1⟩ : ∃ k1, k1 = w.heap.size + 1 + 1 := ⟨_, rfl⟩
  obtain ⟨ge, hge⟩ : ∃ ge, ge = w.heap.size + 1 := ⟨_, rfl⟩
  rw [← hk1] at hb2 ⊢
  rw [← hge] at hbe ⊢
  obtain ⟨g, hg⟩ : ∃ g, w.heap.size = g := ⟨_, rfl⟩
  rw [hg] at hb1 ⊢
  have HG := Aside0.mk (show w.heap.size ≤ g ∧ w.heap.size ≤ k1 ∧ k1 ≠ g ∧ g ≠ k1 ∧ ge ≠ g ∧ ge ≠ k1 by omega)
  have HP1 := Aside0.mk hb1
  have HPE := Aside0.mk hbe
  have HP2 := Aside0.mk hb2
  clear hB hb1 hbe hb2 hg hk1 hge
  obtain ⟨p0, p1, p2, p3, p4, s0, s1, s2, s3, s4⟩ := five HP1.out
  obtain ⟨r0, r1, r2, r3, r4, u0, u1, u2, u3, u4⟩ := five HP2.out
  have e0 := (blk_cell HPE.out 0).trans rfl
  have e1 := (blk_cell HPE.out 1).trans rfl
  have e2 := (blk_cell HPE.out 2).trans rfl
  have e3 := (blk_cell HPE.out 3).trans rfl
  have gl0 := blk_lt HP1.out
  have gl2 := blk_lt HP2.out
  have gle := blk_lt HPE.out
  go_wp2
  refine bodyPost_ret (results_ct rfl _ _ k1 100 #[.int .i64 lo, .int .i64 hi, .int .i64 la, .slice A n c, .slice A' n' c'] (0, 0) _ rfl (five_put HP2.out _ _ _ _ _) Try.underlying100 rfl (by kernel_rfl)) rfl ?_
  exact ⟨rfl, five_b HB.out HG.out.2.1 _ _ _ _ _⟩
set_option maxRecDepth 100000 in
set_option maxHeartbeats 16000000 in
theorem rjoin_zero2 (lo hi la : Int) {A : Option Addr} {n c : Nat} {l : List S175} {A' : Option Addr} {n' c' : Nat} {l' : List S177} {w : World} (h : Rw w A n c l A' n' c' l') (a p d1 d2 o : Int) (hp : p ≠ 0) (hd2 : d2 = 0) :
    Calls Try.prog 87 #[rt lo hi la A n c A' n' c', .agg #[.int .u32 a, .int .u16 p, .int .u32 d1, .int .u16 d2], .int .i64 o] w fun e w' => e = .returned (.tuple #[rt lo hi la A n c A' n' c', .int .i64 8]) ∧ Below w.heap.size w w' := by
  have zp1 : (p == 0) = false := beq_eq_false_iff_ne.2 hp
  have zp2 : decide (p = 0) = false := decide_eq_false hp
  have zd21 : (d2 == 0) = true := beq_iff_eq.2 hd2
  have zd22 : decide (d2 = 0) = true := decide_eq_true hd2
  clear hp hd2
  have H := Aside0.mk h
  unfold rt
  clear h
  go_enter Try.func87, Try.ntmps87
  go_upto_region 1 with (fail)
  obtain ⟨hb1, hbe, hb2, hB⟩ := boxed3 w (.cells #[.int .i64 lo, .int .i64 hi, .int .i64 la, .slice A n c, .slice A' n' c'] 100) (.cells #[.int .u32 a, .int .u16 p, .int .u32 d1, .int .u16 d2] 107) (.cells #[.int .i64 0, .int .i64 0, .int .i64 0, .slice none 0 0, .slice none 0 0] 100)
  generalize ((w.alloc (.cells #[.int .i64 lo, .int .i64 hi, .int .i64 la, .slice A n c, .slice A' n' c'] 100)).alloc (.cells #[.int .u32 a, .int .u16 p, .int .u32 d1, .int .u16 d2] 107)).alloc (.cells #[.int .i64 0, .int .i64 0, .int .i64 0, .slice none 0 0, .slice none 0 0] 100) = w1 at hb1 hbe hb2 hB ⊢
  have HB := Aside0.mk hB
  have H1 := Aside0.mk (H.out.below hB)
  obtain ⟨k1, hk1⟩ : ∃ k1, k1 = w.heap.size + 1 + 1 := ⟨_, rfl⟩
  obtain ⟨ge, hge⟩ : ∃ ge, ge = w.heap.size + 1 := ⟨_, rfl⟩
  rw [← hk1] at hb2 ⊢
  rw [← hge] at hbe ⊢
  obtain ⟨g, hg⟩ : ∃ g, w.heap.size = g := ⟨_, rfl⟩
  rw [hg] at hb1 ⊢
  have HG := Aside0.mk (show w.heap.size ≤ g ∧ w.heap.size ≤ k1 ∧ k1 ≠ g ∧ g ≠ k1 ∧ ge ≠ g ∧ ge ≠ k1 by omega)
  have HP1 := Aside0.mk hb1
  have HPE := Aside0.mk hbe
  have HP2 := Aside0.mk hb2
  clear hB hb1 hbe hb2 hg hk1 hge
  obtain ⟨p0, p1, p2, p3, p4, s0, s1, s2, s3, s4⟩ := five HP1.out
  obtain ⟨r0, r1, r2, r3, r4, u0, u1, u2, u3, u4⟩ := five HP2.out
  have e0 := (blk_cell HPE.out 0).trans rfl
  have e1 := (blk_cell HPE.out 1).trans rfl
  have e2 := (blk_cell HPE.out 2).trans rfl
  have e3 := (blk_cell HPE.out 3).trans rfl
  have gl0 := blk_lt HP1.out
  have gl2 := blk_lt HP2.out
  have gle := blk_lt HPE.out
  go_wp2
  refine bodyPost_ret (results_ct rfl _ _ k1 100 #[.int .i64 lo, .int .i64 hi, .int .i64 la, .slice A n c, .slice A' n' c'] (0, 0) _ rfl (five_put HP2.out _ _ _ _ _) Try.underlying100 rfl (by kernel_rfl)) rfl ?_
  exact ⟨rfl, five_b HB.out HG.out.2.1 _ _ _ _ _⟩
set_option maxRecDepth 100000 in
set_option maxHeartbeats 16000000 in
theorem rjoin_there (lo hi la : Int) {A : Option Addr} {n c : Nat} {l : List S175} {A' : Option Addr} {n' c' : Nat} {l' : List S177} {w : World} (h : Rw w A n c l A' n' c' l') (a p d1 d2 o : Int) (hp : p ≠ 0) (hd2 : d2 ≠ 0) (hx : (fjL l' a p d1 d2).isSome = true) :
    Calls Try.prog 87 #[rt lo hi la A n c A' n' c', .agg #[.int .u32 a, .int .u16 p, .int .u32 d1, .int .u16 d2], .int .i64 o] w fun e w' => e = .returned (.tuple #[rt lo hi la A n c A' n' c', .int .i64 140]) ∧ Below w.heap.size w w' := by
  have zp1 : (p == 0) = false := beq_eq_false_iff_ne.2 hp
  have zp2 : decide (p = 0) = false := decide_eq_false hp
  have zd21 : (d2 == 0) = false := beq_eq_false_iff_ne.2 hd2
  have zd22 : decide (d2 = 0) = false := decide_eq_false hd2
  have HX := Aside0.mk hx
  clear hp hd2 hx
  have H := Aside0.mk h
  unfold rt
  clear h
  go_enter Try.func87, Try.ntmps87
  go_upto_region 1 with (fail)
  obtain ⟨hb1, hbe, hb2, hB⟩ := boxed3 w (.cells #[.int .i64 lo, .int .i64 hi, .int .i64 la, .slice A n c, .slice A' n' c'] 100) (.cells #[.int .u32 a, .int .u16 p, .int .u32 d1, .int .u16 d2] 107) (.cells #[.int .i64 0, .int .i64 0, .int .i64 0, .slice none 0 0, .slice none 0 0] 100)
  generalize ((w.alloc (.cells #[.int .i64 lo, .int .i64 hi, .int .i64 la, .slice A n c, .slice A' n' c'] 100)).alloc (.cells #[.int .u32 a, .int .u16 p, .int .u32 d1, .int .u16 d2] 107)).alloc (.cells #[.int .i64 0, .int .i64 0, .int .i64 0, .slice none 0 0, .slice none 0 0] 100) = w1 at hb1 hbe hb2 hB ⊢
  have HB := Aside0.mk hB
  have H1 := Aside0.mk (H.out.below hB)
  obtain ⟨k1, hk1⟩ : ∃ k1, k1 = w.heap.size + 1 + 1 := ⟨_, rfl⟩
  obtain ⟨ge, hge⟩ : ∃ ge, ge = w.heap.size + 1 := ⟨_, rfl⟩
  rw [← hk1] at hb2 ⊢
  rw [← hge] at hbe ⊢
  obtain ⟨g, hg⟩ : ∃ g, w.heap.size = g := ⟨_, rfl⟩
  rw [hg] at hb1 ⊢
  have HG := Aside0.mk (show w.heap.size ≤ g ∧ w.heap.size ≤ k1 ∧ k1 ≠ g ∧ g ≠ k1 ∧ ge ≠ g ∧ ge ≠ k1 by omega)
  have HP1 := Aside0.mk hb1
  have HPE := Aside0.mk hbe
  have HP2 := Aside0.mk hb2
  clear hB hb1 hbe hb2 hg hk1 hge
  obtain ⟨p0, p1, p2, p3, p4, s0, s1, s2, s3, s4⟩ := five HP1.out
  obtain ⟨r0, r1, r2, r3, r4, u0, u1, u2, u3, u4⟩ := five HP2.out
  have e0 := (blk_cell HPE.out 0).trans rfl
  have e1 := (blk_cell HPE.out 1).trans rfl
  have e2 := (blk_cell HPE.out 2).trans rfl
  have e3 := (blk_cell HPE.out 3).trans rfl
  have gl0 := blk_lt HP1.out
  have gl2 := blk_lt HP2.out
  have gle := blk_lt HPE.out
  go_wp2_with (go_at_call 52; refine (talks_ref (lo := lo) (hi := hi) (la := la) H1.out a p d1 d2).mono ?_; rintro e w2 ⟨rfl, hB⟩; rw [HX.out]; replace HP1 := Aside0.mk (blk_below HP1.out hB); replace HPE := Aside0.mk (blk_below HPE.out hB); replace HP2 := Aside0.mk (blk_below HP2.out hB); replace H1 := Aside0.mk (H1.out.below hB); replace HB := Aside0.mk (below_step HB.out hB); clear hB; clear p0 p1 p2 p3 p4 s0 s1 s2 s3 s4 r0 r1 r2 r3 r4 u0 u1 u2 u3 u4 gl0 gl2 gle e0 e1 e2 e3; obtain ⟨p0, p1, p2, p3, p4, s0, s1, s2, s3, s4⟩ := five HP1.out; obtain ⟨r0, r1, r2, r3, r4, u0, u1, u2, u3, u4⟩ := five HP2.out; have e0 := (blk_cell HPE.out 0).trans rfl; have e1 := (blk_cell HPE.out 1).trans rfl; have e2 := (blk_cell HPE.out 2).trans rfl; have e3 := (blk_cell HPE.out 3).trans rfl; have gl0 := blk_lt HP1.out; have gl2 := blk_lt HP2.out; have gle := blk_lt HPE.out)
  refine bodyPost_ret (results_ct rfl _ _ k1 100 #[.int .i64 lo, .int .i64 hi, .int .i64 la, .slice A n c, .slice A' n' c'] (0, 0) _ rfl (five_put HP2.out _ _ _ _ _) Try.underlying100 rfl (by kernel_rfl)) rfl ?_
  exact ⟨rfl, five_b HB.out HG.out.2.1 _ _ _ _ _⟩
set_option maxRecDepth 100000 in
set_option maxHeartbeats 16000000 in
theorem rjoin_full (lo hi la : Int) {A : Option Addr} {n c : Nat} {l : List S175} {A' : Option Addr} {n' c' : Nat} {l' : List S177} {w : World} (h : Rw w A n c l A' n' c' l') (a p d1 d2 o : Int) (hp : p ≠ 0) (hd2 : d2 ≠ 0) (hx : (fjL l' a p d1 d2).isSome = false) (hn : 1024 ≤ n') :
    Calls Try.prog 87 #[rt lo hi la A n c A' n' c', .agg #[.int .u32 a, .int .u16 p, .int .u32 d1, .int .u16 d2], .int .i64 o] w fun e w' => e = .returned (.tuple #[rt lo hi la A n c A' n' c', .int .i64 5]) ∧ Below w.heap.size w w' := by
  have zp1 : (p == 0) = false := beq_eq_false_iff_ne.2 hp
  have zp2 : decide (p = 0) = false := decide_eq_false hp
  have zd21 : (d2 == 0) = false := beq_eq_false_iff_ne.2 hd2
  have zd22 : decide (d2 = 0) = false := decide_eq_false hd2
  have HX := Aside0.mk hx
  have n1 : decide (1024 ≤ (n' : Int)) = true := decide_eq_true (by omega)
  clear hp hd2 hx hn
  have H := Aside0.mk h
  unfold rt
  clear h
  go_enter Try.func87, Try.ntmps87
  go_upto_region 1 with (fail)
  obtain ⟨hb1, hbe, hb2, hB⟩ := boxed3 w (.cells #[.int .i64 lo, .int .i64 hi, .int .i64 la, .slice A n c, .slice A' n' c'] 100) (.cells #[.int .u32 a, .int .u16 p, .int .u32 d1, .int .u16 d2] 107) (.cells #[.int .i64 0, .int .i64 0, .int .i64 0, .slice none 0 0, .slice none 0 0] 100)
  generalize ((w.alloc (.cells #[.int .i64 lo, .int .i64 hi, .int .i64 la, .slice A n c, .slice A' n' c'] 100)).alloc (.cells #[.int .u32 a, .int .u16 p, .int .u32 d1, .int .u16 d2] 107)).alloc (.cells #[.int .i64 0, .int .i64 0, .int .i64 0, .slice none 0 0, .slice none 0 0] 100) = w1 at hb1 hbe hb2 hB ⊢
  have HB := Aside0.mk hB
  have H1 := Aside0.mk (H.out.below hB)
  obtain ⟨k1, hk1⟩ : ∃ k1, k1 = w.heap.size + 1 + 1 := ⟨_, rfl⟩
  obtain ⟨ge, hge⟩ : ∃ ge, ge = w.heap.size + 1 := ⟨_, rfl⟩
  rw [← hk1] at hb2 ⊢
  rw [← hge] at hbe ⊢
  obtain ⟨g, hg⟩ : ∃ g, w.heap.size = g := ⟨_, rfl⟩
  rw [hg] at hb1 ⊢
  have HG := Aside0.mk (show w.heap.size ≤ g ∧ w.heap.size ≤ k1 ∧ k1 ≠ g ∧ g ≠ k1 ∧ ge ≠ g ∧ ge ≠ k1 by omega)
  have HP1 := Aside0.mk hb1
  have HPE := Aside0.mk hbe
  have HP2 := Aside0.mk hb2
  clear hB hb1 hbe hb2 hg hk1 hge
  obtain ⟨p0, p1, p2, p3, p4, s0, s1, s2, s3, s4⟩ := five HP1.out
  obtain ⟨r0, r1, r2, r3, r4, u0, u1, u2, u3, u4⟩ := five HP2.out
  have e0 := (blk_cell HPE.out 0).trans rfl
  have e1 := (blk_cell HPE.out 1).trans rfl
  have e2 := (blk_cell HPE.out 2).trans rfl
  have e3 := (blk_cell HPE.out 3).trans rfl
  have gl0 := blk_lt HP1.out
  have gl2 := blk_lt HP2.out
  have gle := blk_lt HPE.out
  go_wp2_with (go_at_call 52; refine (talks_ref (lo := lo) (hi := hi) (la := la) H1.out a p d1 d2).mono ?_; rintro e w2 ⟨rfl, hB⟩; rw [HX.out]; replace HP1 := Aside0.mk (blk_below HP1.out hB); replace HPE := Aside0.mk (blk_below HPE.out hB); replace HP2 := Aside0.mk (blk_below HP2.out hB); replace H1 := Aside0.mk (H1.out.below hB); replace HB := Aside0.mk (below_step HB.out hB); clear hB; clear p0 p1 p2 p3 p4 s0 s1 s2 s3 s4 r0 r1 r2 r3 r4 u0 u1 u2 u3 u4 gl0 gl2 gle e0 e1 e2 e3; obtain ⟨p0, p1, p2, p3, p4, s0, s1, s2, s3, s4⟩ := five HP1.out; obtain ⟨r0, r1, r2, r3, r4, u0, u1, u2, u3, u4⟩ := five HP2.out; have e0 := (blk_cell HPE.out 0).trans rfl; have e1 := (blk_cell HPE.out 1).trans rfl; have e2 := (blk_cell HPE.out 2).trans rfl; have e3 := (blk_cell HPE.out 3).trans rfl; have gl0 := blk_lt HP1.out; have gl2 := blk_lt HP2.out; have gle := blk_lt HPE.out)
  refine bodyPost_ret (results_ct rfl _ _ k1 100 #[.int .i64 lo, .int .i64 hi, .int .i64 la, .slice A n c, .slice A' n' c'] (0, 0) _ rfl (five_put HP2.out _ _ _ _ _) Try.underlying100 rfl (by kernel_rfl)) rfl ?_
  exact ⟨rfl, five_b HB.out HG.out.2.1 _ _ _ _ _⟩
set_option maxRecDepth 100000 in
set_option maxHeartbeats 16000000 in
theorem rbind_in (lo hi la : Int) {A : Option Addr} {n c : Nat} {l : List S175} {A' : Option Addr} {n' c' : Nat} {l' : List S177} {w : World} (h : Rw w A n c l A' n' c' l') (a p o : Int) (hp : p ≠ 0) (hx : l.any (tkL a p) = false) (hn : n < 1024) :
    Calls Try.prog 84 #[rt lo hi la A n c A' n' c', .agg #[.int .u32 a, .int .u16 p], .int .i64 o] w fun e w' => ∃ A1 c1, e = .returned (.tuple #[rt lo hi la A1 (n + 1) c1 A' n' c', .int .i64 0]) ∧ Kd.R k175 175 w' w.heap.size (fun _ => True) (.slice A1 (n + 1) c1) (l ++ [⟨⟨a, p⟩, o⟩]) ∧ Below w.heap.size w w' := by
  have zp1 : (p == 0) = false := beq_eq_false_iff_ne.2 hp
  have zp2 : decide (p = 0) = false := decide_eq_false hp
  have HX := Aside0.mk hx
  have n1 : decide (1024 ≤ (n : Int)) = false := decide_eq_false (by omega)
  have HQ := Aside0.mk (show (l ++ [(⟨⟨a, p⟩, o⟩ : S175)]).length = n + 1 by rw [List.length_append, h.len]; rfl)
  clear hp hx hn
  have H := Aside0.mk h
  unfold rt
  clear h
  go_enter Try.func84, Try.ntmps84
  go_upto_region 1 with (fail)
  obtain ⟨hb1, hbe, hb2, hB⟩ := boxed3 w (.cells #[.int .i64 lo, .int .i64 hi, .int .i64 la, .slice A n c, .slice A' n' c'] 100) (.cells #[.int .u32 a, .int .u16 p] 105) (.cells #[.int .i64 0, .int .i64 0, .int .i64 0, .slice none 0 0, .slice none 0 0] 100)
  generalize ((w.alloc (.cells #[.int .i64 lo, .int .i64 hi, .int .i64 la, .slice A n c, .slice A' n' c'] 100)).alloc (.cells #[.int .u32 a, .int .u16 p] 105)).alloc (.cells #[.int .i64 0, .int .i64 0, .int .i64 0, .slice none 0 0, .slice none 0 0] 100) = w1 at hb1 hbe hb2 hB ⊢
  have HB := Aside0.mk hB
  have H1 := Aside0.mk (H.out.below hB)
  obtain ⟨k1, hk1⟩ : ∃ k1, k1 = w.heap.size + 1 + 1 := ⟨_, rfl⟩
  obtain ⟨ge, hge⟩ : ∃ ge, ge = w.heap.size + 1 := ⟨_, rfl⟩
  rw [← hk1] at hb2 ⊢
  rw [← hge] at hbe ⊢
  obtain ⟨g, hg⟩ : ∃ g, w.heap.size = g := ⟨_, rfl⟩
  rw [hg] at hb1 ⊢
  have HG := Aside0.mk (show w.heap.size ≤ g ∧ w.heap.size ≤ k1 ∧ k1 ≠ g ∧ g ≠ k1 ∧ ge ≠ g ∧ ge ≠ k1 by omega)
  have HP1 := Aside0.mk hb1
  have HPE := Aside0.mk hbe
  have HP2 := Aside0.mk hb2
  clear hB hb1 hbe hb2 hg hk1 hge
  obtain ⟨p0, p1, p2, p3, p4, s0, s1, s2, s3, s4⟩ := five HP1.out
  obtain ⟨r0, r1, r2, r3, r4, u0, u1, u2, u3, u4⟩ := five HP2.out
  have e0 := (blk_cell HPE.out 0).trans rfl
  have e1 := (blk_cell HPE.out 1).trans rfl
  have gl0 := blk_lt HP1.out
  have gl2 := blk_lt HP2.out
  have gle := blk_lt HPE.out
  go_upto_region 7 with (go_at_call 101; refine (taken_ref (lo := lo) (hi := hi) (la := la) H1.out a p).mono ?_; rintro e w2 ⟨rfl, hB⟩; rw [HX.out]; replace HP1 := Aside0.mk (blk_below HP1.out hB); replace HPE := Aside0.mk (blk_below HPE.out hB); replace HP2 := Aside0.mk (blk_below HP2.out hB); replace H1 := Aside0.mk (H1.out.below hB); replace HB := Aside0.mk (below_step HB.out hB); clear hB; clear p0 p1 p2 p3 p4 s0 s1 s2 s3 s4 r0 r1 r2 r3 r4 u0 u1 u2 u3 u4 gl0 gl2 gle e0 e1; obtain ⟨p0, p1, p2, p3, p4, s0, s1, s2, s3, s4⟩ := five HP1.out; obtain ⟨r0, r1, r2, r3, r4, u0, u1, u2, u3, u4⟩ := five HP2.out; have e0 := (blk_cell HPE.out 0).trans rfl; have e1 := (blk_cell HPE.out 1).trans rfl; have gl0 := blk_lt HP1.out; have gl2 := blk_lt HP2.out; have gle := blk_lt HPE.out)
  clear p0 p1 p2 p3 p4 s0 s1 s2 s3 s4 r0 r1 r2 r3 r4 u0 u1 u2 u3 u4 gl0 gl2 gle e0 e1
  refine start_ (n := 11) (S := fun w' => w'.heap[g]? = some (.cells #[.int .i64 lo, .int .i64 hi, .int .i64 la, .slice A n c, .slice A' n' c'] 100 (0, 0)) ∧ w'.heap[ge]? = some (.cells #[.int .u32 a, .int .u16 p] 105 (0, 0))) (ds := [10]) (bb 11 0) (by kernel_rfl) rfl rfl (⟨HP1.out, HPE.out⟩) (fun hHeld => ?_)
  replace HP1 := Aside0.mk (show w2.drew.heap[g]? = _ from HP1.out)
  replace HPE := Aside0.mk (show w2.drew.heap[ge]? = _ from HPE.out)
  replace HP2 := Aside0.mk (show w2.drew.heap[k1]? = _ from HP2.out)
  replace HB := Aside0.mk (below_drew HB.out)
  replace H1 := Aside0.mk (H1.out.below (below_drew (Below.refl _ w2)))
  generalize w2.drew = w3 at HB HP1 HPE HP2 H1 hHeld ⊢
  have HBr := Aside0.mk (Below.refl w3.heap.size w3)
  refine pure_ (i := 1) (N := some 22) (v := ?_) (a' := ?_) (bb 11 2) rfl rfl (by kernel_rfl) (fun _ _ _ h => h) (Or.inl ⟨by rfl, ?_⟩) ?_ ?_
  rotate_left
  · intro w'
    go_simp
    with_reducible rfl
  rotate_left
  · simp only [Act.put, List.setIfInBounds_toArray, List.set_cons_zero, List.set_cons_succ, i64_w, i32_w]
    rfl
  refine take_ (i := 2) (N := some 23) (v := ?_) (a' := ?_) (bb 11 6) rfl rfl (by kernel_rfl) (fun _ _ _ h => h) (Or.inl ⟨by rfl, ?_⟩) hHeld ?_ ?_
  rotate_left
  · intro w' hSw
    obtain ⟨p0, p1, p2, p3, p4, -⟩ := five hSw.1
    have e0 := (blk_cell hSw.2 0).trans rfl
    have e1 := (blk_cell hSw.2 1).trans rfl
    go_simp
    with_reducible rfl
  rotate_left
  · simp only [Act.put, List.setIfInBounds_toArray, List.set_cons_zero, List.set_cons_succ, i64_w, i32_w]
    rfl
  refine take_ (i := 4) (N := some 25) (v := ?_) (a' := ?_) (bb 11 22) rfl rfl (by kernel_rfl) (fun _ _ _ h => h) (Or.inl ⟨by rfl, ?_⟩) hHeld ?_ ?_
  rotate_left
  · intro w' hSw
    obtain ⟨p0, p1, p2, p3, p4, -⟩ := five hSw.1
    have e0 := (blk_cell hSw.2 0).trans rfl
    have e1 := (blk_cell hSw.2 1).trans rfl
    go_simp
    with_reducible rfl
  rotate_left
  · simp only [Act.put, List.setIfInBounds_toArray, List.set_cons_zero, List.set_cons_succ, i64_w, i32_w]
    rfl
  refine pure_ (i := 5) (N := some 26) (v := ?_) (a' := ?_) (bb 11 54) rfl rfl (by kernel_rfl) (fun _ _ _ h => h) (Or.inl ⟨by rfl, ?_⟩) ?_ ?_
  rotate_left
  · intro w'
    go_simp
    with_reducible rfl
  rotate_left
  · simp only [Act.put, List.setIfInBounds_toArray, List.set_cons_zero, List.set_cons_succ, i64_w, i32_w]
    rfl
  refine pure_ (i := 6) (N := some 27) (v := ?_) (a' := ?_) (bb 11 118) rfl rfl (by kernel_rfl) (fun _ _ _ h => h) (Or.inl ⟨by rfl, ?_⟩) ?_ ?_
  rotate_left
  · intro w'
    go_simp
    with_reducible rfl
  rotate_left
  · simp only [Act.put, List.setIfInBounds_toArray, List.set_cons_zero, List.set_cons_succ, i64_w, i32_w]
    rfl
  refine two_ (i := 0) (j := 7) (Ni := some 21) (Nj := some 28) (bb 11 119) (bb 11 246) rfl rfl rfl rfl (by kernel_rfl) (by decide) (by decide) (fun K hK => ?_) (fun K hK => ?_)
  · refine Kd.R_lit_step k175 (w0 := w3) w3.heap.size 175 (by rfl) rfl (xs := []) (inner := []) (ok := fun _ => True) (okp := fun _ => True) (by first | (go_simp; done) | (go_simp; rfl)) (Reps.none _ _) (fun _ h => h) trivial HBr.out HBr.out.size (by decide) ?_
    intro v1 wn1 hR hB hG hO
    have HR := Aside0.mk hR
    clear hO
    replace HBr := Aside0.mk hB
    clear hR hB hG
    refine hK.out _ _ (⟨blk_below HP1.out HBr.out, blk_below HPE.out HBr.out⟩) (fun hHeld => ?_)
    clear hK K
    refine norm_ (a' := ?_) ?_ ?_
    rotate_left
    · show Act.put _ (some 21) _ = _
      simp only [Act.put, List.setIfInBounds_toArray, List.set_cons_zero, List.set_cons_succ, i64_w, i32_w]
      rfl
    refine two_ (i := 3) (j := 7) (Ni := some 24) (Nj := some 28) (bb 11 127) (bb 11 247) rfl rfl rfl rfl (by kernel_rfl) (by decide) (by decide) (fun K hK => ?_) (fun K hK => ?_)
    · refine Kd.R_append_rows_step k175 (Rr := k175.K wn1) (w0 := w3) w3.heap.size (by rfl) (.tmp 21) (.tmp 23) 97 175 (.agg #[.int .u32 0, .int .u16 0, .int .i64 0]) 16 rfl Try.underlying97 info175 rfl (by decide) (by decide) v1 ([]) (l) A n c (fun _ => True) (fun _ => False) rfl rfl HR.out (Kd.C_below H1.out.C HBr.out) (fun x_ cs_ h_ => h_) (fun _ h => h.elim) (fun _ _ => trivial) HBr.out HBr.out.size (by have := H1.out.few; simp only [List.length_nil]; omega) ?_
      intro v2 wn2 hR hB hG hO
      rw [List.nil_append] at hR
      replace HR := Aside0.mk hR
      replace HBr := Aside0.mk hB
      clear hR hB hG hO
      refine hK.out _ _ (⟨blk_below HP1.out HBr.out, blk_below HPE.out HBr.out⟩) (fun hHeld => ?_)
      clear hK K
      refine norm_ (a' := ?_) ?_ ?_
      rotate_left
      · show Act.put _ (some 24) _ = _
        simp only [Act.put, List.setIfInBounds_toArray, List.set_cons_zero, List.set_cons_succ, i64_w, i32_w]
        rfl
      refine one_ (i := 7) (N := some 28) (bb 11 255) rfl rfl (by kernel_rfl) (by decide) (fun K hK => ?_)
      refine event_step (by rfl) (show _ = Result.ok (Next.value (.slice (some ⟨wn2.heap.size, 0, none⟩) 1 1)) (World.alloc _ (.cells #[.int .u32 a, .int .u16 p, .int .i64 o] 175)) from by first | (go_simp; done) | (go_simp; rfl)) ?_
      have hB := below_alloc (Below.refl _ wn2) (.cells #[.int .u32 a, .int .u16 p, .int .i64 o] 175)
      have hN := blk_new wn2 (.cells #[.int .u32 a, .int .u16 p, .int .i64 o] 175)
      have hne_ : some wn2.heap.size ≠ v2.ownBlock := fun e_ => by obtain ⟨in_, ho_⟩ := Kd.R_own HR.out; have := own_lt ho_ _ e_.symm; omega
      obtain ⟨g7, hg7⟩ : ∃ g7, g7 = wn2.heap.size := ⟨_, rfl⟩
      rw [← hg7] at hN hne_ ⊢
      clear hg7
      generalize World.alloc wn2 (.cells #[.int .u32 a, .int .u16 p, .int .i64 o] 175) = wn3 at hB hN ⊢
      have HN7 := Aside0.mk hN
      have HNE := Aside0.mk hne_
      replace HR := Aside0.mk (Kd.R_below HR.out hB)
      clear hne_
      replace HBr := Aside0.mk (below_step HBr.out hB)
      clear hB hN
      refine hK.out _ _ (⟨blk_below HP1.out HBr.out, blk_below HPE.out HBr.out⟩) (fun hHeld => ?_)
      clear hK K
      refine norm_ (a' := ?_) ?_ ?_
      rotate_left
      · show Act.put _ (some 28) _ = _
        simp only [Act.put, List.setIfInBounds_toArray, List.set_cons_zero, List.set_cons_succ, i64_w, i32_w]
        rfl
      refine one_ (i := 8) (N := some 29) (bb 11 511) rfl rfl (by kernel_rfl) (by decide) (fun K hK => ?_)
      refine Kd.R_append_rows_step k175 (Rr := k175.K wn3) (w0 := w3) w3.heap.size (by rfl) (.tmp 24) (.tmp 28) 97 175 (.agg #[.int .u32 0, .int .u16 0, .int .i64 0]) 16 rfl Try.underlying97 info175 rfl (by decide) (by decide) v2 (l) ([⟨⟨a, p⟩, o⟩]) (some ⟨g7, 0, none⟩) 1 1 (fun _ => True) (fun _ => False) rfl rfl HR.out (one_C (k175_mk _ a p o) HN7.out) (fun x_ cs_ h_ => h_) (fun _ h => h.elim) (fun _ _ => trivial) HBr.out HBr.out.size (by have := H1.out.len; have := H1.out.few; omega) ?_
      intro v3 wn4 hR hB hG hO
      obtain ⟨A3, c3, rfl⟩ := Kd.R_slice hR
      rw [HQ.out] at hR ⊢
      replace HR := Aside0.mk hR
      replace HBr := Aside0.mk hB
      have f6 := blk_frozen (blk_below HP1.out hB) 3
      have g6 := (blk_cell (blk_below HP1.out hB) 3).trans rfl
      clear hR hB hG hO
      refine hK.out _ _ (⟨blk_below HP1.out HBr.out, blk_below HPE.out HBr.out⟩) (fun hHeld => ?_)
      clear hK K
      refine norm_ (a' := ?_) ?_ ?_
      rotate_left
      · show Act.put _ (some 29) _ = _
        simp only [Act.put, List.setIfInBounds_toArray, List.set_cons_zero, List.set_cons_succ, i64_w, i32_w]
        rfl
      refine pure_ (i := 9) (N := some 30) (v := ?_) (a' := ?_) (bb 11 1023) rfl rfl (by kernel_rfl) (fun _ _ _ h => h) (Or.inl ⟨by rfl, ?_⟩) ?_ ?_
      rotate_left
      · intro w'
        go_simp
        with_reducible rfl
      rotate_left
      · simp only [Act.put, List.setIfInBounds_toArray, List.set_cons_zero, List.set_cons_succ, i64_w, i32_w]
        rfl
      refine last_ (i := 10) (N := none) (bb 11 2047) rfl rfl (by kernel_rfl) (by decide) (fun K hK => ?_)
      refine skip_ (w1 := wn4.setCell ⟨g, 3, none⟩ (.slice A3 (n + 1) c3)) (by rfl) rfl (by first | (go_simp; done) | (go_simp; rfl)) ?_
      refine hK.out _ _ ?_
      clear hK K
      refine done_ (by kernel_rfl) ?_
      replace HR := Aside0.mk (Kd.R_set HR.out (blk_below HP1.out HBr.out) e175 3 (.slice A3 (n + 1) c3))
      replace HP2 := Aside0.mk (blk_far (blk_below HP2.out HBr.out) (p := ⟨g, 3, none⟩) HG.out.2.2.1 (.slice A3 (n + 1) c3))
      have HP3 := Aside0.mk (blk_put (blk_below HP1.out HBr.out) 3 (.slice A3 (n + 1) c3) rfl)
      have hle3 := HB.out.size
      replace HB := Aside0.mk (bput (i := 3) (u := .slice A3 (n + 1) c3) (below_step HB.out HBr.out) HG.out.1)
      have HL3 := Aside0.mk hle3
      clear f6 g6 hHeld hle3
      generalize wn4.setCell ⟨g, 3, none⟩ (.slice A3 (n + 1) c3) = w9 at HR HP2 HP3 HB ⊢
      obtain ⟨p0, p1, p2, p3, p4, -⟩ := five HP3.out
      obtain ⟨r0, r1, r2, r3, r4, u0, u1, u2, u3, u4⟩ := five HP2.out
      go_wp2
      refine bodyPost_ret (results_ct rfl _ _ k1 100 #[.int .i64 lo, .int .i64 hi, .int .i64 la, .slice A3 (n + 1) c3, .slice A' n' c'] (0, 0) _ rfl (five_put HP2.out _ _ _ _ _) Try.underlying100 rfl (by kernel_rfl)) rfl ?_
      exact ⟨A3, c3, rfl, Kd.R_lower (R_five HR.out e175 HP2.out _ _ _ _ _) HL3.out, five_b HB.out HG.out.2.1 _ _ _ _ _⟩
    · refine event_step (by rfl) (show _ = Result.ok (Next.value (.slice (some ⟨wn1.heap.size, 0, none⟩) 1 1)) (World.alloc _ (.cells #[.int .u32 a, .int .u16 p, .int .i64 o] 175)) from by first | (go_simp; done) | (go_simp; rfl)) ?_
      have hB := below_alloc (Below.refl _ wn1) (.cells #[.int .u32 a, .int .u16 p, .int .i64 o] 175)
      have hN := blk_new wn1 (.cells #[.int .u32 a, .int .u16 p, .int .i64 o] 175)
      have hne_ : some wn1.heap.size ≠ v1.ownBlock := fun e_ => by obtain ⟨in_, ho_⟩ := Kd.R_own HR.out; have := own_lt ho_ _ e_.symm; omega
      obtain ⟨g7, hg7⟩ : ∃ g7, g7 = wn1.heap.size := ⟨_, rfl⟩
      rw [← hg7] at hN hne_ ⊢
      clear hg7
      generalize World.alloc wn1 (.cells #[.int .u32 a, .int .u16 p, .int .i64 o] 175) = wn5 at hB hN ⊢
      have HN7 := Aside0.mk hN
      have HNE := Aside0.mk hne_
      replace HR := Aside0.mk (Kd.R_below HR.out hB)
      clear hne_
      replace HBr := Aside0.mk (below_step HBr.out hB)
      clear hB hN
      refine hK.out _ _ (⟨blk_below HP1.out HBr.out, blk_below HPE.out HBr.out⟩) (fun hHeld => ?_)
      clear hK K
      refine norm_ (a' := ?_) ?_ ?_
      rotate_left
      · show Act.put _ (some 28) _ = _
        simp only [Act.put, List.setIfInBounds_toArray, List.set_cons_zero, List.set_cons_succ, i64_w, i32_w]
        rfl
      refine one_ (i := 3) (N := some 24) (bb 11 255) rfl rfl (by kernel_rfl) (by decide) (fun K hK => ?_)
      refine Kd.R_append_rows_step k175 (Rr := k175.K wn5) (w0 := w3) w3.heap.size (by rfl) (.tmp 21) (.tmp 23) 97 175 (.agg #[.int .u32 0, .int .u16 0, .int .i64 0]) 16 rfl Try.underlying97 info175 rfl (by decide) (by decide) v1 ([]) (l) A n c (fun _ => True) (fun _ => False) rfl rfl HR.out (Kd.C_below H1.out.C HBr.out) (fun x_ cs_ h_ => h_) (fun _ h => h.elim) (fun _ _ => trivial) HBr.out HBr.out.size (by have := H1.out.few; simp only [List.length_nil]; omega) ?_
      intro v2 wn6 hR hB hG hO
      rw [List.nil_append] at hR
      have hne_ : some g7 ≠ v2.ownBlock := fun e_ => by rcases hO with h_ | ⟨b_, h_, hl_⟩; exact HNE.out (e_.trans h_); (rw [h_] at e_; injection e_ with e_; have := blk_lt HN7.out; omega)
      replace HN7 := Aside0.mk (blk_grown HN7.out hG HNE.out)
      replace HNE := Aside0.mk hne_
      clear hne_
      replace HR := Aside0.mk hR
      replace HBr := Aside0.mk hB
      clear hR hB hG hO
      refine hK.out _ _ (⟨blk_below HP1.out HBr.out, blk_below HPE.out HBr.out⟩) (fun hHeld => ?_)
      clear hK K
      refine norm_ (a' := ?_) ?_ ?_
      rotate_left
      · show Act.put _ (some 24) _ = _
        simp only [Act.put, List.setIfInBounds_toArray, List.set_cons_zero, List.set_cons_succ, i64_w, i32_w]
        rfl
      refine one_ (i := 8) (N := some 29) (bb 11 511) rfl rfl (by kernel_rfl) (by decide) (fun K hK => ?_)
      refine Kd.R_append_rows_step k175 (Rr := k175.K wn6) (w0 := w3) w3.heap.size (by rfl) (.tmp 24) (.tmp 28) 97 175 (.agg #[.int .u32 0, .int .u16 0, .int .i64 0]) 16 rfl Try.underlying97 info175 rfl (by decide) (by decide) v2 (l) ([⟨⟨a, p⟩, o⟩]) (some ⟨g7, 0, none⟩) 1 1 (fun _ => True) (fun _ => False) rfl rfl HR.out (one_C (k175_mk _ a p o) HN7.out) (fun x_ cs_ h_ => h_) (fun _ h => h.elim) (fun _ _ => trivial) HBr.out HBr.out.size (by have := H1.out.len; have := H1.out.few; omega) ?_
      intro v3 wn7 hR hB hG hO
      obtain ⟨A3, c3, rfl⟩ := Kd.R_slice hR
      rw [HQ.out] at hR ⊢
      replace HR := Aside0.mk hR
      replace HBr := Aside0.mk hB
      have f6 := blk_frozen (blk_below HP1.out hB) 3
      have g6 := (blk_cell (blk_below HP1.out hB) 3).trans rfl
      clear hR hB hG hO
      refine hK.out _ _ (⟨blk_below HP1.out HBr.out, blk_below HPE.out HBr.out⟩) (fun hHeld => ?_)
      clear hK K
      refine norm_ (a' := ?_) ?_ ?_
      rotate_left
      · show Act.put _ (some 29) _ = _
        simp only [Act.put, List.setIfInBounds_toArray, List.set_cons_zero, List.set_cons_succ, i64_w, i32_w]
        rfl
      refine pure_ (i := 9) (N := some 30) (v := ?_) (a' := ?_) (bb 11 1023) rfl rfl (by kernel_rfl) (fun _ _ _ h => h) (Or.inl ⟨by rfl, ?_⟩) ?_ ?_
      rotate_left
      · intro w'
        go_simp
        with_reducible rfl
      rotate_left
      · simp only [Act.put, List.setIfInBounds_toArray, List.set_cons_zero, List.set_cons_succ, i64_w, i32_w]
        rfl
      refine last_ (i := 10) (N := none) (bb 11 2047) rfl rfl (by kernel_rfl) (by decide) (fun K hK => ?_)
      refine skip_ (w1 := wn7.setCell ⟨g, 3, none⟩ (.slice A3 (n + 1) c3)) (by rfl) rfl (by first | (go_simp; done) | (go_simp; rfl)) ?_
      refine hK.out _ _ ?_
      clear hK K
      refine done_ (by kernel_rfl) ?_
      replace HR := Aside0.mk (Kd.R_set HR.out (blk_below HP1.out HBr.out) e175 3 (.slice A3 (n + 1) c3))
      replace HP2 := Aside0.mk (blk_far (blk_below HP2.out HBr.out) (p := ⟨g, 3, none⟩) HG.out.2.2.1 (.slice A3 (n + 1) c3))
      have HP3 := Aside0.mk (blk_put (blk_below HP1.out HBr.out) 3 (.slice A3 (n + 1) c3) rfl)
      have hle3 := HB.out.size
      replace HB := Aside0.mk (bput (i := 3) (u := .slice A3 (n + 1) c3) (below_step HB.out HBr.out) HG.out.1)
      have HL3 := Aside0.mk hle3
      clear f6 g6 hHeld hle3
      generalize wn7.setCell ⟨g, 3, none⟩ (.slice A3 (n + 1) c3) = w9 at HR HP2 HP3 HB ⊢
      obtain ⟨p0, p1, p2, p3, p4, -⟩ := five HP3.out
      obtain ⟨r0, r1, r2, r3, r4, u0, u1, u2, u3, u4⟩ := five HP2.out
      go_wp2
      refine bodyPost_ret (results_ct rfl _ _ k1 100 #[.int .i64 lo, .int .i64 hi, .int .i64 la, .slice A3 (n + 1) c3, .slice A' n' c'] (0, 0) _ rfl (five_put HP2.out _ _ _ _ _) Try.underlying100 rfl (by kernel_rfl)) rfl ?_
      exact ⟨A3, c3, rfl, Kd.R_lower (R_five HR.out e175 HP2.out _ _ _ _ _) HL3.out, five_b HB.out HG.out.2.1 _ _ _ _ _⟩
  · refine event_step (by rfl) (show _ = Result.ok (Next.value (.slice (some ⟨w3.heap.size, 0, none⟩) 1 1)) (World.alloc _ (.cells #[.int .u32 a, .int .u16 p, .int .i64 o] 175)) from by first | (go_simp; done) | (go_simp; rfl)) ?_
    have hB := below_alloc (Below.refl _ w3) (.cells #[.int .u32 a, .int .u16 p, .int .i64 o] 175)
    have hN := blk_new w3 (.cells #[.int .u32 a, .int .u16 p, .int .i64 o] 175)
    obtain ⟨g7, hg7⟩ : ∃ g7, g7 = w3.heap.size := ⟨_, rfl⟩
    rw [← hg7] at hN ⊢
    clear hg7
    generalize World.alloc w3 (.cells #[.int .u32 a, .int .u16 p, .int .i64 o] 175) = wn8 at hB hN ⊢
    have HN7 := Aside0.mk hN
    replace HBr := Aside0.mk (below_step HBr.out hB)
    clear hB hN
    refine hK.out _ _ (⟨blk_below HP1.out HBr.out, blk_below HPE.out HBr.out⟩) (fun hHeld => ?_)
    clear hK K
    refine norm_ (a' := ?_) ?_ ?_
    rotate_left
    · show Act.put _ (some 28) _ = _
      simp only [Act.put, List.setIfInBounds_toArray, List.set_cons_zero, List.set_cons_succ, i64_w, i32_w]
      rfl
    refine one_ (i := 0) (N := some 21) (bb 11 247) rfl rfl (by kernel_rfl) (by decide) (fun K hK => ?_)
    refine Kd.R_lit_step k175 (w0 := w3) w3.heap.size 175 (by rfl) rfl (xs := []) (inner := []) (ok := fun _ => True) (okp := fun _ => True) (by first | (go_simp; done) | (go_simp; rfl)) (Reps.none _ _) (fun _ h => h) trivial HBr.out HBr.out.size (by decide) ?_
    intro v1 wn9 hR hB hG hO
    have HR := Aside0.mk hR
    obtain ⟨b_, eb_, lb_⟩ := hO
    have HNE := Aside0.mk (show some g7 ≠ v1.ownBlock from fun e_ => by rw [eb_] at e_; injection e_ with e_; have := blk_lt HN7.out; omega)
    replace HN7 := Aside0.mk (blk_grown HN7.out hG (by simp))
    clear eb_ lb_
    replace HBr := Aside0.mk hB
    clear hR hB hG
    refine hK.out _ _ (⟨blk_below HP1.out HBr.out, blk_below HPE.out HBr.out⟩) (fun hHeld => ?_)
    clear hK K
    refine norm_ (a' := ?_) ?_ ?_
    rotate_left
    · show Act.put _ (some 21) _ = _
      simp only [Act.put, List.setIfInBounds_toArray, List.set_cons_zero, List.set_cons_succ, i64_w, i32_w]
      rfl
    refine one_ (i := 3) (N := some 24) (bb 11 255) rfl rfl (by kernel_rfl) (by decide) (fun K hK => ?_)
    refine Kd.R_append_rows_step k175 (Rr := k175.K wn9) (w0 := w3) w3.heap.size (by rfl) (.tmp 21) (.tmp 23) 97 175 (.agg #[.int .u32 0, .int .u16 0, .int .i64 0]) 16 rfl Try.underlying97 info175 rfl (by decide) (by decide) v1 ([]) (l) A n c (fun _ => True) (fun _ => False) rfl rfl HR.out (Kd.C_below H1.out.C HBr.out) (fun x_ cs_ h_ => h_) (fun _ h => h.elim) (fun _ _ => trivial) HBr.out HBr.out.size (by have := H1.out.few; simp only [List.length_nil]; omega) ?_
    intro v2 wn10 hR hB hG hO
    rw [List.nil_append] at hR
    have hne_ : some g7 ≠ v2.ownBlock := fun e_ => by rcases hO with h_ | ⟨b_, h_, hl_⟩; exact HNE.out (e_.trans h_); (rw [h_] at e_; injection e_ with e_; have := blk_lt HN7.out; omega)
    replace HN7 := Aside0.mk (blk_grown HN7.out hG HNE.out)
    replace HNE := Aside0.mk hne_
    clear hne_
    replace HR := Aside0.mk hR
    replace HBr := Aside0.mk hB
    clear hR hB hG hO
    refine hK.out _ _ (⟨blk_below HP1.out HBr.out, blk_below HPE.out HBr.out⟩) (fun hHeld => ?_)
    clear hK K
    refine norm_ (a' := ?_) ?_ ?_
    rotate_left
    · show Act.put _ (some 24) _ = _
      simp only [Act.put, List.setIfInBounds_toArray, List.set_cons_zero, List.set_cons_succ, i64_w, i32_w]
      rfl
    refine one_ (i := 8) (N := some 29) (bb 11 511) rfl rfl (by kernel_rfl) (by decide) (fun K hK => ?_)
    refine Kd.R_append_rows_step k175 (Rr := k175.K wn10) (w0 := w3) w3.heap.size (by rfl) (.tmp 24) (.tmp 28) 97 175 (.agg #[.int .u32 0, .int .u16 0, .int .i64 0]) 16 rfl Try.underlying97 info175 rfl (by decide) (by decide) v2 (l) ([⟨⟨a, p⟩, o⟩]) (some ⟨g7, 0, none⟩) 1 1 (fun _ => True) (fun _ => False) rfl rfl HR.out (one_C (k175_mk _ a p o) HN7.out) (fun x_ cs_ h_ => h_) (fun _ h => h.elim) (fun _ _ => trivial) HBr.out HBr.out.size (by have := H1.out.len; have := H1.out.few; omega) ?_
    intro v3 wn11 hR hB hG hO
    obtain ⟨A3, c3, rfl⟩ := Kd.R_slice hR
    rw [HQ.out] at hR ⊢
    replace HR := Aside0.mk hR
    replace HBr := Aside0.mk hB
    have f6 := blk_frozen (blk_below HP1.out hB) 3
    have g6 := (blk_cell (blk_below HP1.out hB) 3).trans rfl
    clear hR hB hG hO
    refine hK.out _ _ (⟨blk_below HP1.out HBr.out, blk_below HPE.out HBr.out⟩) (fun hHeld => ?_)
    clear hK K
    refine norm_ (a' := ?_) ?_ ?_
    rotate_left
    · show Act.put _ (some 29) _ = _
      simp only [Act.put, List.setIfInBounds_toArray, List.set_cons_zero, List.set_cons_succ, i64_w, i32_w]
      rfl
    refine pure_ (i := 9) (N := some 30) (v := ?_) (a' := ?_) (bb 11 1023) rfl rfl (by kernel_rfl) (fun _ _ _ h => h) (Or.inl ⟨by rfl, ?_⟩) ?_ ?_
    rotate_left
    · intro w'
      go_simp
      with_reducible rfl
    rotate_left
    · simp only [Act.put, List.setIfInBounds_toArray, List.set_cons_zero, List.set_cons_succ, i64_w, i32_w]
      rfl
    refine last_ (i := 10) (N := none) (bb 11 2047) rfl rfl (by kernel_rfl) (by decide) (fun K hK => ?_)
    refine skip_ (w1 := wn11.setCell ⟨g, 3, none⟩ (.slice A3 (n + 1) c3)) (by rfl) rfl (by first | (go_simp; done) | (go_simp; rfl)) ?_
    refine hK.out _ _ ?_
    clear hK K
    refine done_ (by kernel_rfl) ?_
    replace HR := Aside0.mk (Kd.R_set HR.out (blk_below HP1.out HBr.out) e175 3 (.slice A3 (n + 1) c3))
    replace HP2 := Aside0.mk (blk_far (blk_below HP2.out HBr.out) (p := ⟨g, 3, none⟩) HG.out.2.2.1 (.slice A3 (n + 1) c3))
    have HP3 := Aside0.mk (blk_put (blk_below HP1.out HBr.out) 3 (.slice A3 (n + 1) c3) rfl)
    have hle3 := HB.out.size
    replace HB := Aside0.mk (bput (i := 3) (u := .slice A3 (n + 1) c3) (below_step HB.out HBr.out) HG.out.1)
    have HL3 := Aside0.mk hle3
    clear f6 g6 hHeld hle3
    generalize wn11.setCell ⟨g, 3, none⟩ (.slice A3 (n + 1) c3) = w9 at HR HP2 HP3 HB ⊢
    obtain ⟨p0, p1, p2, p3, p4, -⟩ := five HP3.out
    obtain ⟨r0, r1, r2, r3, r4, u0, u1, u2, u3, u4⟩ := five HP2.out
    go_wp2
    refine bodyPost_ret (results_ct rfl _ _ k1 100 #[.int .i64 lo, .int .i64 hi, .int .i64 la, .slice A3 (n + 1) c3, .slice A' n' c'] (0, 0) _ rfl (five_put HP2.out _ _ _ _ _) Try.underlying100 rfl (by kernel_rfl)) rfl ?_
    exact ⟨A3, c3, rfl, Kd.R_lower (R_five HR.out e175 HP2.out _ _ _ _ _) HL3.out, five_b HB.out HG.out.2.1 _ _ _ _ _⟩
set_option maxRecDepth 100000 in
set_option maxHeartbeats 16000000 in
theorem rjoin_in (lo hi la : Int) {A : Option Addr} {n c : Nat} {l : List S175} {A' : Option Addr} {n' c' : Nat} {l' : List S177} {w : World} (h : Rw w A n c l A' n' c' l') (a p d1 d2 o : Int) (hp : p ≠ 0) (hd2 : d2 ≠ 0) (hx : (fjL l' a p d1 d2).isSome = false) (hn : n' < 1024) :
    Calls Try.prog 87 #[rt lo hi la A n c A' n' c', .agg #[.int .u32 a, .int .u16 p, .int .u32 d1, .int .u16 d2], .int .i64 o] w fun e w' => ∃ A1 c1, e = .returned (.tuple #[rt lo hi la A n c A1 (n' + 1) c1, .int .i64 0]) ∧ Kd.R k177 177 w' w.heap.size (fun _ => True) (.slice A1 (n' + 1) c1) (l' ++ [⟨⟨⟨a, p⟩, ⟨d1, d2⟩⟩, o⟩]) ∧ Below w.heap.size w w' := by
  have zp1 : (p == 0) = false := beq_eq_false_iff_ne.2 hp
  have zp2 : decide (p = 0) = false := decide_eq_false hp
  have zd21 : (d2 == 0) = false := beq_eq_false_iff_ne.2 hd2
  have zd22 : decide (d2 = 0) = false := decide_eq_false hd2
  have HX := Aside0.mk hx
  have n1 : decide (1024 ≤ (n' : Int)) = false := decide_eq_false (by omega)
  have HQ := Aside0.mk (show (l' ++ [(⟨⟨⟨a, p⟩, ⟨d1, d2⟩⟩, o⟩ : S177)]).length = n' + 1 by rw [List.length_append, h.len']; rfl)
  clear hp hd2 hx hn
  have H := Aside0.mk h
  unfold rt
  clear h
  go_enter Try.func87, Try.ntmps87
  go_upto_region 1 with (fail)
  obtain ⟨hb1, hbe, hb2, hB⟩ := boxed3 w (.cells #[.int .i64 lo, .int .i64 hi, .int .i64 la, .slice A n c, .slice A' n' c'] 100) (.cells #[.int .u32 a, .int .u16 p, .int .u32 d1, .int .u16 d2] 107) (.cells #[.int .i64 0, .int .i64 0, .int .i64 0, .slice none 0 0, .slice none 0 0] 100)
  generalize ((w.alloc (.cells #[.int .i64 lo, .int .i64 hi, .int .i64 la, .slice A n c, .slice A' n' c'] 100)).alloc (.cells #[.int .u32 a, .int .u16 p, .int .u32 d1, .int .u16 d2] 107)).alloc (.cells #[.int .i64 0, .int .i64 0, .int .i64 0, .slice none 0 0, .slice none 0 0] 100) = w1 at hb1 hbe hb2 hB ⊢
  have HB := Aside0.mk hB
  have H1 := Aside0.mk (H.out.below hB)
  obtain ⟨k1, hk1⟩ : ∃ k1, k1 = w.heap.size + 1 + 1 := ⟨_, rfl⟩
  obtain ⟨ge, hge⟩ : ∃ ge, ge = w.heap.size + 1 := ⟨_, rfl⟩
  rw [← hk1] at hb2 ⊢
  rw [← hge] at hbe ⊢
  obtain ⟨g, hg⟩ : ∃ g, w.heap.size = g := ⟨_, rfl⟩
  rw [hg] at hb1 ⊢
  have HG := Aside0.mk (show w.heap.size ≤ g ∧ w.heap.size ≤ k1 ∧ k1 ≠ g ∧ g ≠ k1 ∧ ge ≠ g ∧ ge ≠ k1 by omega)
  have HP1 := Aside0.mk hb1
  have HPE := Aside0.mk hbe
  have HP2 := Aside0.mk hb2
  clear hB hb1 hbe hb2 hg hk1 hge
  obtain ⟨p0, p1, p2, p3, p4, s0, s1, s2, s3, s4⟩ := five HP1.out
  obtain ⟨r0, r1, r2, r3, r4, u0, u1, u2, u3, u4⟩ := five HP2.out
  have e0 := (blk_cell HPE.out 0).trans rfl
  have e1 := (blk_cell HPE.out 1).trans rfl
  have e2 := (blk_cell HPE.out 2).trans rfl
  have e3 := (blk_cell HPE.out 3).trans rfl
  have gl0 := blk_lt HP1.out
  have gl2 := blk_lt HP2.out
  have gle := blk_lt HPE.out
  go_upto_region 8 with (go_at_call 52; refine (talks_ref (lo := lo) (hi := hi) (la := la) H1.out a p d1 d2).mono ?_; rintro e w2 ⟨rfl, hB⟩; rw [HX.out]; replace HP1 := Aside0.mk (blk_below HP1.out hB); replace HPE := Aside0.mk (blk_below HPE.out hB); replace HP2 := Aside0.mk (blk_below HP2.out hB); replace H1 := Aside0.mk (H1.out.below hB); replace HB := Aside0.mk (below_step HB.out hB); clear hB; clear p0 p1 p2 p3 p4 s0 s1 s2 s3 s4 r0 r1 r2 r3 r4 u0 u1 u2 u3 u4 gl0 gl2 gle e0 e1 e2 e3; obtain ⟨p0, p1, p2, p3, p4, s0, s1, s2, s3, s4⟩ := five HP1.out; obtain ⟨r0, r1, r2, r3, r4, u0, u1, u2, u3, u4⟩ := five HP2.out; have e0 := (blk_cell HPE.out 0).trans rfl; have e1 := (blk_cell HPE.out 1).trans rfl; have e2 := (blk_cell HPE.out 2).trans rfl; have e3 := (blk_cell HPE.out 3).trans rfl; have gl0 := blk_lt HP1.out; have gl2 := blk_lt HP2.out; have gle := blk_lt HPE.out)
  clear p0 p1 p2 p3 p4 s0 s1 s2 s3 s4 r0 r1 r2 r3 r4 u0 u1 u2 u3 u4 gl0 gl2 gle e0 e1 e2 e3
  refine start_ (n := 11) (S := fun w' => w'.heap[g]? = some (.cells #[.int .i64 lo, .int .i64 hi, .int .i64 la, .slice A n c, .slice A' n' c'] 100 (0, 0)) ∧ w'.heap[ge]? = some (.cells #[.int .u32 a, .int .u16 p, .int .u32 d1, .int .u16 d2] 107 (0, 0))) (ds := [10]) (bb 11 0) (by kernel_rfl) rfl rfl (⟨HP1.out, HPE.out⟩) (fun hHeld => ?_)
  replace HP1 := Aside0.mk (show w2.drew.heap[g]? = _ from HP1.out)
  replace HPE := Aside0.mk (show w2.drew.heap[ge]? = _ from HPE.out)
  replace HP2 := Aside0.mk (show w2.drew.heap[k1]? = _ from HP2.out)
  replace HB := Aside0.mk (below_drew HB.out)
  replace H1 := Aside0.mk (H1.out.below (below_drew (Below.refl _ w2)))
  generalize w2.drew = w3 at HB HP1 HPE HP2 H1 hHeld ⊢
  have HBr := Aside0.mk (Below.refl w3.heap.size w3)
  refine pure_ (i := 1) (N := some 35) (v := ?_) (a' := ?_) (bb 11 2) rfl rfl (by kernel_rfl) (fun _ _ _ h => h) (Or.inl ⟨by rfl, ?_⟩) ?_ ?_
  rotate_left
  · intro w'
    go_simp
    with_reducible rfl
  rotate_left
  · simp only [Act.put, List.setIfInBounds_toArray, List.set_cons_zero, List.set_cons_succ, i64_w, i32_w]
    rfl
  refine take_ (i := 2) (N := some 36) (v := ?_) (a' := ?_) (bb 11 6) rfl rfl (by kernel_rfl) (fun _ _ _ h => h) (Or.inl ⟨by rfl, ?_⟩) hHeld ?_ ?_
  rotate_left
  · intro w' hSw
    obtain ⟨p0, p1, p2, p3, p4, -⟩ := five hSw.1
    have e0 := (blk_cell hSw.2 0).trans rfl
    have e1 := (blk_cell hSw.2 1).trans rfl
    have e2 := (blk_cell hSw.2 2).trans rfl
    have e3 := (blk_cell hSw.2 3).trans rfl
    go_simp
    with_reducible rfl
  rotate_left
  · simp only [Act.put, List.setIfInBounds_toArray, List.set_cons_zero, List.set_cons_succ, i64_w, i32_w]
    rfl
  refine take_ (i := 4) (N := some 38) (v := ?_) (a' := ?_) (bb 11 22) rfl rfl (by kernel_rfl) (fun _ _ _ h => h) (Or.inl ⟨by rfl, ?_⟩) hHeld ?_ ?_
  rotate_left
  · intro w' hSw
    obtain ⟨p0, p1, p2, p3, p4, -⟩ := five hSw.1
    have e0 := (blk_cell hSw.2 0).trans rfl
    have e1 := (blk_cell hSw.2 1).trans rfl
    have e2 := (blk_cell hSw.2 2).trans rfl
    have e3 := (blk_cell hSw.2 3).trans rfl
    go_simp
    with_reducible rfl
  rotate_left
  · simp only [Act.put, List.setIfInBounds_toArray, List.set_cons_zero, List.set_cons_succ, i64_w, i32_w]
    rfl
  refine pure_ (i := 5) (N := some 39) (v := ?_) (a' := ?_) (bb 11 54) rfl rfl (by kernel_rfl) (fun _ _ _ h => h) (Or.inl ⟨by rfl, ?_⟩) ?_ ?_
  rotate_left
  · intro w'
    go_simp
    with_reducible rfl
  rotate_left
  · simp only [Act.put, List.setIfInBounds_toArray, List.set_cons_zero, List.set_cons_succ, i64_w, i32_w]
    rfl
  refine pure_ (i := 6) (N := some 40) (v := ?_) (a' := ?_) (bb 11 118) rfl rfl (by kernel_rfl) (fun _ _ _ h => h) (Or.inl ⟨by rfl, ?_⟩) ?_ ?_
  rotate_left
  · intro w'
    go_simp
    with_reducible rfl
  rotate_left
  · simp only [Act.put, List.setIfInBounds_toArray, List.set_cons_zero, List.set_cons_succ, i64_w, i32_w]
    rfl
  refine two_ (i := 0) (j := 7) (Ni := some 34) (Nj := some 41) (bb 11 119) (bb 11 246) rfl rfl rfl rfl (by kernel_rfl) (by decide) (by decide) (fun K hK => ?_) (fun K hK => ?_)
  · refine Kd.R_lit_step k177 (w0 := w3) w3.heap.size 177 (by rfl) rfl (xs := []) (inner := []) (ok := fun _ => True) (okp := fun _ => True) (by first | (go_simp; done) | (go_simp; rfl)) (Reps.none _ _) (fun _ h => h) trivial HBr.out HBr.out.size (by decide) ?_
    intro v1 wn1 hR hB hG hO
    have HR := Aside0.mk hR
    clear hO
    replace HBr := Aside0.mk hB
    clear hR hB hG
    refine hK.out _ _ (⟨blk_below HP1.out HBr.out, blk_below HPE.out HBr.out⟩) (fun hHeld => ?_)
    clear hK K
    refine norm_ (a' := ?_) ?_ ?_
    rotate_left
    · show Act.put _ (some 34) _ = _
      simp only [Act.put, List.setIfInBounds_toArray, List.set_cons_zero, List.set_cons_succ, i64_w, i32_w]
      rfl
    refine two_ (i := 3) (j := 7) (Ni := some 37) (Nj := some 41) (bb 11 127) (bb 11 247) rfl rfl rfl rfl (by kernel_rfl) (by decide) (by decide) (fun K hK => ?_) (fun K hK => ?_)
    · refine Kd.R_append_rows_step k177 (Rr := k177.K wn1) (w0 := w3) w3.heap.size (by rfl) (.tmp 34) (.tmp 36) 98 177 (.agg #[.int .u32 0, .int .u16 0, .int .u32 0, .int .u16 0, .int .i64 0]) 24 rfl Try.underlying98 info177 rfl (by decide) (by decide) v1 ([]) (l') A' n' c' (fun _ => True) (fun _ => False) rfl rfl HR.out (Kd.C_below H1.out.C' HBr.out) (fun x_ cs_ h_ => h_) (fun _ h => h.elim) (fun _ _ => trivial) HBr.out HBr.out.size (by have := H1.out.few'; simp only [List.length_nil]; omega) ?_
      intro v2 wn2 hR hB hG hO
      rw [List.nil_append] at hR
      replace HR := Aside0.mk hR
      replace HBr := Aside0.mk hB
      clear hR hB hG hO
      refine hK.out _ _ (⟨blk_below HP1.out HBr.out, blk_below HPE.out HBr.out⟩) (fun hHeld => ?_)
      clear hK K
      refine norm_ (a' := ?_) ?_ ?_
      rotate_left
      · show Act.put _ (some 37) _ = _
        simp only [Act.put, List.setIfInBounds_toArray, List.set_cons_zero, List.set_cons_succ, i64_w, i32_w]
        rfl
      refine one_ (i := 7) (N := some 41) (bb 11 255) rfl rfl (by kernel_rfl) (by decide) (fun K hK => ?_)
      refine event_step (by rfl) (show _ = Result.ok (Next.value (.slice (some ⟨wn2.heap.size, 0, none⟩) 1 1)) (World.alloc _ (.cells #[.int .u32 a, .int .u16 p, .int .u32 d1, .int .u16 d2, .int .i64 o] 177)) from by first | (go_simp; done) | (go_simp; rfl)) ?_
      have hB := below_alloc (Below.refl _ wn2) (.cells #[.int .u32 a, .int .u16 p, .int .u32 d1, .int .u16 d2, .int .i64 o] 177)
      have hN := blk_new wn2 (.cells #[.int .u32 a, .int .u16 p, .int .u32 d1, .int .u16 d2, .int .i64 o] 177)
      have hne_ : some wn2.heap.size ≠ v2.ownBlock := fun e_ => by obtain ⟨in_, ho_⟩ := Kd.R_own HR.out; have := own_lt ho_ _ e_.symm; omega
      obtain ⟨g7, hg7⟩ : ∃ g7, g7 = wn2.heap.size := ⟨_, rfl⟩
      rw [← hg7] at hN hne_ ⊢
      clear hg7
      generalize World.alloc wn2 (.cells #[.int .u32 a, .int .u16 p, .int .u32 d1, .int .u16 d2, .int .i64 o] 177) = wn3 at hB hN ⊢
      have HN7 := Aside0.mk hN
      have HNE := Aside0.mk hne_
      replace HR := Aside0.mk (Kd.R_below HR.out hB)
      clear hne_
      replace HBr := Aside0.mk (below_step HBr.out hB)
      clear hB hN
      refine hK.out _ _ (⟨blk_below HP1.out HBr.out, blk_below HPE.out HBr.out⟩) (fun hHeld => ?_)
      clear hK K
      refine norm_ (a' := ?_) ?_ ?_
      rotate_left
      · show Act.put _ (some 41) _ = _
        simp only [Act.put, List.setIfInBounds_toArray, List.set_cons_zero, List.set_cons_succ, i64_w, i32_w]
        rfl
      refine one_ (i := 8) (N := some 42) (bb 11 511) rfl rfl (by kernel_rfl) (by decide) (fun K hK => ?_)
      refine Kd.R_append_rows_step k177 (Rr := k177.K wn3) (w0 := w3) w3.heap.size (by rfl) (.tmp 37) (.tmp 41) 98 177 (.agg #[.int .u32 0, .int .u16 0, .int .u32 0, .int .u16 0, .int .i64 0]) 24 rfl Try.underlying98 info177 rfl (by decide) (by decide) v2 (l') ([⟨⟨⟨a, p⟩, ⟨d1, d2⟩⟩, o⟩]) (some ⟨g7, 0, none⟩) 1 1 (fun _ => True) (fun _ => False) rfl rfl HR.out (one_C (k177_mk _ a p d1 d2 o) HN7.out) (fun x_ cs_ h_ => h_) (fun _ h => h.elim) (fun _ _ => trivial) HBr.out HBr.out.size (by have := H1.out.len'; have := H1.out.few'; omega) ?_
      intro v3 wn4 hR hB hG hO
      obtain ⟨A3, c3, rfl⟩ := Kd.R_slice hR
      rw [HQ.out] at hR ⊢
      replace HR := Aside0.mk hR
      replace HBr := Aside0.mk hB
      have f6 := blk_frozen (blk_below HP1.out hB) 4
      have g6 := (blk_cell (blk_below HP1.out hB) 4).trans rfl
      clear hR hB hG hO
      refine hK.out _ _ (⟨blk_below HP1.out HBr.out, blk_below HPE.out HBr.out⟩) (fun hHeld => ?_)
      clear hK K
      refine norm_ (a' := ?_) ?_ ?_
      rotate_left
      · show Act.put _ (some 42) _ = _
        simp only [Act.put, List.setIfInBounds_toArray, List.set_cons_zero, List.set_cons_succ, i64_w, i32_w]
        rfl
      refine pure_ (i := 9) (N := some 43) (v := ?_) (a' := ?_) (bb 11 1023) rfl rfl (by kernel_rfl) (fun _ _ _ h => h) (Or.inl ⟨by rfl, ?_⟩) ?_ ?_
      rotate_left
      · intro w'
        go_simp
        with_reducible rfl
      rotate_left
      · simp only [Act.put, List.setIfInBounds_toArray, List.set_cons_zero, List.set_cons_succ, i64_w, i32_w]
        rfl
      refine last_ (i := 10) (N := none) (bb 11 2047) rfl rfl (by kernel_rfl) (by decide) (fun K hK => ?_)
      refine skip_ (w1 := wn4.setCell ⟨g, 4, none⟩ (.slice A3 (n' + 1) c3)) (by rfl) rfl (by first | (go_simp; done) | (go_simp; rfl)) ?_
      refine hK.out _ _ ?_
      clear hK K
      refine done_ (by kernel_rfl) ?_
      replace HR := Aside0.mk (Kd.R_set HR.out (blk_below HP1.out HBr.out) e177 4 (.slice A3 (n' + 1) c3))
      replace HP2 := Aside0.mk (blk_far (blk_below HP2.out HBr.out) (p := ⟨g, 4, none⟩) HG.out.2.2.1 (.slice A3 (n' + 1) c3))
      have HP3 := Aside0.mk (blk_put (blk_below HP1.out HBr.out) 4 (.slice A3 (n' + 1) c3) rfl)
      have hle3 := HB.out.size
      replace HB := Aside0.mk (bput (i := 4) (u := .slice A3 (n' + 1) c3) (below_step HB.out HBr.out) HG.out.1)
      have HL3 := Aside0.mk hle3
      clear f6 g6 hHeld hle3
      generalize wn4.setCell ⟨g, 4, none⟩ (.slice A3 (n' + 1) c3) = w9 at HR HP2 HP3 HB ⊢
      obtain ⟨p0, p1, p2, p3, p4, -⟩ := five HP3.out
      obtain ⟨r0, r1, r2, r3, r4, u0, u1, u2, u3, u4⟩ := five HP2.out
      go_wp2
      refine bodyPost_ret (results_ct rfl _ _ k1 100 #[.int .i64 lo, .int .i64 hi, .int .i64 la, .slice A n c, .slice A3 (n' + 1) c3] (0, 0) _ rfl (five_put HP2.out _ _ _ _ _) Try.underlying100 rfl (by kernel_rfl)) rfl ?_
      exact ⟨A3, c3, rfl, Kd.R_lower (R_five HR.out e177 HP2.out _ _ _ _ _) HL3.out, five_b HB.out HG.out.2.1 _ _ _ _ _⟩
    · refine event_step (by rfl) (show _ = Result.ok (Next.value (.slice (some ⟨wn1.heap.size, 0, none⟩) 1 1)) (World.alloc _ (.cells #[.int .u32 a, .int .u16 p, .int .u32 d1, .int .u16 d2, .int .i64 o] 177)) from by first | (go_simp; done) | (go_simp; rfl)) ?_
      have hB := below_alloc (Below.refl _ wn1) (.cells #[.int .u32 a, .int .u16 p, .int .u32 d1, .int .u16 d2, .int .i64 o] 177)
      have hN := blk_new wn1 (.cells #[.int .u32 a, .int .u16 p, .int .u32 d1, .int .u16 d2, .int .i64 o] 177)
      have hne_ : some wn1.heap.size ≠ v1.ownBlock := fun e_ => by obtain ⟨in_, ho_⟩ := Kd.R_own HR.out; have := own_lt ho_ _ e_.symm; omega
      obtain ⟨g7, hg7⟩ : ∃ g7, g7 = wn1.heap.size := ⟨_, rfl⟩
      rw [← hg7] at hN hne_ ⊢
      clear hg7
      generalize World.alloc wn1 (.cells #[.int .u32 a, .int .u16 p, .int .u32 d1, .int .u16 d2, .int .i64 o] 177) = wn5 at hB hN ⊢
      have HN7 := Aside0.mk hN
      have HNE := Aside0.mk hne_
      replace HR := Aside0.mk (Kd.R_below HR.out hB)
      clear hne_
      replace HBr := Aside0.mk (below_step HBr.out hB)
      clear hB hN
      refine hK.out _ _ (⟨blk_below HP1.out HBr.out, blk_below HPE.out HBr.out⟩) (fun hHeld => ?_)
      clear hK K
      refine norm_ (a' := ?_) ?_ ?_
      rotate_left
      · show Act.put _ (some 41) _ = _
        simp only [Act.put, List.setIfInBounds_toArray, List.set_cons_zero, List.set_cons_succ, i64_w, i32_w]
        rfl
      refine one_ (i := 3) (N := some 37) (bb 11 255) rfl rfl (by kernel_rfl) (by decide) (fun K hK => ?_)
      refine Kd.R_append_rows_step k177 (Rr := k177.K wn5) (w0 := w3) w3.heap.size (by rfl) (.tmp 34) (.tmp 36) 98 177 (.agg #[.int .u32 0, .int .u16 0, .int .u32 0, .int .u16 0, .int .i64 0]) 24 rfl Try.underlying98 info177 rfl (by decide) (by decide) v1 ([]) (l') A' n' c' (fun _ => True) (fun _ => False) rfl rfl HR.out (Kd.C_below H1.out.C' HBr.out) (fun x_ cs_ h_ => h_) (fun _ h => h.elim) (fun _ _ => trivial) HBr.out HBr.out.size (by have := H1.out.few'; simp only [List.length_nil]; omega) ?_
      intro v2 wn6 hR hB hG hO
      rw [List.nil_append] at hR
      have hne_ : some g7 ≠ v2.ownBlock := fun e_ => by rcases hO with h_ | ⟨b_, h_, hl_⟩; exact HNE.out (e_.trans h_); (rw [h_] at e_; injection e_ with e_; have := blk_lt HN7.out; omega)
      replace HN7 := Aside0.mk (blk_grown HN7.out hG HNE.out)
      replace HNE := Aside0.mk hne_
      clear hne_
      replace HR := Aside0.mk hR
      replace HBr := Aside0.mk hB
      clear hR hB hG hO
      refine hK.out _ _ (⟨blk_below HP1.out HBr.out, blk_below HPE.out HBr.out⟩) (fun hHeld => ?_)
      clear hK K
      refine norm_ (a' := ?_) ?_ ?_
      rotate_left
      · show Act.put _ (some 37) _ = _
        simp only [Act.put, List.setIfInBounds_toArray, List.set_cons_zero, List.set_cons_succ, i64_w, i32_w]
        rfl
      refine one_ (i := 8) (N := some 42) (bb 11 511) rfl rfl (by kernel_rfl) (by decide) (fun K hK => ?_)
      refine Kd.R_append_rows_step k177 (Rr := k177.K wn6) (w0 := w3) w3.heap.size (by rfl) (.tmp 37) (.tmp 41) 98 177 (.agg #[.int .u32 0, .int .u16 0, .int .u32 0, .int .u16 0, .int .i64 0]) 24 rfl Try.underlying98 info177 rfl (by decide) (by decide) v2 (l') ([⟨⟨⟨a, p⟩, ⟨d1, d2⟩⟩, o⟩]) (some ⟨g7, 0, none⟩) 1 1 (fun _ => True) (fun _ => False) rfl rfl HR.out (one_C (k177_mk _ a p d1 d2 o) HN7.out) (fun x_ cs_ h_ => h_) (fun _ h => h.elim) (fun _ _ => trivial) HBr.out HBr.out.size (by have := H1.out.len'; have := H1.out.few'; omega) ?_
      intro v3 wn7 hR hB hG hO
      obtain ⟨A3, c3, rfl⟩ := Kd.R_slice hR
      rw [HQ.out] at hR ⊢
      replace HR := Aside0.mk hR
      replace HBr := Aside0.mk hB
      have f6 := blk_frozen (blk_below HP1.out hB) 4
      have g6 := (blk_cell (blk_below HP1.out hB) 4).trans rfl
      clear hR hB hG hO
      refine hK.out _ _ (⟨blk_below HP1.out HBr.out, blk_below HPE.out HBr.out⟩) (fun hHeld => ?_)
      clear hK K
      refine norm_ (a' := ?_) ?_ ?_
      rotate_left
      · show Act.put _ (some 42) _ = _
        simp only [Act.put, List.setIfInBounds_toArray, List.set_cons_zero, List.set_cons_succ, i64_w, i32_w]
        rfl
      refine pure_ (i := 9) (N := some 43) (v := ?_) (a' := ?_) (bb 11 1023) rfl rfl (by kernel_rfl) (fun _ _ _ h => h) (Or.inl ⟨by rfl, ?_⟩) ?_ ?_
      rotate_left
      · intro w'
        go_simp
        with_reducible rfl
      rotate_left
      · simp only [Act.put, List.setIfInBounds_toArray, List.set_cons_zero, List.set_cons_succ, i64_w, i32_w]
        rfl
      refine last_ (i := 10) (N := none) (bb 11 2047) rfl rfl (by kernel_rfl) (by decide) (fun K hK => ?_)
      refine skip_ (w1 := wn7.setCell ⟨g, 4, none⟩ (.slice A3 (n' + 1) c3)) (by rfl) rfl (by first | (go_simp; done) | (go_simp; rfl)) ?_
      refine hK.out _ _ ?_
      clear hK K
      refine done_ (by kernel_rfl) ?_
      replace HR := Aside0.mk (Kd.R_set HR.out (blk_below HP1.out HBr.out) e177 4 (.slice A3 (n' + 1) c3))
      replace HP2 := Aside0.mk (blk_far (blk_below HP2.out HBr.out) (p := ⟨g, 4, none⟩) HG.out.2.2.1 (.slice A3 (n' + 1) c3))
      have HP3 := Aside0.mk (blk_put (blk_below HP1.out HBr.out) 4 (.slice A3 (n' + 1) c3) rfl)
      have hle3 := HB.out.size
      replace HB := Aside0.mk (bput (i := 4) (u := .slice A3 (n' + 1) c3) (below_step HB.out HBr.out) HG.out.1)
      have HL3 := Aside0.mk hle3
      clear f6 g6 hHeld hle3
      generalize wn7.setCell ⟨g, 4, none⟩ (.slice A3 (n' + 1) c3) = w9 at HR HP2 HP3 HB ⊢
      obtain ⟨p0, p1, p2, p3, p4, -⟩ := five HP3.out
      obtain ⟨r0, r1, r2, r3, r4, u0, u1, u2, u3, u4⟩ := five HP2.out
      go_wp2
      refine bodyPost_ret (results_ct rfl _ _ k1 100 #[.int .i64 lo, .int .i64 hi, .int .i64 la, .slice A n c, .slice A3 (n' + 1) c3] (0, 0) _ rfl (five_put HP2.out _ _ _ _ _) Try.underlying100 rfl (by kernel_rfl)) rfl ?_
      exact ⟨A3, c3, rfl, Kd.R_lower (R_five HR.out e177 HP2.out _ _ _ _ _) HL3.out, five_b HB.out HG.out.2.1 _ _ _ _ _⟩
  · refine event_step (by rfl) (show _ = Result.ok (Next.value (.slice (some ⟨w3.heap.size, 0, none⟩) 1 1)) (World.alloc _ (.cells #[.int .u32 a, .int .u16 p, .int .u32 d1, .int .u16 d2, .int .i64 o] 177)) from by first | (go_simp; done) | (go_simp; rfl)) ?_
    have hB := below_alloc (Below.refl _ w3) (.cells #[.int .u32 a, .int .u16 p, .int .u32 d1, .int .u16 d2, .int .i64 o] 177)
    have hN := blk_new w3 (.cells #[.int .u32 a, .int .u16 p, .int .u32 d1, .int .u16 d2, .int .i64 o] 177)
    obtain ⟨g7, hg7⟩ : ∃ g7, g7 = w3.heap.size := ⟨_, rfl⟩
    rw [← hg7] at hN ⊢
    clear hg7
    generalize World.alloc w3 (.cells #[.int .u32 a, .int .u16 p, .int .u32 d1, .int .u16 d2, .int .i64 o] 177) = wn8 at hB hN ⊢
    have HN7 := Aside0.mk hN
    replace HBr := Aside0.mk (below_step HBr.out hB)
    clear hB hN
    refine hK.out _ _ (⟨blk_below HP1.out HBr.out, blk_below HPE.out HBr.out⟩) (fun hHeld => ?_)
    clear hK K
    refine norm_ (a' := ?_) ?_ ?_
    rotate_left
    · show Act.put _ (some 41) _ = _
      simp only [Act.put, List.setIfInBounds_toArray, List.set_cons_zero, List.set_cons_succ, i64_w, i32_w]
      rfl
    refine one_ (i := 0) (N := some 34) (bb 11 247) rfl rfl (by kernel_rfl) (by decide) (fun K hK => ?_)
    refine Kd.R_lit_step k177 (w0 := w3) w3.heap.size 177 (by rfl) rfl (xs := []) (inner := []) (ok := fun _ => True) (okp := fun _ => True) (by first | (go_simp; done) | (go_simp; rfl)) (Reps.none _ _) (fun _ h => h) trivial HBr.out HBr.out.size (by decide) ?_
    intro v1 wn9 hR hB hG hO
    have HR := Aside0.mk hR
    obtain ⟨b_, eb_, lb_⟩ := hO
    have HNE := Aside0.mk (show some g7 ≠ v1.ownBlock from fun e_ => by rw [eb_] at e_; injection e_ with e_; have := blk_lt HN7.out; omega)
    replace HN7 := Aside0.mk (blk_grown HN7.out hG (by simp))
    clear eb_ lb_
    replace HBr := Aside0.mk hB
    clear hR hB hG
    refine hK.out _ _ (⟨blk_below HP1.out HBr.out, blk_below HPE.out HBr.out⟩) (fun hHeld => ?_)
    clear hK K
    refine norm_ (a' := ?_) ?_ ?_
    rotate_left
    · show Act.put _ (some 34) _ = _
      simp only [Act.put, List.setIfInBounds_toArray, List.set_cons_zero, List.set_cons_succ, i64_w, i32_w]
      rfl
    refine one_ (i := 3) (N := some 37) (bb 11 255) rfl rfl (by kernel_rfl) (by decide) (fun K hK => ?_)
    refine Kd.R_append_rows_step k177 (Rr := k177.K wn9) (w0 := w3) w3.heap.size (by rfl) (.tmp 34) (.tmp 36) 98 177 (.agg #[.int .u32 0, .int .u16 0, .int .u32 0, .int .u16 0, .int .i64 0]) 24 rfl Try.underlying98 info177 rfl (by decide) (by decide) v1 ([]) (l') A' n' c' (fun _ => True) (fun _ => False) rfl rfl HR.out (Kd.C_below H1.out.C' HBr.out) (fun x_ cs_ h_ => h_) (fun _ h => h.elim) (fun _ _ => trivial) HBr.out HBr.out.size (by have := H1.out.few'; simp only [List.length_nil]; omega) ?_
    intro v2 wn10 hR hB hG hO
    rw [List.nil_append] at hR
    have hne_ : some g7 ≠ v2.ownBlock := fun e_ => by rcases hO with h_ | ⟨b_, h_, hl_⟩; exact HNE.out (e_.trans h_); (rw [h_] at e_; injection e_ with e_; have := blk_lt HN7.out; omega)
    replace HN7 := Aside0.mk (blk_grown HN7.out hG HNE.out)
    replace HNE := Aside0.mk hne_
    clear hne_
    replace HR := Aside0.mk hR
    replace HBr := Aside0.mk hB
    clear hR hB hG hO
    refine hK.out _ _ (⟨blk_below HP1.out HBr.out, blk_below HPE.out HBr.out⟩) (fun hHeld => ?_)
    clear hK K
    refine norm_ (a' := ?_) ?_ ?_
    rotate_left
    · show Act.put _ (some 37) _ = _
      simp only [Act.put, List.setIfInBounds_toArray, List.set_cons_zero, List.set_cons_succ, i64_w, i32_w]
      rfl
    refine one_ (i := 8) (N := some 42) (bb 11 511) rfl rfl (by kernel_rfl) (by decide) (fun K hK => ?_)
    refine Kd.R_append_rows_step k177 (Rr := k177.K wn10) (w0 := w3) w3.heap.size (by rfl) (.tmp 37) (.tmp 41) 98 177 (.agg #[.int .u32 0, .int .u16 0, .int .u32 0, .int .u16 0, .int .i64 0]) 24 rfl Try.underlying98 info177 rfl (by decide) (by decide) v2 (l') ([⟨⟨⟨a, p⟩, ⟨d1, d2⟩⟩, o⟩]) (some ⟨g7, 0, none⟩) 1 1 (fun _ => True) (fun _ => False) rfl rfl HR.out (one_C (k177_mk _ a p d1 d2 o) HN7.out) (fun x_ cs_ h_ => h_) (fun _ h => h.elim) (fun _ _ => trivial) HBr.out HBr.out.size (by have := H1.out.len'; have := H1.out.few'; omega) ?_
    intro v3 wn11 hR hB hG hO
    obtain ⟨A3, c3, rfl⟩ := Kd.R_slice hR
    rw [HQ.out] at hR ⊢
    replace HR := Aside0.mk hR
    replace HBr := Aside0.mk hB
    have f6 := blk_frozen (blk_below HP1.out hB) 4
    have g6 := (blk_cell (blk_below HP1.out hB) 4).trans rfl
    clear hR hB hG hO
    refine hK.out _ _ (⟨blk_below HP1.out HBr.out, blk_below HPE.out HBr.out⟩) (fun hHeld => ?_)
    clear hK K
    refine norm_ (a' := ?_) ?_ ?_
    rotate_left
    · show Act.put _ (some 42) _ = _
      simp only [Act.put, List.setIfInBounds_toArray, List.set_cons_zero, List.set_cons_succ, i64_w, i32_w]
      rfl
    refine pure_ (i := 9) (N := some 43) (v := ?_) (a' := ?_) (bb 11 1023) rfl rfl (by kernel_rfl) (fun _ _ _ h => h) (Or.inl ⟨by rfl, ?_⟩) ?_ ?_
    rotate_left
    · intro w'
      go_simp
      with_reducible rfl
    rotate_left
    · simp only [Act.put, List.setIfInBounds_toArray, List.set_cons_zero, List.set_cons_succ, i64_w, i32_w]
      rfl
    refine last_ (i := 10) (N := none) (bb 11 2047) rfl rfl (by kernel_rfl) (by decide) (fun K hK => ?_)
    refine skip_ (w1 := wn11.setCell ⟨g, 4, none⟩ (.slice A3 (n' + 1) c3)) (by rfl) rfl (by first | (go_simp; done) | (go_simp; rfl)) ?_
    refine hK.out _ _ ?_
    clear hK K
    refine done_ (by kernel_rfl) ?_
    replace HR := Aside0.mk (Kd.R_set HR.out (blk_below HP1.out HBr.out) e177 4 (.slice A3 (n' + 1) c3))
    replace HP2 := Aside0.mk (blk_far (blk_below HP2.out HBr.out) (p := ⟨g, 4, none⟩) HG.out.2.2.1 (.slice A3 (n' + 1) c3))
    have HP3 := Aside0.mk (blk_put (blk_below HP1.out HBr.out) 4 (.slice A3 (n' + 1) c3) rfl)
    have hle3 := HB.out.size
    replace HB := Aside0.mk (bput (i := 4) (u := .slice A3 (n' + 1) c3) (below_step HB.out HBr.out) HG.out.1)
    have HL3 := Aside0.mk hle3
    clear f6 g6 hHeld hle3
    generalize wn11.setCell ⟨g, 4, none⟩ (.slice A3 (n' + 1) c3) = w9 at HR HP2 HP3 HB ⊢
    obtain ⟨p0, p1, p2, p3, p4, -⟩ := five HP3.out
    obtain ⟨r0, r1, r2, r3, r4, u0, u1, u2, u3, u4⟩ := five HP2.out
    go_wp2
    refine bodyPost_ret (results_ct rfl _ _ k1 100 #[.int .i64 lo, .int .i64 hi, .int .i64 la, .slice A n c, .slice A3 (n' + 1) c3] (0, 0) _ rfl (five_put HP2.out _ _ _ _ _) Try.underlying100 rfl (by kernel_rfl)) rfl ?_
    exact ⟨A3, c3, rfl, Kd.R_lower (R_five HR.out e177 HP2.out _ _ _ _ _) HL3.out, five_b HB.out HG.out.2.1 _ _ _ _ _⟩
end Go.Proofs.Ytimgfdkndlbfbaa.HPortR
