/- hose: what its functions do, for every hose. Conditions: each theorem's own. -/
import Derived.Test.YtfmfpofbefgbgaaHCopy
import Derived.StillTailTactics
import Derived.Outline
import Derived.WalkSpells
import Derived.WalkLawsBesides
import Derived.Lib.MinMax
import Derived.Test.YtfmfpofbefgbgaaHRing
namespace Go.Proofs.Ytfmfpofbefgbgaa.HHose
open Go.RowKit Go.Proofs.YtfmfpofbefgbgaaW.PrintWords Go.Proofs.YtfmfpofbefgbgaaW.PrintLast Go.Proofs.YtfmfpofbefgbgaaW.PrintMore Go.Proofs.Ytfmfpofbefgbgaa.HExt Go.Proofs.Ytfmfpofbefgbgaa.HCopy Go.Proofs.Ytfmfpofbefgbgaa.HRing
set_option linter.unusedVariables false
set_option linter.unusedSimpArgs false
theorem wid (n : Int) (h0 : -4611686018427387904 ≤ n) (h1 : n ≤ 4611686018427387904) : IntKind.i64.wrap n = n := by simp [IntKind.wrap, IntKind.bits, IntKind.signed]; omega
theorem info5 : (Try.prog.info? 5).map (fun i => (i.zero, i.size, i.bytes)) = some (some (.int .u8 0), 1, 1) := by kernel_rfl
theorem size5 : (Try.prog.info? 5).map (·.size) = some 1 := by kernel_rfl
/-- Only block b, and the block of v, of what was there may have turned. -/
structure Kp (b : Nat) (v : Value) (w w' : World) : Prop where
  os : w'.os = w.os
  tape : w'.tape = w.tape
  output : w'.output = w.output
  size : w.heap.size ≤ w'.heap.size
  block : ∀ k, k < w.heap.size → k ≠ b → some k ≠ v.ownBlock → w'.heap[k]? = w.heap[k]?
theorem Kp.refl (b : Nat) (v : Value) (w : World) : Kp b v w w := ⟨rfl, rfl, rfl, Nat.le_refl _, fun _ _ _ _ => rfl⟩
theorem Kp.trans {b : Nat} {v v1 : Value} {w w1 w2 : World} (h : Kp b v w w1) (k : Kp b v1 w1 w2) (hv : v1.ownBlock = v.ownBlock ∨ ∃ g, v1.ownBlock = some g ∧ w.heap.size ≤ g) : Kp b v w w2 :=
  ⟨k.os.trans h.os, k.tape.trans h.tape, k.output.trans h.output, Nat.le_trans h.size k.size, fun i hi hb hne => (k.block i (Nat.lt_of_lt_of_le hi h.size) hb (by
    rcases hv with e | ⟨g, e, hg⟩
    · rw [e]; exact hne
    · rw [e]; intro c; injection c with c; omega)).trans (h.block i hi hb hne)⟩
theorem Kp.of_below {b : Nat} {v : Value} {w w' : World} (h : Below w.heap.size w w') : Kp b v w w' := ⟨h.os, h.tape, h.output, h.size, fun k hk _ _ => h.block k hk⟩
theorem Kp.of_grown {b : Nat} {v : Value} {w w' : World} (h : w.grownBy w' v.ownBlock) : Kp b v w w' := ⟨h.os, h.tape, h.output, h.size, fun k hk _ hne => h.block k hk hne⟩
theorem Kp.set {b : Nat} {v : Value} {w w' : World} (h : Kp b v w w') (i : Nat) (u : Value) : Kp b v w (w'.setCell ⟨b, i, none⟩ u) :=
  ⟨h.os, h.tape, h.output, by simpa using h.size, fun k hk hb hne => (Below.heap_setCell w' ⟨b, i, none⟩ u k hb).trans (h.block k hk hb hne)⟩
theorem Kp.drew {b : Nat} {v : Value} {w w' : World} (h : Kp b v w w') : Kp b v w w'.drew := ⟨h.os, h.tape, h.output, h.size, h.block⟩
theorem Kp.drewN {b : Nat} {v : Value} {w w' : World} (h : Kp b v w w') (n : Nat) : Kp b v w (w'.drewN n) := ⟨h.os, h.tape, h.output, h.size, h.block⟩
/-- A hose at block b: its ring v holds zs; from place f on n bytes are there. -/
structure Hz (B : Nat) (w : World) (b : Nat) (v : Value) (zs : List Int) (room : Int) (f n : Nat) (i o : Int) : Prop where
  blk : w.heap[b]? = some (.cells #[.int .i64 room, v, .int .i64 (f : Int), .int .i64 (n : Int), .int .i64 i, .int .i64 o] 114 (0, 0))
  row : Kd.R (Kd.int .u8) 5 w B (fun k => k ≠ b) v zs
  lb : B ≤ b
  r0 : 1 ≤ room
  r1 : room ≤ 1048576
  lr : (zs.length : Int) ≤ room
  ln : n ≤ zs.length
  lf : (zs.length = 0 ∧ f = 0) ∨ f < zs.length
theorem Kp.below {b B : Nat} {v : Value} {w w' : World} (h : Kp b v w w') (hb : B ≤ b) (hv : ∀ k, v.ownBlock = some k → B ≤ k) (hB : B ≤ w.heap.size) : Below B w w' :=
  ⟨h.os, h.tape, h.output, h.size, fun k hk => h.block k (by omega) (by omega) (fun e => by have := hv k e.symm; omega)⟩
section
variable {B : Nat} {w w' : World} {b : Nat} {v : Value} {zs : List Int} {room : Int} {f n : Nat} {i o : Int}
theorem Hz.cells (h : Hz B w b v zs room f n i o) : w.cell? ⟨b, 0, none⟩ = some (.int .i64 room) ∧ w.cell? ⟨b, 1, none⟩ = some v ∧ w.cell? ⟨b, 2, none⟩ = some (.int .i64 (f : Int)) ∧ w.cell? ⟨b, 3, none⟩ = some (.int .i64 (n : Int)) ∧ w.cell? ⟨b, 4, none⟩ = some (.int .i64 i) ∧ w.cell? ⟨b, 5, none⟩ = some (.int .i64 o) :=
  ⟨(blk_cell h.blk 0).trans rfl, (blk_cell h.blk 1).trans rfl, (blk_cell h.blk 2).trans rfl, (blk_cell h.blk 3).trans rfl, (blk_cell h.blk 4).trans rfl, (blk_cell h.blk 5).trans rfl⟩
theorem Hz.free (h : Hz B w b v zs room f n i o) (j : Nat) : w.frozen? ⟨b, j, none⟩ = false := blk_frozen h.blk j
theorem Hz.next (h : Hz B w b v zs room f n i o) (hb : Below w.heap.size w w') : Hz B w' b v zs room f n i o :=
  ⟨blk_below h.blk hb, Kd.R_below h.row hb, h.lb, h.r0, h.r1, h.lr, h.ln, h.lf⟩
theorem Hz.lt (h : Hz B w b v zs room f n i o) : b < w.heap.size := blk_lt h.blk
theorem row_move {e : Nat} {base : Nat} {ok : Nat → Prop} {xs : List Int} (h : Kd.R (Kd.int .u8) e w base ok v xs) (hm : ∀ k, v.ownBlock = some k → w'.heap[k]? = w.heap[k]?) : Kd.R (Kd.int .u8) e w' base ok v xs :=
  Kd.R_of_own (own_move (Kd.own_of_R (enc := Value.int .u8) (h1 := fun _ => rfl) h) hm) h.1
theorem Hz.move (h : Hz B w b v zs room f n i o) (hb : w'.heap[b]? = w.heap[b]?) (hv : ∀ k, v.ownBlock = some k → w'.heap[k]? = w.heap[k]?) : Hz B w' b v zs room f n i o :=
  ⟨hb.trans h.blk, row_move h.row hv, h.lb, h.r0, h.r1, h.lr, h.ln, h.lf⟩
theorem Hz.ring_lt (h : Hz B w b v zs room f n i o) : ∀ k, v.ownBlock = some k → k < w.heap.size := Kd.R_lt h.row
theorem Hz.ring_ge (h : Hz B w b v zs room f n i o) : ∀ k, v.ownBlock = some k → B ≤ k := Kd.R_base h.row
theorem Hz.ring_ne (h : Hz B w b v zs room f n i o) : ∀ k, v.ownBlock = some k → k ≠ b := fun k hk => h.row.1 k hk
theorem Hz.grown {w0 : World} {g : Nat} (h : Hz B w b v zs room f n i o) (h0 : Hz B w0 b v zs room f n i o) (hg : w.grownBy w' (some g)) (hge : w0.heap.size ≤ g) : Hz B w' b v zs room f n i o :=
  h.move (hg.block b h.lt (by have := h0.lt; intro e; injection e with e; omega)) (fun k hk => hg.block k (h.ring_lt k hk) (by have := h0.ring_lt k hk; intro e; injection e with e; omega))
end
theorem below_grown {g : Nat} {w w1 w2 : World} (h : Below w.heap.size w w1) (hg : w1.grownBy w2 (some g)) (hge : w.heap.size ≤ g) : Below w.heap.size w w2 := h.grown hg h.size (fun k hk => by injection hk with hk; omega)
/-- P15.1: bytes of a list from a place on. -/
def peekF (l : List Int) (at_ m : Int) : List Int := if at_ < 0 ∨ m < 0 ∨ (l.length : Int) ≤ at_ then [] else (l.drop at_.toNat).take m.toNat
set_option maxRecDepth 100000 in
set_option maxHeartbeats 2000000 in
theorem len_calls {B b : Nat} {v : Value} {zs : List Int} {room : Int} {f n : Nat} {i o : Int} {w : World} (h : Hz B w b v zs room f n i o) :
    Calls Try.prog 20 #[.pointer (some ⟨b, 0, none⟩)] w fun e w' => e = .returned (.int .i64 (n : Int)) ∧ w = w' := by
  obtain ⟨h0, h1, h2, h3, h4, h5⟩ := h.cells
  clear h
  go_enter Try.func20, Try.ntmps20
  go_wp2
  go_ret
  exact ⟨rfl, rfl⟩
set_option maxRecDepth 100000 in
set_option maxHeartbeats 2000000 in
theorem room_calls {B b : Nat} {v : Value} {zs : List Int} {room : Int} {f n : Nat} {i o : Int} {w : World} (h : Hz B w b v zs room f n i o) :
    Calls Try.prog 27 #[.pointer (some ⟨b, 0, none⟩)] w fun e w' => e = .returned (.int .i64 (room - n)) ∧ ∃ m, w' = w.drewN m := by
  obtain ⟨h0, h1, h2, h3, h4, h5⟩ := h.cells
  have w1 : IntKind.i64.wrap (room - (n : Int)) = room - (n : Int) := wid _ (by have := h.r0; have := h.ln; have := h.lr; omega) (by have := h.r1; omega)
  clear h
  go_enter Try.func27, Try.ntmps27
  go_wp2
  go_quiet (fail)
  go_wp2
  go_ret
  exact ⟨rfl, _, rfl⟩
set_option maxRecDepth 100000 in
set_option maxHeartbeats 2000000 in
theorem passed_calls {B b : Nat} {v : Value} {zs : List Int} {room : Int} {f n : Nat} {i o : Int} {w : World} (h : Hz B w b v zs room f n i o) :
    Calls Try.prog 26 #[.pointer (some ⟨b, 0, none⟩)] w fun e w' => e = .returned (.tuple #[.int .i64 i, .int .i64 o]) ∧ ∃ m, w' = w.drewN m := by
  obtain ⟨h0, h1, h2, h3, h4, h5⟩ := h.cells
  clear h
  go_enter Try.func26, Try.ntmps26
  go_wp2
  go_quiet (fail)
  go_wp2
  go_ret2
  exact ⟨rfl, _, rfl⟩
set_option maxRecDepth 100000 in
set_option maxHeartbeats 2000000 in
theorem new_bad (room : Int) (w : World) (h : room < 1 ∨ 1048576 < room) : Calls Try.prog 16 #[.int .i64 room] w fun e w' => e = .returned (.tuple #[.pointer none, .int .i64 1]) ∧ w = w' := by
  by_cases c : room < 1
  · have d : decide (room < 1) = true := decide_eq_true c
    clear h
    go_enter Try.func16, Try.ntmps16
    go_wp2
    go_ret2
    exact ⟨rfl, rfl⟩
  · have d : decide (room < 1) = false := decide_eq_false c
    have d2 : decide (1048576 < room) = true := decide_eq_true (by omega)
    clear h
    go_enter Try.func16, Try.ntmps16
    go_wp2
    go_ret2
    exact ⟨rfl, rfl⟩
set_option maxRecDepth 100000 in
set_option maxHeartbeats 2000000 in
theorem new_calls (room : Int) (w : World) (h0 : 1 ≤ room) (h1 : room ≤ 1048576) : Calls Try.prog 16 #[.int .i64 room] w fun e w' => ∃ b, e = .returned (.tuple #[.pointer (some ⟨b, 0, none⟩), .int .i64 0]) ∧ Hz w.heap.size w' b (.slice none 0 0) [] room 0 0 0 0 ∧ Below w.heap.size w w' := by
  have d : decide (room < 1) = false := decide_eq_false (by omega)
  have d2 : decide (1048576 < room) = false := decide_eq_false (by omega)
  have H0 := Aside0.mk h0
  have H1 := Aside0.mk h1
  clear h0 h1
  go_enter Try.func16, Try.ntmps16
  go_wp2
  go_ret2
  exact ⟨_, rfl, ⟨blk_new _ _, Kd.R_nil _ _ _ _ _, Nat.le_refl _, H0.out, H1.out, by have := H0.out; simp; omega, by simp, .inl ⟨rfl, rfl⟩⟩, (Below.refl _ _).alloc (Nat.le_refl _) _⟩
theorem made_form {w : World} {base n : Nat} {ok : Nat → Prop} {v : Value} {xs : List Int} (h : Kd.R (Kd.int .u8) 5 w base ok v xs) (hn : xs.length = n) (hb : ∃ k, v.ownBlock = some k ∧ base ≤ k) : ∃ g c, v = .slice (some ⟨g, 0, none⟩) n c ∧ n ≤ c ∧ base ≤ g := by
  subst hn
  rcases (Kd.own_of_R (enc := Value.int .u8) (h1 := fun _ => rfl) h).2 with ⟨hv, h0⟩ | ⟨g, cap, cur, hv, hb', hh, hnc, _⟩
  · obtain ⟨k, hk, _⟩ := hb
    rw [hv] at hk
    simp [Value.ownBlock] at hk
  · exact ⟨g, cap, hv, hnc, hb'⟩
/-- 'x[j:]'. -/
theorem cut_any (g o n c j : Nat) (hj : j ≤ n) (hn : n ≤ c) : ∃ dp, (∀ W : World, (Instr.slice 23 (.slice (some ⟨g, o, none⟩) n c) (some (.int .i64 (j : Int))) none none).run Try.prog W = .ok (.slice dp (n - j) (c - j)) W) ∧ (0 < n - j → dp = some ⟨g, o + j, none⟩) ∧
    (∀ (W : World) (xs : List Int), xs.length = n → Kd.C (Kd.int .u8) W (some ⟨g, o, none⟩) n xs → Kd.C (Kd.int .u8) W dp (n - j) (xs.drop j)) := by
  obtain ⟨i0, hi0, _, hsz0, _⟩ := info_parts info5
  have hcut := cut_from (P := Try.prog) 23 5 .i64 Try.underlying23 hi0 1 hsz0 (some ⟨g, o, none⟩) n c (j : Int) (by omega) (by omega)
  simp only [Int.toNat_natCast] at hcut
  refine ⟨_, hcut, fun hp => ?_, fun W xs hx hC => ?_⟩
  · rw [if_neg (by omega)]
    simp [Addr.add]
  · subst hx
    have := Kd.C_drop (k := Kd.int .u8) hC hj hn
    rw [List.length_drop] at this
    exact this
theorem peekF_nil {l : List Int} {a m : Int} (h : a < 0 ∨ m < 0 ∨ (l.length : Int) ≤ a) : peekF l a m = [] := by unfold peekF; rw [if_pos h]
theorem peekF_good {l : List Int} {p q : Nat} (h : p < l.length) : peekF l p q = (l.drop p).take q := by unfold peekF; rw [if_neg (by omega)]; simp
set_option maxRecDepth 100000 in
set_option maxHeartbeats 2000000 in
theorem peek_good {B b : Nat} {v : Value} {zs : List Int} {room : Int} {f n : Nat} {i o : Int} {w : World} (h : Hz B w b v zs room f n i o) (p q : Nat) (hp : p < n) :
    Calls Try.prog 24 #[.pointer (some ⟨b, 0, none⟩), .int .i64 (p : Int), .int .i64 (q : Int)] w fun e w' => ∃ v', e = .returned v' ∧ Kd.R (Kd.int .u8) 5 w' w.heap.size (fun _ => True) v' (((cont zs f n).drop p).take q) ∧ Below w.heap.size w w' := by
  have hn := h.ln
  have hl : (zs.length : Int) ≤ 1048576 := Int.le_trans h.lr h.r1
  have hf : f < zs.length := by rcases h.lf with ⟨a, _⟩ | a <;> omega
  obtain ⟨g, c, rfl, hBg, hgl, -⟩ := Kd.R_form h.row (by omega)
  obtain ⟨h0, h1, h2, h3, h4, h5⟩ := h.cells
  obtain ⟨k, hk⟩ : ∃ k, k = min q (n - p) := ⟨_, rfl⟩
  obtain ⟨z, hz⟩ : ∃ z, z = (f + p) % zs.length := ⟨_, rfl⟩
  have z1 : z < zs.length := by rw [hz]; exact Nat.mod_lt _ (by omega)
  have hres : ((cont zs f n).drop p).take q = cont zs z k := by
    rw [cont_drop _ _ _ _ (by omega), hz, hk]
    rcases Nat.le_total q (n - p) with a | a
    · rw [Nat.min_eq_left a, cont_take _ _ _ _ a]
    · rw [Nat.min_eq_right a, List.take_of_length_le (by rw [cont_length]; exact a)]
  rw [hres]
  have hkn : k ≤ zs.length := by omega
  have hcc : zs.length ≤ c := (Kd.R_reads' h.row).2.1
  have dec0 : decide ((p : Int) < 0) = false := decide_eq_false (by omega)
  have dec1 : decide ((q : Int) < 0) = false := decide_eq_false (by omega)
  have dec2 : decide ((n : Int) ≤ (p : Int)) = false := decide_eq_false (by omega)
  have dec3 : decide (n ≤ p) = false := decide_eq_false (by omega)
  have e1 : IntKind.i64.wrap ((n : Int) - (p : Int)) = (n : Int) - (p : Int) := wid _ (by omega) (by omega)
  have e2 : min (q : Int) ((n : Int) - (p : Int)) = (k : Int) := by omega
  have e3 : IntKind.i64.wrap ((f : Int) + (p : Int)) = (f : Int) + (p : Int) := wid _ (by omega) (by omega)
  have e4 : ((f : Int) + (p : Int)).tmod (zs.length : Int) = (z : Int) := by rw [hz]; rfl
  have e5 : ((f : Int) + (p : Int)) % (zs.length : Int) = (z : Int) := by rw [hz]; rfl
  have e6 : ((zs.length : Int) == 0) = false := beq_eq_false_iff_ne.2 (by omega)
  have e7 : (zs.length == 0) = false := beq_eq_false_iff_ne.2 (by omega)
  have H := Aside0.mk h
  have HK := Aside0.mk hkn
  have HL := Aside0.mk hl
  clear h hk hz hres hn hl
  obtain ⟨k1, hk1⟩ : ∃ k1, k1 = min k (zs.length - z) := ⟨_, rfl⟩
  have hm1 : Nat.min (zs.length - z) k = k1 := by rw [hk1]; exact Nat.min_comm _ _
  have hm2 : Nat.min zs.length (k - k1) = k - k1 := Nat.min_eq_right (by omega)
  have hov := ovr_two zs z k z1 hkn
  rw [← hk1] at hov
  have hk1k : k1 ≤ k := by omega
  have HM := Aside0.mk (And.intro hm1 (And.intro hm2 (And.intro hk1k hov)))
  clear hk1 hm1 hm2 hk1k hov
  obtain ⟨dp, hcut, hdp, hdC⟩ := cut_any g 0 zs.length c z (by omega) hcc
  have HD := Aside0.mk hdC
  clear hdC hdp
  go_enter Try.func24, Try.ntmps24
  go_upto_region 5 with (((with_reducible refine gate_dst (N := 37) rfl ?_); refine Kd.R_make (Kd.int .u8) (w0 := w) w.heap.size 5 rfl (N := 37) rfl 23 _ _ rfl (k : Int) rfl rfl Try.underlying23 (.int .u8 0) 1 info5 rfl (by decide) (by omega) 0 (ok := fun _ => True) (okp := fun _ => True) rfl (fun _ hk => hk) trivial (by omega) (by have := HK.out; have := HL.out; omega) (Below.refl _ _) (Nat.le_refl _) ?_; intro v1 w1 ho hb hg hnew; rw [Int.toNat_natCast] at ho; obtain ⟨g1, c1, rfl, hc1, hg1⟩ := made_form ho (List.length_replicate ..) hnew; have HO := Aside0.mk ho; have HB := Aside0.mk hb; have HG := Aside0.mk (And.intro hc1 hg1); have H1 := Aside0.mk (H.out.next hb); clear ho hb hg hnew hc1 hg1 h0 h1 h2 h3 h4 h5; obtain ⟨h0, h1, h2, h3, h4, h5⟩ := H1.out.cells))
  go_quiet (fail)
  go_upto_region 7 with (((with_reducible refine gate_builtin (b := .copy) (xs := #[.tmp 50, .tmp 56]) rfl ?_); refine R_copy_list rfl (.tmp 50) (.tmp 56) 23 23 5 rfl Try.underlying23 size5 0 g1 k c1 k c1 (c - z) (zs.length - z) k1 HM.out.1 (List.replicate k 0) (zs.drop z) w.heap.size (fun _ => True) dp (some ⟨g1, 0, none⟩) rfl rfl (fun _ => rfl) (by omega) (Kd.R_drewN HO.out _) (HD.out _ _ rfl (Kd.C_drewN (Kd.R_reads' H1.out.row).2.2 _)) ?_; intro w3 ho hg; have HO3 := Aside0.mk ho; have HB3 := Aside0.mk (below_grown (pw_below_drewN HB.out _) hg HG.out.2); have H3 := Aside0.mk (Hz.grown (H1.out.next (pw_below_drewN (Below.refl _ _) _)) H.out hg HG.out.2); clear ho hg h0 h1 h2 h3 h4 h5; obtain ⟨h0, h1, h2, h3, h4, h5⟩ := H3.out.cells))
  obtain ⟨dp2, hcut2, hdp2, hdC2⟩ := cut_any g1 0 k c1 k1 HM.out.2.2.1 HG.out.1
  have HD2 := Aside0.mk hdp2
  clear hdp2 hdC2 hcut
  go_region_law (refine R_copy_min rfl (.tmp 60) (.tmp 64) 23 23 5 rfl Try.underlying23 size5 k1 g1 k c1 (k - k1) (c1 - k1) c zs.length (k - k1) HM.out.2.1 (over 0 (List.replicate k 0) ((zs.drop z).take k1)) zs w.heap.size (fun _ => True) (some ⟨g, 0, none⟩) dp2 rfl rfl (by have := HD2.out; rw [Nat.zero_add] at this; exact this) (by have := HM.out.2.2.1; omega) (Kd.R_drew HO3.out) (Kd.C_drew (Kd.R_reads' H3.out.row).2.2) ?_; intro w5 ho hg; have HO5 := Aside0.mk ho; have HB5 := Aside0.mk (below_grown (below_drew HB3.out) hg HG.out.2); clear ho hg)
  go_wp2
  go_ret
  exact ⟨_, rfl, by rw [← HM.out.2.2.2]; exact HO5.out, HB5.out⟩
set_option maxRecDepth 100000 in
set_option maxHeartbeats 2000000 in
theorem peek_nil {B b : Nat} {v : Value} {zs : List Int} {room : Int} {f n : Nat} {i o : Int} {w : World} (h : Hz B w b v zs room f n i o) (p q : Int) (hp : p < 0 ∨ q < 0 ∨ (n : Int) ≤ p) :
    Calls Try.prog 24 #[.pointer (some ⟨b, 0, none⟩), .int .i64 p, .int .i64 q] w fun e w' => e = .returned (.slice none 0 0) ∧ w = w' := by
  obtain ⟨h0, h1, h2, h3, h4, h5⟩ := h.cells
  clear h
  by_cases c1 : p < 0
  · have d1 : decide (p < 0) = true := decide_eq_true c1
    clear hp
    go_enter Try.func24, Try.ntmps24
    go_wp2
    go_ret
    exact ⟨rfl, rfl⟩
  have d1 : decide (p < 0) = false := decide_eq_false c1
  by_cases c2 : q < 0
  · have d2 : decide (q < 0) = true := decide_eq_true c2
    clear hp
    go_enter Try.func24, Try.ntmps24
    go_wp2
    go_ret
    exact ⟨rfl, rfl⟩
  have d2 : decide (q < 0) = false := decide_eq_false c2
  have d3 : decide ((n : Int) ≤ p) = true := decide_eq_true (by omega)
  clear hp
  go_enter Try.func24, Try.ntmps24
  go_wp2
  go_ret
  exact ⟨rfl, rfl⟩
theorem peek_calls {B b : Nat} {v : Value} {zs : List Int} {room : Int} {f n : Nat} {i o : Int} {w : World} (h : Hz B w b v zs room f n i o) (p q : Int) :
    Calls Try.prog 24 #[.pointer (some ⟨b, 0, none⟩), .int .i64 p, .int .i64 q] w fun e w' => ∃ v', e = .returned v' ∧ Kd.R (Kd.int .u8) 5 w' w.heap.size (fun _ => True) v' (peekF (cont zs f n) p q) ∧ Below w.heap.size w w' := by
  by_cases c : p < 0 ∨ q < 0 ∨ (n : Int) ≤ p
  · refine (peek_nil h p q c).mono ?_
    rintro e w' ⟨rfl, rfl⟩
    exact ⟨_, rfl, by rw [peekF_nil (by rw [cont_length]; exact c)]; exact Kd.R_nil _ _ _ _ _, Below.refl _ _⟩
  · obtain ⟨p', rfl⟩ := Int.eq_ofNat_of_zero_le (show 0 ≤ p by omega)
    obtain ⟨q', rfl⟩ := Int.eq_ofNat_of_zero_le (show 0 ≤ q by omega)
    rw [peekF_good (by rw [cont_length]; omega)]
    exact peek_good h p' q' (by omega)
set_option maxRecDepth 100000 in
set_option maxHeartbeats 2000000 in
theorem drop_none {B b : Nat} {v : Value} {zs : List Int} {room : Int} {f n : Nat} {i o : Int} {w : World} (h : Hz B w b v zs room f n i o) (q : Int) (hq : q < 1 ∨ n = 0) :
    Calls Try.prog 23 #[.pointer (some ⟨b, 0, none⟩), .int .i64 q] w fun e w' => e = .returned (.int .i64 0) ∧ w = w' := by
  obtain ⟨h0, h1, h2, h3, h4, h5⟩ := h.cells
  clear h
  by_cases c1 : q < 1
  · have d1 : decide (q < 1) = true := decide_eq_true c1
    clear hq
    go_enter Try.func23, Try.ntmps23
    go_wp2
    go_ret
    exact ⟨rfl, rfl⟩
  have d1 : decide (q < 1) = false := decide_eq_false c1
  obtain rfl : n = 0 := by omega
  clear hq
  go_enter Try.func23, Try.ntmps23
  go_wp2
  go_ret
  exact ⟨rfl, rfl⟩
set_option maxRecDepth 100000 in
set_option maxHeartbeats 2000000 in
theorem drop_some {B b : Nat} {v : Value} {zs : List Int} {room : Int} {f n : Nat} {i o : Int} {w : World} (h : Hz B w b v zs room f n i o) (q : Nat) (hq : 1 ≤ q) (hn : 1 ≤ n) (o0 : 0 ≤ o) (o1 : o ≤ 1000000000000) :
    Calls Try.prog 23 #[.pointer (some ⟨b, 0, none⟩), .int .i64 (q : Int)] w fun e w' => e = .returned (.int .i64 ((min q n : Nat) : Int)) ∧ Hz B w' b v zs room ((f + min q n) % zs.length) (n - min q n) i (o + (min q n : Nat)) ∧ ∀ x, Kp b x w w' := by
  have hl : (zs.length : Int) ≤ 1048576 := Int.le_trans h.lr h.r1
  have hnl := h.ln
  have hf : f < zs.length := by rcases h.lf with ⟨a, _⟩ | a <;> omega
  obtain ⟨A, c, rfl, hc, hC⟩ := Kd.R_reads h.row
  obtain ⟨h0, h1, h2, h3, h4, h5⟩ := h.cells
  have f2 := h.free 2
  have f3 := h.free 3
  have f5 := h.free 5
  obtain ⟨k, hk⟩ : ∃ k, k = min q n := ⟨_, rfl⟩
  obtain ⟨z, hz⟩ : ∃ z, z = (f + k) % zs.length := ⟨_, rfl⟩
  have hkn : k ≤ n := by omega
  have hzl : z < zs.length := by rw [hz]; exact Nat.mod_lt _ (by omega)
  rw [← hk, ← hz]
  have d1 : decide ((q : Int) < 1) = false := decide_eq_false (by omega)
  have d2 : ((n : Int) == 0) = false := beq_eq_false_iff_ne.2 (by omega)
  have d3 : (n == 0) = false := beq_eq_false_iff_ne.2 (by omega)
  have e1 : min (q : Int) (n : Int) = (k : Int) := by omega
  have e2 : IntKind.i64.wrap ((f : Int) + (k : Int)) = (f : Int) + (k : Int) := wid _ (by omega) (by omega)
  have e3 : IntKind.i64.wrap ((n : Int) - (k : Int)) = (n : Int) - (k : Int) := wid _ (by omega) (by omega)
  have e4 : IntKind.i64.wrap (o + (k : Int)) = o + (k : Int) := wid _ (by omega) (by omega)
  have e6 : ((zs.length : Int) == 0) = false := beq_eq_false_iff_ne.2 (by omega)
  have e7 : (zs.length == 0) = false := beq_eq_false_iff_ne.2 (by omega)
  have ez : (zs = []) = False := eq_false (by intro e; rw [e] at hf; simp at hf)
  have e8 : ((f : Int) + (k : Int)).tmod (zs.length : Int) = (z : Int) := by rw [hz]; rfl
  have e9 : ((f : Int) + (k : Int)) % (zs.length : Int) = (z : Int) := by rw [hz]; rfl
  have H := Aside0.mk h
  have HK := Aside0.mk (And.intro hkn hzl)
  clear h hk hz hkn hC hc hnl hzl hl
  go_enter Try.func23, Try.ntmps23
  go_upto_region 4 with (fail)
  go_still_tail 15, (by kernel_rfl)
  change wpList _ _ _ _ _ w.drew
  go_wp2
  go_ret
  refine ⟨rfl, ?_, fun x => (((Kp.refl b x w).drew.set _ _).set _ _).set _ _⟩
  have hb := H.out.blk
  refine ⟨?_, Kd.R_far (Kd.R_far (Kd.R_far (Kd.R_drew H.out.row) (fun _ hk => hk) _) (fun _ hk => hk) _) (fun _ hk => hk) _, H.out.lb, H.out.r0, H.out.r1, H.out.lr, by have := H.out.ln; omega, .inr HK.out.2⟩
  rw [show ((n - k : Nat) : Int) = (n : Int) - (k : Int) by have := HK.out.1; omega]
  exact blk_put (blk_put (blk_put (blk_drew hb) 2 _ rfl) 3 _ rfl) 5 _ rfl
/-- How many of q come out, where n are. -/
def outN (q : Int) (n : Nat) : Nat := if q < 1 then 0 else min q.toNat n
theorem drop_calls {B b : Nat} {v : Value} {zs : List Int} {room : Int} {f n : Nat} {i o : Int} {w : World} (h : Hz B w b v zs room f n i o) (q : Int) (o0 : 0 ≤ o) (o1 : o ≤ 1000000000000) :
    Calls Try.prog 23 #[.pointer (some ⟨b, 0, none⟩), .int .i64 q] w fun e w' => e = .returned (.int .i64 (outN q n : Nat)) ∧ ∃ f', Hz B w' b v zs room f' (n - outN q n) i (o + (outN q n : Nat)) ∧ cont zs f' (n - outN q n) = (cont zs f n).drop (outN q n) ∧ ∀ x, Kp b x w w' := by
  by_cases c : q < 1 ∨ n = 0
  · have e0 : outN q n = 0 := by unfold outN; split <;> omega
    refine (drop_none h q c).mono ?_
    rintro e w' ⟨rfl, rfl⟩
    rw [e0]
    exact ⟨rfl, f, by simpa using h, by simp, fun x => Kp.refl _ _ _⟩
  · obtain ⟨q', rfl⟩ := Int.eq_ofNat_of_zero_le (show 0 ≤ q by omega)
    have e0 : outN (q' : Int) n = min q' n := by unfold outN; rw [if_neg (by omega)]; simp
    rw [e0]
    refine (drop_some h q' (by omega) (by omega) o0 o1).mono ?_
    rintro e w' ⟨rfl, hH, hK⟩
    exact ⟨rfl, _, hH, (cont_drop _ _ _ _ (by omega)).symm, hK⟩
theorem peekF_len (l : List Int) (q : Int) : (peekF l 0 q).length = outN q l.length := by
  unfold peekF outN
  by_cases c : q < 1
  · rw [if_pos c]
    by_cases c2 : q < 0
    · rw [if_pos (by omega)]; rfl
    · obtain rfl : q = 0 := by omega
      split <;> simp
  · rw [if_neg c]
    by_cases c2 : l.length = 0
    · rw [if_pos (by omega)]; simp [c2]
    · rw [if_neg (by omega)]; simp
theorem peekF_take (l : List Int) (q : Int) : peekF l 0 q = l.take (outN q l.length) := by
  unfold peekF outN
  by_cases c : q < 1
  · rw [if_pos c]
    by_cases c2 : q < 0
    · rw [if_pos (by omega)]; simp
    · obtain rfl : q = 0 := by omega
      split <;> simp
  · rw [if_neg c]
    by_cases c2 : l.length = 0
    · rw [if_pos (by omega)]; simp [c2]
    · rw [if_neg (by omega)]
      rcases Nat.le_total q.toNat l.length with a | a
      · rw [Nat.min_eq_left a]; simp
      · rw [Nat.min_eq_right a]; simp [List.take_of_length_le a]
set_option maxRecDepth 100000 in
set_option maxHeartbeats 2000000 in
theorem read_calls {B b : Nat} {v : Value} {zs : List Int} {room : Int} {f n : Nat} {i o : Int} {w : World} (h : Hz B w b v zs room f n i o) (q : Int) (o0 : 0 ≤ o) (o1 : o ≤ 1000000000000) :
    Calls Try.prog 19 #[.pointer (some ⟨b, 0, none⟩), .int .i64 q] w fun e w' => ∃ v', e = .returned v' ∧ Kd.R (Kd.int .u8) 5 w' w.heap.size (fun _ => True) v' ((cont zs f n).take (outN q n)) ∧
      (∃ f', Hz B w' b v zs room f' (n - outN q n) i (o + (outN q n : Nat)) ∧ cont zs f' (n - outN q n) = (cont zs f n).drop (outN q n)) ∧ Kp b v w w' := by
  have HP := Aside0.mk (peek_calls h 0 q)
  have H := Aside0.mk h
  have hl : (cont zs f n).length = n := cont_length _ _ _
  have hpl : (peekF (cont zs f n) 0 q).length = outN q n := by rw [peekF_len, hl]
  have hpt : peekF (cont zs f n) 0 q = (cont zs f n).take (outN q n) := by rw [peekF_take, hl]
  have hon : outN ((outN q n : Nat) : Int) n = outN q n := by
    unfold outN; (repeat' split) <;> omega
  have HE := Aside0.mk (And.intro hpl (And.intro hpt hon))
  clear h hl hpl hpt hon
  go_enter Try.func19, Try.ntmps19
  go_wp2_with (first | (go_at_call 24; refine HP.out.mono ?_; rintro e w1 ⟨v1, rfl, hR, hB⟩; obtain ⟨A1, c1, rfl⟩ := Kd.R_slice hR; have HR := Aside0.mk hR; have HB := Aside0.mk hB; clear hR hB) | (go_at_call 23; refine (drop_calls (H.out.next HB.out) _ o0 o1).mono ?_; rintro e w2 ⟨rfl, f2, hH, hc, hK⟩; have H2 := Aside0.mk hH; have HC := Aside0.mk hc; have HK := Aside0.mk hK; clear hH hc hK))
  go_ret
  have hsz := HB.out.size
  have h2 := H2.out
  have hc2 := HC.out
  rw [HE.out.1, HE.out.2.2] at h2 hc2
  have hb := H.out.lt
  refine ⟨_, rfl, ?_, ⟨f2, h2, hc2⟩, (Kp.of_below HB.out).trans (HK.out v) (.inl rfl)⟩
  rw [← HE.out.2.1]
  exact row_move HR.out (fun k hk => (HK.out (.slice none 0 0)).block k (Kd.R_lt HR.out k hk) (by have := Kd.R_base HR.out k hk; omega) (by simp [Value.ownBlock]))
end Go.Proofs.Ytfmfpofbefgbgaa.HHose
