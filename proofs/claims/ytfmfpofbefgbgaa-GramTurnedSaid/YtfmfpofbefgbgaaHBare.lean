/- gram.Bare: for every datagram, its bytes without a check sum (written two by two by a method value), or that it is too long. Conditions: each theorem's own (what octet.Put16 answers is a hypothesis). -/
import Derived.Test.YtfmfpofbefgbgaaHExt
import Derived.StillTailTactics
import Derived.Outline
import Derived.WalkSpells
import Derived.WalkLawsBesides
namespace Go.Proofs.Ytfmfpofbefgbgaa.HBare
open Go.RowKit Go.Proofs.YtfmfpofbefgbgaaW.PrintWords Go.Proofs.YtfmfpofbefgbgaaW.PrintLast Go.Proofs.YtfmfpofbefgbgaaW.PrintMore
set_option linter.unusedVariables false
set_option linter.unusedSimpArgs false
/-- What octet.Put16 answers. -/
def PutBy (g : List Int → Int → Option (List Int)) : Prop := ∀ (A : Option Addr) (c : Nat) (l : List Int) (n : Int) (r : List Int) (w : World), Kd.C (Kd.int .u8) w A l.length l → l.length ≤ c → g l n = some r →
  Calls Try.prog 81 #[.slice A l.length c, .int .i64 n] w fun e w' => ∃ v0_ : Value, e = .returned (v0_) ∧ Kd.R (Kd.int .u8) 5 w' w.heap.size (fun _ => True) v0_ r ∧ Below w.heap.size w w'
/-- Only block b of what was there may have turned. -/
def Keep (b : Nat) (w w' : World) : Prop := (w'.os = w.os ∧ w'.tape = w.tape ∧ w'.output = w.output) ∧ w.heap.size ≤ w'.heap.size ∧ ∀ k, k < w.heap.size → k ≠ b → w'.heap[k]? = w.heap[k]?
theorem Keep.of_below {b : Nat} {w w' : World} (h : Below w.heap.size w w') : Keep b w w' := ⟨⟨h.os, h.tape, h.output⟩, h.size, fun k hk _ => h.block k hk⟩
theorem Keep.set {b : Nat} {w w' : World} (h : Keep b w w') (i : Nat) (v : Value) : Keep b w (w'.setCell ⟨b, i, none⟩ v) := ⟨h.1, by simpa using h.2.1, fun k hk hb => (Below.heap_setCell w' ⟨b, i, none⟩ v k hb).trans (h.2.2 k hk hb)⟩
/-- The writer at block b: what it has written. -/
structure Wr (W w : World) (b : Nat) (v : Value) (xs : List Int) : Prop where
  blk : w.heap[b]? = some (.cells #[v] 143 (0, 0))
  row : Kd.R (Kd.int .u8) 5 w W.heap.size (fun k => k ≠ b) v xs
  bel : Below W.heap.size W w
  lb : W.heap.size ≤ b
theorem Wr.cells {W w : World} {b : Nat} {v : Value} {xs : List Int} (h : Wr W w b v xs) : w.cell? ⟨b, 0, none⟩ = some v ∧ w.frozen? ⟨b, 0, none⟩ = false :=
  ⟨(blk_cell h.blk 0).trans rfl, blk_frozen h.blk 0⟩
theorem Wr.next {W w w2 : World} {b : Nat} {v v' : Value} {xs ys : List Int} (h : Wr W w b v xs) (hB : Below w.heap.size w w2) (hR : Kd.R (Kd.int .u8) 5 w2 w.heap.size (fun _ => True) v' ys) :
    Wr W (w2.setCell ⟨b, 0, none⟩ v') b v' ys :=
  ⟨blk_put (blk_below h.blk hB) 0 _ rfl, Kd.R_mono (Kd.R_far (p := ⟨b, 0, none⟩) (Kd.R_lower (Kd.R_newB hR h.blk) h.bel.size) (fun _ hk => hk.2) _) (fun _ hk => hk.2), (h.bel.trans (hB.mono h.bel.size)).setCell h.lb _, h.lb⟩
set_option maxRecDepth 100000 in
set_option maxHeartbeats 1000000 in
theorem two_calls (g : List Int → Int → Option (List Int)) (hg : PutBy g) (W : World) (b : Nat) (v : Value) (xs ys : List Int) (n : Int) (w : World) (h : Wr W w b v xs) (hy : g xs n = some ys) :
    Calls Try.prog 82 #[.pointer (some ⟨b, 0, none⟩), .int .i64 n] w fun e w' => (∃ u, e = .returned u) ∧ ∃ v', Wr W w' b v' ys ∧ Keep b w w' := by
  obtain ⟨z0, y0⟩ := h.cells
  obtain ⟨A, c, rfl, hc, hC⟩ := Kd.R_reads h.row
  have HG := Aside0.mk (hg A c xs n ys w hC hc hy)
  have H := Aside0.mk h
  clear h hy hg hC hc
  go_enter Try.func82, Try.ntmps82
  go_wp2_with (go_at_call 81; refine HG.out.mono ?_; rintro e w2 ⟨v', rfl, hR, hB⟩; obtain ⟨A', c', rfl⟩ := Kd.R_slice hR; have HB := Aside0.mk hB; have HR := Aside0.mk hR; have hblk := blk_below H.out.blk hB; obtain ⟨z2, y2⟩ : w2.cell? ⟨b, 0, none⟩ = some (.slice A xs.length c) ∧ w2.frozen? ⟨b, 0, none⟩ = false := ⟨(blk_cell hblk 0).trans rfl, blk_frozen hblk 0⟩; clear hB hR hblk)
  go_end0
  exact ⟨⟨_, rfl⟩, _, H.out.next HB.out HR.out, (Keep.of_below HB.out).set _ _⟩
/-- Numbers written one behind the other. -/
def runG (g : List Int → Int → Option (List Int)) : List Int → List Int → Option (List Int)
  | xs, [] => some xs
  | xs, n :: ns => (g xs n).bind fun ys => runG g ys ns
/-- The head's numbers. -/
def nums4 (a0 a1 n : Int) : List Int := [a0, a1, n, 0]
def bareF (g : List Int → Int → Option (List Int)) (a0 a1 : Int) (l2 : List Int) : Option (List Int × Int) :=
  if l2.length ≤ 65507 then (runG g [] (nums4 a0 a1 (8 + (l2.length : Int)))).bind fun xs => if xs.length + l2.length < 140737488355328 then some (xs ++ l2, 0) else none else if l2.length ≤ 140737488351232 then some ([], 9) else none
theorem wid (n : Int) (h0 : -4611686018427387904 ≤ n) (h1 : n ≤ 4611686018427387904) : IntKind.i64.wrap n = n := by simp [IntKind.wrap, IntKind.bits, IntKind.signed]; omega
theorem info5 : (Try.prog.info? 5).map (fun i => (i.zero, i.size, i.bytes)) = some (some (.int .u8 0), 1, 1) := by kernel_rfl
def num : Value → Nat
  | .int _ n => n.toNat
  | _ => 0
/-- What holds ahead of a round. -/
structure At (g : List Int → Int → Option (List Int)) (W w : World) (b L G : Nat) (a0 a1 : Int) (A2 : Option Addr) (n2 c2 : Nat) (n : Int) (rs : List Int) (k : Nat) (v : Value) (xs : List Int) : Prop where
  wr : Wr W w b v xs
  lit : w.heap[L]? = some (.cells #[.int .i64 a0, .int .i64 a1, .int .i64 n, .int .i64 0] 3 (0, 0))
  box : w.heap[G]? = some (.cells #[.int .u16 a0, .int .u16 a1, .slice A2 n2 c2] 80 (0, 0))
  ne : L ≠ b ∧ G ≠ b
  le : k ≤ 4
  run : runG g xs ((nums4 a0 a1 n).drop k) = some rs
theorem At.next {g : List Int → Int → Option (List Int)} {W w w' : World} {b L G : Nat} {a0 a1 : Int} {A2 : Option Addr} {n2 c2 : Nat} {n : Int} {rs : List Int} {k : Nat} {v v' : Value} {xs ys : List Int} (h : At g W w b L G a0 a1 A2 n2 c2 n rs k v xs) (hk : k < 4) (hw : Wr W w' b v' ys) (hK : Keep b w w') (hr : runG g ys ((nums4 a0 a1 n).drop (k + 1)) = some rs) :
    At g W w' b L G a0 a1 A2 n2 c2 n rs (k + 1) v' ys :=
  ⟨hw, (hK.2.2 _ (blk_lt h.lit) h.ne.1).trans h.lit, (hK.2.2 _ (blk_lt h.box) h.ne.2).trans h.box, h.ne, by omega, hr⟩
theorem At.drewN {g : List Int → Int → Option (List Int)} {W w : World} {b L G : Nat} {a0 a1 : Int} {A2 : Option Addr} {n2 c2 : Nat} {n : Int} {rs : List Int} {k : Nat} {v : Value} {xs : List Int} (h : At g W w b L G a0 a1 A2 n2 c2 n rs k v xs) (m : Nat) : At g W (w.drewN m) b L G a0 a1 A2 n2 c2 n rs k v xs :=
  ⟨⟨h.wr.blk, Kd.R_drewN h.wr.row m, pw_below_drewN h.wr.bel m, h.wr.lb⟩, h.lit, h.box, h.ne, h.le, h.run⟩
theorem nums4_cell (a0 a1 n : Int) (k : Nat) (hk : k < 4) : (#[Value.int .i64 a0, .int .i64 a1, .int .i64 n, .int .i64 0] : Array Value)[k]? = some (.int .i64 ((nums4 a0 a1 n).getD k 0)) := by
  match k, hk with
  | 0, _ => rfl
  | 1, _ => rfl
  | 2, _ => rfl
  | 3, _ => rfl
theorem nums4_drop (a0 a1 n : Int) (k : Nat) (hk : k < 4) : (nums4 a0 a1 n).drop k = (nums4 a0 a1 n).getD k 0 :: (nums4 a0 a1 n).drop (k + 1) := by
  match k, hk with
  | 0, _ => rfl
  | 1, _ => rfl
  | 2, _ => rfl
  | 3, _ => rfl
set_option maxRecDepth 100000 in
set_option maxHeartbeats 2000000 in
theorem bare_calls (g : List Int → Int → Option (List Int)) (hg : PutBy g) (a0 a1 : Int) (A2 : Option Addr) (c2 : Nat) (l2 : List Int) (r : List Int × Int) (w : World) (b0 : 0 ≤ a0 ∧ a0 ≤ 65535) (b1 : 0 ≤ a1 ∧ a1 ≤ 65535) (hr2 : Kd.C (Kd.int .u8) w A2 l2.length l2) (hc2 : l2.length ≤ c2) (h : bareF g a0 a1 l2 = some r) :
    Calls Try.prog 60 #[.agg #[.int .u16 a0, .int .u16 a1, .slice A2 l2.length c2]] w fun e w' => ∃ v0_ : Value, e = .returned (.tuple #[v0_, .int .i64 r.2]) ∧ Kd.R (Kd.int .u8) 5 w' w.heap.size (fun _ => True) v0_ r.1 ∧ Below w.heap.size w w' := by
  unfold bareF at h
  by_cases hl : l2.length ≤ 65507
  · rw [if_pos hl] at h
    obtain ⟨rs, hrs, h⟩ := Option.bind_eq_some_iff.1 h
    by_cases hs : rs.length + l2.length < 140737488355328
    · rw [if_pos hs] at h
      obtain rfl := Option.some.inj h
      have d0 : decide (65507 < (l2.length : Int)) = false := decide_eq_false (by omega)
      have d1 : decide (65507 < l2.length) = false := decide_eq_false (by omega)
      have e0 : IntKind.i64.wrap (8 + (l2.length : Int)) = 8 + (l2.length : Int) := wid _ (by omega) (by omega)
      have e1 : IntKind.i64.wrap a0 = a0 := wid _ (by omega) (by omega)
      have e2 : IntKind.i64.wrap a1 = a1 := wid _ (by omega) (by omega)
      have HR := Aside0.mk hr2
      have HC := Aside0.mk hc2
      have HN := Aside0.mk hrs
      have HG := Aside0.mk hg
      have HS := Aside0.mk hs
      have hmf : ∀ (fn : Fn) (first cap : Array Value) (w : World), (Instr.makeFunc fn first cap).run Try.prog w = .ok (.func fn first cap) w := fun _ _ _ _ => rfl
      clear hr2 hc2 hrs hg hs h
      go_enter Try.func60, Try.ntmps60
      go_wp2
      have HH : Aside0 (∃ v xs, At g w (((w.alloc (.cells #[.int .u16 a0, .int .u16 a1, .slice A2 l2.length c2] 80)).alloc (.cells #[.slice none 0 0] 143)).alloc (.cells #[.int .i64 a0, .int .i64 a1, .int .i64 (8 + (l2.length : Int)), .int .i64 0] 3)) (w.heap.size + 1) (w.heap.size + 1 + 1) w.heap.size a0 a1 A2 l2.length c2 (8 + (l2.length : Int)) rs 0 v xs) :=
        ⟨.slice none 0 0, [], ⟨⟨by simpa using blk_alloc (Go.heap_alloc_new (w.alloc (.cells #[.int .u16 a0, .int .u16 a1, .slice A2 l2.length c2] 80)) (.cells #[.slice none 0 0] 143)) _, Kd.R_nil _ _ _ _ _, (((Below.refl _ _).alloc (Nat.le_refl _) _).alloc (by simp) _).alloc (by simp; omega) _, by omega⟩,
          by simpa using Go.heap_alloc_new (((w.alloc (.cells #[.int .u16 a0, .int .u16 a1, .slice A2 l2.length c2] 80)).alloc (.cells #[.slice none 0 0] 143))) (.cells #[.int .i64 a0, .int .i64 a1, .int .i64 (8 + (l2.length : Int)), .int .i64 0] 3), blk_alloc (blk_alloc (Go.heap_alloc_new _ _) _) _, ⟨by omega, by omega⟩, by omega, HN.out⟩⟩
      go_loopw [28] (fun o wr => ∃ k : Nat, o = .int .i64 k ∧ Aside0 (∃ v xs, At g w wr (w.heap.size + 1) (w.heap.size + 1 + 1) w.heap.size a0 a1 A2 l2.length c2 (8 + (l2.length : Int)) rs k v xs)) (fun o _ => 4 - num o)
      case atStart => exact ⟨0, rfl, HH⟩
      case round =>
        (try clear HH HN)
        obtain ⟨k, rfl, ⟨v, xs, hA⟩⟩ := hrel
        have hk4 := hA.le
        by_cases hk : k < 4
        · have c0 : decide ((k : Int) < 4) = true := decide_eq_true (by omega)
          have c1 : decide (k < 4) = true := decide_eq_true hk
          have c2' : ((k : Int) < 4) = True := eq_true (by omega)
          have c3 : (k < 4) = True := eq_true hk
          have e5 : IntKind.i64.wrap ((k : Int) + 1) = (k : Int) + 1 := wid _ (by omega) (by omega)
          have hx : wr.cell? ⟨w.heap.size + 1 + 1, k, none⟩ = some (.int .i64 ((nums4 a0 a1 (8 + (l2.length : Int))).getD k 0)) := (blk_cell hA.lit k).trans (nums4_cell _ _ _ _ hk)
          obtain ⟨ys, hy, hy2⟩ := Option.bind_eq_some_iff.1 (show ((g xs ((nums4 a0 a1 (8 + (l2.length : Int))).getD k 0)).bind fun ys => runG g ys ((nums4 a0 a1 (8 + (l2.length : Int))).drop (k + 1))) = some rs by have := hA.run; rw [nums4_drop _ _ _ _ hk] at this; exact this)
          have HT := Aside0.mk (two_calls g HG.out w (w.heap.size + 1) v xs ys ((nums4 a0 a1 (8 + (l2.length : Int))).getD k 0) wr hA.wr hy)
          have HA := Aside0.mk (fun w' v' h1 h2 => hA.next (w' := w') (v' := v') hk h1 h2 hy2)
          have HK := Aside0.mk hk
          generalize (nums4 a0 a1 (8 + (l2.length : Int))).getD k 0 = m at hx HT
          clear hA hy hy2 hk hk4
          go_wp2_with (go_at_call 82; refine HT.out.mono ?_; rintro e w2 ⟨⟨u, rfl⟩, v', hW, hK⟩; have HW := Aside0.mk hW; have HKp := Aside0.mk hK; clear hW hK)
          go_roundw
          case rel => exact ⟨k + 1, by go_num, ⟨_, _, HA.out _ _ HW.out HKp.out⟩⟩
          case measure => simp only [num]; have := HK.out; omega
        · have c1 : decide ((k : Int) < 4) = false := decide_eq_false (by omega)
          have c2' : decide (k < 4) = false := decide_eq_false hk
          obtain rfl : k = 4 := by omega
          obtain rfl : xs = rs := Option.some.inj hA.run
          obtain ⟨z0, y0⟩ := hA.wr.cells
          have hb2 : wr.cell? ⟨w.heap.size, 2, none⟩ = some (.slice A2 l2.length c2) := (blk_cell hA.box 2).trans rfl
          obtain ⟨A, c, rfl, hc, -⟩ := Kd.R_reads hA.wr.row
          have HO := Aside0.mk (Kd.R_mono (ok' := fun _ => True) hA.wr.row (fun _ _ => trivial))
          have HB := Aside0.mk hA.wr.bel
          have HX := Aside0.mk (Kd.C_below HR.out hA.wr.bel)
          clear hA hk hk4 d0 d1 e0 e1 e2 c1 hc
          go_wp2
          go_still_tail 6, (by kernel_rfl)
          have HB := Aside0.mk (below_drew HB.out)
          have HO := Aside0.mk (Kd.R_drew HO.out)
          have HX := Aside0.mk (Kd.C_drew HX.out)
          change wpList _ _ _ _ _ wr.drew
          generalize wr.drew = W4 at HB HO HX ⊢
          go_wp2_with (((with_reducible refine gate_builtin (b := .append) (xs := #[.tmp 39, .tmp 41]) rfl ?_); at_builtin; refine Kd.R_append_rows (Kd.int .u8) (w0 := w) w.heap.size rfl (.tmp 39) (.tmp 41) 23 5 (.int .u8 0) 1 rfl Try.underlying23 info5 rfl (by decide) (by omega) (.slice A xs.length c) xs l2 _ _ _ (fun _ => True) (fun _ => False) rfl rfl ?aO ?aR (fun _ _ h => h) (fun _ h => h.elim) ?aF ?aB ?aS ?aL ?_; (case aR => exact HX.out); (case aB => exact HB.out); (case aF => exact (fun _ _ => trivial)); (case aO => exact HO.out); (case aS => exact HB.out.size); (case aL => have := HS.out; omega); intro v5 w5 ho hb hg hat; have HO5 := Aside0.mk ho; have HB5 := Aside0.mk hb; clear ho hb hg hat))
          go_ret2
          exact ⟨_, rfl, HO5.out, HB5.out⟩
    · rw [if_neg hs] at h
      cases h
  · rw [if_neg hl] at h
    by_cases hm : l2.length ≤ 140737488351232
    · rw [if_pos hm] at h
      obtain rfl := Option.some.inj h
      have d0 : decide (65507 < (l2.length : Int)) = true := decide_eq_true (by omega)
      have d1 : decide (65507 < l2.length) = true := decide_eq_true (by omega)
      clear hr2 hc2 h hg
      go_enter Try.func60, Try.ntmps60
      go_wp2
      go_ret2
      exact ⟨_, rfl, Kd.R_nil _ _ _ _ _, (Below.refl _ _).alloc (Nat.le_refl _) _⟩
    · rw [if_neg hm] at h
      cases h
end Go.Proofs.Ytfmfpofbefgbgaa.HBare
