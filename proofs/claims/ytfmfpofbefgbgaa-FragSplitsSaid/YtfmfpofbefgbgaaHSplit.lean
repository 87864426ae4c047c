/- frag.Split: what it computes. Conditions: each theorem's own. -/
import Derived.Test.YtfmfpofbefgbgaaPFrbx1
import Derived.Test.YtfmfpofbefgbgaaPFrbx2
import Derived.Test.YtfmfpofbefgbgaaPFrbx3
import Derived.Test.YtfmfpofbefgbgaaHCar2
namespace Go.Proofs.Ytfmfpofbefgbgaa.HSplit
open Go.RowKit Go.Proofs.YtfmfpofbefgbgaaW.PrintWords Go.Proofs.YtfmfpofbefgbgaaW.PrintLast Go.Proofs.YtfmfpofbefgbgaaW.PrintMore Go.Proofs.Ytfmfpofbefgbgaa.PFrb Go.Proofs.Ytfmfpofbefgbgaa.HCar
set_option linter.unusedVariables false
set_option linter.unusedSimpArgs false
theorem w64 (n : Int) (h0 : -4611686018427387904 ≤ n) (h1 : n ≤ 4611686018427387904) : wrap64 n = n := by unfold wrap64; omega
def lenP (p : S68) : Int := 20 + (p.f9.length : Int) + p.f10.length
def chk (p : S68) : Int := if p.f4 < 0 ∨ 8191 < p.f4 ∨ 40 < p.f9.length ∨ p.f9.length % 4 ≠ 0 then 1 else if 65535 < lenP p then 9 else 0
def Fit (p : S68) : Prop := p.f9.length ≤ 100000 ∧ p.f10.length ≤ 100000
theorem len_f (p : S68) (h : Fit p) : ip_Len.f p.f0 p.f1 p.f2 p.f3 p.f4 p.f5 p.f6 p.f7 p.f8 p.f9 p.f10 = some (lenP p) := by
  unfold ip_Len.f lenP
  unfold Fit at h
  rw [w64 (20 + (p.f9.length : Int)) (by omega) (by omega), w64 _ (by omega) (by omega)]
theorem chk_f (p : S68) (h : Fit p) : ip_Check.f 3 p.f0 p.f1 p.f2 p.f3 p.f4 p.f5 p.f6 p.f7 p.f8 p.f9 p.f10 = some (chk p) := by
  unfold ip_Check.f chk
  have hl := len_f p h
  by_cases c1 : p.f4 < 0
  · rw [if_pos c1, if_pos (.inl c1)]; rfl
  rw [if_neg c1]
  by_cases c2 : 8191 < p.f4
  · rw [if_pos (.inr (.inl c2)), decide_eq_true (show p.f4 > 8191 from c2)]; rfl
  rw [decide_eq_false (show ¬ p.f4 > 8191 from c2)]
  simp only [ip_Check.j0, Bool.false_eq_true, if_false]
  by_cases c3 : 40 < p.f9.length
  · rw [if_pos (show (p.f9.length : Int) > 40 by omega), if_pos (.inr (.inr (.inl c3))), decide_eq_true (show (p.f9.length : Int) > 40 by omega)]; rfl
  rw [if_neg (show ¬ (p.f9.length : Int) > 40 by omega)]
  by_cases c4 : p.f9.length % 4 = 0
  · rw [show (((p.f9.length : Int) % 4) != 0) = false by simp; omega, if_neg (by omega)]
    simp only [ip_Check.j1, Bool.false_eq_true, if_false, hl, Option.bind_some]
    by_cases c5 : 65535 < lenP p
    · rw [if_pos c5, if_pos c5]
    · rw [if_neg c5, if_neg c5]
  · rw [show (((p.f9.length : Int) % 4) != 0) = true by simp; omega, if_pos (.inr (.inr (.inr c4)))]
    rfl
/-- How many bytes go into the line behind a head with o bytes of options. -/
def room (mtu : Int) (o : Nat) : Nat := ((mtu - 20 - o) / 8 * 8).toNat
/-- The piece that begins at a. -/
def piece (p : S68) (c : List Int) (mtu : Int) (a : Nat) : S68 :=
  let o := if 0 < a then c else p.f9
  let d := p.f10.drop a
  if mtu < 20 + (o.length : Int) + d.length then { p with f3 := true, f4 := p.f4 + (a : Int) / 8, f9 := o, f10 := d.take (room mtu o.length) } else { p with f4 := p.f4 + (a : Int) / 8, f9 := o, f10 := d }
/-- The pieces from a on, behind those of out; none: one lies too far behind. -/
def pcs (p : S68) (c : List Int) (mtu : Int) : Nat → Nat → List S68 → Option (List S68)
  | 0, _, out => some out
  | k + 1, a, out => if a < p.f10.length then (if 8191 < (piece p c mtu a).f4 then none else pcs p c mtu k (a + (piece p c mtu a).f10.length) (out ++ [piece p c mtu a])) else some out
/-- What Split answers; (c, e): what its options come to. -/
def splitF (p : S68) (mtu : Int) (c : List Int) (e : Int) : List S68 × Int :=
  if chk p ≠ 0 then ([], chk p)
  else if mtu < 68 ∨ 65535 < mtu then ([], 1)
  else if lenP p ≤ mtu then ([p], 0)
  else if p.f2 then ([], 110)
  else if e ≠ 0 then ([], e)
  else match pcs p c mtu (p.f10.length + 1) 0 [] with
    | none => ([], 8)
    | some l => (l, 0)
theorem chk_zero {p : S68} (h : chk p = 0) : 0 ≤ p.f4 ∧ p.f4 ≤ 8191 ∧ p.f9.length ≤ 40 ∧ p.f9.length % 4 = 0 ∧ lenP p ≤ 65535 := by
  unfold chk at h
  split at h
  · cases h
  · split at h
    · cases h
    · omega
theorem R_one {α : Type} {d : Kd α} {e base g : Nat} {w : World} {x : α} {cs : List Value} {okp : Nat → Prop} (hg : w.heap[g]? = some (.cells cs.toArray e (0, 0))) (hb : base ≤ g) (hm : d.M w base okp x cs) (hok : ∀ k, okp k → k ≠ g) : d.R e w base (fun _ => True) (.slice (some ⟨g, 0, none⟩) 1 1) [x] := by
  have hl := d.K_len (d.K_of_M hm)
  refine ⟨fun _ _ => trivial, cs, ⟨by simpa using hl, .inr ⟨g, 1, cs.toArray, rfl, hb, hg, Nat.le_refl _, by decide, by simpa using hl, by exact List.take_of_length_le (by simp; omega)⟩⟩, ?_⟩
  have := (Reps.none (d.M w base (fun k => True ∧ some k ≠ (Value.slice (some ⟨g, 0, none⟩) 1 1).ownBlock)) d.sz).snoc (p := x) (c := cs) (d.M_mono (fun k hk => ⟨trivial, fun e => hok k hk (by simpa [Value.ownBlock] using e)⟩) hm) hl
  simpa only [List.nil_append] using this
theorem len_copied (p : S68) (h : Fit p) : frag_copied.f p.f0 p.f1 p.f2 p.f3 p.f4 p.f5 p.f6 p.f7 p.f8 p.f9 p.f10 = some (p.f0, p.f1, p.f2, p.f3, p.f4, p.f5, p.f6, p.f7, p.f8, p.f9, p.f10) := by
  unfold frag_copied.f slices_Clone_byte_byte.f
  unfold Fit at h
  rw [if_pos (by omega), if_pos (by omega)]
  rfl
/-- The answer, told of a value and a world. -/
def Ans (w : World) (r : List S68 × Int) (e : Ending) (w' : World) : Prop := ∃ v : Value, e = .returned (.tuple #[v, .int .i64 r.2]) ∧ Kd.R k68 68 w' w.heap.size (fun _ => True) v r.1 ∧ Below w.heap.size w w'
set_option maxRecDepth 100000 in
set_option maxHeartbeats 16000000 in
theorem split_chk (a0 a1 : Int) (a2 a3 : Bool) (a4 a5 a6 a7 a8 : Int) (A9 : Option Addr) (N9 c9 : Nat) (l9 : List Int) (A10 : Option Addr) (N10 c10 : Nat) (l10 : List Int) (mtu : Int) (c : List Int) (e : Int) (w : World)
    (hn9 : l9.length = N9) (hr9 : Kd.C (Kd.int .u8) w A9 N9 l9) (hc9 : N9 ≤ c9) (hn10 : l10.length = N10) (hr10 : Kd.C (Kd.int .u8) w A10 N10 l10) (hc10 : N10 ≤ c10) (hfit : Fit ⟨a0, a1, a2, a3, a4, a5, a6, a7, a8, l9, l10⟩) (h0 : chk ⟨a0, a1, a2, a3, a4, a5, a6, a7, a8, l9, l10⟩ ≠ 0) :
    Calls Try.prog 40 #[.agg #[.int .u8 a0, .int .u16 a1, .bool a2, .bool a3, .int .i64 a4, .int .u8 a5, .int .u8 a6, .int .u32 a7, .int .u32 a8, .slice A9 N9 c9, .slice A10 N10 c10], .int .i64 mtu] w (Ans w (splitF ⟨a0, a1, a2, a3, a4, a5, a6, a7, a8, l9, l10⟩ mtu c e)) := by
  rw [show splitF ⟨a0, a1, a2, a3, a4, a5, a6, a7, a8, l9, l10⟩ mtu c e = ([], chk ⟨a0, a1, a2, a3, a4, a5, a6, a7, a8, l9, l10⟩) from if_pos h0]
  have b1 : (chk ⟨a0, a1, a2, a3, a4, a5, a6, a7, a8, l9, l10⟩ != 0) = true := bne_iff_ne.2 h0
  have b2 : decide (chk ⟨a0, a1, a2, a3, a4, a5, a6, a7, a8, l9, l10⟩ = 0) = false := decide_eq_false h0
  clear h0
  have HF := Aside0.mk (show l9.length ≤ 100000 ∧ l10.length ≤ 100000 from hfit)
  have HC9 := Aside0.mk hc9
  have HC10 := Aside0.mk hc10
  have HB := Aside0.mk (below_alloc (Below.refl w.heap.size w) (.cells #[.int .u8 a0, .int .u16 a1, .bool a2, .bool a3, .int .i64 a4, .int .u8 a5, .int .u8 a6, .int .u32 a7, .int .u32 a8, .slice A9 N9 c9, .slice A10 N10 c10] 68))
  have HGP := Aside0.mk (blk_new w (.cells #[.int .u8 a0, .int .u16 a1, .bool a2, .bool a3, .int .i64 a4, .int .u8 a5, .int .u8 a6, .int .u32 a7, .int .u32 a8, .slice A9 N9 c9, .slice A10 N10 c10] 68))
  have HR9 := Aside0.mk (Kd.C_below hr9 HB.out)
  have HR10 := Aside0.mk (Kd.C_below hr10 HB.out)
  have hck := (fun (W : World) (hW : Below w.heap.size w W) => ip_Check.calls 3 a0 a1 a2 a3 a4 a5 a6 a7 a8 A9 c9 l9 A10 c10 l10 _ W (by rw [hn9]; exact Kd.C_below hr9 hW) (by rw [hn9]; exact hc9) (by rw [hn10]; exact Kd.C_below hr10 hW) (by rw [hn10]; exact hc10) (chk_f ⟨a0, a1, a2, a3, a4, a5, a6, a7, a8, l9, l10⟩ hfit))
  have hle := (fun (W : World) (hW : Below w.heap.size w W) => ip_Len.calls a0 a1 a2 a3 a4 a5 a6 a7 a8 A9 c9 l9 A10 c10 l10 _ W (by rw [hn9]; exact Kd.C_below hr9 hW) (by rw [hn9]; exact hc9) (by rw [hn10]; exact Kd.C_below hr10 hW) (by rw [hn10]; exact hc10) (len_f ⟨a0, a1, a2, a3, a4, a5, a6, a7, a8, l9, l10⟩ hfit))
  have hco := (fun (W : World) (hW : Below w.heap.size w W) => frag_copied.calls a0 a1 a2 a3 a4 a5 a6 a7 a8 A9 c9 l9 A10 c10 l10 a0 a1 a2 a3 a4 a5 a6 a7 a8 l9 l10 W (by rw [hn9]; exact Kd.C_below hr9 hW) (by rw [hn9]; exact hc9) (by rw [hn10]; exact Kd.C_below hr10 hW) (by rw [hn10]; exact hc10) (len_copied ⟨a0, a1, a2, a3, a4, a5, a6, a7, a8, l9, l10⟩ hfit))
  rw [hn9, hn10] at hck hle hco
  have HCK := Aside0.mk hck
  have HLE := Aside0.mk hle
  have HCO := Aside0.mk hco
  have HNN := Aside0.mk (And.intro hn9 hn10)
  clear hr9 hc9 hr10 hc10 hfit hn9 hn10 hck hle hco
  go_enter Try.func40, Try.ntmps40
  go_upto_region 1 with (fail)
  obtain ⟨gp, hgp⟩ : ∃ gp, gp = w.heap.size := ⟨_, rfl⟩
  have HGE := Aside0.mk hgp
  rw [← hgp] at HGP ⊢
  clear hgp
  generalize w.alloc (.cells #[.int .u8 a0, .int .u16 a1, .bool a2, .bool a3, .int .i64 a4, .int .u8 a5, .int .u8 a6, .int .u32 a7, .int .u32 a8, .slice A9 N9 c9, .slice A10 N10 c10] 68) = w1 at HB HGP HR9 HR10 ⊢
  have p0 := (blk_cell HGP.out 0).trans rfl; have p1 := (blk_cell HGP.out 1).trans rfl; have p2 := (blk_cell HGP.out 2).trans rfl; have p3 := (blk_cell HGP.out 3).trans rfl; have p4 := (blk_cell HGP.out 4).trans rfl; have p5 := (blk_cell HGP.out 5).trans rfl; have p6 := (blk_cell HGP.out 6).trans rfl; have p7 := (blk_cell HGP.out 7).trans rfl; have p8 := (blk_cell HGP.out 8).trans rfl; have p9 := (blk_cell HGP.out 9).trans rfl; have p10 := (blk_cell HGP.out 10).trans rfl
  go_wp2_with (go_at_call 68; have hh := HCK.out _ HB.out; with_reducible refine hh.mono ?_; clear hh; rintro e2 w2 ⟨rfl, hB⟩; replace HB := Aside0.mk (below_step HB.out hB); replace HGP := Aside0.mk (blk_below HGP.out hB); replace HR9 := Aside0.mk (Kd.C_below HR9.out hB); replace HR10 := Aside0.mk (Kd.C_below HR10.out hB); clear hB p0 p1 p2 p3 p4 p5 p6 p7 p8 p9 p10; have p0 := (blk_cell HGP.out 0).trans rfl; have p1 := (blk_cell HGP.out 1).trans rfl; have p2 := (blk_cell HGP.out 2).trans rfl; have p3 := (blk_cell HGP.out 3).trans rfl; have p4 := (blk_cell HGP.out 4).trans rfl; have p5 := (blk_cell HGP.out 5).trans rfl; have p6 := (blk_cell HGP.out 6).trans rfl; have p7 := (blk_cell HGP.out 7).trans rfl; have p8 := (blk_cell HGP.out 8).trans rfl; have p9 := (blk_cell HGP.out 9).trans rfl; have p10 := (blk_cell HGP.out 10).trans rfl)
  go_ret2
  exact ⟨_, rfl, Kd.R_nil _ _ _ _ _, HB.out⟩
set_option maxRecDepth 100000 in
set_option maxHeartbeats 16000000 in
theorem split_mtu (a0 a1 : Int) (a2 a3 : Bool) (a4 a5 a6 a7 a8 : Int) (A9 : Option Addr) (N9 c9 : Nat) (l9 : List Int) (A10 : Option Addr) (N10 c10 : Nat) (l10 : List Int) (mtu : Int) (c : List Int) (e : Int) (w : World)
    (hn9 : l9.length = N9) (hr9 : Kd.C (Kd.int .u8) w A9 N9 l9) (hc9 : N9 ≤ c9) (hn10 : l10.length = N10) (hr10 : Kd.C (Kd.int .u8) w A10 N10 l10) (hc10 : N10 ≤ c10) (hfit : Fit ⟨a0, a1, a2, a3, a4, a5, a6, a7, a8, l9, l10⟩) (h0 : chk ⟨a0, a1, a2, a3, a4, a5, a6, a7, a8, l9, l10⟩ = 0) (h1 : mtu < 68 ∨ 65535 < mtu) :
    Calls Try.prog 40 #[.agg #[.int .u8 a0, .int .u16 a1, .bool a2, .bool a3, .int .i64 a4, .int .u8 a5, .int .u8 a6, .int .u32 a7, .int .u32 a8, .slice A9 N9 c9, .slice A10 N10 c10], .int .i64 mtu] w (Ans w (splitF ⟨a0, a1, a2, a3, a4, a5, a6, a7, a8, l9, l10⟩ mtu c e)) := by
  rw [show splitF ⟨a0, a1, a2, a3, a4, a5, a6, a7, a8, l9, l10⟩ mtu c e = ([], 1) from by unfold splitF; rw [if_neg (by rw [h0]; decide), if_pos h1]]
  have b1 : (chk ⟨a0, a1, a2, a3, a4, a5, a6, a7, a8, l9, l10⟩ != 0) = false := by rw [h0]; rfl
  have b2 : decide (chk ⟨a0, a1, a2, a3, a4, a5, a6, a7, a8, l9, l10⟩ = 0) = true := decide_eq_true h0
  by_cases m1 : mtu < 68
  · have d1 : decide (mtu < 68) = true := decide_eq_true m1
    clear h1 m1
    have HF := Aside0.mk (show l9.length ≤ 100000 ∧ l10.length ≤ 100000 from hfit)
    have HC9 := Aside0.mk hc9
    have HC10 := Aside0.mk hc10
    have HB := Aside0.mk (below_alloc (Below.refl w.heap.size w) (.cells #[.int .u8 a0, .int .u16 a1, .bool a2, .bool a3, .int .i64 a4, .int .u8 a5, .int .u8 a6, .int .u32 a7, .int .u32 a8, .slice A9 N9 c9, .slice A10 N10 c10] 68))
    have HGP := Aside0.mk (blk_new w (.cells #[.int .u8 a0, .int .u16 a1, .bool a2, .bool a3, .int .i64 a4, .int .u8 a5, .int .u8 a6, .int .u32 a7, .int .u32 a8, .slice A9 N9 c9, .slice A10 N10 c10] 68))
    have HR9 := Aside0.mk (Kd.C_below hr9 HB.out)
    have HR10 := Aside0.mk (Kd.C_below hr10 HB.out)
    have hck := (fun (W : World) (hW : Below w.heap.size w W) => ip_Check.calls 3 a0 a1 a2 a3 a4 a5 a6 a7 a8 A9 c9 l9 A10 c10 l10 _ W (by rw [hn9]; exact Kd.C_below hr9 hW) (by rw [hn9]; exact hc9) (by rw [hn10]; exact Kd.C_below hr10 hW) (by rw [hn10]; exact hc10) (chk_f ⟨a0, a1, a2, a3, a4, a5, a6, a7, a8, l9, l10⟩ hfit))
    have hle := (fun (W : World) (hW : Below w.heap.size w W) => ip_Len.calls a0 a1 a2 a3 a4 a5 a6 a7 a8 A9 c9 l9 A10 c10 l10 _ W (by rw [hn9]; exact Kd.C_below hr9 hW) (by rw [hn9]; exact hc9) (by rw [hn10]; exact Kd.C_below hr10 hW) (by rw [hn10]; exact hc10) (len_f ⟨a0, a1, a2, a3, a4, a5, a6, a7, a8, l9, l10⟩ hfit))
    have hco := (fun (W : World) (hW : Below w.heap.size w W) => frag_copied.calls a0 a1 a2 a3 a4 a5 a6 a7 a8 A9 c9 l9 A10 c10 l10 a0 a1 a2 a3 a4 a5 a6 a7 a8 l9 l10 W (by rw [hn9]; exact Kd.C_below hr9 hW) (by rw [hn9]; exact hc9) (by rw [hn10]; exact Kd.C_below hr10 hW) (by rw [hn10]; exact hc10) (len_copied ⟨a0, a1, a2, a3, a4, a5, a6, a7, a8, l9, l10⟩ hfit))
    rw [hn9, hn10, h0] at hck
    rw [hn9, hn10] at hle hco
    have HCK := Aside0.mk hck
    have HLE := Aside0.mk hle
    have HCO := Aside0.mk hco
    have HNN := Aside0.mk (And.intro hn9 hn10)
    clear b1 b2 hr9 hc9 hr10 hc10 hfit hn9 hn10 hck hle hco
    go_enter Try.func40, Try.ntmps40
    go_upto_region 1 with (fail)
    obtain ⟨gp, hgp⟩ : ∃ gp, gp = w.heap.size := ⟨_, rfl⟩
    have HGE := Aside0.mk hgp
    rw [← hgp] at HGP ⊢
    clear hgp
    generalize w.alloc (.cells #[.int .u8 a0, .int .u16 a1, .bool a2, .bool a3, .int .i64 a4, .int .u8 a5, .int .u8 a6, .int .u32 a7, .int .u32 a8, .slice A9 N9 c9, .slice A10 N10 c10] 68) = w1 at HB HGP HR9 HR10 ⊢
    have p0 := (blk_cell HGP.out 0).trans rfl; have p1 := (blk_cell HGP.out 1).trans rfl; have p2 := (blk_cell HGP.out 2).trans rfl; have p3 := (blk_cell HGP.out 3).trans rfl; have p4 := (blk_cell HGP.out 4).trans rfl; have p5 := (blk_cell HGP.out 5).trans rfl; have p6 := (blk_cell HGP.out 6).trans rfl; have p7 := (blk_cell HGP.out 7).trans rfl; have p8 := (blk_cell HGP.out 8).trans rfl; have p9 := (blk_cell HGP.out 9).trans rfl; have p10 := (blk_cell HGP.out 10).trans rfl
    go_wp2_with (go_at_call 68; have hh := HCK.out _ HB.out; with_reducible refine hh.mono ?_; clear hh; rintro e2 w2 ⟨rfl, hB⟩; replace HB := Aside0.mk (below_step HB.out hB); replace HGP := Aside0.mk (blk_below HGP.out hB); replace HR9 := Aside0.mk (Kd.C_below HR9.out hB); replace HR10 := Aside0.mk (Kd.C_below HR10.out hB); clear hB p0 p1 p2 p3 p4 p5 p6 p7 p8 p9 p10; have p0 := (blk_cell HGP.out 0).trans rfl; have p1 := (blk_cell HGP.out 1).trans rfl; have p2 := (blk_cell HGP.out 2).trans rfl; have p3 := (blk_cell HGP.out 3).trans rfl; have p4 := (blk_cell HGP.out 4).trans rfl; have p5 := (blk_cell HGP.out 5).trans rfl; have p6 := (blk_cell HGP.out 6).trans rfl; have p7 := (blk_cell HGP.out 7).trans rfl; have p8 := (blk_cell HGP.out 8).trans rfl; have p9 := (blk_cell HGP.out 9).trans rfl; have p10 := (blk_cell HGP.out 10).trans rfl)
    go_ret2
    exact ⟨_, rfl, Kd.R_nil _ _ _ _ _, HB.out⟩
  have d1 : decide (mtu < 68) = false := decide_eq_false m1
  have d2 : decide (65535 < mtu) = true := decide_eq_true (by omega)
  clear h1 m1
  have HF := Aside0.mk (show l9.length ≤ 100000 ∧ l10.length ≤ 100000 from hfit)
  have HC9 := Aside0.mk hc9
  have HC10 := Aside0.mk hc10
  have HB := Aside0.mk (below_alloc (Below.refl w.heap.size w) (.cells #[.int .u8 a0, .int .u16 a1, .bool a2, .bool a3, .int .i64 a4, .int .u8 a5, .int .u8 a6, .int .u32 a7, .int .u32 a8, .slice A9 N9 c9, .slice A10 N10 c10] 68))
  have HGP := Aside0.mk (blk_new w (.cells #[.int .u8 a0, .int .u16 a1, .bool a2, .bool a3, .int .i64 a4, .int .u8 a5, .int .u8 a6, .int .u32 a7, .int .u32 a8, .slice A9 N9 c9, .slice A10 N10 c10] 68))
  have HR9 := Aside0.mk (Kd.C_below hr9 HB.out)
  have HR10 := Aside0.mk (Kd.C_below hr10 HB.out)
  have hck := (fun (W : World) (hW : Below w.heap.size w W) => ip_Check.calls 3 a0 a1 a2 a3 a4 a5 a6 a7 a8 A9 c9 l9 A10 c10 l10 _ W (by rw [hn9]; exact Kd.C_below hr9 hW) (by rw [hn9]; exact hc9) (by rw [hn10]; exact Kd.C_below hr10 hW) (by rw [hn10]; exact hc10) (chk_f ⟨a0, a1, a2, a3, a4, a5, a6, a7, a8, l9, l10⟩ hfit))
  have hle := (fun (W : World) (hW : Below w.heap.size w W) => ip_Len.calls a0 a1 a2 a3 a4 a5 a6 a7 a8 A9 c9 l9 A10 c10 l10 _ W (by rw [hn9]; exact Kd.C_below hr9 hW) (by rw [hn9]; exact hc9) (by rw [hn10]; exact Kd.C_below hr10 hW) (by rw [hn10]; exact hc10) (len_f ⟨a0, a1, a2, a3, a4, a5, a6, a7, a8, l9, l10⟩ hfit))
  have hco := (fun (W : World) (hW : Below w.heap.size w W) => frag_copied.calls a0 a1 a2 a3 a4 a5 a6 a7 a8 A9 c9 l9 A10 c10 l10 a0 a1 a2 a3 a4 a5 a6 a7 a8 l9 l10 W (by rw [hn9]; exact Kd.C_below hr9 hW) (by rw [hn9]; exact hc9) (by rw [hn10]; exact Kd.C_below hr10 hW) (by rw [hn10]; exact hc10) (len_copied ⟨a0, a1, a2, a3, a4, a5, a6, a7, a8, l9, l10⟩ hfit))
  rw [hn9, hn10, h0] at hck
  rw [hn9, hn10] at hle hco
  have HCK := Aside0.mk hck
  have HLE := Aside0.mk hle
  have HCO := Aside0.mk hco
  have HNN := Aside0.mk (And.intro hn9 hn10)
  clear b1 b2 hr9 hc9 hr10 hc10 hfit hn9 hn10 hck hle hco
  go_enter Try.func40, Try.ntmps40
  go_upto_region 1 with (fail)
  obtain ⟨gp, hgp⟩ : ∃ gp, gp = w.heap.size := ⟨_, rfl⟩
  have HGE := Aside0.mk hgp
  rw [← hgp] at HGP ⊢
  clear hgp
  generalize w.alloc (.cells #[.int .u8 a0, .int .u16 a1, .bool a2, .bool a3, .int .i64 a4, .int .u8 a5, .int .u8 a6, .int .u32 a7, .int .u32 a8, .slice A9 N9 c9, .slice A10 N10 c10] 68) = w1 at HB HGP HR9 HR10 ⊢
  have p0 := (blk_cell HGP.out 0).trans rfl; have p1 := (blk_cell HGP.out 1).trans rfl; have p2 := (blk_cell HGP.out 2).trans rfl; have p3 := (blk_cell HGP.out 3).trans rfl; have p4 := (blk_cell HGP.out 4).trans rfl; have p5 := (blk_cell HGP.out 5).trans rfl; have p6 := (blk_cell HGP.out 6).trans rfl; have p7 := (blk_cell HGP.out 7).trans rfl; have p8 := (blk_cell HGP.out 8).trans rfl; have p9 := (blk_cell HGP.out 9).trans rfl; have p10 := (blk_cell HGP.out 10).trans rfl
  go_wp2_with (go_at_call 68; have hh := HCK.out _ HB.out; with_reducible refine hh.mono ?_; clear hh; rintro e2 w2 ⟨rfl, hB⟩; replace HB := Aside0.mk (below_step HB.out hB); replace HGP := Aside0.mk (blk_below HGP.out hB); replace HR9 := Aside0.mk (Kd.C_below HR9.out hB); replace HR10 := Aside0.mk (Kd.C_below HR10.out hB); clear hB p0 p1 p2 p3 p4 p5 p6 p7 p8 p9 p10; have p0 := (blk_cell HGP.out 0).trans rfl; have p1 := (blk_cell HGP.out 1).trans rfl; have p2 := (blk_cell HGP.out 2).trans rfl; have p3 := (blk_cell HGP.out 3).trans rfl; have p4 := (blk_cell HGP.out 4).trans rfl; have p5 := (blk_cell HGP.out 5).trans rfl; have p6 := (blk_cell HGP.out 6).trans rfl; have p7 := (blk_cell HGP.out 7).trans rfl; have p8 := (blk_cell HGP.out 8).trans rfl; have p9 := (blk_cell HGP.out 9).trans rfl; have p10 := (blk_cell HGP.out 10).trans rfl)
  go_ret2
  exact ⟨_, rfl, Kd.R_nil _ _ _ _ _, HB.out⟩
/-- A packet in rows of the call's own: its cells as an element. -/
theorem made68 {w : World} {base : Nat} {x : S68} {v9 v10 : Value} {o9 o10 : Nat → Prop} (g9 : Kd.R (Kd.int .u8) 5 w base o9 v9 x.f9) (g10 : Kd.R (Kd.int .u8) 5 w base o10 v10 x.f10) : k68.M w base (fun k => base ≤ k ∧ k < w.heap.size) x [.int .u8 x.f0, .int .u16 x.f1, .bool x.f2, .bool x.f3, .int .i64 x.f4, .int .u8 x.f5, .int .u8 x.f6, .int .u32 x.f7, .int .u32 x.f8, v9, v10] :=
  k68.M_mono (fun k hk => ⟨hk.2.1, hk.2.2.1⟩) (k68.M_bound (k68_mkM w base (fun _ => True) x (Kd.R_mono g9 (fun _ _ => trivial)) (Kd.R_mono g10 (fun _ _ => trivial))))
set_option maxRecDepth 100000 in
set_option maxHeartbeats 16000000 in
theorem split_one (a0 a1 : Int) (a2 a3 : Bool) (a4 a5 a6 a7 a8 : Int) (A9 : Option Addr) (N9 c9 : Nat) (l9 : List Int) (A10 : Option Addr) (N10 c10 : Nat) (l10 : List Int) (mtu : Int) (c : List Int) (e : Int) (w : World)
    (hn9 : l9.length = N9) (hr9 : Kd.C (Kd.int .u8) w A9 N9 l9) (hc9 : N9 ≤ c9) (hn10 : l10.length = N10) (hr10 : Kd.C (Kd.int .u8) w A10 N10 l10) (hc10 : N10 ≤ c10) (hfit : Fit ⟨a0, a1, a2, a3, a4, a5, a6, a7, a8, l9, l10⟩) (h0 : chk ⟨a0, a1, a2, a3, a4, a5, a6, a7, a8, l9, l10⟩ = 0) (h1 : ¬ (mtu < 68 ∨ 65535 < mtu)) (h2 : lenP ⟨a0, a1, a2, a3, a4, a5, a6, a7, a8, l9, l10⟩ ≤ mtu) :
    Calls Try.prog 40 #[.agg #[.int .u8 a0, .int .u16 a1, .bool a2, .bool a3, .int .i64 a4, .int .u8 a5, .int .u8 a6, .int .u32 a7, .int .u32 a8, .slice A9 N9 c9, .slice A10 N10 c10], .int .i64 mtu] w (Ans w (splitF ⟨a0, a1, a2, a3, a4, a5, a6, a7, a8, l9, l10⟩ mtu c e)) := by
  rw [show splitF ⟨a0, a1, a2, a3, a4, a5, a6, a7, a8, l9, l10⟩ mtu c e = ([⟨a0, a1, a2, a3, a4, a5, a6, a7, a8, l9, l10⟩], 0) from by unfold splitF; rw [if_neg (by rw [h0]; decide), if_neg h1, if_pos h2]]
  have b1 : (chk ⟨a0, a1, a2, a3, a4, a5, a6, a7, a8, l9, l10⟩ != 0) = false := by rw [h0]; rfl
  have b2 : decide (chk ⟨a0, a1, a2, a3, a4, a5, a6, a7, a8, l9, l10⟩ = 0) = true := decide_eq_true h0
  have d1 : decide (mtu < 68) = false := decide_eq_false (fun e => h1 (.inl e))
  have d2 : decide (65535 < mtu) = false := decide_eq_false (fun e => h1 (.inr e))
  have d3 : decide (lenP ⟨a0, a1, a2, a3, a4, a5, a6, a7, a8, l9, l10⟩ ≤ mtu) = true := decide_eq_true h2
  clear h1 h2
  have HF := Aside0.mk (show l9.length ≤ 100000 ∧ l10.length ≤ 100000 from hfit)
  have HC9 := Aside0.mk hc9
  have HC10 := Aside0.mk hc10
  have HB := Aside0.mk (below_alloc (Below.refl w.heap.size w) (.cells #[.int .u8 a0, .int .u16 a1, .bool a2, .bool a3, .int .i64 a4, .int .u8 a5, .int .u8 a6, .int .u32 a7, .int .u32 a8, .slice A9 N9 c9, .slice A10 N10 c10] 68))
  have HGP := Aside0.mk (blk_new w (.cells #[.int .u8 a0, .int .u16 a1, .bool a2, .bool a3, .int .i64 a4, .int .u8 a5, .int .u8 a6, .int .u32 a7, .int .u32 a8, .slice A9 N9 c9, .slice A10 N10 c10] 68))
  have HR9 := Aside0.mk (Kd.C_below hr9 HB.out)
  have HR10 := Aside0.mk (Kd.C_below hr10 HB.out)
  have hck := (fun (W : World) (hW : Below w.heap.size w W) => ip_Check.calls 3 a0 a1 a2 a3 a4 a5 a6 a7 a8 A9 c9 l9 A10 c10 l10 _ W (by rw [hn9]; exact Kd.C_below hr9 hW) (by rw [hn9]; exact hc9) (by rw [hn10]; exact Kd.C_below hr10 hW) (by rw [hn10]; exact hc10) (chk_f ⟨a0, a1, a2, a3, a4, a5, a6, a7, a8, l9, l10⟩ hfit))
  have hle := (fun (W : World) (hW : Below w.heap.size w W) => ip_Len.calls a0 a1 a2 a3 a4 a5 a6 a7 a8 A9 c9 l9 A10 c10 l10 _ W (by rw [hn9]; exact Kd.C_below hr9 hW) (by rw [hn9]; exact hc9) (by rw [hn10]; exact Kd.C_below hr10 hW) (by rw [hn10]; exact hc10) (len_f ⟨a0, a1, a2, a3, a4, a5, a6, a7, a8, l9, l10⟩ hfit))
  have hco := (fun (W : World) (hW : Below w.heap.size w W) => frag_copied.calls a0 a1 a2 a3 a4 a5 a6 a7 a8 A9 c9 l9 A10 c10 l10 a0 a1 a2 a3 a4 a5 a6 a7 a8 l9 l10 W (by rw [hn9]; exact Kd.C_below hr9 hW) (by rw [hn9]; exact hc9) (by rw [hn10]; exact Kd.C_below hr10 hW) (by rw [hn10]; exact hc10) (len_copied ⟨a0, a1, a2, a3, a4, a5, a6, a7, a8, l9, l10⟩ hfit))
  rw [hn9, hn10, h0] at hck
  rw [hn9, hn10] at hle hco
  have HCK := Aside0.mk hck
  have HLE := Aside0.mk hle
  have HCO := Aside0.mk hco
  have HNN := Aside0.mk (And.intro hn9 hn10)
  clear b1 b2 hr9 hc9 hr10 hc10 hfit hn9 hn10 hck hle hco
  go_enter Try.func40, Try.ntmps40
  go_upto_region 1 with (fail)
  obtain ⟨gp, hgp⟩ : ∃ gp, gp = w.heap.size := ⟨_, rfl⟩
  have HGE := Aside0.mk hgp
  rw [← hgp] at HGP ⊢
  clear hgp
  generalize w.alloc (.cells #[.int .u8 a0, .int .u16 a1, .bool a2, .bool a3, .int .i64 a4, .int .u8 a5, .int .u8 a6, .int .u32 a7, .int .u32 a8, .slice A9 N9 c9, .slice A10 N10 c10] 68) = w1 at HB HGP HR9 HR10 ⊢
  have p0 := (blk_cell HGP.out 0).trans rfl; have p1 := (blk_cell HGP.out 1).trans rfl; have p2 := (blk_cell HGP.out 2).trans rfl; have p3 := (blk_cell HGP.out 3).trans rfl; have p4 := (blk_cell HGP.out 4).trans rfl; have p5 := (blk_cell HGP.out 5).trans rfl; have p6 := (blk_cell HGP.out 6).trans rfl; have p7 := (blk_cell HGP.out 7).trans rfl; have p8 := (blk_cell HGP.out 8).trans rfl; have p9 := (blk_cell HGP.out 9).trans rfl; have p10 := (blk_cell HGP.out 10).trans rfl
  go_wp2_with (first | (go_at_call 68; have hh := HCK.out _ HB.out; with_reducible refine hh.mono ?_; clear hh; rintro e2 w2 ⟨rfl, hB⟩; replace HB := Aside0.mk (below_step HB.out hB); replace HGP := Aside0.mk (blk_below HGP.out hB); replace HR9 := Aside0.mk (Kd.C_below HR9.out hB); replace HR10 := Aside0.mk (Kd.C_below HR10.out hB); clear hB p0 p1 p2 p3 p4 p5 p6 p7 p8 p9 p10; have p0 := (blk_cell HGP.out 0).trans rfl; have p1 := (blk_cell HGP.out 1).trans rfl; have p2 := (blk_cell HGP.out 2).trans rfl; have p3 := (blk_cell HGP.out 3).trans rfl; have p4 := (blk_cell HGP.out 4).trans rfl; have p5 := (blk_cell HGP.out 5).trans rfl; have p6 := (blk_cell HGP.out 6).trans rfl; have p7 := (blk_cell HGP.out 7).trans rfl; have p8 := (blk_cell HGP.out 8).trans rfl; have p9 := (blk_cell HGP.out 9).trans rfl; have p10 := (blk_cell HGP.out 10).trans rfl) | (go_at_call 69; have hh := HLE.out _ HB.out; with_reducible refine hh.mono ?_; clear hh; rintro e2 w2 ⟨rfl, hB⟩; replace HB := Aside0.mk (below_step HB.out hB); replace HGP := Aside0.mk (blk_below HGP.out hB); replace HR9 := Aside0.mk (Kd.C_below HR9.out hB); replace HR10 := Aside0.mk (Kd.C_below HR10.out hB); clear hB p0 p1 p2 p3 p4 p5 p6 p7 p8 p9 p10; have p0 := (blk_cell HGP.out 0).trans rfl; have p1 := (blk_cell HGP.out 1).trans rfl; have p2 := (blk_cell HGP.out 2).trans rfl; have p3 := (blk_cell HGP.out 3).trans rfl; have p4 := (blk_cell HGP.out 4).trans rfl; have p5 := (blk_cell HGP.out 5).trans rfl; have p6 := (blk_cell HGP.out 6).trans rfl; have p7 := (blk_cell HGP.out 7).trans rfl; have p8 := (blk_cell HGP.out 8).trans rfl; have p9 := (blk_cell HGP.out 9).trans rfl; have p10 := (blk_cell HGP.out 10).trans rfl) | (go_at_call 70; have hh := HCO.out _ HB.out; with_reducible refine hh.mono ?_; clear hh; rintro e2 w2 ⟨v9, v10, rfl, hV9, hV10, hB⟩; obtain ⟨B9, d9, rfl⟩ := Kd.R_slice hV9; obtain ⟨B10, d10, rfl⟩ := Kd.R_slice hV10; rw [HNN.out.1] at hV9 hV10 ⊢; rw [HNN.out.2] at hV10 hV9 ⊢; have HV := Aside0.mk (made68 (x := ⟨a0, a1, a2, a3, a4, a5, a6, a7, a8, l9, l10⟩) hV9 hV10); have HB2 := Aside0.mk (below_step HB.out hB); have HSZ := Aside0.mk (Nat.le_trans HB.out.size (Nat.le_refl _)); clear hV9 hV10 hB p0 p1 p2 p3 p4 p5 p6 p7 p8 p9 p10))
  go_ret2
  refine ⟨_, rfl, ?_, below_step HB2.out (below_alloc (Below.refl _ _) _)⟩
  exact R_one (cs := [_, _, _, _, _, _, _, _, _, _, _]) (blk_new _ _) HB2.out.size (k68.M_lower HB.out.size (k68.M_move (fun k hk => Below.heap_alloc _ _ k hk.2) HV.out)) (fun k hk => Nat.ne_of_lt hk.2)
set_option maxRecDepth 100000 in
set_option maxHeartbeats 16000000 in
theorem split_whole (a0 a1 : Int) (a2 a3 : Bool) (a4 a5 a6 a7 a8 : Int) (A9 : Option Addr) (N9 c9 : Nat) (l9 : List Int) (A10 : Option Addr) (N10 c10 : Nat) (l10 : List Int) (mtu : Int) (c : List Int) (e : Int) (w : World)
    (hn9 : l9.length = N9) (hr9 : Kd.C (Kd.int .u8) w A9 N9 l9) (hc9 : N9 ≤ c9) (hn10 : l10.length = N10) (hr10 : Kd.C (Kd.int .u8) w A10 N10 l10) (hc10 : N10 ≤ c10) (hfit : Fit ⟨a0, a1, a2, a3, a4, a5, a6, a7, a8, l9, l10⟩) (h0 : chk ⟨a0, a1, a2, a3, a4, a5, a6, a7, a8, l9, l10⟩ = 0) (h1 : ¬ (mtu < 68 ∨ 65535 < mtu)) (h2 : ¬ lenP ⟨a0, a1, a2, a3, a4, a5, a6, a7, a8, l9, l10⟩ ≤ mtu) (h3 : a2 = true) :
    Calls Try.prog 40 #[.agg #[.int .u8 a0, .int .u16 a1, .bool a2, .bool a3, .int .i64 a4, .int .u8 a5, .int .u8 a6, .int .u32 a7, .int .u32 a8, .slice A9 N9 c9, .slice A10 N10 c10], .int .i64 mtu] w (Ans w (splitF ⟨a0, a1, a2, a3, a4, a5, a6, a7, a8, l9, l10⟩ mtu c e)) := by
  rw [show splitF ⟨a0, a1, a2, a3, a4, a5, a6, a7, a8, l9, l10⟩ mtu c e = ([], 110) from by unfold splitF; rw [if_neg (by rw [h0]; decide), if_neg h1, if_neg h2]; exact if_pos h3]
  have b1 : (chk ⟨a0, a1, a2, a3, a4, a5, a6, a7, a8, l9, l10⟩ != 0) = false := by rw [h0]; rfl
  have b2 : decide (chk ⟨a0, a1, a2, a3, a4, a5, a6, a7, a8, l9, l10⟩ = 0) = true := decide_eq_true h0
  have d1 : decide (mtu < 68) = false := decide_eq_false (fun e => h1 (.inl e))
  have d2 : decide (65535 < mtu) = false := decide_eq_false (fun e => h1 (.inr e))
  have d3 : decide (lenP ⟨a0, a1, a2, a3, a4, a5, a6, a7, a8, l9, l10⟩ ≤ mtu) = false := decide_eq_false h2
  subst h3
  clear h1 h2
  have HF := Aside0.mk (show l9.length ≤ 100000 ∧ l10.length ≤ 100000 from hfit)
  have HC9 := Aside0.mk hc9
  have HC10 := Aside0.mk hc10
  have HB := Aside0.mk (below_alloc (Below.refl w.heap.size w) (.cells #[.int .u8 a0, .int .u16 a1, .bool true, .bool a3, .int .i64 a4, .int .u8 a5, .int .u8 a6, .int .u32 a7, .int .u32 a8, .slice A9 N9 c9, .slice A10 N10 c10] 68))
  have HGP := Aside0.mk (blk_new w (.cells #[.int .u8 a0, .int .u16 a1, .bool true, .bool a3, .int .i64 a4, .int .u8 a5, .int .u8 a6, .int .u32 a7, .int .u32 a8, .slice A9 N9 c9, .slice A10 N10 c10] 68))
  have HR9 := Aside0.mk (Kd.C_below hr9 HB.out)
  have HR10 := Aside0.mk (Kd.C_below hr10 HB.out)
  have hck := (fun (W : World) (hW : Below w.heap.size w W) => ip_Check.calls 3 a0 a1 true a3 a4 a5 a6 a7 a8 A9 c9 l9 A10 c10 l10 _ W (by rw [hn9]; exact Kd.C_below hr9 hW) (by rw [hn9]; exact hc9) (by rw [hn10]; exact Kd.C_below hr10 hW) (by rw [hn10]; exact hc10) (chk_f ⟨a0, a1, true, a3, a4, a5, a6, a7, a8, l9, l10⟩ hfit))
  have hle := (fun (W : World) (hW : Below w.heap.size w W) => ip_Len.calls a0 a1 true a3 a4 a5 a6 a7 a8 A9 c9 l9 A10 c10 l10 _ W (by rw [hn9]; exact Kd.C_below hr9 hW) (by rw [hn9]; exact hc9) (by rw [hn10]; exact Kd.C_below hr10 hW) (by rw [hn10]; exact hc10) (len_f ⟨a0, a1, true, a3, a4, a5, a6, a7, a8, l9, l10⟩ hfit))
  have hco := (fun (W : World) (hW : Below w.heap.size w W) => frag_copied.calls a0 a1 true a3 a4 a5 a6 a7 a8 A9 c9 l9 A10 c10 l10 a0 a1 true a3 a4 a5 a6 a7 a8 l9 l10 W (by rw [hn9]; exact Kd.C_below hr9 hW) (by rw [hn9]; exact hc9) (by rw [hn10]; exact Kd.C_below hr10 hW) (by rw [hn10]; exact hc10) (len_copied ⟨a0, a1, true, a3, a4, a5, a6, a7, a8, l9, l10⟩ hfit))
  rw [hn9, hn10, h0] at hck
  rw [hn9, hn10] at hle hco
  have HCK := Aside0.mk hck
  have HLE := Aside0.mk hle
  have HCO := Aside0.mk hco
  have HNN := Aside0.mk (And.intro hn9 hn10)
  clear b1 b2 hr9 hc9 hr10 hc10 hfit hn9 hn10 hck hle hco
  go_enter Try.func40, Try.ntmps40
  go_upto_region 1 with (fail)
  obtain ⟨gp, hgp⟩ : ∃ gp, gp = w.heap.size := ⟨_, rfl⟩
  have HGE := Aside0.mk hgp
  rw [← hgp] at HGP ⊢
  clear hgp
  generalize w.alloc (.cells #[.int .u8 a0, .int .u16 a1, .bool true, .bool a3, .int .i64 a4, .int .u8 a5, .int .u8 a6, .int .u32 a7, .int .u32 a8, .slice A9 N9 c9, .slice A10 N10 c10] 68) = w1 at HB HGP HR9 HR10 ⊢
  have p0 := (blk_cell HGP.out 0).trans rfl; have p1 := (blk_cell HGP.out 1).trans rfl; have p2 := (blk_cell HGP.out 2).trans rfl; have p3 := (blk_cell HGP.out 3).trans rfl; have p4 := (blk_cell HGP.out 4).trans rfl; have p5 := (blk_cell HGP.out 5).trans rfl; have p6 := (blk_cell HGP.out 6).trans rfl; have p7 := (blk_cell HGP.out 7).trans rfl; have p8 := (blk_cell HGP.out 8).trans rfl; have p9 := (blk_cell HGP.out 9).trans rfl; have p10 := (blk_cell HGP.out 10).trans rfl
  go_wp2_with (first | (go_at_call 68; have hh := HCK.out _ HB.out; with_reducible refine hh.mono ?_; clear hh; rintro e2 w2 ⟨rfl, hB⟩; replace HB := Aside0.mk (below_step HB.out hB); replace HGP := Aside0.mk (blk_below HGP.out hB); replace HR9 := Aside0.mk (Kd.C_below HR9.out hB); replace HR10 := Aside0.mk (Kd.C_below HR10.out hB); clear hB p0 p1 p2 p3 p4 p5 p6 p7 p8 p9 p10; have p0 := (blk_cell HGP.out 0).trans rfl; have p1 := (blk_cell HGP.out 1).trans rfl; have p2 := (blk_cell HGP.out 2).trans rfl; have p3 := (blk_cell HGP.out 3).trans rfl; have p4 := (blk_cell HGP.out 4).trans rfl; have p5 := (blk_cell HGP.out 5).trans rfl; have p6 := (blk_cell HGP.out 6).trans rfl; have p7 := (blk_cell HGP.out 7).trans rfl; have p8 := (blk_cell HGP.out 8).trans rfl; have p9 := (blk_cell HGP.out 9).trans rfl; have p10 := (blk_cell HGP.out 10).trans rfl) | (go_at_call 69; have hh := HLE.out _ HB.out; with_reducible refine hh.mono ?_; clear hh; rintro e2 w2 ⟨rfl, hB⟩; replace HB := Aside0.mk (below_step HB.out hB); replace HGP := Aside0.mk (blk_below HGP.out hB); replace HR9 := Aside0.mk (Kd.C_below HR9.out hB); replace HR10 := Aside0.mk (Kd.C_below HR10.out hB); clear hB p0 p1 p2 p3 p4 p5 p6 p7 p8 p9 p10; have p0 := (blk_cell HGP.out 0).trans rfl; have p1 := (blk_cell HGP.out 1).trans rfl; have p2 := (blk_cell HGP.out 2).trans rfl; have p3 := (blk_cell HGP.out 3).trans rfl; have p4 := (blk_cell HGP.out 4).trans rfl; have p5 := (blk_cell HGP.out 5).trans rfl; have p6 := (blk_cell HGP.out 6).trans rfl; have p7 := (blk_cell HGP.out 7).trans rfl; have p8 := (blk_cell HGP.out 8).trans rfl; have p9 := (blk_cell HGP.out 9).trans rfl; have p10 := (blk_cell HGP.out 10).trans rfl))
  go_ret2
  exact ⟨_, rfl, Kd.R_nil _ _ _ _ _, HB.out⟩
set_option maxRecDepth 100000 in
set_option maxHeartbeats 16000000 in
theorem split_err (a0 a1 : Int) (a2 a3 : Bool) (a4 a5 a6 a7 a8 : Int) (A9 : Option Addr) (N9 c9 : Nat) (l9 : List Int) (A10 : Option Addr) (N10 c10 : Nat) (l10 : List Int) (mtu : Int) (c : List Int) (e : Int) (w : World)
    (hn9 : l9.length = N9) (hr9 : Kd.C (Kd.int .u8) w A9 N9 l9) (hc9 : N9 ≤ c9) (hn10 : l10.length = N10) (hr10 : Kd.C (Kd.int .u8) w A10 N10 l10) (hc10 : N10 ≤ c10) (hfit : Fit ⟨a0, a1, a2, a3, a4, a5, a6, a7, a8, l9, l10⟩) (h0 : chk ⟨a0, a1, a2, a3, a4, a5, a6, a7, a8, l9, l10⟩ = 0) (h1 : ¬ (mtu < 68 ∨ 65535 < mtu)) (h2 : ¬ lenP ⟨a0, a1, a2, a3, a4, a5, a6, a7, a8, l9, l10⟩ ≤ mtu) (h3 : a2 = false) (hcar : HCar.carF (fun l => octet_Pad.f 70 l 4) l9 = some (c, e)) (h4 : e ≠ 0) :
    Calls Try.prog 40 #[.agg #[.int .u8 a0, .int .u16 a1, .bool a2, .bool a3, .int .i64 a4, .int .u8 a5, .int .u8 a6, .int .u32 a7, .int .u32 a8, .slice A9 N9 c9, .slice A10 N10 c10], .int .i64 mtu] w (Ans w (splitF ⟨a0, a1, a2, a3, a4, a5, a6, a7, a8, l9, l10⟩ mtu c e)) := by
  rw [show splitF ⟨a0, a1, a2, a3, a4, a5, a6, a7, a8, l9, l10⟩ mtu c e = ([], e) from by unfold splitF; rw [if_neg (by rw [h0]; decide), if_neg h1, if_neg h2, if_neg (by show ¬ a2 = true; rw [h3]; decide), if_pos h4]]
  have b1 : (chk ⟨a0, a1, a2, a3, a4, a5, a6, a7, a8, l9, l10⟩ != 0) = false := by rw [h0]; rfl
  have b2 : decide (chk ⟨a0, a1, a2, a3, a4, a5, a6, a7, a8, l9, l10⟩ = 0) = true := decide_eq_true h0
  have d1 : decide (mtu < 68) = false := decide_eq_false (fun e => h1 (.inl e))
  have d2 : decide (65535 < mtu) = false := decide_eq_false (fun e => h1 (.inr e))
  have d3 : decide (lenP ⟨a0, a1, a2, a3, a4, a5, a6, a7, a8, l9, l10⟩ ≤ mtu) = false := decide_eq_false h2
  subst h3
  have b5 : (e != 0) = true := bne_iff_ne.2 h4
  have b6 : decide (e = 0) = false := decide_eq_false h4
  clear h1 h2 h4
  have HF := Aside0.mk (show l9.length ≤ 100000 ∧ l10.length ≤ 100000 from hfit)
  have hca := (fun (W : World) (hW : Below w.heap.size w W) => frag_Carried.calls 1 A9 c9 l9 c e W (by rw [hn9]; exact Kd.C_below hr9 hW) (by rw [hn9]; exact hc9) (by unfold frag_Carried.f; exact hcar))
  rw [hn9] at hca
  have HCA := Aside0.mk hca
  clear hca hcar
  have HC9 := Aside0.mk hc9
  have HC10 := Aside0.mk hc10
  have HB := Aside0.mk (below_alloc (Below.refl w.heap.size w) (.cells #[.int .u8 a0, .int .u16 a1, .bool false, .bool a3, .int .i64 a4, .int .u8 a5, .int .u8 a6, .int .u32 a7, .int .u32 a8, .slice A9 N9 c9, .slice A10 N10 c10] 68))
  have HGP := Aside0.mk (blk_new w (.cells #[.int .u8 a0, .int .u16 a1, .bool false, .bool a3, .int .i64 a4, .int .u8 a5, .int .u8 a6, .int .u32 a7, .int .u32 a8, .slice A9 N9 c9, .slice A10 N10 c10] 68))
  have HR9 := Aside0.mk (Kd.C_below hr9 HB.out)
  have HR10 := Aside0.mk (Kd.C_below hr10 HB.out)
  have hck := (fun (W : World) (hW : Below w.heap.size w W) => ip_Check.calls 3 a0 a1 false a3 a4 a5 a6 a7 a8 A9 c9 l9 A10 c10 l10 _ W (by rw [hn9]; exact Kd.C_below hr9 hW) (by rw [hn9]; exact hc9) (by rw [hn10]; exact Kd.C_below hr10 hW) (by rw [hn10]; exact hc10) (chk_f ⟨a0, a1, false, a3, a4, a5, a6, a7, a8, l9, l10⟩ hfit))
  have hle := (fun (W : World) (hW : Below w.heap.size w W) => ip_Len.calls a0 a1 false a3 a4 a5 a6 a7 a8 A9 c9 l9 A10 c10 l10 _ W (by rw [hn9]; exact Kd.C_below hr9 hW) (by rw [hn9]; exact hc9) (by rw [hn10]; exact Kd.C_below hr10 hW) (by rw [hn10]; exact hc10) (len_f ⟨a0, a1, false, a3, a4, a5, a6, a7, a8, l9, l10⟩ hfit))
  have hco := (fun (W : World) (hW : Below w.heap.size w W) => frag_copied.calls a0 a1 false a3 a4 a5 a6 a7 a8 A9 c9 l9 A10 c10 l10 a0 a1 false a3 a4 a5 a6 a7 a8 l9 l10 W (by rw [hn9]; exact Kd.C_below hr9 hW) (by rw [hn9]; exact hc9) (by rw [hn10]; exact Kd.C_below hr10 hW) (by rw [hn10]; exact hc10) (len_copied ⟨a0, a1, false, a3, a4, a5, a6, a7, a8, l9, l10⟩ hfit))
  rw [hn9, hn10, h0] at hck
  rw [hn9, hn10] at hle hco
  have HCK := Aside0.mk hck
  have HLE := Aside0.mk hle
  have HCO := Aside0.mk hco
  have HNN := Aside0.mk (And.intro hn9 hn10)
  clear b1 b2 hr9 hc9 hr10 hc10 hfit hn9 hn10 hck hle hco
  go_enter Try.func40, Try.ntmps40
  go_upto_region 1 with (fail)
  obtain ⟨gp, hgp⟩ : ∃ gp, gp = w.heap.size := ⟨_, rfl⟩
  have HGE := Aside0.mk hgp
  rw [← hgp] at HGP ⊢
  clear hgp
  generalize w.alloc (.cells #[.int .u8 a0, .int .u16 a1, .bool false, .bool a3, .int .i64 a4, .int .u8 a5, .int .u8 a6, .int .u32 a7, .int .u32 a8, .slice A9 N9 c9, .slice A10 N10 c10] 68) = w1 at HB HGP HR9 HR10 ⊢
  have p0 := (blk_cell HGP.out 0).trans rfl; have p1 := (blk_cell HGP.out 1).trans rfl; have p2 := (blk_cell HGP.out 2).trans rfl; have p3 := (blk_cell HGP.out 3).trans rfl; have p4 := (blk_cell HGP.out 4).trans rfl; have p5 := (blk_cell HGP.out 5).trans rfl; have p6 := (blk_cell HGP.out 6).trans rfl; have p7 := (blk_cell HGP.out 7).trans rfl; have p8 := (blk_cell HGP.out 8).trans rfl; have p9 := (blk_cell HGP.out 9).trans rfl; have p10 := (blk_cell HGP.out 10).trans rfl
  go_wp2_with (first | (go_at_call 68; have hh := HCK.out _ HB.out; with_reducible refine hh.mono ?_; clear hh; rintro e2 w2 ⟨rfl, hB⟩; replace HB := Aside0.mk (below_step HB.out hB); replace HGP := Aside0.mk (blk_below HGP.out hB); replace HR9 := Aside0.mk (Kd.C_below HR9.out hB); replace HR10 := Aside0.mk (Kd.C_below HR10.out hB); clear hB p0 p1 p2 p3 p4 p5 p6 p7 p8 p9 p10; have p0 := (blk_cell HGP.out 0).trans rfl; have p1 := (blk_cell HGP.out 1).trans rfl; have p2 := (blk_cell HGP.out 2).trans rfl; have p3 := (blk_cell HGP.out 3).trans rfl; have p4 := (blk_cell HGP.out 4).trans rfl; have p5 := (blk_cell HGP.out 5).trans rfl; have p6 := (blk_cell HGP.out 6).trans rfl; have p7 := (blk_cell HGP.out 7).trans rfl; have p8 := (blk_cell HGP.out 8).trans rfl; have p9 := (blk_cell HGP.out 9).trans rfl; have p10 := (blk_cell HGP.out 10).trans rfl) | (go_at_call 69; have hh := HLE.out _ HB.out; with_reducible refine hh.mono ?_; clear hh; rintro e2 w2 ⟨rfl, hB⟩; replace HB := Aside0.mk (below_step HB.out hB); replace HGP := Aside0.mk (blk_below HGP.out hB); replace HR9 := Aside0.mk (Kd.C_below HR9.out hB); replace HR10 := Aside0.mk (Kd.C_below HR10.out hB); clear hB p0 p1 p2 p3 p4 p5 p6 p7 p8 p9 p10; have p0 := (blk_cell HGP.out 0).trans rfl; have p1 := (blk_cell HGP.out 1).trans rfl; have p2 := (blk_cell HGP.out 2).trans rfl; have p3 := (blk_cell HGP.out 3).trans rfl; have p4 := (blk_cell HGP.out 4).trans rfl; have p5 := (blk_cell HGP.out 5).trans rfl; have p6 := (blk_cell HGP.out 6).trans rfl; have p7 := (blk_cell HGP.out 7).trans rfl; have p8 := (blk_cell HGP.out 8).trans rfl; have p9 := (blk_cell HGP.out 9).trans rfl; have p10 := (blk_cell HGP.out 10).trans rfl) | (go_at_call 36; have hh := HCA.out _ HB.out; with_reducible refine hh.mono ?_; clear hh; rintro e2 w5 ⟨vc, rfl, hVc, hB⟩; obtain ⟨Bc, dc, rfl⟩ := Kd.R_slice hVc; have HVC := Aside0.mk hVc; have HBC := Aside0.mk hB; replace HB := Aside0.mk (below_step HB.out hB); replace HGP := Aside0.mk (blk_below HGP.out hB); replace HR9 := Aside0.mk (Kd.C_below HR9.out hB); replace HR10 := Aside0.mk (Kd.C_below HR10.out hB); clear hB hVc p0 p1 p2 p3 p4 p5 p6 p7 p8 p9 p10; have p0 := (blk_cell HGP.out 0).trans rfl; have p1 := (blk_cell HGP.out 1).trans rfl; have p2 := (blk_cell HGP.out 2).trans rfl; have p3 := (blk_cell HGP.out 3).trans rfl; have p4 := (blk_cell HGP.out 4).trans rfl; have p5 := (blk_cell HGP.out 5).trans rfl; have p6 := (blk_cell HGP.out 6).trans rfl; have p7 := (blk_cell HGP.out 7).trans rfl; have p8 := (blk_cell HGP.out 8).trans rfl; have p9 := (blk_cell HGP.out 9).trans rfl; have p10 := (blk_cell HGP.out 10).trans rfl))
  go_ret2
  exact ⟨_, rfl, Kd.R_nil _ _ _ _ _, HB.out⟩
end Go.Proofs.Ytfmfpofbefgbgaa.HSplit
