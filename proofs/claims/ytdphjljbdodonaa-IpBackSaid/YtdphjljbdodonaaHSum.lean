/- sum.Add, sum.pairs, sum.Sum: for every slice of bytes the call answers the sum of its pairs, each carry brought round; nothing that was there changes. -/
import Derived.Test.YtdphjljbdodonaaProg
import Derived.RangeFuncNested
import Derived.RangeFuncBound
import Derived.RangeFuncCalls
import Derived.RangeFuncLeaves
import Derived.RangeFuncFrom
import Derived.RangeFuncBox
import Derived.Shelf.Abstract
import Derived.Shelf.RegionOpen
import Derived.OwnWalkIn
import Derived.TacticsInMore
import Derived.LoopNIn
import Derived.LoopIn
import Derived.Below
import Derived.Deep.Draws
import Derived.Deep.AppendLies
import Derived.Maps.AppendAt
import Derived.OwnWalk
import Derived.Laws.BytesArg
import Derived.Laws.MakeOwn
import Derived.Laws.OwnMore
import Derived.Deep.OwnRows
import Derived.Tactics
import Derived.Lib.ConvBytes
import Derived.Laws.Slices
import Derived.WalkKit
import Derived.KernelRfl
import Derived.RowKit3
import Derived.Deep.LoopGhost
import Derived.Deep.QuietTactic
import Derived.BigQuiet
import Derived.WideLaws
import Derived.Deep.DeepCutAuto
import Derived.Deep.CutBlock
import Derived.Deep.RegionHeld3
import Derived.Laws.Rows
import Derived.Lib.AppendStr
import Derived.ArgAppend
import Derived.Laws.IdiomCopy
import Derived.OrdersHeld
import Derived.Laws.BitsLemmas
import Derived.RowKit
import Derived.Test.YtdphjljbdodonaaWWords
import Derived.Test.YtdphjljbdodonaaWLast
import Derived.Test.YtdphjljbdodonaaWTab
import Derived.Test.YtdphjljbdodonaaWQPut
import Derived.Test.YtdphjljbdodonaaWApart
import Derived.Test.YtdphjljbdodonaaWArr
import Derived.Test.YtdphjljbdodonaaWZeros
import Derived.Test.YtdphjljbdodonaaWFoot
import Derived.Test.YtdphjljbdodonaaWKept
import Derived.Test.YtdphjljbdodonaaWShare
import Derived.Test.YtdphjljbdodonaaWN
import Derived.Test.YtdphjljbdodonaaWRepsOne
import Derived.Test.YtdphjljbdodonaaWGuard
import Derived.Test.YtdphjljbdodonaaWNEv
import Derived.Test.YtdphjljbdodonaaWMore
namespace Go.Proofs.Ytdphjljbdodonaa.HSum
open Go.RowKit Go.Shelf Go.Proofs.YtdphjljbdodonaaW.PrintWords Go.Proofs.YtdphjljbdodonaaW.PrintLast Go.Proofs.YtdphjljbdodonaaW.PrintMore
set_option linter.unusedVariables false
set_option linter.unusedSimpArgs false
attribute [local go_sem] Oper.semAt_some

def addF (a b : Int) : Int := (a + b) % 65536 + (a % 65536 + b % 65536) / 65536
/-- The pair at byte j. -/
def pr (zs : List Int) (j : Nat) : Int := if j + 1 < zs.length then Go.bits .or .i64 (rd zs j * 256) (rd zs ((j + 1 : Nat) : Int)) else rd zs j * 256
/-- The pairs that have come when j bytes are over. -/
def pre (zs : List Int) (j : Nat) : List Int := (List.range ((j + 1) / 2)).map fun k => pr zs (2 * k)
def all (zs : List Int) : List Int := pre zs zs.length
def foldW (n : Int) (ps : List Int) : Int := ps.foldl addF n
def sumW (zs : List Int) : Int := foldW 0 (all zs)
def bytesB (zs : List Int) : Bool := zs.all fun x => decide (0 ≤ x) && decide (x ≤ 255)

theorem foldW_snoc (n : Int) (ps : List Int) (x : Int) : foldW n (ps ++ [x]) = addF (foldW n ps) x := by simp [foldW]
theorem pre_step (zs : List Int) (j : Nat) (h : j % 2 = 0) : pre zs (j + 2) = pre zs j ++ [pr zs j] := by
  have e : (j + 2 + 1) / 2 = (j + 1) / 2 + 1 := by omega
  have e2 : 2 * ((j + 1) / 2) = j := by omega
  simp [pre, e, List.range_succ, e2]
theorem pre_last (zs : List Int) (j : Nat) (h : j % 2 = 0) : pre zs (j + 1) = pre zs j ++ [pr zs j] := by
  have e : (j + 1 + 1) / 2 = (j + 1) / 2 + 1 := by omega
  have e2 : 2 * ((j + 1) / 2) = j := by omega
  simp [pre, e, List.range_succ, e2]
theorem pre_len (zs : List Int) (j : Nat) : (pre zs j).length = (j + 1) / 2 := by simp [pre]
theorem bytes_rd {zs : List Int} (h : bytesB zs = true) (i : Int) : 0 ≤ rd zs i ∧ rd zs i ≤ 255 := by
  unfold rd
  rw [List.getD_eq_getElem?_getD]
  rcases Nat.lt_or_ge i.toNat zs.length with hi | hi
  · rw [List.getElem?_eq_getElem hi]
    have := List.all_eq_true.1 h _ (List.getElem_mem hi)
    simpa using this
  · rw [List.getElem?_eq_none hi]
    simp

theorem and_low (a : Int) : Go.bits .and .i64 a 65535 = a % 65536 := by
  show IntKind.i64.wrap (((BitVec.ofInt 64 a &&& BitVec.ofInt 64 65535).toNat : Nat) : Int) = a % 65536
  have e : (BitVec.ofInt 64 a &&& BitVec.ofInt 64 65535).toNat = ((a % 65536).toNat) := by
    have hm : (BitVec.ofInt 64 65535).toNat = 2 ^ 16 - 1 := by decide
    rw [BitVec.toNat_and, hm, Nat.and_two_pow_sub_one_eq_mod, BitVec.toNat_ofInt]
    have : (a % ((2 ^ 64 : Nat) : Int)).toNat % 2 ^ 16 = (a % 65536).toNat := by
      have h1 : 0 ≤ a % ((2 ^ 64 : Nat) : Int) := Int.emod_nonneg _ (by decide)
      have h2 : (a % ((2 ^ 64 : Nat) : Int)) % 65536 = a % 65536 := Int.emod_emod_of_dvd _ (by decide)
      omega
    exact this
  rw [e, Int.toNat_of_nonneg (by omega), IntKind.wrap_i64]
  omega

theorem add_calls (a b : Int) (w : World) : Calls Try.prog 66 #[.int .i64 a, .int .i64 b] w fun e w' => e = .returned (.int .i64 (addF a b)) ∧ w = w' := by
  have ha := and_low a
  have hb := and_low b
  have hs := and_low (a % 65536 + b % 65536)
  go_enter Try.func66, Try.ntmps66
  go_wp2
  go_ret
  exact ⟨rfl, rfl⟩

theorem cell_new_l (W : World) (v : Value) (t : TypeId) : (W.alloc (.cells #[v] t)).cell? ⟨W.heap.size, 0, none⟩ = some v ∧ (W.alloc (.cells #[v] t)).frozen? ⟨W.heap.size, 0, none⟩ = false := by
  constructor
  · go_simp
  · go_simp
theorem cell_alloc_l {W : World} {a : Addr} {v : Value} (o : Obj) (h : W.cell? a = some v) : (W.alloc o).cell? a = some v := cell_kept h (World.grownBy_alloc W o none) (fun r e => by cases e)
theorem frozen_alloc_l {W : World} {a : Addr} {v : Value} (o : Obj) (h : W.cell? a = some v) (hf : W.frozen? a = false) : (W.alloc o).frozen? a = false := (frozen_kept h (World.grownBy_alloc W o none) (fun r e => by cases e)).trans hf

/-- What a round keeps: what lay below n0, and the iterator's own box. -/
def KP (n0 Bs : Nat) (A B : World) : Prop := Below n0 A B ∧ B.heap[Bs]? = A.heap[Bs]?
theorem KP.refl (n0 Bs : Nat) (A : World) : KP n0 Bs A A := ⟨Below.refl _ _, rfl⟩
theorem KP.trans {n0 Bs : Nat} {A B C : World} (h : KP n0 Bs A B) (k : KP n0 Bs B C) : KP n0 Bs A C := ⟨h.1.trans k.1, k.2.trans h.2⟩

set_option maxRecDepth 100000 in
set_option maxHeartbeats 4000000 in
/-- sum.pairs's closure over a slice that is not nil: for every loop body that keeps what lay below n0. -/
theorem pairs1_in (F : Fence) (n : Nat) (h7 : F.fn 70) (hro : F.round = none) (hn : 1 ≤ n) (l Bs n0 : Nat) (ad : Addr) (cap : Nat) (zs : List Int) (hlen : zs.length ≤ 4611686018427387904) (hby : bytesB zs = true) (J Jx : List Int → World → Prop)
    (hY : ∀ p x W, J p W → p.length < (zs.length + 1) / 2 → YieldAt F (n - 1) Try.prog l #[.int .i64 x] W fun e W' =>
      (e = .returned (.bool true) ∧ J (p ++ [x]) W' ∧ KP n0 Bs W W') ∨ (e = .returned (.bool false) ∧ Jx (p ++ [x]) W'))
    (W : World) (hb : ad.block < n0) (hBs : W.cell? ⟨Bs, 0, none⟩ = some (.slice (some ad) zs.length cap)) (hc : ∀ j : Nat, j < zs.length → W.cell? (ad.add j) = some (.int .u8 (rd zs j))) (h0 : J [] W) :
    CallsIn F n Try.prog 70 #[.func (.yield l) #[] #[], .pointer (some ⟨Bs, 0, none⟩)] W fun e W' => (∃ v, e = .returned v) ∧
      ((∃ ys, ys = all zs ∧ J ys W') ∨ (∃ p, (∃ k, p = pre zs k) ∧ Jx p W')) := by
  have hadd : ∀ j, (ad.add j).block = ad.block := fun j => by unfold Addr.add; split <;> rfl
  refine callsIn_of_wp Try.func70 rfl h7 ?_ hro
  simp only [Try.ntmps70, List.size_toArray, List.length_cons, List.length_nil, Nat.reduceAdd, Nat.reduceSub, Array.replicate_succ, Array.replicate_zero, List.push_toArray, List.append_toArray, List.nil_append, List.cons_append]
  gi_wp2
  gi_loopw [3] (fun i wr => ∃ j : Nat, (j ≤ zs.length + 1 ∧ (j ≤ zs.length → j % 2 = 0)) ∧ i = .int .i64 j ∧ J (pre zs (min j zs.length)) wr ∧ KP n0 Bs W wr)
    (fun i _ => zs.length + 1 - (intOf i).toNat)
  case atStart => exact ⟨0, ⟨by omega, fun _ => rfl⟩, rfl, by simpa [pre] using h0, KP.refl _ _ _⟩
  case round =>
    obtain ⟨j, ⟨hj, hj2⟩, rfl, hJs, hnx⟩ := hrel
    have hBs' : wr.cell? ⟨Bs, 0, none⟩ = some (.slice (some ad) zs.length cap) := (World.cell?_of_block (w := W) (w' := wr) (a := ⟨Bs, 0, none⟩) hnx.2).trans hBs
    have hcx : ∀ i : Nat, i < zs.length → wr.cell? (ad.add i) = some (.int .u8 (rd zs i)) := fun i h => (hnx.1.cell (p := ad.add i) (by rw [hadd]; exact hb)).trans (hc i h)
    by_cases hlt : j < zs.length
    · have hj2' := hj2 (by omega)
      have hJ1 : J (pre zs j) wr := by rwa [Nat.min_eq_left (by omega)] at hJs
      have r0 := bytes_rd hby (j : Int)
      have c0 := hcx j hlt
      by_cases hlt1 : j + 1 < zs.length
      · obtain ⟨j1, hj1⟩ : ∃ j1 : Nat, j1 = j + 1 := ⟨_, rfl⟩
        have r1 := bytes_rd hby (j1 : Int)
        have hltj : j1 < zs.length := by omega
        have c1 := hcx j1 hltj
        have hlt2 : (j : Int) < (zs.length : Int) - 1 := by omega
        have e1 : pr zs j = Go.bits .or .i64 (rd zs j * 256) (rd zs (j1 : Int)) := by rw [hj1]; exact if_pos hlt1
        have hw1 : (j : Int) + 1 = (j1 : Int) := by omega
        have HJ1 := Aside0.mk hj1
        clear hj1
        have HP := Aside0.mk (pre_step zs j hj2')
        have HE := Aside0.mk e1
        obtain ⟨fn, tmps, assign, body, hy, hR⟩ := hY _ (Go.bits .or .i64 (rd zs j * 256) (rd zs (j1 : Int))) wr hJ1 (by rw [pre_len]; omega)
        have HX := Aside0.mk hnx
        clear hnx hJs hJ1 hcx e1 hj2 h0 hc hBs hY
        gi_wp2
        refine hR.mono ?_
        rintro e W3 (⟨rfl, hJ3, hk3⟩ | ⟨rfl, hJx3⟩)
        · gi_wp2
          go_roundw
          case rel => exact ⟨j + 2, ⟨by omega, fun _ => by omega⟩, by go_num, by rw [Nat.min_eq_left (by omega), HP.out, HE.out]; exact hJ3, HX.out.trans hk3⟩
          case measure => simp [intOf]; omega
        · gi_wp2
          refine bodyPost_ret (results_none rfl _ _ _) rfl ?_
          exact ⟨⟨_, rfl⟩, .inr ⟨_, ⟨j + 2, by rw [HP.out, HE.out]⟩, hJx3⟩⟩
      · have e1 : pr zs j = rd zs j * 256 := if_neg hlt1
        have HP := Aside0.mk (pre_last zs j hj2')
        have HE := Aside0.mk e1
        obtain ⟨fn, tmps, assign, body, hy, hR⟩ := hY _ (rd zs j * 256) wr hJ1 (by rw [pre_len]; omega)
        have HX := Aside0.mk hnx
        clear hnx hJs hJ1 hcx e1 hj2 h0 hc hBs hY
        gi_wp2
        refine hR.mono ?_
        rintro e W3 (⟨rfl, hJ3, hk3⟩ | ⟨rfl, hJx3⟩)
        · gi_wp2
          go_roundw
          case rel => exact ⟨j + 2, ⟨by omega, fun _ => by omega⟩, by go_num, by rw [show min (j + 2) zs.length = j + 1 by omega, HP.out, HE.out]; exact hJ3, HX.out.trans hk3⟩
          case measure => simp [intOf]; omega
        · gi_wp2
          refine bodyPost_ret (results_none rfl _ _ _) rfl ?_
          exact ⟨⟨_, rfl⟩, .inr ⟨_, ⟨j + 1, by rw [HP.out, HE.out]⟩, hJx3⟩⟩
    · have hJ1 : J (all zs) wr := by rwa [Nat.min_eq_right (by omega)] at hJs
      clear hJs hcx hc hY hj2
      gi_wp2
      go_end0
      exact ⟨⟨_, rfl⟩, .inl ⟨_, rfl, hJ1⟩⟩

set_option maxRecDepth 100000 in
set_option maxHeartbeats 1000000 in
theorem pairs1_nil_in (F : Fence) (n : Nat) (h7 : F.fn 70) (hro : F.round = none) (l Bs cap : Nat) (J : List Int → World → Prop) (W : World) (hBs : W.cell? ⟨Bs, 0, none⟩ = some (.slice none 0 cap)) (h0 : J [] W) :
    CallsIn F n Try.prog 70 #[.func (.yield l) #[] #[], .pointer (some ⟨Bs, 0, none⟩)] W fun e W' => (∃ v, e = .returned v) ∧ J [] W' := by
  refine callsIn_of_wp Try.func70 rfl h7 ?_ hro
  simp only [Try.ntmps70, List.size_toArray, List.length_cons, List.length_nil, Nat.reduceAdd, Nat.reduceSub, Array.replicate_succ, Array.replicate_zero, List.push_toArray, List.append_toArray, List.nil_append, List.cons_append]
  gi_wp2
  gi_loopw [3] (fun i wr => i = .int .i64 0 ∧ J [] wr ∧ wr.heap[Bs]? = W.heap[Bs]?) (fun _ _ => 0)
  case atStart => exact ⟨rfl, h0, rfl⟩
  case round =>
    obtain ⟨rfl, hJs, hk⟩ := hrel
    have hBs' : wr.cell? ⟨Bs, 0, none⟩ = some (.slice none 0 cap) := (World.cell?_of_block (w := W) (w' := wr) (a := ⟨Bs, 0, none⟩) hk).trans hBs
    clear hk
    gi_wp2
    go_end0
    exact ⟨⟨_, rfl⟩, hJs⟩

set_option maxHeartbeats 1000000 in
theorem pairs_in (F : Fence) (n : Nat) (h5 : F.fn 68) (hro : F.round = none) (a : Option Addr) (len cap : Nat) (w : World) :
    CallsIn F n Try.prog 68 #[.slice a len cap] w fun e w' => e = .returned (.func (.func 70) #[] #[.pointer (some ⟨w.heap.size, 0, none⟩)]) ∧ w' = w.alloc (.cells #[.slice a len cap] 23) := by
  refine callsIn_of_wp Try.func68 rfl h5 ?_ hro
  simp only [Try.ntmps68, List.size_toArray, List.length_cons, List.length_nil, Nat.reduceAdd, Nat.reduceSub, Array.replicate_succ, Array.replicate_zero, List.push_toArray, List.append_toArray, List.nil_append, List.cons_append]
  gi_wp2
  go_ret
  exact ⟨rfl, rfl⟩

theorem all_nil : all [] = [] := rfl

theorem pairs_stops (F : Fence) (n : Nat) (h7 : F.fn 70) (hro : F.round = none) (hn : 1 ≤ n) (Bs n0 : Nat) (A0 : Option Addr) (cap : Nat) (zs : List Int) (hlen : zs.length ≤ 4611686018427387904) (hby : bytesB zs = true) (w v : World) (hBs : Bs < w.heap.size) (hv : Below v.heap.size v w) (hn0 : n0 = v.heap.size)
    (hc : w.cell? ⟨Bs, 0, none⟩ = some (.slice A0 zs.length cap)) (hI : Kd.C (Kd.int .u8) v A0 zs.length zs) :
    SeqStopsK F n Try.prog 70 #[.pointer (some ⟨Bs, 0, none⟩)] (fun x : Int => #[Value.int .i64 x]) (KP n0 Bs) (fun ys => ys = all zs) (fun p => ∃ k, p = pre zs k) ((zs.length + 1) / 2) w := fun l J Jx W hW _ _ hY h0 => by
  have hc' := (hW.cell (p := ⟨Bs, 0, none⟩) hBs).trans hc
  rcases A0 with _ | ad
  · have hz : zs = [] := by
      rcases Nat.eq_zero_or_pos zs.length with h | h
      · exact List.eq_nil_of_length_eq_zero h
      · obtain ⟨ad, e, _⟩ := hI.2.2 h
        cases e
    subst hz
    exact (pairs1_nil_in F n h7 hro l Bs cap J W hc' h0).mono fun e W' ⟨he, hj⟩ => ⟨he, .inl ⟨_, rfl, hj⟩⟩
  · have hcell : ∀ j : Nat, j < zs.length → v.cell? (ad.add j) = some (.int .u8 (rd zs j)) := fun j hj => by
      obtain ⟨ad', e, hx⟩ := Kd.at_int hI (j : Int) (by omega) (by omega)
      cases e
      simpa using hx
    rcases Nat.eq_zero_or_pos zs.length with hz | hz
    · have hz' : zs = [] := List.eq_nil_of_length_eq_zero hz
      subst hz'
      refine (pairs1_in F n h7 hro hn l Bs (ad.block + 1) ad cap [] (by simp) rfl J Jx ?_ W (by omega) hc' (fun j hj => absurd hj (by simp)) h0).mono ?_
      · intro p x W1 _ hp
        exact absurd hp (by simp)
      · rintro e W' ⟨he, ⟨ys, rfl, hj⟩ | ⟨p, hk, hj⟩⟩
        · exact ⟨he, .inl ⟨_, rfl, hj⟩⟩
        · exact ⟨he, .inr ⟨_, hk, hj⟩⟩
    · have hadd : (ad.add 0).block = ad.block := by unfold Addr.add; split <;> rfl
      have hblk : ad.block < v.heap.size := by
        have := World.block_lt_of_cell? v (ad.add 0) (hcell 0 hz)
        rwa [hadd] at this
      have hb2 : Below v.heap.size v W := hv.trans (hW.mono hv.size)
      have hadd2 : ∀ j, (ad.add j).block = ad.block := fun j => by unfold Addr.add; split <;> rfl
      refine (pairs1_in F n h7 hro hn l Bs n0 ad cap zs hlen hby J Jx hY W (by omega) hc' (fun j hj => (hb2.cell (p := ad.add j) (by rw [hadd2]; exact hblk)).trans (hcell j hj)) h0).mono ?_
      rintro e W' ⟨he, ⟨ys, rfl, hj⟩ | ⟨p, hk, hj⟩⟩
      · exact ⟨he, .inl ⟨_, rfl, hj⟩⟩
      · exact ⟨he, .inr ⟨_, hk, hj⟩⟩

set_option maxHeartbeats 1000000 in
theorem add_in (F : Fence) (n : Nat) (h5 : F.fn 66) (hro : F.round = none) (a b : Int) (w : World) :
    CallsIn F n Try.prog 66 #[.int .i64 a, .int .i64 b] w fun e w' => e = .returned (.int .i64 (addF a b)) ∧ w = w' := by
  have ha := and_low a
  have hb := and_low b
  have hs := and_low (a % 65536 + b % 65536)
  refine callsIn_of_wp Try.func66 rfl h5 ?_ hro
  simp only [Try.ntmps66, List.size_toArray, List.length_cons, List.length_nil, Nat.reduceAdd, Nat.reduceSub, Array.replicate_succ, Array.replicate_zero, List.push_toArray, List.append_toArray, List.nil_append, List.cons_append]
  gi_wp2
  go_ret
  exact ⟨rfl, rfl⟩

set_option maxRecDepth 100000 in
set_option maxHeartbeats 4000000 in
theorem sum_in (F : Fence) (n : Nat) (h3 : F.fn 62) (h5 : F.fn 68) (h6 : F.fn 70) (h7 : F.fn 66) (hro : F.round = none) (hn : 4 ≤ n) (A0 : Option Addr) (c0 : Nat) (zs : List Int) (hlen : zs.length ≤ 4611686018427387904) (hby : bytesB zs = true) (w : World)
    (hI : Kd.C (Kd.int .u8) w A0 zs.length zs) :
    CallsIn F n Try.prog 62 #[.slice A0 zs.length c0] w fun e W' => e = .returned (.int .i64 (sumW zs)) ∧ Below w.heap.size w W' := by
  have h1 : 1 ≤ n := by omega
  refine callsIn_of_wp_marks Try.func62 rfl h3 ?_ hro
  simp only [Try.ntmps62, List.size_toArray, List.length_cons, List.length_nil, Nat.reduceAdd, Nat.reduceSub, Array.replicate_succ, Array.replicate_zero, List.push_toArray, List.append_toArray, List.nil_append, List.cons_append]
  gi_wp2_with (gi_at_call 68; refine (pairs_in F (n - 1) h5 hro _ _ _ _).mono ?_; rintro e w' ⟨rfl, rfl⟩)
  have hs := cell_new_l w (.int .i64 0) 3
  have hb := cell_new_l (w.alloc (.cells #[.int .i64 0] 3)) (.slice A0 zs.length c0) 23
  rw [World.size_alloc] at hb
  have hB0 : Below w.heap.size w ((w.alloc (.cells #[.int .i64 0] 3)).alloc (.cells #[.slice A0 zs.length c0] 23)) := ((Below.refl _ w).alloc (Nat.le_refl _) _).alloc (by simp) _
  refine wpIn_rangeFunc_ownF hro h1 (gf := 70) (lb := #[.pointer (some ⟨w.heap.size + 1, 0, none⟩)]) rfl h6 (enters_of Try.func70 (by kernel_rfl) rfl)
    (pairs_stops F (n - 1) h6 hro (by omega) (w.heap.size + 1) w.heap.size A0 c0 zs hlen hby _ w (by simp) hB0 rfl hb.1 hI) KP.trans (fun W l o o' hl h a b => ⟨belowK_b (w := w) (Nat.le_refl _) W l o o' (by simp at hl; omega) h a b, by simp at hl; exact World.putObj_heap_other (by omega)⟩) (Below.refl _ _) (fun _ => rfl)
    (fun pre W => (W.cell? ⟨w.heap.size, 0, none⟩ = some (.int .i64 (foldW 0 pre)) ∧ W.frozen? ⟨w.heap.size, 0, none⟩ = false) ∧ Below w.heap.size w W)
    (fun _ _ _ => False)
    (OwnFrom.and (Own.from (fun s A B row hs hg hr => ⟨cell_kept hs.1 hg hr, (frozen_kept hs.1 hg hr).trans hs.2⟩) _) (ownFrom_below (Nat.le_refl _) (by simp; omega)))
    (fun _ _ _ _ _ hs _ _ => hs)
    ⟨⟨cell_alloc_l _ hs.1, frozen_alloc_l _ hs.1 hs.2⟩, hB0⟩
    (fun x => { tmps := #[.slice A0 zs.length c0, undef, .int .i64 0, .pointer (some ⟨w.heap.size, 0, none⟩), .int .i64 x, .slice A0 zs.length c0, .func (.func 70) #[] #[.pointer (some ⟨w.heap.size + 1, 0, none⟩)], .int .i64 x, undef, undef, undef, undef], defers := [] }) ?assign ?body ?done ?stop
  case assign =>
    intro l x W K hK
    gi_wp2
    exact hK
  case body =>
    rintro l pre x W ⟨⟨hc, hf⟩, hB⟩ _
    have hn' : 1 ≤ n - 1 - 1 := by omega
    gi_wp2_with (gi_at_call 66; refine (CallsIn.inRound l (add_in F _ h7 hro (foldW 0 pre) x _)).mono ?_; rintro e w' ⟨rfl, rfl⟩)
    exact ⟨KeepsOthers.setCell _ _ _, ⟨(Below.refl w.heap.size W).setCell (p := ⟨w.heap.size, 0, none⟩) (Nat.le_refl _) _, Below.heap_setCell W ⟨w.heap.size, 0, none⟩ _ (w.heap.size + 1) (by simp)⟩, ⟨by rw [foldW_snoc]; exact World.cell?_setCell_same' _ _ _ (by rw [hc]; rfl), by rw [World.frozen?_setCell]; exact hf⟩, hB.setCell (p := ⟨w.heap.size, 0, none⟩) (Nat.le_refl _) _⟩
  case done =>
    rintro D ys W hD rfl ⟨⟨hc, _⟩, hB⟩ hK
    gi_wp2
    refine ⟨by simp, .inl ⟨_, _, rfl, run_takeDeferred hK, ?_⟩⟩
    exact ⟨_, results_tmp rfl _ _ _, rfl, hB.trans (belowK_b (w := w) (Nat.le_refl _) W D _ _ (by simp at hD; omega) hK rfl rfl)⟩
  case stop =>
    rintro D c pre W _ _ h _
    exact h.elim

theorem sum_calls (A0 : Option Addr) (c0 : Nat) (zs : List Int) (hlen : zs.length ≤ 4611686018427387904) (hby : bytesB zs = true) (w : World) (hI : Kd.C (Kd.int .u8) w A0 zs.length zs) :
    Calls Try.prog 62 #[.slice A0 zs.length c0] w fun e W' => e = .returned (.int .i64 (sumW zs)) ∧ Below w.heap.size w W' :=
  (callsIn_wide (n := 5)).1 (sum_in Fence.wide 5 trivial trivial trivial trivial rfl (by omega) A0 c0 zs hlen hby w hI)

end Go.Proofs.Ytdphjljbdodonaa.HSum
