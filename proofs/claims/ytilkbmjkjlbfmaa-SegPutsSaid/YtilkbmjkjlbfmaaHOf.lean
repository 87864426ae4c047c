/- sum.Of: given the head's bytes (the contract of sum.Head is a hypothesis of the theorem), the call answers the check sum over head and data; nothing that was there changes. -/
import Derived.Test.YtilkbmjkjlbfmaaHSum
namespace Go.Proofs.Ytilkbmjkjlbfmaa.HSum
open Go.RowKit Go.Shelf Go.Proofs.YtilkbmjkjlbfmaaW.PrintWords Go.Proofs.YtilkbmjkjlbfmaaW.PrintLast Go.Proofs.YtilkbmjkjlbfmaaW.PrintMore
set_option linter.unusedVariables false
set_option linter.unusedSimpArgs false
attribute [local go_sem] Oper.semAt_some

def ofW (hd zs : List Int) : Int := 65535 - foldW (sumW hd) (all zs)
theorem addF_bd (a b : Int) : 0 ≤ addF a b ∧ addF a b ≤ 65536 := by unfold addF; omega
theorem foldW_bd (n : Int) (ps : List Int) (h : 0 ≤ n ∧ n ≤ 65536) : 0 ≤ foldW n ps ∧ foldW n ps ≤ 65536 := by
  induction ps generalizing n with
  | nil => exact h
  | cons x ps ih => exact ih _ (addF_bd n x)
theorem sumW_bd (zs : List Int) : 0 ≤ sumW zs ∧ sumW zs ≤ 65536 := foldW_bd 0 _ (by omega)

set_option maxRecDepth 100000 in
set_option maxHeartbeats 4000000 in
theorem of_calls (a0 a1 a2 : Int) (A0 : Option Addr) (c0 : Nat) (zs hd : List Int) (hlen : zs.length ≤ 4611686018427387904) (hby : bytesB zs = true) (hlh : hd.length ≤ 4611686018427387904) (hbh : bytesB hd = true) (w : World) (hI : Kd.C (Kd.int .u8) w A0 zs.length zs)
    (hHead : Calls Try.prog 92 #[.int .u32 a0, .int .u32 a1, .int .u8 a2, .int .i64 (zs.length : Int)] w fun e w' => ∃ v0_ : Value, e = .returned (v0_) ∧ Kd.R (Kd.int .u8) 5 w' w.heap.size (fun _ => True) v0_ hd ∧ Below w.heap.size w w') :
    Calls Try.prog 83 #[.int .u32 a0, .int .u32 a1, .int .u8 a2, .slice A0 zs.length c0] w fun e W' => e = .returned (.int .i64 (ofW hd zs)) ∧ Below w.heap.size w W' := by
  refine (callsIn_wide (n := 6)).1 ?_
  have h1 : 1 ≤ 6 := by omega
  refine callsIn_of_wp_marks Try.func83 rfl trivial ?_ rfl
  simp only [Try.ntmps83, List.size_toArray, List.length_cons, List.length_nil, Nat.reduceAdd, Nat.reduceSub, Array.replicate_succ, Array.replicate_zero, List.push_toArray, List.append_toArray, List.nil_append, List.cons_append]
  have HH := Aside0.mk hHead
  clear hHead
  gi_wp2_with (first | (refine ⟨trivial, ?_⟩; gi_at_call 92; refine (callsIn_wide.2 HH.out).mono ?_; rintro e w1 ⟨v1, rfl, ho1, hb1⟩; obtain ⟨A1, c1, rfl, hc1, hr1⟩ := Kd.R_reads ho1; have HR1 := Aside0.mk hr1; clear hr1 ho1 hc1) | (refine ⟨trivial, ?_⟩; gi_at_call 91; refine (callsIn_wide.2 (sum_calls _ _ hd hlh hbh _ HR1.out)).mono ?_; rintro e w2 ⟨rfl, hb2⟩; have HB2 := Aside0.mk (hb1.trans (hb2.mono hb1.size)); clear hb1 hb2 HR1) | (refine ⟨trivial, ?_⟩; gi_at_call 93; refine (pairs_in Fence.wide 5 trivial rfl _ _ _ _).mono ?_; rintro e w' ⟨rfl, rfl⟩))
  obtain ⟨hq0, hq1⟩ := sumW_bd hd
  have hB2 := HB2.out
  have hsz := hB2.size
  have hs := cell_new_l w2 (.int .i64 (sumW hd)) 3
  have hb := cell_new_l (w2.alloc (.cells #[.int .i64 (sumW hd)] 3)) (.slice A0 zs.length c0) 24
  rw [World.size_alloc] at hb
  have hB0 : Below w.heap.size w ((w2.alloc (.cells #[.int .i64 (sumW hd)] 3)).alloc (.cells #[.slice A0 zs.length c0] 24)) := (hB2.alloc hsz _).alloc (by simp; omega) _
  refine wpIn_rangeFunc_ownF rfl h1 (gf := 98) (lb := #[.pointer (some ⟨w2.heap.size + 1, 0, none⟩)]) rfl trivial (enters_of Try.func98 (by kernel_rfl) rfl)
    (pairs_stops Fence.wide 5 trivial rfl (by omega) (w2.heap.size + 1) w.heap.size A0 c0 zs hlen hby _ w (by simp) hB0 rfl hb.1 hI) KP.trans (fun W l o o' hl h a b => ⟨belowK_b (w := w) (Nat.le_refl _) W l o o' (by simp at hl; omega) h a b, by simp at hl; exact World.putObj_heap_other (by omega)⟩) (Below.refl _ _) (fun _ => rfl)
    (fun pre W => (W.cell? ⟨w2.heap.size, 0, none⟩ = some (.int .i64 (foldW (sumW hd) pre)) ∧ W.frozen? ⟨w2.heap.size, 0, none⟩ = false) ∧ Below w.heap.size w W)
    (fun _ _ _ => False)
    (OwnFrom.and (Own.from (fun s A B row hs hg hr => ⟨cell_kept hs.1 hg hr, (frozen_kept hs.1 hg hr).trans hs.2⟩) _) (ownFrom_below (Nat.le_refl _) (by simp; omega)))
    (fun _ _ _ _ _ hs _ _ => hs)
    ⟨⟨cell_alloc_l _ hs.1, frozen_alloc_l _ hs.1 hs.2⟩, hB0⟩
    (fun x => { tmps := #[.int .u32 a0, .int .u32 a1, .int .u8 a2, .slice A0 zs.length c0, undef, undef, undef, undef, .int .i64 0, .pointer (some ⟨w2.heap.size, 0, none⟩), .int .i64 x, .int .u32 a0, .int .u32 a1, .int .u8 a2, .slice A0 zs.length c0, .int .i64 (zs.length : Int), .slice A1 hd.length c1, .int .i64 (sumW hd), .slice A0 zs.length c0, .func (.func 98) #[] #[.pointer (some ⟨w2.heap.size + 1, 0, none⟩)], .int .i64 x, undef, undef, undef, undef, undef], defers := [] }) ?assign ?body ?done ?stop
  case assign =>
    intro l x W K hK
    gi_wp2
    exact hK
  case body =>
    rintro l pre x W ⟨⟨hc, hf⟩, hB⟩ _
    gi_wp2_with (refine ⟨trivial, ?_⟩; gi_at_call 94; refine (CallsIn.inRound l (add_in Fence.wide _ trivial rfl (foldW (sumW hd) pre) x _)).mono ?_; rintro e w' ⟨rfl, rfl⟩)
    exact ⟨KeepsOthers.setCell _ _ _, ⟨(Below.refl w.heap.size W).setCell (p := ⟨w2.heap.size, 0, none⟩) hsz _, Below.heap_setCell W ⟨w2.heap.size, 0, none⟩ _ (w2.heap.size + 1) (by simp)⟩, ⟨by rw [foldW_snoc]; exact World.cell?_setCell_same' _ _ _ (by rw [hc]; rfl), by rw [World.frozen?_setCell]; exact hf⟩, hB.setCell (p := ⟨w2.heap.size, 0, none⟩) hsz _⟩
  case done =>
    rintro D ys W hD rfl ⟨⟨hc, _⟩, hB⟩ hK
    obtain ⟨z0, z1⟩ := foldW_bd (sumW hd) (all zs) (sumW_bd hd)
    gi_wp2
    refine ⟨by simp, .inl ⟨_, _, rfl, run_takeDeferred hK, ?_⟩⟩
    exact ⟨_, results_tmp rfl _ _ _, rfl, hB.trans (belowK_b (w := w) (Nat.le_refl _) W D _ _ (by simp at hD; omega) hK rfl rfl)⟩
  case stop =>
    rintro D c pre W _ _ h _
    exact h.elim
end Go.Proofs.Ytilkbmjkjlbfmaa.HSum
