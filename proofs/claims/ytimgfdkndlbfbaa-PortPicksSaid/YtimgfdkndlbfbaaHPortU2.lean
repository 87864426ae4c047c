/- port: the step of the laws. Conditions: each theorem's own. -/
import Derived.Test.YtimgfdkndlbfbaaHPortT2
namespace Go.Proofs.Ytimgfdkndlbfbaa.HPortS2
open Go.RowKit Go.Proofs.YtimgfdkndlbfbaaW.PrintWords Go.Proofs.YtimgfdkndlbfbaaW.PrintLast Go.Proofs.YtimgfdkndlbfbaaW.PrintMore Go.Proofs.Ytimgfdkndlbfbaa.HPort Go.Proofs.Ytimgfdkndlbfbaa.HPortR Go.Proofs.Ytimgfdkndlbfbaa.PRp Go.Proofs.Ytimgfdkndlbfbaa.PPortL Go.Proofs.Ytimgfdkndlbfbaa.HReg Go.Proofs.Ytimgfdkndlbfbaa.HPortS
set_option linter.unusedVariables false
set_option linter.unusedSimpArgs false
set_option linter.unusedSectionVars false
theorem t175 : ∀ q, q ∈ 175 :: k175.E → q ≠ 167 := by
  intro q hq
  simp [k175, k105, Kd.iso, Kd.pair, Kd.int, Kd.scalar] at hq
  omega
theorem t177 : ∀ q, q ∈ 177 :: k177.E → q ≠ 167 := by
  intro q hq
  simp [k177, k107, k105, Kd.iso, Kd.pair, Kd.int, Kd.scalar] at hq
  omega
section
variable {w0 w w' : World} {b mb ma mj : Nat} {s : TS}
theorem Tv_R {B : Nat} {α : Type} {d : Kd α} {e base : Nat} {v : Value} {l : List α} (hR : Kd.R d e w base (fun _ => True) v l) (he : ∀ q, q ∈ e :: d.E → q ≠ 167) (hT : Tb B w b mb ma mj s) (hV : Tv w w' b mb ma mj) : Kd.R d e w' base (fun _ => True) v l := by
  refine Kd.R_mono (Kd.R_move (Kd.R_bound hR) (fun k hk => ?_)) (fun _ _ => trivial)
  obtain ⟨_, _, hlt, q, hq, cells, hc⟩ := hk
  obtain ⟨na, hA⟩ := hT.A
  exact hV.old k hlt (blk_ne hc hT.blk (he q hq)) (hT.B.apart hc).symm (hA.apart hc).symm (hT.J.apart hc).symm
theorem _root_.Go.Proofs.Ytimgfdkndlbfbaa.HPort.Tb.put1 {B g i : Nat} {cs : Array Value} {u : Value} (h : Tb B w b mb ma mj s) (hg : w.heap[g]? = some (.cells cs 100 (0, 0))) : Tb B (w.setCell ⟨g, i, none⟩ u) b mb ma mj s := by
  obtain ⟨na, hA⟩ := h.A
  exact ⟨blk_far h.blk (p := ⟨g, i, none⟩) (blk_ne h.blk hg (by decide)) u, h.lo, h.ap, h.B.put hg, ⟨na, hA.put hg⟩, h.J.put hg⟩
theorem _root_.Go.Proofs.Ytimgfdkndlbfbaa.HPort.Tv.put1 {g i : Nat} {u : Value} (h : Tv w0 w b mb ma mj) (hg : w0.heap.size ≤ g) : Tv w0 (w.setCell ⟨g, i, none⟩ u) b mb ma mj :=
  ⟨h.os, h.tape, h.output, Nat.le_trans h.size (by simp [World.setCell]), fun k hk h3 h4 h5 h6 => (Below.heap_setCell w _ _ k (by show k ≠ g; omega)).trans (h.old k hk h3 h4 h5 h6)⟩
theorem _root_.Go.Proofs.Ytimgfdkndlbfbaa.HPort.Tb.five {B g : Nat} {x0 x1 x2 x3 x4 : Value} (h : Tb B w b mb ma mj s) (hg : w.heap[g]? = some (.cells #[x0, x1, x2, x3, x4] 100 (0, 0))) (y0 y1 y2 y3 y4 : Value) : Tb B (put5 w g y0 y1 y2 y3 y4) b mb ma mj s := by
  have b0 := blk_set hg 0 y0
  have b1 := blk_set b0 1 y1
  have b2 := blk_set b1 2 y2
  have b3 := blk_set b2 3 y3
  exact ((((h.put1 hg).put1 b0).put1 b1).put1 b2).put1 b3
theorem _root_.Go.Proofs.Ytimgfdkndlbfbaa.HPort.Tv.five {g : Nat} (h : Tv w0 w b mb ma mj) (hg : w0.heap.size ≤ g) (y0 y1 y2 y3 y4 : Value) : Tv w0 (put5 w g y0 y1 y2 y3 y4) b mb ma mj := ((((h.put1 hg).put1 hg).put1 hg).put1 hg).put1 hg
end
/-- What the step knows: the table, its reference's rows, its three boxes. -/
structure Sp (B : Nat) (w0 w : World) (b mb ma mj : Nat) (s : TS) (A : Option Addr) (n co : Nat) (l : List S175) (A' : Option Addr) (n' co' : Nat) (l' : List S177) (g ga gr : Nat) (bx ax rx : Array Value) : Prop where
  tb : Tb B w b mb ma mj s
  rb : Rb B w A n co l A' n' co' l'
  tv : Tv w0 w b mb ma mj
  bg : w.heap[g]? = some (.cells bx 100 (0, 0))
  ba : w.heap[ga]? = some (.cells ax 109 (0, 0))
  br : w.heap[gr]? = some (.cells rx 100 (0, 0))
  ne : w0.heap.size ≤ g ∧ w0.heap.size ≤ gr ∧ ga ≠ g ∧ gr ≠ g ∧ ga ≠ gr ∧ g ≠ gr
section
variable {B : Nat} {w0 w w' : World} {b mb ma mj : Nat} {s s1 : TS} {A A1 : Option Addr} {n co n1 co1 : Nat} {l l1 : List S175} {A' A1' : Option Addr} {n' co' n1' co1' : Nat} {l' l1' : List S177} {g ga gr : Nat} {bx ax rx : Array Value}
theorem Sp.prog (h : Sp B w0 w b mb ma mj s A n co l A' n' co' l' g ga gr bx ax rx) (hT : Tb B w' b mb ma mj s1) (hV : Tv w w' b mb ma mj) : Sp B w0 w' b mb ma mj s1 A n co l A' n' co' l' g ga gr bx ax rx :=
  ⟨hT, ⟨Tv_R h.rb.R t175 h.tb hV, Tv_R h.rb.R' t177 h.tb hV⟩, h.tv.trans hV, hV.box h.tb h.bg (by decide), hV.box h.tb h.ba (by decide), hV.box h.tb h.br (by decide), h.ne⟩
theorem Sp.below (h : Sp B w0 w b mb ma mj s A n co l A' n' co' l' g ga gr bx ax rx) (hb : Below w.heap.size w w') : Sp B w0 w' b mb ma mj s A n co l A' n' co' l' g ga gr bx ax rx :=
  ⟨h.tb.below hb, h.rb.below hb, h.tv.trans (Tv.of_below hb), blk_below h.bg hb, blk_below h.ba hb, blk_below h.br hb, h.ne⟩
theorem Sp.ref (h : Sp B w0 w b mb ma mj s A n co l A' n' co' l' g ga gr bx ax rx) (hR : Rb B w' A1 n1 co1 l1 A1' n1' co1' l1') (hb : Below w.heap.size w w') : Sp B w0 w' b mb ma mj s A1 n1 co1 l1 A1' n1' co1' l1' g ga gr bx ax rx :=
  ⟨h.tb.below hb, hR, h.tv.trans (Tv.of_below hb), blk_below h.bg hb, blk_below h.ba hb, blk_below h.br hb, h.ne⟩
theorem Sp.put {x0 x1 x2 x3 x4 : Value} (h : Sp B w0 w b mb ma mj s A n co l A' n' co' l' g ga gr #[x0, x1, x2, x3, x4] ax rx) (y0 y1 y2 y3 y4 : Value) : Sp B w0 (put5 w g y0 y1 y2 y3 y4) b mb ma mj s A n co l A' n' co' l' g ga gr #[y0, y1, y2, y3, y4] ax rx :=
  ⟨h.tb.five h.bg _ _ _ _ _, ⟨R_five h.rb.R e175 h.bg _ _ _ _ _, R_five h.rb.R' e177 h.bg _ _ _ _ _⟩, h.tv.five h.ne.1 _ _ _ _ _, five_put h.bg _ _ _ _ _, five_far h.ba h.ne.2.2.1 _ _ _ _ _, five_far h.br h.ne.2.2.2.1 _ _ _ _ _, h.ne⟩
theorem Sp.putr {x0 x1 x2 x3 x4 : Value} (h : Sp B w0 w b mb ma mj s A n co l A' n' co' l' g ga gr bx ax #[x0, x1, x2, x3, x4]) (y0 y1 y2 y3 y4 : Value) : Tb B (put5 w gr y0 y1 y2 y3 y4) b mb ma mj s ∧ Rb B (put5 w gr y0 y1 y2 y3 y4) A n co l A' n' co' l' ∧ Tv w0 (put5 w gr y0 y1 y2 y3 y4) b mb ma mj :=
  ⟨h.tb.five h.br _ _ _ _ _, ⟨R_five h.rb.R e175 h.br _ _ _ _ _, R_five h.rb.R' e177 h.br _ _ _ _ _⟩, h.tv.five h.ne.2.1 _ _ _ _ _⟩
end
/-- What a step answers. -/
def Stepped (B : Nat) (w : World) (b mb ma mj : Nat) (w' : World) (s s1 : TS) (A1 : Option Addr) (n1 co1 : Nat) (l1 : List S175) (A1' : Option Addr) (n1' co1' : Nat) (l1' : List S177) : Prop := Ok s1 l1 l1' ∧ Tb B w' b mb ma mj s1 ∧ Rb B w' A1 n1 co1 l1 A1' n1' co1' l1' ∧ Tv w w' b mb ma mj ∧ Gr s s1
set_option maxRecDepth 100000 in
set_option maxHeartbeats 16000000 in
theorem step_0 {B b mb ma mj : Nat} {s : TS} {l : List S175} {l' : List S177} {w : World} {A : Option Addr} {n co : Nat} {A' : Option Addr} {n' co' : Nat} (h : Ok s l l') (hT : Tb B w b mb ma mj s) (hR : Rb B w A n co l A' n' co' l') (hB : B ≤ w.heap.size) (o a p c d : Int) (ho : okQ ((a, p), (c, d))) :
    Calls Try.prog 48 #[.pointer (some ⟨b, 0, none⟩), rt s.low s.high s.last A n co A' n' co', .agg #[.int .i64 0, .int .i64 o, .int .u32 a, .int .u16 p, .int .u32 c, .int .u16 d]] w fun e w' => ∃ s1 A1 n1 co1 l1 A1' n1' co1' l1', e = .returned (.tuple #[rt s1.low s1.high s1.last A1 n1 co1 A1' n1' co1', .bool true]) ∧ Stepped B w b mb ma mj w' s s1 A1 n1 co1 l1 A1' n1' co1' l1' := by
  obtain ⟨s1, l1, l1', cd, hby⟩ := by_Bind B b mb ma mj h (a := a) (p := p) (o := o) (ho.1)
  have HC := Aside0.mk hby
  have HOK := Aside0.mk hby.2.2.1
  have HGR := Aside0.mk hby.2.2.2
  clear hby
  obtain ⟨hb1, hba, hb2, hB3⟩ := boxed3 w (.cells #[.int .i64 s.low, .int .i64 s.high, .int .i64 s.last, .slice A n co, .slice A' n' co'] 100) (.cells #[.int .i64 0, .int .i64 o, .int .u32 a, .int .u16 p, .int .u32 c, .int .u16 d] 109) (.cells #[.int .i64 0, .int .i64 0, .int .i64 0, .slice none 0 0, .slice none 0 0] 100)
  have HSP : ∀ w1, w1 = ((w.alloc (.cells #[.int .i64 s.low, .int .i64 s.high, .int .i64 s.last, .slice A n co, .slice A' n' co'] 100)).alloc (.cells #[.int .i64 0, .int .i64 o, .int .u32 a, .int .u16 p, .int .u32 c, .int .u16 d] 109)).alloc (.cells #[.int .i64 0, .int .i64 0, .int .i64 0, .slice none 0 0, .slice none 0 0] 100) → Sp B w w1 b mb ma mj s A n co l A' n' co' l' w.heap.size (w.heap.size + 1) (w.heap.size + 1 + 1) #[.int .i64 s.low, .int .i64 s.high, .int .i64 s.last, .slice A n co, .slice A' n' co'] #[.int .i64 0, .int .i64 o, .int .u32 a, .int .u16 p, .int .u32 c, .int .u16 d] #[.int .i64 0, .int .i64 0, .int .i64 0, .slice none 0 0, .slice none 0 0] := by
    rintro w1 rfl
    exact ⟨hT.below hB3, hR.below hB3, Tv.of_below hB3, hb1, hba, hb2, by omega⟩
  have HX := Aside0.mk HSP
  have HSZ := Aside0.mk hB
  clear hb1 hba hb2 hB3 HSP hT hR hB h ho
  unfold rt
  go_enter Try.func48, Try.ntmps48
  go_upto_region 2 with (fail)
  generalize hw1 : ((w.alloc (.cells #[.int .i64 s.low, .int .i64 s.high, .int .i64 s.last, .slice A n co, .slice A' n' co'] 100)).alloc (.cells #[.int .i64 0, .int .i64 o, .int .u32 a, .int .u16 p, .int .u32 c, .int .u16 d] 109)).alloc (.cells #[.int .i64 0, .int .i64 0, .int .i64 0, .slice none 0 0, .slice none 0 0] 100) = w1
  have HS := Aside0.mk (HX.out w1 hw1.symm)
  clear HX hw1
  generalize w.heap.size + 1 + 1 = gr at HS ⊢
  generalize w.heap.size + 1 = ga at HS ⊢
  obtain ⟨g, hg⟩ : ∃ g, w.heap.size = g := ⟨_, rfl⟩
  rw [hg] at HS ⊢
  clear hg
  obtain ⟨p0, p1, p2, p3, p4, s0_, s1_, s2_, s3_, s4_⟩ := five HS.out.bg
  have e0 := (blk_cell HS.out.ba 0).trans rfl
  have e1 := (blk_cell HS.out.ba 1).trans rfl
  have e2 := (blk_cell HS.out.ba 2).trans rfl
  have e3 := (blk_cell HS.out.ba 3).trans rfl
  have e4 := (blk_cell HS.out.ba 4).trans rfl
  have e5 := (blk_cell HS.out.ba 5).trans rfl
  go_upto_region 22 with (first | (go_at_call 55; refine (HC.out.1 _ HS.out.tb).mono ?_; rintro e w4 ⟨rfl, hT, hV⟩; replace HS := Aside0.mk (HS.out.prog hT hV); clear hT hV; clear p0 p1 p2 p3 p4 s0_ s1_ s2_ s3_ s4_ e0 e1 e2 e3 e4 e5; obtain ⟨p0, p1, p2, p3, p4, s0_, s1_, s2_, s3_, s4_⟩ := five HS.out.bg; have e0 := (blk_cell HS.out.ba 0).trans rfl; have e1 := (blk_cell HS.out.ba 1).trans rfl; have e2 := (blk_cell HS.out.ba 2).trans rfl; have e3 := (blk_cell HS.out.ba 3).trans rfl; have e4 := (blk_cell HS.out.ba 4).trans rfl; have e5 := (blk_cell HS.out.ba 5).trans rfl) | (go_at_call 84; refine (HC.out.2.1 _ _ _ _ _ _ _ HS.out.rb (by have h1 := HSZ.out; have h2 := HS.out.tv.size; omega)).mono ?_; rintro e w5 ⟨A1, n1, co1, A1', n1', co1', rfl, hR, hb⟩; unfold rt; replace HS := Aside0.mk (HS.out.ref hR hb); clear hR hb; clear p0 p1 p2 p3 p4 s0_ s1_ s2_ s3_ s4_ e0 e1 e2 e3 e4 e5; obtain ⟨p0, p1, p2, p3, p4, s0_, s1_, s2_, s3_, s4_⟩ := five HS.out.bg; have e0 := (blk_cell HS.out.ba 0).trans rfl; have e1 := (blk_cell HS.out.ba 1).trans rfl; have e2 := (blk_cell HS.out.ba 2).trans rfl; have e3 := (blk_cell HS.out.ba 3).trans rfl; have e4 := (blk_cell HS.out.ba 4).trans rfl; have e5 := (blk_cell HS.out.ba 5).trans rfl) | (go_at_call 46; refine (code_calls _ _).mono ?_; rintro e w9 ⟨rfl, rfl⟩))
  replace HS := Aside0.mk (HS.out.put (.int .i64 s1.low) (.int .i64 s1.high) (.int .i64 s1.last) (.slice A1 n1 co1) (.slice A1' n1' co1'))
  clear p0 p1 p2 p3 p4 s0_ s1_ s2_ s3_ s4_ e0 e1 e2 e3 e4 e5
  unfold put5 at HS
  generalize ((((w5.setCell ⟨g, 0, none⟩ (.int .i64 s1.low)).setCell ⟨g, 1, none⟩ (.int .i64 s1.high)).setCell ⟨g, 2, none⟩ (.int .i64 s1.last)).setCell ⟨g, 3, none⟩ (.slice A1 n1 co1)).setCell ⟨g, 4, none⟩ (.slice A1' n1' co1') = w6 at HS ⊢
  have HN := Aside0.mk (HS.out.rb.len)
  have hq0 := HOK.out.rel.nb
  have hq1 := HOK.out.rel.nj
  have hq2 := HN.out
  have d0 : decide ((s1.nb : Int) = (n1 : Int)) = true := decide_eq_true (by omega)
  have d1 : decide ((s1.nj : Int) = (n1' : Int)) = true := decide_eq_true (by omega)
  have d2 : ((s1.nb : Int) == (n1 : Int)) = true := beq_iff_eq.2 (by omega)
  have d3 : ((s1.nj : Int) == (n1' : Int)) = true := beq_iff_eq.2 (by omega)
  clear hq0 hq1 hq2 HN
  go_upto_region 23 with (go_at_call 57; refine (len_any HS.out.tb).mono ?_; rintro e w7 ⟨rfl, hb⟩; replace HS := Aside0.mk (HS.out.below hb); clear hb)
  refine start_ (n := 20) (S := fun w' => w'.heap[g]? = some (.cells #[.int .i64 s1.low, .int .i64 s1.high, .int .i64 s1.last, .slice A1 n1 co1, .slice A1' n1' co1'] 100 (0, 0))) (ds := []) (bb 20 0) (by kernel_rfl) rfl rfl (HS.out.bg) (fun hHeld => ?_)
  replace HS := Aside0.mk (HS.out.below (below_drew (Below.refl _ _)))
  generalize w7.drew = w8 at HS hHeld ⊢
  refine take_ (i := 0) (N := some 125) (v := ?_) (a' := ?_) (bb 20 1) rfl rfl (by kernel_rfl) (fun _ _ _ h => h) (Or.inl ⟨by rfl, ?_⟩) hHeld ?_ ?_
  rotate_left
  · intro w' hSw
    obtain ⟨p0, p1, p2, p3, p4, -⟩ := five hSw
    go_simp
    with_reducible rfl
  rotate_left
  · simp only [Act.put, List.setIfInBounds_toArray, List.set_cons_zero, List.set_cons_succ, i64_w, i32_w]
    rfl
  refine pure_ (i := 1) (N := some 126) (v := ?_) (a' := ?_) (bb 20 3) rfl rfl (by kernel_rfl) (fun _ _ _ h => h) (Or.inl ⟨by rfl, ?_⟩) ?_ ?_
  rotate_left
  · intro w'
    go_simp
    with_reducible rfl
  rotate_left
  · simp only [Act.put, List.setIfInBounds_toArray, List.set_cons_zero, List.set_cons_succ, i64_w, i32_w]
    rfl
  refine pure_ (i := 2) (N := some 127) (v := ?_) (a' := ?_) (bb 20 7) rfl rfl (by kernel_rfl) (fun _ _ _ h => h) (Or.inl ⟨by rfl, ?_⟩) ?_ ?_
  rotate_left
  · intro w'
    go_simp
    with_reducible rfl
  rotate_left
  · simp only [Act.put, List.setIfInBounds_toArray, List.set_cons_zero, List.set_cons_succ, i64_w, i32_w]
    rfl
  refine pure_ (i := 3) (N := some 128) (v := ?_) (a' := ?_) (bb 20 15) rfl rfl (by kernel_rfl) (fun _ _ _ h => h) (Or.inl ⟨by rfl, ?_⟩) ?_ ?_
  rotate_left
  · intro w'
    go_simp
    with_reducible rfl
  rotate_left
  · simp only [Act.put, List.setIfInBounds_toArray, List.set_cons_zero, List.set_cons_succ, i64_w, i32_w]
    rfl
  refine pure_ (i := 4) (N := some 129) (v := ?_) (a' := ?_) (bb 20 31) rfl rfl (by kernel_rfl) (fun _ _ _ h => h) (Or.inl ⟨by rfl, ?_⟩) ?_ ?_
  rotate_left
  · intro w'
    go_simp
    with_reducible rfl
  rotate_left
  · simp only [Act.put, List.setIfInBounds_toArray, List.set_cons_zero, List.set_cons_succ, i64_w, i32_w]
    rfl
  refine pure_ (i := 5) (N := some 130) (v := ?_) (a' := ?_) (bb 20 63) rfl rfl (by kernel_rfl) (fun _ _ _ h => h) (Or.inl ⟨by rfl, ?_⟩) ?_ ?_
  rotate_left
  · intro w'
    go_simp
    with_reducible rfl
  rotate_left
  · simp only [Act.put, List.setIfInBounds_toArray, List.set_cons_zero, List.set_cons_succ, i64_w, i32_w]
    rfl
  refine pure_ (i := 6) (N := some 131) (v := ?_) (a' := ?_) (bb 20 127) rfl rfl (by kernel_rfl) (fun _ _ _ h => h) (Or.inl ⟨by rfl, ?_⟩) ?_ ?_
  rotate_left
  · intro w'
    go_simp
    with_reducible rfl
  rotate_left
  · simp only [Act.put, List.setIfInBounds_toArray, List.set_cons_zero, List.set_cons_succ, i64_w, i32_w]
    rfl
  refine take_ (i := 7) (N := some 132) (v := ?_) (a' := ?_) (bb 20 255) rfl rfl (by kernel_rfl) (fun _ _ _ h => h) (Or.inl ⟨by rfl, ?_⟩) hHeld ?_ ?_
  rotate_left
  · intro w' hSw
    obtain ⟨p0, p1, p2, p3, p4, -⟩ := five hSw
    go_simp
    with_reducible rfl
  rotate_left
  · simp only [Act.put, List.setIfInBounds_toArray, List.set_cons_zero, List.set_cons_succ, i64_w, i32_w]
    rfl
  refine pure_ (i := 8) (N := some 133) (v := ?_) (a' := ?_) (bb 20 511) rfl rfl (by kernel_rfl) (fun _ _ _ h => h) (Or.inl ⟨by rfl, ?_⟩) ?_ ?_
  rotate_left
  · intro w'
    go_simp
    with_reducible rfl
  rotate_left
  · simp only [Act.put, List.setIfInBounds_toArray, List.set_cons_zero, List.set_cons_succ, i64_w, i32_w]
    rfl
  refine pure_ (i := 9) (N := some 134) (v := ?_) (a' := ?_) (bb 20 1023) rfl rfl (by kernel_rfl) (fun _ _ _ h => h) (Or.inl ⟨by rfl, ?_⟩) ?_ ?_
  rotate_left
  · intro w'
    go_simp
    with_reducible rfl
  rotate_left
  · simp only [Act.put, List.setIfInBounds_toArray, List.set_cons_zero, List.set_cons_succ, i64_w, i32_w]
    rfl
  refine pure_ (i := 10) (N := some 135) (v := ?_) (a' := ?_) (bb 20 2047) rfl rfl (by kernel_rfl) (fun _ _ _ h => h) (Or.inl ⟨by rfl, ?_⟩) ?_ ?_
  rotate_left
  · intro w'
    go_simp
    with_reducible rfl
  rotate_left
  · simp only [Act.put, List.setIfInBounds_toArray, List.set_cons_zero, List.set_cons_succ, i64_w, i32_w]
    rfl
  refine pure_ (i := 11) (N := some 136) (v := ?_) (a' := ?_) (bb 20 4095) rfl rfl (by kernel_rfl) (fun _ _ _ h => h) (Or.inl ⟨by rfl, ?_⟩) ?_ ?_
  rotate_left
  · intro w'
    go_simp
    with_reducible rfl
  rotate_left
  · simp only [Act.put, List.setIfInBounds_toArray, List.set_cons_zero, List.set_cons_succ, i64_w, i32_w]
    rfl
  refine pure_ (i := 12) (N := some 137) (v := ?_) (a' := ?_) (bb 20 8191) rfl rfl (by kernel_rfl) (fun _ _ _ h => h) (Or.inl ⟨by rfl, ?_⟩) ?_ ?_
  rotate_left
  · intro w'
    go_simp
    with_reducible rfl
  rotate_left
  · simp only [Act.put, List.setIfInBounds_toArray, List.set_cons_zero, List.set_cons_succ, i64_w, i32_w]
    rfl
  refine pure_ (i := 13) (N := some 138) (v := ?_) (a' := ?_) (bb 20 16383) rfl rfl (by kernel_rfl) (fun _ _ _ h => h) (Or.inl ⟨by rfl, ?_⟩) ?_ ?_
  rotate_left
  · intro w'
    go_simp
    with_reducible rfl
  rotate_left
  · simp only [Act.put, List.setIfInBounds_toArray, List.set_cons_zero, List.set_cons_succ, i64_w, i32_w]
    rfl
  refine take_ (i := 14) (N := some 139) (v := ?_) (a' := ?_) (bb 20 32767) rfl rfl (by kernel_rfl) (fun _ _ _ h => h) (Or.inl ⟨by rfl, ?_⟩) hHeld ?_ ?_
  rotate_left
  · intro w' hSw
    obtain ⟨p0, p1, p2, p3, p4, -⟩ := five hSw
    go_simp
    with_reducible rfl
  rotate_left
  · simp only [Act.put, List.setIfInBounds_toArray, List.set_cons_zero, List.set_cons_succ, i64_w, i32_w]
    rfl
  refine pure_ (i := 15) (N := some 140) (v := ?_) (a' := ?_) (bb 20 65535) rfl rfl (by kernel_rfl) (fun _ _ _ h => h) (Or.inl ⟨by rfl, ?_⟩) ?_ ?_
  rotate_left
  · intro w'
    go_simp
    with_reducible rfl
  rotate_left
  · simp only [Act.put, List.setIfInBounds_toArray, List.set_cons_zero, List.set_cons_succ, i64_w, i32_w]
    rfl
  refine pure_ (i := 16) (N := some 141) (v := ?_) (a' := ?_) (bb 20 131071) rfl rfl (by kernel_rfl) (fun _ _ _ h => h) (Or.inl ⟨by rfl, ?_⟩) ?_ ?_
  rotate_left
  · intro w'
    go_simp
    with_reducible rfl
  rotate_left
  · simp only [Act.put, List.setIfInBounds_toArray, List.set_cons_zero, List.set_cons_succ, i64_w, i32_w]
    rfl
  refine pure_ (i := 17) (N := some 142) (v := ?_) (a' := ?_) (bb 20 262143) rfl rfl (by kernel_rfl) (fun _ _ _ h => h) (Or.inl ⟨by rfl, ?_⟩) ?_ ?_
  rotate_left
  · intro w'
    go_simp
    with_reducible rfl
  rotate_left
  · simp only [Act.put, List.setIfInBounds_toArray, List.set_cons_zero, List.set_cons_succ, i64_w, i32_w]
    rfl
  obtain ⟨q0, q1, q2, q3, q4, s0_, s1_, s2_, s3_, s4_⟩ := five HS.out.br
  refine one_ (i := 18) (N := none) (bb 20 524287) rfl rfl (by kernel_rfl) (by decide) (fun K hK => ?_)
  refine skip_ (w1 := ((((w8.setCell ⟨gr, 0, none⟩ (.int .i64 s1.low)).setCell ⟨gr, 1, none⟩ (.int .i64 s1.high)).setCell ⟨gr, 2, none⟩ (.int .i64 s1.last)).setCell ⟨gr, 3, none⟩ (.slice A1 n1 co1)).setCell ⟨gr, 4, none⟩ (.slice A1' n1' co1')) (by rfl) rfl (by first | (go_simp; done) | (go_simp; rfl)) ?_
  refine hK.out _ _ (five_far HS.out.bg HS.out.ne.2.2.2.2.2 _ _ _ _ _) (fun hHeld => ?_)
  clear hK K q0 q1 q2 q3 q4 s0_ s1_ s2_ s3_ s4_
  refine pure_ (i := 19) (N := some 7) (v := ?_) (a' := ?_) (bb 20 1048575) rfl rfl (by kernel_rfl) (fun _ _ _ h => h) (Or.inl ⟨by rfl, ?_⟩) ?_ ?_
  rotate_left
  · intro w'
    go_simp
    with_reducible rfl
  rotate_left
  · simp only [Act.put, List.setIfInBounds_toArray, List.set_cons_zero, List.set_cons_succ, i64_w, i32_w]
    rfl
  refine done_ (by kernel_rfl) ?_
  go_wp2
  refine bodyPost_ret (results_ct rfl _ _ gr 100 #[.int .i64 s1.low, .int .i64 s1.high, .int .i64 s1.last, .slice A1 n1 co1, .slice A1' n1' co1'] (0, 0) _ rfl (five_put HS.out.br _ _ _ _ _) Try.underlying100 rfl (by kernel_rfl)) rfl ?_
  obtain ⟨f1, f2, f3⟩ := HS.out.putr (.int .i64 s1.low) (.int .i64 s1.high) (.int .i64 s1.last) (.slice A1 n1 co1) (.slice A1' n1' co1')
  exact ⟨s1, A1, n1, co1, l1, A1', n1', co1', l1', rfl, HOK.out, f1, f2, f3, HGR.out⟩
set_option maxRecDepth 100000 in
set_option maxHeartbeats 16000000 in
theorem step_1 {B b mb ma mj : Nat} {s : TS} {l : List S175} {l' : List S177} {w : World} {A : Option Addr} {n co : Nat} {A' : Option Addr} {n' co' : Nat} (h : Ok s l l') (hT : Tb B w b mb ma mj s) (hR : Rb B w A n co l A' n' co' l') (hB : B ≤ w.heap.size) (o a p c d : Int) (ho : okQ ((a, p), (c, d))) :
    Calls Try.prog 48 #[.pointer (some ⟨b, 0, none⟩), rt s.low s.high s.last A n co A' n' co', .agg #[.int .i64 1, .int .i64 o, .int .u32 a, .int .u16 p, .int .u32 c, .int .u16 d]] w fun e w' => ∃ s1 A1 n1 co1 l1 A1' n1' co1' l1', e = .returned (.tuple #[rt s1.low s1.high s1.last A1 n1 co1 A1' n1' co1', .bool true]) ∧ Stepped B w b mb ma mj w' s s1 A1 n1 co1 l1 A1' n1' co1' l1' := by
  obtain ⟨s1, l1, l1', cd, hby⟩ := by_Unbind B b mb ma mj h (a := a) (p := p) (o := o) (ho.1)
  have HC := Aside0.mk hby
  have HOK := Aside0.mk hby.2.2.1
  have HGR := Aside0.mk hby.2.2.2
  clear hby
  obtain ⟨hb1, hba, hb2, hB3⟩ := boxed3 w (.cells #[.int .i64 s.low, .int .i64 s.high, .int .i64 s.last, .slice A n co, .slice A' n' co'] 100) (.cells #[.int .i64 1, .int .i64 o, .int .u32 a, .int .u16 p, .int .u32 c, .int .u16 d] 109) (.cells #[.int .i64 0, .int .i64 0, .int .i64 0, .slice none 0 0, .slice none 0 0] 100)
  have HSP : ∀ w1, w1 = ((w.alloc (.cells #[.int .i64 s.low, .int .i64 s.high, .int .i64 s.last, .slice A n co, .slice A' n' co'] 100)).alloc (.cells #[.int .i64 1, .int .i64 o, .int .u32 a, .int .u16 p, .int .u32 c, .int .u16 d] 109)).alloc (.cells #[.int .i64 0, .int .i64 0, .int .i64 0, .slice none 0 0, .slice none 0 0] 100) → Sp B w w1 b mb ma mj s A n co l A' n' co' l' w.heap.size (w.heap.size + 1) (w.heap.size + 1 + 1) #[.int .i64 s.low, .int .i64 s.high, .int .i64 s.last, .slice A n co, .slice A' n' co'] #[.int .i64 1, .int .i64 o, .int .u32 a, .int .u16 p, .int .u32 c, .int .u16 d] #[.int .i64 0, .int .i64 0, .int .i64 0, .slice none 0 0, .slice none 0 0] := by
    rintro w1 rfl
    exact ⟨hT.below hB3, hR.below hB3, Tv.of_below hB3, hb1, hba, hb2, by omega⟩
  have HX := Aside0.mk HSP
  have HSZ := Aside0.mk hB
  clear hb1 hba hb2 hB3 HSP hT hR hB h ho
  unfold rt
  go_enter Try.func48, Try.ntmps48
  go_upto_region 2 with (fail)
  generalize hw1 : ((w.alloc (.cells #[.int .i64 s.low, .int .i64 s.high, .int .i64 s.last, .slice A n co, .slice A' n' co'] 100)).alloc (.cells #[.int .i64 1, .int .i64 o, .int .u32 a, .int .u16 p, .int .u32 c, .int .u16 d] 109)).alloc (.cells #[.int .i64 0, .int .i64 0, .int .i64 0, .slice none 0 0, .slice none 0 0] 100) = w1
  have HS := Aside0.mk (HX.out w1 hw1.symm)
  clear HX hw1
  generalize w.heap.size + 1 + 1 = gr at HS ⊢
  generalize w.heap.size + 1 = ga at HS ⊢
  obtain ⟨g, hg⟩ : ∃ g, w.heap.size = g := ⟨_, rfl⟩
  rw [hg] at HS ⊢
  clear hg
  obtain ⟨p0, p1, p2, p3, p4, s0_, s1_, s2_, s3_, s4_⟩ := five HS.out.bg
  have e0 := (blk_cell HS.out.ba 0).trans rfl
  have e1 := (blk_cell HS.out.ba 1).trans rfl
  have e2 := (blk_cell HS.out.ba 2).trans rfl
  have e3 := (blk_cell HS.out.ba 3).trans rfl
  have e4 := (blk_cell HS.out.ba 4).trans rfl
  have e5 := (blk_cell HS.out.ba 5).trans rfl
  go_upto_region 22 with (first | (go_at_call 58; refine (HC.out.1 _ HS.out.tb).mono ?_; rintro e w4 ⟨rfl, hT, hV⟩; replace HS := Aside0.mk (HS.out.prog hT hV); clear hT hV; clear p0 p1 p2 p3 p4 s0_ s1_ s2_ s3_ s4_ e0 e1 e2 e3 e4 e5; obtain ⟨p0, p1, p2, p3, p4, s0_, s1_, s2_, s3_, s4_⟩ := five HS.out.bg; have e0 := (blk_cell HS.out.ba 0).trans rfl; have e1 := (blk_cell HS.out.ba 1).trans rfl; have e2 := (blk_cell HS.out.ba 2).trans rfl; have e3 := (blk_cell HS.out.ba 3).trans rfl; have e4 := (blk_cell HS.out.ba 4).trans rfl; have e5 := (blk_cell HS.out.ba 5).trans rfl) | (go_at_call 85; refine (HC.out.2.1 _ _ _ _ _ _ _ HS.out.rb (by have h1 := HSZ.out; have h2 := HS.out.tv.size; omega)).mono ?_; rintro e w5 ⟨A1, n1, co1, A1', n1', co1', rfl, hR, hb⟩; unfold rt; replace HS := Aside0.mk (HS.out.ref hR hb); clear hR hb; clear p0 p1 p2 p3 p4 s0_ s1_ s2_ s3_ s4_ e0 e1 e2 e3 e4 e5; obtain ⟨p0, p1, p2, p3, p4, s0_, s1_, s2_, s3_, s4_⟩ := five HS.out.bg; have e0 := (blk_cell HS.out.ba 0).trans rfl; have e1 := (blk_cell HS.out.ba 1).trans rfl; have e2 := (blk_cell HS.out.ba 2).trans rfl; have e3 := (blk_cell HS.out.ba 3).trans rfl; have e4 := (blk_cell HS.out.ba 4).trans rfl; have e5 := (blk_cell HS.out.ba 5).trans rfl) | (go_at_call 46; refine (code_calls _ _).mono ?_; rintro e w9 ⟨rfl, rfl⟩))
  replace HS := Aside0.mk (HS.out.put (.int .i64 s1.low) (.int .i64 s1.high) (.int .i64 s1.last) (.slice A1 n1 co1) (.slice A1' n1' co1'))
  clear p0 p1 p2 p3 p4 s0_ s1_ s2_ s3_ s4_ e0 e1 e2 e3 e4 e5
  unfold put5 at HS
  generalize ((((w5.setCell ⟨g, 0, none⟩ (.int .i64 s1.low)).setCell ⟨g, 1, none⟩ (.int .i64 s1.high)).setCell ⟨g, 2, none⟩ (.int .i64 s1.last)).setCell ⟨g, 3, none⟩ (.slice A1 n1 co1)).setCell ⟨g, 4, none⟩ (.slice A1' n1' co1') = w6 at HS ⊢
  have HN := Aside0.mk (HS.out.rb.len)
  have hq0 := HOK.out.rel.nb
  have hq1 := HOK.out.rel.nj
  have hq2 := HN.out
  have d0 : decide ((s1.nb : Int) = (n1 : Int)) = true := decide_eq_true (by omega)
  have d1 : decide ((s1.nj : Int) = (n1' : Int)) = true := decide_eq_true (by omega)
  have d2 : ((s1.nb : Int) == (n1 : Int)) = true := beq_iff_eq.2 (by omega)
  have d3 : ((s1.nj : Int) == (n1' : Int)) = true := beq_iff_eq.2 (by omega)
  clear hq0 hq1 hq2 HN
  go_upto_region 23 with (go_at_call 57; refine (len_any HS.out.tb).mono ?_; rintro e w7 ⟨rfl, hb⟩; replace HS := Aside0.mk (HS.out.below hb); clear hb)
  refine start_ (n := 20) (S := fun w' => w'.heap[g]? = some (.cells #[.int .i64 s1.low, .int .i64 s1.high, .int .i64 s1.last, .slice A1 n1 co1, .slice A1' n1' co1'] 100 (0, 0))) (ds := []) (bb 20 0) (by kernel_rfl) rfl rfl (HS.out.bg) (fun hHeld => ?_)
  replace HS := Aside0.mk (HS.out.below (below_drew (Below.refl _ _)))
  generalize w7.drew = w8 at HS hHeld ⊢
  refine take_ (i := 0) (N := some 125) (v := ?_) (a' := ?_) (bb 20 1) rfl rfl (by kernel_rfl) (fun _ _ _ h => h) (Or.inl ⟨by rfl, ?_⟩) hHeld ?_ ?_
  rotate_left
  · intro w' hSw
    obtain ⟨p0, p1, p2, p3, p4, -⟩ := five hSw
    go_simp
    with_reducible rfl
  rotate_left
  · simp only [Act.put, List.setIfInBounds_toArray, List.set_cons_zero, List.set_cons_succ, i64_w, i32_w]
    rfl
  refine pure_ (i := 1) (N := some 126) (v := ?_) (a' := ?_) (bb 20 3) rfl rfl (by kernel_rfl) (fun _ _ _ h => h) (Or.inl ⟨by rfl, ?_⟩) ?_ ?_
  rotate_left
  · intro w'
    go_simp
    with_reducible rfl
  rotate_left
  · simp only [Act.put, List.setIfInBounds_toArray, List.set_cons_zero, List.set_cons_succ, i64_w, i32_w]
    rfl
  refine pure_ (i := 2) (N := some 127) (v := ?_) (a' := ?_) (bb 20 7) rfl rfl (by kernel_rfl) (fun _ _ _ h => h) (Or.inl ⟨by rfl, ?_⟩) ?_ ?_
  rotate_left
  · intro w'
    go_simp
    with_reducible rfl
  rotate_left
  · simp only [Act.put, List.setIfInBounds_toArray, List.set_cons_zero, List.set_cons_succ, i64_w, i32_w]
    rfl
  refine pure_ (i := 3) (N := some 128) (v := ?_) (a' := ?_) (bb 20 15) rfl rfl (by kernel_rfl) (fun _ _ _ h => h) (Or.inl ⟨by rfl, ?_⟩) ?_ ?_
  rotate_left
  · intro w'
    go_simp
    with_reducible rfl
  rotate_left
  · simp only [Act.put, List.setIfInBounds_toArray, List.set_cons_zero, List.set_cons_succ, i64_w, i32_w]
    rfl
  refine pure_ (i := 4) (N := some 129) (v := ?_) (a' := ?_) (bb 20 31) rfl rfl (by kernel_rfl) (fun _ _ _ h => h) (Or.inl ⟨by rfl, ?_⟩) ?_ ?_
  rotate_left
  · intro w'
    go_simp
    with_reducible rfl
  rotate_left
  · simp only [Act.put, List.setIfInBounds_toArray, List.set_cons_zero, List.set_cons_succ, i64_w, i32_w]
    rfl
  refine pure_ (i := 5) (N := some 130) (v := ?_) (a' := ?_) (bb 20 63) rfl rfl (by kernel_rfl) (fun _ _ _ h => h) (Or.inl ⟨by rfl, ?_⟩) ?_ ?_
  rotate_left
  · intro w'
    go_simp
    with_reducible rfl
  rotate_left
  · simp only [Act.put, List.setIfInBounds_toArray, List.set_cons_zero, List.set_cons_succ, i64_w, i32_w]
    rfl
  refine pure_ (i := 6) (N := some 131) (v := ?_) (a' := ?_) (bb 20 127) rfl rfl (by kernel_rfl) (fun _ _ _ h => h) (Or.inl ⟨by rfl, ?_⟩) ?_ ?_
  rotate_left
  · intro w'
    go_simp
    with_reducible rfl
  rotate_left
  · simp only [Act.put, List.setIfInBounds_toArray, List.set_cons_zero, List.set_cons_succ, i64_w, i32_w]
    rfl
  refine take_ (i := 7) (N := some 132) (v := ?_) (a' := ?_) (bb 20 255) rfl rfl (by kernel_rfl) (fun _ _ _ h => h) (Or.inl ⟨by rfl, ?_⟩) hHeld ?_ ?_
  rotate_left
  · intro w' hSw
    obtain ⟨p0, p1, p2, p3, p4, -⟩ := five hSw
    go_simp
    with_reducible rfl
  rotate_left
  · simp only [Act.put, List.setIfInBounds_toArray, List.set_cons_zero, List.set_cons_succ, i64_w, i32_w]
    rfl
  refine pure_ (i := 8) (N := some 133) (v := ?_) (a' := ?_) (bb 20 511) rfl rfl (by kernel_rfl) (fun _ _ _ h => h) (Or.inl ⟨by rfl, ?_⟩) ?_ ?_
  rotate_left
  · intro w'
    go_simp
    with_reducible rfl
  rotate_left
  · simp only [Act.put, List.setIfInBounds_toArray, List.set_cons_zero, List.set_cons_succ, i64_w, i32_w]
    rfl
  refine pure_ (i := 9) (N := some 134) (v := ?_) (a' := ?_) (bb 20 1023) rfl rfl (by kernel_rfl) (fun _ _ _ h => h) (Or.inl ⟨by rfl, ?_⟩) ?_ ?_
  rotate_left
  · intro w'
    go_simp
    with_reducible rfl
  rotate_left
  · simp only [Act.put, List.setIfInBounds_toArray, List.set_cons_zero, List.set_cons_succ, i64_w, i32_w]
    rfl
  refine pure_ (i := 10) (N := some 135) (v := ?_) (a' := ?_) (bb 20 2047) rfl rfl (by kernel_rfl) (fun _ _ _ h => h) (Or.inl ⟨by rfl, ?_⟩) ?_ ?_
  rotate_left
  · intro w'
    go_simp
    with_reducible rfl
  rotate_left
  · simp only [Act.put, List.setIfInBounds_toArray, List.set_cons_zero, List.set_cons_succ, i64_w, i32_w]
    rfl
  refine pure_ (i := 11) (N := some 136) (v := ?_) (a' := ?_) (bb 20 4095) rfl rfl (by kernel_rfl) (fun _ _ _ h => h) (Or.inl ⟨by rfl, ?_⟩) ?_ ?_
  rotate_left
  · intro w'
    go_simp
    with_reducible rfl
  rotate_left
  · simp only [Act.put, List.setIfInBounds_toArray, List.set_cons_zero, List.set_cons_succ, i64_w, i32_w]
    rfl
  refine pure_ (i := 12) (N := some 137) (v := ?_) (a' := ?_) (bb 20 8191) rfl rfl (by kernel_rfl) (fun _ _ _ h => h) (Or.inl ⟨by rfl, ?_⟩) ?_ ?_
  rotate_left
  · intro w'
    go_simp
    with_reducible rfl
  rotate_left
  · simp only [Act.put, List.setIfInBounds_toArray, List.set_cons_zero, List.set_cons_succ, i64_w, i32_w]
    rfl
  refine pure_ (i := 13) (N := some 138) (v := ?_) (a' := ?_) (bb 20 16383) rfl rfl (by kernel_rfl) (fun _ _ _ h => h) (Or.inl ⟨by rfl, ?_⟩) ?_ ?_
  rotate_left
  · intro w'
    go_simp
    with_reducible rfl
  rotate_left
  · simp only [Act.put, List.setIfInBounds_toArray, List.set_cons_zero, List.set_cons_succ, i64_w, i32_w]
    rfl
  refine take_ (i := 14) (N := some 139) (v := ?_) (a' := ?_) (bb 20 32767) rfl rfl (by kernel_rfl) (fun _ _ _ h => h) (Or.inl ⟨by rfl, ?_⟩) hHeld ?_ ?_
  rotate_left
  · intro w' hSw
    obtain ⟨p0, p1, p2, p3, p4, -⟩ := five hSw
    go_simp
    with_reducible rfl
  rotate_left
  · simp only [Act.put, List.setIfInBounds_toArray, List.set_cons_zero, List.set_cons_succ, i64_w, i32_w]
    rfl
  refine pure_ (i := 15) (N := some 140) (v := ?_) (a' := ?_) (bb 20 65535) rfl rfl (by kernel_rfl) (fun _ _ _ h => h) (Or.inl ⟨by rfl, ?_⟩) ?_ ?_
  rotate_left
  · intro w'
    go_simp
    with_reducible rfl
  rotate_left
  · simp only [Act.put, List.setIfInBounds_toArray, List.set_cons_zero, List.set_cons_succ, i64_w, i32_w]
    rfl
  refine pure_ (i := 16) (N := some 141) (v := ?_) (a' := ?_) (bb 20 131071) rfl rfl (by kernel_rfl) (fun _ _ _ h => h) (Or.inl ⟨by rfl, ?_⟩) ?_ ?_
  rotate_left
  · intro w'
    go_simp
    with_reducible rfl
  rotate_left
  · simp only [Act.put, List.setIfInBounds_toArray, List.set_cons_zero, List.set_cons_succ, i64_w, i32_w]
    rfl
  refine pure_ (i := 17) (N := some 142) (v := ?_) (a' := ?_) (bb 20 262143) rfl rfl (by kernel_rfl) (fun _ _ _ h => h) (Or.inl ⟨by rfl, ?_⟩) ?_ ?_
  rotate_left
  · intro w'
    go_simp
    with_reducible rfl
  rotate_left
  · simp only [Act.put, List.setIfInBounds_toArray, List.set_cons_zero, List.set_cons_succ, i64_w, i32_w]
    rfl
  obtain ⟨q0, q1, q2, q3, q4, s0_, s1_, s2_, s3_, s4_⟩ := five HS.out.br
  refine one_ (i := 18) (N := none) (bb 20 524287) rfl rfl (by kernel_rfl) (by decide) (fun K hK => ?_)
  refine skip_ (w1 := ((((w8.setCell ⟨gr, 0, none⟩ (.int .i64 s1.low)).setCell ⟨gr, 1, none⟩ (.int .i64 s1.high)).setCell ⟨gr, 2, none⟩ (.int .i64 s1.last)).setCell ⟨gr, 3, none⟩ (.slice A1 n1 co1)).setCell ⟨gr, 4, none⟩ (.slice A1' n1' co1')) (by rfl) rfl (by first | (go_simp; done) | (go_simp; rfl)) ?_
  refine hK.out _ _ (five_far HS.out.bg HS.out.ne.2.2.2.2.2 _ _ _ _ _) (fun hHeld => ?_)
  clear hK K q0 q1 q2 q3 q4 s0_ s1_ s2_ s3_ s4_
  refine pure_ (i := 19) (N := some 7) (v := ?_) (a' := ?_) (bb 20 1048575) rfl rfl (by kernel_rfl) (fun _ _ _ h => h) (Or.inl ⟨by rfl, ?_⟩) ?_ ?_
  rotate_left
  · intro w'
    go_simp
    with_reducible rfl
  rotate_left
  · simp only [Act.put, List.setIfInBounds_toArray, List.set_cons_zero, List.set_cons_succ, i64_w, i32_w]
    rfl
  refine done_ (by kernel_rfl) ?_
  go_wp2
  refine bodyPost_ret (results_ct rfl _ _ gr 100 #[.int .i64 s1.low, .int .i64 s1.high, .int .i64 s1.last, .slice A1 n1 co1, .slice A1' n1' co1'] (0, 0) _ rfl (five_put HS.out.br _ _ _ _ _) Try.underlying100 rfl (by kernel_rfl)) rfl ?_
  obtain ⟨f1, f2, f3⟩ := HS.out.putr (.int .i64 s1.low) (.int .i64 s1.high) (.int .i64 s1.last) (.slice A1 n1 co1) (.slice A1' n1' co1')
  exact ⟨s1, A1, n1, co1, l1, A1', n1', co1', l1', rfl, HOK.out, f1, f2, f3, HGR.out⟩
set_option maxRecDepth 100000 in
set_option maxHeartbeats 16000000 in
theorem step_3 {B b mb ma mj : Nat} {s : TS} {l : List S175} {l' : List S177} {w : World} {A : Option Addr} {n co : Nat} {A' : Option Addr} {n' co' : Nat} (h : Ok s l l') (hT : Tb B w b mb ma mj s) (hR : Rb B w A n co l A' n' co' l') (hB : B ≤ w.heap.size) (o a p c d : Int) (ho : okQ ((a, p), (c, d))) :
    Calls Try.prog 48 #[.pointer (some ⟨b, 0, none⟩), rt s.low s.high s.last A n co A' n' co', .agg #[.int .i64 3, .int .i64 o, .int .u32 a, .int .u16 p, .int .u32 c, .int .u16 d]] w fun e w' => ∃ s1 A1 n1 co1 l1 A1' n1' co1' l1', e = .returned (.tuple #[rt s1.low s1.high s1.last A1 n1 co1 A1' n1' co1', .bool true]) ∧ Stepped B w b mb ma mj w' s s1 A1 n1 co1 l1 A1' n1' co1' l1' := by
  obtain ⟨s1, l1, l1', cd, hby⟩ := by_Join B b mb ma mj h (a := a) (p := p) (c := c) (d := d) (o := o) (ho)
  have HC := Aside0.mk hby
  have HOK := Aside0.mk hby.2.2.1
  have HGR := Aside0.mk hby.2.2.2
  clear hby
  obtain ⟨hb1, hba, hb2, hB3⟩ := boxed3 w (.cells #[.int .i64 s.low, .int .i64 s.high, .int .i64 s.last, .slice A n co, .slice A' n' co'] 100) (.cells #[.int .i64 3, .int .i64 o, .int .u32 a, .int .u16 p, .int .u32 c, .int .u16 d] 109) (.cells #[.int .i64 0, .int .i64 0, .int .i64 0, .slice none 0 0, .slice none 0 0] 100)
  have HSP : ∀ w1, w1 = ((w.alloc (.cells #[.int .i64 s.low, .int .i64 s.high, .int .i64 s.last, .slice A n co, .slice A' n' co'] 100)).alloc (.cells #[.int .i64 3, .int .i64 o, .int .u32 a, .int .u16 p, .int .u32 c, .int .u16 d] 109)).alloc (.cells #[.int .i64 0, .int .i64 0, .int .i64 0, .slice none 0 0, .slice none 0 0] 100) → Sp B w w1 b mb ma mj s A n co l A' n' co' l' w.heap.size (w.heap.size + 1) (w.heap.size + 1 + 1) #[.int .i64 s.low, .int .i64 s.high, .int .i64 s.last, .slice A n co, .slice A' n' co'] #[.int .i64 3, .int .i64 o, .int .u32 a, .int .u16 p, .int .u32 c, .int .u16 d] #[.int .i64 0, .int .i64 0, .int .i64 0, .slice none 0 0, .slice none 0 0] := by
    rintro w1 rfl
    exact ⟨hT.below hB3, hR.below hB3, Tv.of_below hB3, hb1, hba, hb2, by omega⟩
  have HX := Aside0.mk HSP
  have HSZ := Aside0.mk hB
  clear hb1 hba hb2 hB3 HSP hT hR hB h ho
  unfold rt
  go_enter Try.func48, Try.ntmps48
  go_upto_region 2 with (fail)
  generalize hw1 : ((w.alloc (.cells #[.int .i64 s.low, .int .i64 s.high, .int .i64 s.last, .slice A n co, .slice A' n' co'] 100)).alloc (.cells #[.int .i64 3, .int .i64 o, .int .u32 a, .int .u16 p, .int .u32 c, .int .u16 d] 109)).alloc (.cells #[.int .i64 0, .int .i64 0, .int .i64 0, .slice none 0 0, .slice none 0 0] 100) = w1
  have HS := Aside0.mk (HX.out w1 hw1.symm)
  clear HX hw1
  generalize w.heap.size + 1 + 1 = gr at HS ⊢
  generalize w.heap.size + 1 = ga at HS ⊢
  obtain ⟨g, hg⟩ : ∃ g, w.heap.size = g := ⟨_, rfl⟩
  rw [hg] at HS ⊢
  clear hg
  obtain ⟨p0, p1, p2, p3, p4, s0_, s1_, s2_, s3_, s4_⟩ := five HS.out.bg
  have e0 := (blk_cell HS.out.ba 0).trans rfl
  have e1 := (blk_cell HS.out.ba 1).trans rfl
  have e2 := (blk_cell HS.out.ba 2).trans rfl
  have e3 := (blk_cell HS.out.ba 3).trans rfl
  have e4 := (blk_cell HS.out.ba 4).trans rfl
  have e5 := (blk_cell HS.out.ba 5).trans rfl
  go_upto_region 22 with (first | (go_at_call 56; refine (HC.out.1 _ HS.out.tb).mono ?_; rintro e w4 ⟨rfl, hT, hV⟩; replace HS := Aside0.mk (HS.out.prog hT hV); clear hT hV; clear p0 p1 p2 p3 p4 s0_ s1_ s2_ s3_ s4_ e0 e1 e2 e3 e4 e5; obtain ⟨p0, p1, p2, p3, p4, s0_, s1_, s2_, s3_, s4_⟩ := five HS.out.bg; have e0 := (blk_cell HS.out.ba 0).trans rfl; have e1 := (blk_cell HS.out.ba 1).trans rfl; have e2 := (blk_cell HS.out.ba 2).trans rfl; have e3 := (blk_cell HS.out.ba 3).trans rfl; have e4 := (blk_cell HS.out.ba 4).trans rfl; have e5 := (blk_cell HS.out.ba 5).trans rfl) | (go_at_call 87; refine (HC.out.2.1 _ _ _ _ _ _ _ HS.out.rb (by have h1 := HSZ.out; have h2 := HS.out.tv.size; omega)).mono ?_; rintro e w5 ⟨A1, n1, co1, A1', n1', co1', rfl, hR, hb⟩; unfold rt; replace HS := Aside0.mk (HS.out.ref hR hb); clear hR hb; clear p0 p1 p2 p3 p4 s0_ s1_ s2_ s3_ s4_ e0 e1 e2 e3 e4 e5; obtain ⟨p0, p1, p2, p3, p4, s0_, s1_, s2_, s3_, s4_⟩ := five HS.out.bg; have e0 := (blk_cell HS.out.ba 0).trans rfl; have e1 := (blk_cell HS.out.ba 1).trans rfl; have e2 := (blk_cell HS.out.ba 2).trans rfl; have e3 := (blk_cell HS.out.ba 3).trans rfl; have e4 := (blk_cell HS.out.ba 4).trans rfl; have e5 := (blk_cell HS.out.ba 5).trans rfl) | (go_at_call 46; refine (code_calls _ _).mono ?_; rintro e w9 ⟨rfl, rfl⟩))
  replace HS := Aside0.mk (HS.out.put (.int .i64 s1.low) (.int .i64 s1.high) (.int .i64 s1.last) (.slice A1 n1 co1) (.slice A1' n1' co1'))
  clear p0 p1 p2 p3 p4 s0_ s1_ s2_ s3_ s4_ e0 e1 e2 e3 e4 e5
  unfold put5 at HS
  generalize ((((w5.setCell ⟨g, 0, none⟩ (.int .i64 s1.low)).setCell ⟨g, 1, none⟩ (.int .i64 s1.high)).setCell ⟨g, 2, none⟩ (.int .i64 s1.last)).setCell ⟨g, 3, none⟩ (.slice A1 n1 co1)).setCell ⟨g, 4, none⟩ (.slice A1' n1' co1') = w6 at HS ⊢
  have HN := Aside0.mk (HS.out.rb.len)
  have hq0 := HOK.out.rel.nb
  have hq1 := HOK.out.rel.nj
  have hq2 := HN.out
  have d0 : decide ((s1.nb : Int) = (n1 : Int)) = true := decide_eq_true (by omega)
  have d1 : decide ((s1.nj : Int) = (n1' : Int)) = true := decide_eq_true (by omega)
  have d2 : ((s1.nb : Int) == (n1 : Int)) = true := beq_iff_eq.2 (by omega)
  have d3 : ((s1.nj : Int) == (n1' : Int)) = true := beq_iff_eq.2 (by omega)
  clear hq0 hq1 hq2 HN
  go_upto_region 23 with (go_at_call 57; refine (len_any HS.out.tb).mono ?_; rintro e w7 ⟨rfl, hb⟩; replace HS := Aside0.mk (HS.out.below hb); clear hb)
  refine start_ (n := 20) (S := fun w' => w'.heap[g]? = some (.cells #[.int .i64 s1.low, .int .i64 s1.high, .int .i64 s1.last, .slice A1 n1 co1, .slice A1' n1' co1'] 100 (0, 0))) (ds := []) (bb 20 0) (by kernel_rfl) rfl rfl (HS.out.bg) (fun hHeld => ?_)
  replace HS := Aside0.mk (HS.out.below (below_drew (Below.refl _ _)))
  generalize w7.drew = w8 at HS hHeld ⊢
  refine take_ (i := 0) (N := some 125) (v := ?_) (a' := ?_) (bb 20 1) rfl rfl (by kernel_rfl) (fun _ _ _ h => h) (Or.inl ⟨by rfl, ?_⟩) hHeld ?_ ?_
  rotate_left
  · intro w' hSw
    obtain ⟨p0, p1, p2, p3, p4, -⟩ := five hSw
    go_simp
    with_reducible rfl
  rotate_left
  · simp only [Act.put, List.setIfInBounds_toArray, List.set_cons_zero, List.set_cons_succ, i64_w, i32_w]
    rfl
  refine pure_ (i := 1) (N := some 126) (v := ?_) (a' := ?_) (bb 20 3) rfl rfl (by kernel_rfl) (fun _ _ _ h => h) (Or.inl ⟨by rfl, ?_⟩) ?_ ?_
  rotate_left
  · intro w'
    go_simp
    with_reducible rfl
  rotate_left
  · simp only [Act.put, List.setIfInBounds_toArray, List.set_cons_zero, List.set_cons_succ, i64_w, i32_w]
    rfl
  refine pure_ (i := 2) (N := some 127) (v := ?_) (a' := ?_) (bb 20 7) rfl rfl (by kernel_rfl) (fun _ _ _ h => h) (Or.inl ⟨by rfl, ?_⟩) ?_ ?_
  rotate_left
  · intro w'
    go_simp
    with_reducible rfl
  rotate_left
  · simp only [Act.put, List.setIfInBounds_toArray, List.set_cons_zero, List.set_cons_succ, i64_w, i32_w]
    rfl
  refine pure_ (i := 3) (N := some 128) (v := ?_) (a' := ?_) (bb 20 15) rfl rfl (by kernel_rfl) (fun _ _ _ h => h) (Or.inl ⟨by rfl, ?_⟩) ?_ ?_
  rotate_left
  · intro w'
    go_simp
    with_reducible rfl
  rotate_left
  · simp only [Act.put, List.setIfInBounds_toArray, List.set_cons_zero, List.set_cons_succ, i64_w, i32_w]
    rfl
  refine pure_ (i := 4) (N := some 129) (v := ?_) (a' := ?_) (bb 20 31) rfl rfl (by kernel_rfl) (fun _ _ _ h => h) (Or.inl ⟨by rfl, ?_⟩) ?_ ?_
  rotate_left
  · intro w'
    go_simp
    with_reducible rfl
  rotate_left
  · simp only [Act.put, List.setIfInBounds_toArray, List.set_cons_zero, List.set_cons_succ, i64_w, i32_w]
    rfl
  refine pure_ (i := 5) (N := some 130) (v := ?_) (a' := ?_) (bb 20 63) rfl rfl (by kernel_rfl) (fun _ _ _ h => h) (Or.inl ⟨by rfl, ?_⟩) ?_ ?_
  rotate_left
  · intro w'
    go_simp
    with_reducible rfl
  rotate_left
  · simp only [Act.put, List.setIfInBounds_toArray, List.set_cons_zero, List.set_cons_succ, i64_w, i32_w]
    rfl
  refine pure_ (i := 6) (N := some 131) (v := ?_) (a' := ?_) (bb 20 127) rfl rfl (by kernel_rfl) (fun _ _ _ h => h) (Or.inl ⟨by rfl, ?_⟩) ?_ ?_
  rotate_left
  · intro w'
    go_simp
    with_reducible rfl
  rotate_left
  · simp only [Act.put, List.setIfInBounds_toArray, List.set_cons_zero, List.set_cons_succ, i64_w, i32_w]
    rfl
  refine take_ (i := 7) (N := some 132) (v := ?_) (a' := ?_) (bb 20 255) rfl rfl (by kernel_rfl) (fun _ _ _ h => h) (Or.inl ⟨by rfl, ?_⟩) hHeld ?_ ?_
  rotate_left
  · intro w' hSw
    obtain ⟨p0, p1, p2, p3, p4, -⟩ := five hSw
    go_simp
    with_reducible rfl
  rotate_left
  · simp only [Act.put, List.setIfInBounds_toArray, List.set_cons_zero, List.set_cons_succ, i64_w, i32_w]
    rfl
  refine pure_ (i := 8) (N := some 133) (v := ?_) (a' := ?_) (bb 20 511) rfl rfl (by kernel_rfl) (fun _ _ _ h => h) (Or.inl ⟨by rfl, ?_⟩) ?_ ?_
  rotate_left
  · intro w'
    go_simp
    with_reducible rfl
  rotate_left
  · simp only [Act.put, List.setIfInBounds_toArray, List.set_cons_zero, List.set_cons_succ, i64_w, i32_w]
    rfl
  refine pure_ (i := 9) (N := some 134) (v := ?_) (a' := ?_) (bb 20 1023) rfl rfl (by kernel_rfl) (fun _ _ _ h => h) (Or.inl ⟨by rfl, ?_⟩) ?_ ?_
  rotate_left
  · intro w'
    go_simp
    with_reducible rfl
  rotate_left
  · simp only [Act.put, List.setIfInBounds_toArray, List.set_cons_zero, List.set_cons_succ, i64_w, i32_w]
    rfl
  refine pure_ (i := 10) (N := some 135) (v := ?_) (a' := ?_) (bb 20 2047) rfl rfl (by kernel_rfl) (fun _ _ _ h => h) (Or.inl ⟨by rfl, ?_⟩) ?_ ?_
  rotate_left
  · intro w'
    go_simp
    with_reducible rfl
  rotate_left
  · simp only [Act.put, List.setIfInBounds_toArray, List.set_cons_zero, List.set_cons_succ, i64_w, i32_w]
    rfl
  refine pure_ (i := 11) (N := some 136) (v := ?_) (a' := ?_) (bb 20 4095) rfl rfl (by kernel_rfl) (fun _ _ _ h => h) (Or.inl ⟨by rfl, ?_⟩) ?_ ?_
  rotate_left
  · intro w'
    go_simp
    with_reducible rfl
  rotate_left
  · simp only [Act.put, List.setIfInBounds_toArray, List.set_cons_zero, List.set_cons_succ, i64_w, i32_w]
    rfl
  refine pure_ (i := 12) (N := some 137) (v := ?_) (a' := ?_) (bb 20 8191) rfl rfl (by kernel_rfl) (fun _ _ _ h => h) (Or.inl ⟨by rfl, ?_⟩) ?_ ?_
  rotate_left
  · intro w'
    go_simp
    with_reducible rfl
  rotate_left
  · simp only [Act.put, List.setIfInBounds_toArray, List.set_cons_zero, List.set_cons_succ, i64_w, i32_w]
    rfl
  refine pure_ (i := 13) (N := some 138) (v := ?_) (a' := ?_) (bb 20 16383) rfl rfl (by kernel_rfl) (fun _ _ _ h => h) (Or.inl ⟨by rfl, ?_⟩) ?_ ?_
  rotate_left
  · intro w'
    go_simp
    with_reducible rfl
  rotate_left
  · simp only [Act.put, List.setIfInBounds_toArray, List.set_cons_zero, List.set_cons_succ, i64_w, i32_w]
    rfl
  refine take_ (i := 14) (N := some 139) (v := ?_) (a' := ?_) (bb 20 32767) rfl rfl (by kernel_rfl) (fun _ _ _ h => h) (Or.inl ⟨by rfl, ?_⟩) hHeld ?_ ?_
  rotate_left
  · intro w' hSw
    obtain ⟨p0, p1, p2, p3, p4, -⟩ := five hSw
    go_simp
    with_reducible rfl
  rotate_left
  · simp only [Act.put, List.setIfInBounds_toArray, List.set_cons_zero, List.set_cons_succ, i64_w, i32_w]
    rfl
  refine pure_ (i := 15) (N := some 140) (v := ?_) (a' := ?_) (bb 20 65535) rfl rfl (by kernel_rfl) (fun _ _ _ h => h) (Or.inl ⟨by rfl, ?_⟩) ?_ ?_
  rotate_left
  · intro w'
    go_simp
    with_reducible rfl
  rotate_left
  · simp only [Act.put, List.setIfInBounds_toArray, List.set_cons_zero, List.set_cons_succ, i64_w, i32_w]
    rfl
  refine pure_ (i := 16) (N := some 141) (v := ?_) (a' := ?_) (bb 20 131071) rfl rfl (by kernel_rfl) (fun _ _ _ h => h) (Or.inl ⟨by rfl, ?_⟩) ?_ ?_
  rotate_left
  · intro w'
    go_simp
    with_reducible rfl
  rotate_left
  · simp only [Act.put, List.setIfInBounds_toArray, List.set_cons_zero, List.set_cons_succ, i64_w, i32_w]
    rfl
  refine pure_ (i := 17) (N := some 142) (v := ?_) (a' := ?_) (bb 20 262143) rfl rfl (by kernel_rfl) (fun _ _ _ h => h) (Or.inl ⟨by rfl, ?_⟩) ?_ ?_
  rotate_left
  · intro w'
    go_simp
    with_reducible rfl
  rotate_left
  · simp only [Act.put, List.setIfInBounds_toArray, List.set_cons_zero, List.set_cons_succ, i64_w, i32_w]
    rfl
  obtain ⟨q0, q1, q2, q3, q4, s0_, s1_, s2_, s3_, s4_⟩ := five HS.out.br
  refine one_ (i := 18) (N := none) (bb 20 524287) rfl rfl (by kernel_rfl) (by decide) (fun K hK => ?_)
  refine skip_ (w1 := ((((w8.setCell ⟨gr, 0, none⟩ (.int .i64 s1.low)).setCell ⟨gr, 1, none⟩ (.int .i64 s1.high)).setCell ⟨gr, 2, none⟩ (.int .i64 s1.last)).setCell ⟨gr, 3, none⟩ (.slice A1 n1 co1)).setCell ⟨gr, 4, none⟩ (.slice A1' n1' co1')) (by rfl) rfl (by first | (go_simp; done) | (go_simp; rfl)) ?_
  refine hK.out _ _ (five_far HS.out.bg HS.out.ne.2.2.2.2.2 _ _ _ _ _) (fun hHeld => ?_)
  clear hK K q0 q1 q2 q3 q4 s0_ s1_ s2_ s3_ s4_
  refine pure_ (i := 19) (N := some 7) (v := ?_) (a' := ?_) (bb 20 1048575) rfl rfl (by kernel_rfl) (fun _ _ _ h => h) (Or.inl ⟨by rfl, ?_⟩) ?_ ?_
  rotate_left
  · intro w'
    go_simp
    with_reducible rfl
  rotate_left
  · simp only [Act.put, List.setIfInBounds_toArray, List.set_cons_zero, List.set_cons_succ, i64_w, i32_w]
    rfl
  refine done_ (by kernel_rfl) ?_
  go_wp2
  refine bodyPost_ret (results_ct rfl _ _ gr 100 #[.int .i64 s1.low, .int .i64 s1.high, .int .i64 s1.last, .slice A1 n1 co1, .slice A1' n1' co1'] (0, 0) _ rfl (five_put HS.out.br _ _ _ _ _) Try.underlying100 rfl (by kernel_rfl)) rfl ?_
  obtain ⟨f1, f2, f3⟩ := HS.out.putr (.int .i64 s1.low) (.int .i64 s1.high) (.int .i64 s1.last) (.slice A1 n1 co1) (.slice A1' n1' co1')
  exact ⟨s1, A1, n1, co1, l1, A1', n1', co1', l1', rfl, HOK.out, f1, f2, f3, HGR.out⟩
set_option maxRecDepth 100000 in
set_option maxHeartbeats 16000000 in
theorem step_4 {B b mb ma mj : Nat} {s : TS} {l : List S175} {l' : List S177} {w : World} {A : Option Addr} {n co : Nat} {A' : Option Addr} {n' co' : Nat} (h : Ok s l l') (hT : Tb B w b mb ma mj s) (hR : Rb B w A n co l A' n' co' l') (hB : B ≤ w.heap.size) (o a p c d : Int) (ho : okQ ((a, p), (c, d))) :
    Calls Try.prog 48 #[.pointer (some ⟨b, 0, none⟩), rt s.low s.high s.last A n co A' n' co', .agg #[.int .i64 4, .int .i64 o, .int .u32 a, .int .u16 p, .int .u32 c, .int .u16 d]] w fun e w' => ∃ s1 A1 n1 co1 l1 A1' n1' co1' l1', e = .returned (.tuple #[rt s1.low s1.high s1.last A1 n1 co1 A1' n1' co1', .bool true]) ∧ Stepped B w b mb ma mj w' s s1 A1 n1 co1 l1 A1' n1' co1' l1' := by
  obtain ⟨s1, l1, l1', cd, hby⟩ := by_Part B b mb ma mj h (a := a) (p := p) (c := c) (d := d) (ho)
  have HC := Aside0.mk hby
  have HOK := Aside0.mk hby.2.2.1
  have HGR := Aside0.mk hby.2.2.2
  clear hby
  obtain ⟨hb1, hba, hb2, hB3⟩ := boxed3 w (.cells #[.int .i64 s.low, .int .i64 s.high, .int .i64 s.last, .slice A n co, .slice A' n' co'] 100) (.cells #[.int .i64 4, .int .i64 o, .int .u32 a, .int .u16 p, .int .u32 c, .int .u16 d] 109) (.cells #[.int .i64 0, .int .i64 0, .int .i64 0, .slice none 0 0, .slice none 0 0] 100)
  have HSP : ∀ w1, w1 = ((w.alloc (.cells #[.int .i64 s.low, .int .i64 s.high, .int .i64 s.last, .slice A n co, .slice A' n' co'] 100)).alloc (.cells #[.int .i64 4, .int .i64 o, .int .u32 a, .int .u16 p, .int .u32 c, .int .u16 d] 109)).alloc (.cells #[.int .i64 0, .int .i64 0, .int .i64 0, .slice none 0 0, .slice none 0 0] 100) → Sp B w w1 b mb ma mj s A n co l A' n' co' l' w.heap.size (w.heap.size + 1) (w.heap.size + 1 + 1) #[.int .i64 s.low, .int .i64 s.high, .int .i64 s.last, .slice A n co, .slice A' n' co'] #[.int .i64 4, .int .i64 o, .int .u32 a, .int .u16 p, .int .u32 c, .int .u16 d] #[.int .i64 0, .int .i64 0, .int .i64 0, .slice none 0 0, .slice none 0 0] := by
    rintro w1 rfl
    exact ⟨hT.below hB3, hR.below hB3, Tv.of_below hB3, hb1, hba, hb2, by omega⟩
  have HX := Aside0.mk HSP
  have HSZ := Aside0.mk hB
  clear hb1 hba hb2 hB3 HSP hT hR hB h ho
  unfold rt
  go_enter Try.func48, Try.ntmps48
  go_upto_region 2 with (fail)
  generalize hw1 : ((w.alloc (.cells #[.int .i64 s.low, .int .i64 s.high, .int .i64 s.last, .slice A n co, .slice A' n' co'] 100)).alloc (.cells #[.int .i64 4, .int .i64 o, .int .u32 a, .int .u16 p, .int .u32 c, .int .u16 d] 109)).alloc (.cells #[.int .i64 0, .int .i64 0, .int .i64 0, .slice none 0 0, .slice none 0 0] 100) = w1
  have HS := Aside0.mk (HX.out w1 hw1.symm)
  clear HX hw1
  generalize w.heap.size + 1 + 1 = gr at HS ⊢
  generalize w.heap.size + 1 = ga at HS ⊢
  obtain ⟨g, hg⟩ : ∃ g, w.heap.size = g := ⟨_, rfl⟩
  rw [hg] at HS ⊢
  clear hg
  obtain ⟨p0, p1, p2, p3, p4, s0_, s1_, s2_, s3_, s4_⟩ := five HS.out.bg
  have e0 := (blk_cell HS.out.ba 0).trans rfl
  have e1 := (blk_cell HS.out.ba 1).trans rfl
  have e2 := (blk_cell HS.out.ba 2).trans rfl
  have e3 := (blk_cell HS.out.ba 3).trans rfl
  have e4 := (blk_cell HS.out.ba 4).trans rfl
  have e5 := (blk_cell HS.out.ba 5).trans rfl
  go_upto_region 22 with (first | (go_at_call 59; refine (HC.out.1 _ HS.out.tb).mono ?_; rintro e w4 ⟨rfl, hT, hV⟩; replace HS := Aside0.mk (HS.out.prog hT hV); clear hT hV; clear p0 p1 p2 p3 p4 s0_ s1_ s2_ s3_ s4_ e0 e1 e2 e3 e4 e5; obtain ⟨p0, p1, p2, p3, p4, s0_, s1_, s2_, s3_, s4_⟩ := five HS.out.bg; have e0 := (blk_cell HS.out.ba 0).trans rfl; have e1 := (blk_cell HS.out.ba 1).trans rfl; have e2 := (blk_cell HS.out.ba 2).trans rfl; have e3 := (blk_cell HS.out.ba 3).trans rfl; have e4 := (blk_cell HS.out.ba 4).trans rfl; have e5 := (blk_cell HS.out.ba 5).trans rfl) | (go_at_call 88; refine (HC.out.2.1 _ _ _ _ _ _ _ HS.out.rb (by have h1 := HSZ.out; have h2 := HS.out.tv.size; omega)).mono ?_; rintro e w5 ⟨A1, n1, co1, A1', n1', co1', rfl, hR, hb⟩; unfold rt; replace HS := Aside0.mk (HS.out.ref hR hb); clear hR hb; clear p0 p1 p2 p3 p4 s0_ s1_ s2_ s3_ s4_ e0 e1 e2 e3 e4 e5; obtain ⟨p0, p1, p2, p3, p4, s0_, s1_, s2_, s3_, s4_⟩ := five HS.out.bg; have e0 := (blk_cell HS.out.ba 0).trans rfl; have e1 := (blk_cell HS.out.ba 1).trans rfl; have e2 := (blk_cell HS.out.ba 2).trans rfl; have e3 := (blk_cell HS.out.ba 3).trans rfl; have e4 := (blk_cell HS.out.ba 4).trans rfl; have e5 := (blk_cell HS.out.ba 5).trans rfl) | (go_at_call 46; refine (code_calls _ _).mono ?_; rintro e w9 ⟨rfl, rfl⟩))
  replace HS := Aside0.mk (HS.out.put (.int .i64 s1.low) (.int .i64 s1.high) (.int .i64 s1.last) (.slice A1 n1 co1) (.slice A1' n1' co1'))
  clear p0 p1 p2 p3 p4 s0_ s1_ s2_ s3_ s4_ e0 e1 e2 e3 e4 e5
  unfold put5 at HS
  generalize ((((w5.setCell ⟨g, 0, none⟩ (.int .i64 s1.low)).setCell ⟨g, 1, none⟩ (.int .i64 s1.high)).setCell ⟨g, 2, none⟩ (.int .i64 s1.last)).setCell ⟨g, 3, none⟩ (.slice A1 n1 co1)).setCell ⟨g, 4, none⟩ (.slice A1' n1' co1') = w6 at HS ⊢
  have HN := Aside0.mk (HS.out.rb.len)
  have hq0 := HOK.out.rel.nb
  have hq1 := HOK.out.rel.nj
  have hq2 := HN.out
  have d0 : decide ((s1.nb : Int) = (n1 : Int)) = true := decide_eq_true (by omega)
  have d1 : decide ((s1.nj : Int) = (n1' : Int)) = true := decide_eq_true (by omega)
  have d2 : ((s1.nb : Int) == (n1 : Int)) = true := beq_iff_eq.2 (by omega)
  have d3 : ((s1.nj : Int) == (n1' : Int)) = true := beq_iff_eq.2 (by omega)
  clear hq0 hq1 hq2 HN
  go_upto_region 23 with (go_at_call 57; refine (len_any HS.out.tb).mono ?_; rintro e w7 ⟨rfl, hb⟩; replace HS := Aside0.mk (HS.out.below hb); clear hb)
  refine start_ (n := 20) (S := fun w' => w'.heap[g]? = some (.cells #[.int .i64 s1.low, .int .i64 s1.high, .int .i64 s1.last, .slice A1 n1 co1, .slice A1' n1' co1'] 100 (0, 0))) (ds := []) (bb 20 0) (by kernel_rfl) rfl rfl (HS.out.bg) (fun hHeld => ?_)
  replace HS := Aside0.mk (HS.out.below (below_drew (Below.refl _ _)))
  generalize w7.drew = w8 at HS hHeld ⊢
  refine take_ (i := 0) (N := some 125) (v := ?_) (a' := ?_) (bb 20 1) rfl rfl (by kernel_rfl) (fun _ _ _ h => h) (Or.inl ⟨by rfl, ?_⟩) hHeld ?_ ?_
  rotate_left
  · intro w' hSw
    obtain ⟨p0, p1, p2, p3, p4, -⟩ := five hSw
    go_simp
    with_reducible rfl
  rotate_left
  · simp only [Act.put, List.setIfInBounds_toArray, List.set_cons_zero, List.set_cons_succ, i64_w, i32_w]
    rfl
  refine pure_ (i := 1) (N := some 126) (v := ?_) (a' := ?_) (bb 20 3) rfl rfl (by kernel_rfl) (fun _ _ _ h => h) (Or.inl ⟨by rfl, ?_⟩) ?_ ?_
  rotate_left
  · intro w'
    go_simp
    with_reducible rfl
  rotate_left
  · simp only [Act.put, List.setIfInBounds_toArray, List.set_cons_zero, List.set_cons_succ, i64_w, i32_w]
    rfl
  refine pure_ (i := 2) (N := some 127) (v := ?_) (a' := ?_) (bb 20 7) rfl rfl (by kernel_rfl) (fun _ _ _ h => h) (Or.inl ⟨by rfl, ?_⟩) ?_ ?_
  rotate_left
  · intro w'
    go_simp
    with_reducible rfl
  rotate_left
  · simp only [Act.put, List.setIfInBounds_toArray, List.set_cons_zero, List.set_cons_succ, i64_w, i32_w]
    rfl
  refine pure_ (i := 3) (N := some 128) (v := ?_) (a' := ?_) (bb 20 15) rfl rfl (by kernel_rfl) (fun _ _ _ h => h) (Or.inl ⟨by rfl, ?_⟩) ?_ ?_
  rotate_left
  · intro w'
    go_simp
    with_reducible rfl
  rotate_left
  · simp only [Act.put, List.setIfInBounds_toArray, List.set_cons_zero, List.set_cons_succ, i64_w, i32_w]
    rfl
  refine pure_ (i := 4) (N := some 129) (v := ?_) (a' := ?_) (bb 20 31) rfl rfl (by kernel_rfl) (fun _ _ _ h => h) (Or.inl ⟨by rfl, ?_⟩) ?_ ?_
  rotate_left
  · intro w'
    go_simp
    with_reducible rfl
  rotate_left
  · simp only [Act.put, List.setIfInBounds_toArray, List.set_cons_zero, List.set_cons_succ, i64_w, i32_w]
    rfl
  refine pure_ (i := 5) (N := some 130) (v := ?_) (a' := ?_) (bb 20 63) rfl rfl (by kernel_rfl) (fun _ _ _ h => h) (Or.inl ⟨by rfl, ?_⟩) ?_ ?_
  rotate_left
  · intro w'
    go_simp
    with_reducible rfl
  rotate_left
  · simp only [Act.put, List.setIfInBounds_toArray, List.set_cons_zero, List.set_cons_succ, i64_w, i32_w]
    rfl
  refine pure_ (i := 6) (N := some 131) (v := ?_) (a' := ?_) (bb 20 127) rfl rfl (by kernel_rfl) (fun _ _ _ h => h) (Or.inl ⟨by rfl, ?_⟩) ?_ ?_
  rotate_left
  · intro w'
    go_simp
    with_reducible rfl
  rotate_left
  · simp only [Act.put, List.setIfInBounds_toArray, List.set_cons_zero, List.set_cons_succ, i64_w, i32_w]
    rfl
  refine take_ (i := 7) (N := some 132) (v := ?_) (a' := ?_) (bb 20 255) rfl rfl (by kernel_rfl) (fun _ _ _ h => h) (Or.inl ⟨by rfl, ?_⟩) hHeld ?_ ?_
  rotate_left
  · intro w' hSw
    obtain ⟨p0, p1, p2, p3, p4, -⟩ := five hSw
    go_simp
    with_reducible rfl
  rotate_left
  · simp only [Act.put, List.setIfInBounds_toArray, List.set_cons_zero, List.set_cons_succ, i64_w, i32_w]
    rfl
  refine pure_ (i := 8) (N := some 133) (v := ?_) (a' := ?_) (bb 20 511) rfl rfl (by kernel_rfl) (fun _ _ _ h => h) (Or.inl ⟨by rfl, ?_⟩) ?_ ?_
  rotate_left
  · intro w'
    go_simp
    with_reducible rfl
  rotate_left
  · simp only [Act.put, List.setIfInBounds_toArray, List.set_cons_zero, List.set_cons_succ, i64_w, i32_w]
    rfl
  refine pure_ (i := 9) (N := some 134) (v := ?_) (a' := ?_) (bb 20 1023) rfl rfl (by kernel_rfl) (fun _ _ _ h => h) (Or.inl ⟨by rfl, ?_⟩) ?_ ?_
  rotate_left
  · intro w'
    go_simp
    with_reducible rfl
  rotate_left
  · simp only [Act.put, List.setIfInBounds_toArray, List.set_cons_zero, List.set_cons_succ, i64_w, i32_w]
    rfl
  refine pure_ (i := 10) (N := some 135) (v := ?_) (a' := ?_) (bb 20 2047) rfl rfl (by kernel_rfl) (fun _ _ _ h => h) (Or.inl ⟨by rfl, ?_⟩) ?_ ?_
  rotate_left
  · intro w'
    go_simp
    with_reducible rfl
  rotate_left
  · simp only [Act.put, List.setIfInBounds_toArray, List.set_cons_zero, List.set_cons_succ, i64_w, i32_w]
    rfl
  refine pure_ (i := 11) (N := some 136) (v := ?_) (a' := ?_) (bb 20 4095) rfl rfl (by kernel_rfl) (fun _ _ _ h => h) (Or.inl ⟨by rfl, ?_⟩) ?_ ?_
  rotate_left
  · intro w'
    go_simp
    with_reducible rfl
  rotate_left
  · simp only [Act.put, List.setIfInBounds_toArray, List.set_cons_zero, List.set_cons_succ, i64_w, i32_w]
    rfl
  refine pure_ (i := 12) (N := some 137) (v := ?_) (a' := ?_) (bb 20 8191) rfl rfl (by kernel_rfl) (fun _ _ _ h => h) (Or.inl ⟨by rfl, ?_⟩) ?_ ?_
  rotate_left
  · intro w'
    go_simp
    with_reducible rfl
  rotate_left
  · simp only [Act.put, List.setIfInBounds_toArray, List.set_cons_zero, List.set_cons_succ, i64_w, i32_w]
    rfl
  refine pure_ (i := 13) (N := some 138) (v := ?_) (a' := ?_) (bb 20 16383) rfl rfl (by kernel_rfl) (fun _ _ _ h => h) (Or.inl ⟨by rfl, ?_⟩) ?_ ?_
  rotate_left
  · intro w'
    go_simp
    with_reducible rfl
  rotate_left
  · simp only [Act.put, List.setIfInBounds_toArray, List.set_cons_zero, List.set_cons_succ, i64_w, i32_w]
    rfl
  refine take_ (i := 14) (N := some 139) (v := ?_) (a' := ?_) (bb 20 32767) rfl rfl (by kernel_rfl) (fun _ _ _ h => h) (Or.inl ⟨by rfl, ?_⟩) hHeld ?_ ?_
  rotate_left
  · intro w' hSw
    obtain ⟨p0, p1, p2, p3, p4, -⟩ := five hSw
    go_simp
    with_reducible rfl
  rotate_left
  · simp only [Act.put, List.setIfInBounds_toArray, List.set_cons_zero, List.set_cons_succ, i64_w, i32_w]
    rfl
  refine pure_ (i := 15) (N := some 140) (v := ?_) (a' := ?_) (bb 20 65535) rfl rfl (by kernel_rfl) (fun _ _ _ h => h) (Or.inl ⟨by rfl, ?_⟩) ?_ ?_
  rotate_left
  · intro w'
    go_simp
    with_reducible rfl
  rotate_left
  · simp only [Act.put, List.setIfInBounds_toArray, List.set_cons_zero, List.set_cons_succ, i64_w, i32_w]
    rfl
  refine pure_ (i := 16) (N := some 141) (v := ?_) (a' := ?_) (bb 20 131071) rfl rfl (by kernel_rfl) (fun _ _ _ h => h) (Or.inl ⟨by rfl, ?_⟩) ?_ ?_
  rotate_left
  · intro w'
    go_simp
    with_reducible rfl
  rotate_left
  · simp only [Act.put, List.setIfInBounds_toArray, List.set_cons_zero, List.set_cons_succ, i64_w, i32_w]
    rfl
  refine pure_ (i := 17) (N := some 142) (v := ?_) (a' := ?_) (bb 20 262143) rfl rfl (by kernel_rfl) (fun _ _ _ h => h) (Or.inl ⟨by rfl, ?_⟩) ?_ ?_
  rotate_left
  · intro w'
    go_simp
    with_reducible rfl
  rotate_left
  · simp only [Act.put, List.setIfInBounds_toArray, List.set_cons_zero, List.set_cons_succ, i64_w, i32_w]
    rfl
  obtain ⟨q0, q1, q2, q3, q4, s0_, s1_, s2_, s3_, s4_⟩ := five HS.out.br
  refine one_ (i := 18) (N := none) (bb 20 524287) rfl rfl (by kernel_rfl) (by decide) (fun K hK => ?_)
  refine skip_ (w1 := ((((w8.setCell ⟨gr, 0, none⟩ (.int .i64 s1.low)).setCell ⟨gr, 1, none⟩ (.int .i64 s1.high)).setCell ⟨gr, 2, none⟩ (.int .i64 s1.last)).setCell ⟨gr, 3, none⟩ (.slice A1 n1 co1)).setCell ⟨gr, 4, none⟩ (.slice A1' n1' co1')) (by rfl) rfl (by first | (go_simp; done) | (go_simp; rfl)) ?_
  refine hK.out _ _ (five_far HS.out.bg HS.out.ne.2.2.2.2.2 _ _ _ _ _) (fun hHeld => ?_)
  clear hK K q0 q1 q2 q3 q4 s0_ s1_ s2_ s3_ s4_
  refine pure_ (i := 19) (N := some 7) (v := ?_) (a' := ?_) (bb 20 1048575) rfl rfl (by kernel_rfl) (fun _ _ _ h => h) (Or.inl ⟨by rfl, ?_⟩) ?_ ?_
  rotate_left
  · intro w'
    go_simp
    with_reducible rfl
  rotate_left
  · simp only [Act.put, List.setIfInBounds_toArray, List.set_cons_zero, List.set_cons_succ, i64_w, i32_w]
    rfl
  refine done_ (by kernel_rfl) ?_
  go_wp2
  refine bodyPost_ret (results_ct rfl _ _ gr 100 #[.int .i64 s1.low, .int .i64 s1.high, .int .i64 s1.last, .slice A1 n1 co1, .slice A1' n1' co1'] (0, 0) _ rfl (five_put HS.out.br _ _ _ _ _) Try.underlying100 rfl (by kernel_rfl)) rfl ?_
  obtain ⟨f1, f2, f3⟩ := HS.out.putr (.int .i64 s1.low) (.int .i64 s1.high) (.int .i64 s1.last) (.slice A1 n1 co1) (.slice A1' n1' co1')
  exact ⟨s1, A1, n1, co1, l1, A1', n1', co1', l1', rfl, HOK.out, f1, f2, f3, HGR.out⟩
set_option maxRecDepth 100000 in
set_option maxHeartbeats 16000000 in
theorem step_2 {B b mb ma mj : Nat} {s : TS} {l : List S175} {l' : List S177} {w : World} {A : Option Addr} {n co : Nat} {A' : Option Addr} {n' co' : Nat} (h : Ok s l l') (hT : Tb B w b mb ma mj s) (hR : Rb B w A n co l A' n' co' l') (hB : B ≤ w.heap.size) (o a p c d : Int) (ho : okQ ((a, p), (c, d))) :
    Calls Try.prog 48 #[.pointer (some ⟨b, 0, none⟩), rt s.low s.high s.last A n co A' n' co', .agg #[.int .i64 2, .int .i64 o, .int .u32 a, .int .u16 p, .int .u32 c, .int .u16 d]] w fun e w' => ∃ s1 A1 n1 co1 l1 A1' n1' co1' l1', e = .returned (.tuple #[rt s1.low s1.high s1.last A1 n1 co1 A1' n1' co1', .bool true]) ∧ Stepped B w b mb ma mj w' s s1 A1 n1 co1 l1 A1' n1' co1' l1' := by
  obtain ⟨s1, pt, cd, hby, -⟩ := by_Pick B b mb ma mj h ho.1.1
  have HC := Aside0.mk hby
  have HOK := Aside0.mk hby.2.2.1
  have HGR := Aside0.mk hby.2.2.2
  have hbt : (pt != pt) = false := bne_self_eq_false pt
  clear hby
  obtain ⟨hb1, hba, hb2, hB3⟩ := boxed3 w (.cells #[.int .i64 s.low, .int .i64 s.high, .int .i64 s.last, .slice A n co, .slice A' n' co'] 100) (.cells #[.int .i64 2, .int .i64 o, .int .u32 a, .int .u16 p, .int .u32 c, .int .u16 d] 109) (.cells #[.int .i64 0, .int .i64 0, .int .i64 0, .slice none 0 0, .slice none 0 0] 100)
  have HSP : ∀ w1, w1 = ((w.alloc (.cells #[.int .i64 s.low, .int .i64 s.high, .int .i64 s.last, .slice A n co, .slice A' n' co'] 100)).alloc (.cells #[.int .i64 2, .int .i64 o, .int .u32 a, .int .u16 p, .int .u32 c, .int .u16 d] 109)).alloc (.cells #[.int .i64 0, .int .i64 0, .int .i64 0, .slice none 0 0, .slice none 0 0] 100) → Sp B w w1 b mb ma mj s A n co l A' n' co' l' w.heap.size (w.heap.size + 1) (w.heap.size + 1 + 1) #[.int .i64 s.low, .int .i64 s.high, .int .i64 s.last, .slice A n co, .slice A' n' co'] #[.int .i64 2, .int .i64 o, .int .u32 a, .int .u16 p, .int .u32 c, .int .u16 d] #[.int .i64 0, .int .i64 0, .int .i64 0, .slice none 0 0, .slice none 0 0] := by
    rintro w1 rfl
    exact ⟨hT.below hB3, hR.below hB3, Tv.of_below hB3, hb1, hba, hb2, by omega⟩
  have HX := Aside0.mk HSP
  have HSZ := Aside0.mk hB
  clear hb1 hba hb2 hB3 HSP hT hR hB h ho
  unfold rt
  go_enter Try.func48, Try.ntmps48
  go_upto_region 2 with (fail)
  generalize hw1 : ((w.alloc (.cells #[.int .i64 s.low, .int .i64 s.high, .int .i64 s.last, .slice A n co, .slice A' n' co'] 100)).alloc (.cells #[.int .i64 2, .int .i64 o, .int .u32 a, .int .u16 p, .int .u32 c, .int .u16 d] 109)).alloc (.cells #[.int .i64 0, .int .i64 0, .int .i64 0, .slice none 0 0, .slice none 0 0] 100) = w1
  have HS := Aside0.mk (HX.out w1 hw1.symm)
  clear HX hw1
  generalize w.heap.size + 1 + 1 = gr at HS ⊢
  generalize w.heap.size + 1 = ga at HS ⊢
  obtain ⟨g, hg⟩ : ∃ g, w.heap.size = g := ⟨_, rfl⟩
  rw [hg] at HS ⊢
  clear hg
  obtain ⟨p0, p1, p2, p3, p4, s0_, s1_, s2_, s3_, s4_⟩ := five HS.out.bg
  have e0 := (blk_cell HS.out.ba 0).trans rfl
  have e1 := (blk_cell HS.out.ba 1).trans rfl
  have e2 := (blk_cell HS.out.ba 2).trans rfl
  have e3 := (blk_cell HS.out.ba 3).trans rfl
  have e4 := (blk_cell HS.out.ba 4).trans rfl
  have e5 := (blk_cell HS.out.ba 5).trans rfl
  go_upto_region 11 with (go_at_call 54; refine (HC.out.1 _ HS.out.tb).mono ?_; rintro e w4 ⟨rfl, hT, hV⟩; replace HS := Aside0.mk (HS.out.prog hT hV); clear hT hV; clear p0 p1 p2 p3 p4 s0_ s1_ s2_ s3_ s4_ e0 e1 e2 e3 e4 e5; obtain ⟨p0, p1, p2, p3, p4, s0_, s1_, s2_, s3_, s4_⟩ := five HS.out.bg; have e0 := (blk_cell HS.out.ba 0).trans rfl; have e1 := (blk_cell HS.out.ba 1).trans rfl; have e2 := (blk_cell HS.out.ba 2).trans rfl; have e3 := (blk_cell HS.out.ba 3).trans rfl; have e4 := (blk_cell HS.out.ba 4).trans rfl; have e5 := (blk_cell HS.out.ba 5).trans rfl)
  go_upto_region 12 with (go_at_call 86; refine (HC.out.2.1 _ _ _ _ _ _ _ HS.out.rb (by have h1 := HSZ.out; have h2 := HS.out.tv.size; omega)).mono ?_; rintro e w5 ⟨rfl, hR, hb⟩; unfold rt; replace HS := Aside0.mk (HS.out.ref hR hb); clear hR hb; clear p0 p1 p2 p3 p4 s0_ s1_ s2_ s3_ s4_ e0 e1 e2 e3 e4 e5)
  have hN := blk_new w5 (.cells #[.int .i64 s1.low, .int .i64 s1.high, .int .i64 s1.last, .slice A n co, .slice A' n' co'] 100)
  have hz1 := blk_lt HS.out.bg
  replace HS := Aside0.mk (HS.out.below (below_alloc (Below.refl _ _) (.cells #[.int .i64 s1.low, .int .i64 s1.high, .int .i64 s1.last, .slice A n co, .slice A' n' co'] 100)))
  obtain ⟨g4, hg4⟩ : ∃ g4, g4 = w5.heap.size := ⟨_, rfl⟩
  rw [← hg4] at hN hz1 ⊢
  clear hg4
  generalize w5.alloc (.cells #[.int .i64 s1.low, .int .i64 s1.high, .int .i64 s1.last, .slice A n co, .slice A' n' co'] 100) = w5_ at HS hN ⊢
  obtain ⟨q0, q1, q2, q3, q4, -⟩ := five hN
  have HN4 := Aside0.mk hN
  clear hN
  obtain ⟨p0, p1, p2, p3, p4, s0_, s1_, s2_, s3_, s4_⟩ := five HS.out.bg
  have e0 := (blk_cell HS.out.ba 0).trans rfl
  have e1 := (blk_cell HS.out.ba 1).trans rfl
  have e2 := (blk_cell HS.out.ba 2).trans rfl
  have e3 := (blk_cell HS.out.ba 3).trans rfl
  have e4 := (blk_cell HS.out.ba 4).trans rfl
  have e5 := (blk_cell HS.out.ba 5).trans rfl
  go_upto_region 13 with (fail)
  replace HS := Aside0.mk (HS.out.put (.int .i64 s1.low) (.int .i64 s1.high) (.int .i64 s1.last) (.slice A n co) (.slice A' n' co'))
  clear p0 p1 p2 p3 p4 s0_ s1_ s2_ s3_ s4_ e0 e1 e2 e3 e4 e5
  clear q0 q1 q2 q3 q4 HN4
  unfold put5 at HS
  generalize ((((w5_.setCell ⟨g, 0, none⟩ (.int .i64 s1.low)).setCell ⟨g, 1, none⟩ (.int .i64 s1.high)).setCell ⟨g, 2, none⟩ (.int .i64 s1.last)).setCell ⟨g, 3, none⟩ (.slice A n co)).setCell ⟨g, 4, none⟩ (.slice A' n' co') = w6 at HS ⊢
  go_upto_region 22 with (go_at_call 46; refine (code_calls _ _).mono ?_; rintro e w9 ⟨rfl, rfl⟩)
  have HN := Aside0.mk (HS.out.rb.len)
  have hq0 := HOK.out.rel.nb
  have hq1 := HOK.out.rel.nj
  have hq2 := HN.out
  have d0 : decide ((s1.nb : Int) = (n : Int)) = true := decide_eq_true (by omega)
  have d1 : decide ((s1.nj : Int) = (n' : Int)) = true := decide_eq_true (by omega)
  have d2 : ((s1.nb : Int) == (n : Int)) = true := beq_iff_eq.2 (by omega)
  have d3 : ((s1.nj : Int) == (n' : Int)) = true := beq_iff_eq.2 (by omega)
  clear hq0 hq1 hq2 HN
  go_upto_region 23 with (go_at_call 57; refine (len_any HS.out.tb).mono ?_; rintro e w7 ⟨rfl, hb⟩; replace HS := Aside0.mk (HS.out.below hb); clear hb)
  refine start_ (n := 20) (S := fun w' => w'.heap[g]? = some (.cells #[.int .i64 s1.low, .int .i64 s1.high, .int .i64 s1.last, .slice A n co, .slice A' n' co'] 100 (0, 0))) (ds := []) (bb 20 0) (by kernel_rfl) rfl rfl (HS.out.bg) (fun hHeld => ?_)
  replace HS := Aside0.mk (HS.out.below (below_drew (Below.refl _ _)))
  generalize w7.drew = w8 at HS hHeld ⊢
  refine take_ (i := 0) (N := some 125) (v := ?_) (a' := ?_) (bb 20 1) rfl rfl (by kernel_rfl) (fun _ _ _ h => h) (Or.inl ⟨by rfl, ?_⟩) hHeld ?_ ?_
  rotate_left
  · intro w' hSw
    obtain ⟨p0, p1, p2, p3, p4, -⟩ := five hSw
    go_simp
    with_reducible rfl
  rotate_left
  · simp only [Act.put, List.setIfInBounds_toArray, List.set_cons_zero, List.set_cons_succ, i64_w, i32_w]
    rfl
  refine pure_ (i := 1) (N := some 126) (v := ?_) (a' := ?_) (bb 20 3) rfl rfl (by kernel_rfl) (fun _ _ _ h => h) (Or.inl ⟨by rfl, ?_⟩) ?_ ?_
  rotate_left
  · intro w'
    go_simp
    with_reducible rfl
  rotate_left
  · simp only [Act.put, List.setIfInBounds_toArray, List.set_cons_zero, List.set_cons_succ, i64_w, i32_w]
    rfl
  refine pure_ (i := 2) (N := some 127) (v := ?_) (a' := ?_) (bb 20 7) rfl rfl (by kernel_rfl) (fun _ _ _ h => h) (Or.inl ⟨by rfl, ?_⟩) ?_ ?_
  rotate_left
  · intro w'
    go_simp
    with_reducible rfl
  rotate_left
  · simp only [Act.put, List.setIfInBounds_toArray, List.set_cons_zero, List.set_cons_succ, i64_w, i32_w]
    rfl
  refine pure_ (i := 3) (N := some 128) (v := ?_) (a' := ?_) (bb 20 15) rfl rfl (by kernel_rfl) (fun _ _ _ h => h) (Or.inl ⟨by rfl, ?_⟩) ?_ ?_
  rotate_left
  · intro w'
    go_simp
    with_reducible rfl
  rotate_left
  · simp only [Act.put, List.setIfInBounds_toArray, List.set_cons_zero, List.set_cons_succ, i64_w, i32_w]
    rfl
  refine pure_ (i := 4) (N := some 129) (v := ?_) (a' := ?_) (bb 20 31) rfl rfl (by kernel_rfl) (fun _ _ _ h => h) (Or.inl ⟨by rfl, ?_⟩) ?_ ?_
  rotate_left
  · intro w'
    go_simp
    with_reducible rfl
  rotate_left
  · simp only [Act.put, List.setIfInBounds_toArray, List.set_cons_zero, List.set_cons_succ, i64_w, i32_w]
    rfl
  refine pure_ (i := 5) (N := some 130) (v := ?_) (a' := ?_) (bb 20 63) rfl rfl (by kernel_rfl) (fun _ _ _ h => h) (Or.inl ⟨by rfl, ?_⟩) ?_ ?_
  rotate_left
  · intro w'
    go_simp
    with_reducible rfl
  rotate_left
  · simp only [Act.put, List.setIfInBounds_toArray, List.set_cons_zero, List.set_cons_succ, i64_w, i32_w]
    rfl
  refine pure_ (i := 6) (N := some 131) (v := ?_) (a' := ?_) (bb 20 127) rfl rfl (by kernel_rfl) (fun _ _ _ h => h) (Or.inl ⟨by rfl, ?_⟩) ?_ ?_
  rotate_left
  · intro w'
    go_simp
    with_reducible rfl
  rotate_left
  · simp only [Act.put, List.setIfInBounds_toArray, List.set_cons_zero, List.set_cons_succ, i64_w, i32_w]
    rfl
  refine take_ (i := 7) (N := some 132) (v := ?_) (a' := ?_) (bb 20 255) rfl rfl (by kernel_rfl) (fun _ _ _ h => h) (Or.inl ⟨by rfl, ?_⟩) hHeld ?_ ?_
  rotate_left
  · intro w' hSw
    obtain ⟨p0, p1, p2, p3, p4, -⟩ := five hSw
    go_simp
    with_reducible rfl
  rotate_left
  · simp only [Act.put, List.setIfInBounds_toArray, List.set_cons_zero, List.set_cons_succ, i64_w, i32_w]
    rfl
  refine pure_ (i := 8) (N := some 133) (v := ?_) (a' := ?_) (bb 20 511) rfl rfl (by kernel_rfl) (fun _ _ _ h => h) (Or.inl ⟨by rfl, ?_⟩) ?_ ?_
  rotate_left
  · intro w'
    go_simp
    with_reducible rfl
  rotate_left
  · simp only [Act.put, List.setIfInBounds_toArray, List.set_cons_zero, List.set_cons_succ, i64_w, i32_w]
    rfl
  refine pure_ (i := 9) (N := some 134) (v := ?_) (a' := ?_) (bb 20 1023) rfl rfl (by kernel_rfl) (fun _ _ _ h => h) (Or.inl ⟨by rfl, ?_⟩) ?_ ?_
  rotate_left
  · intro w'
    go_simp
    with_reducible rfl
  rotate_left
  · simp only [Act.put, List.setIfInBounds_toArray, List.set_cons_zero, List.set_cons_succ, i64_w, i32_w]
    rfl
  refine pure_ (i := 10) (N := some 135) (v := ?_) (a' := ?_) (bb 20 2047) rfl rfl (by kernel_rfl) (fun _ _ _ h => h) (Or.inl ⟨by rfl, ?_⟩) ?_ ?_
  rotate_left
  · intro w'
    go_simp
    with_reducible rfl
  rotate_left
  · simp only [Act.put, List.setIfInBounds_toArray, List.set_cons_zero, List.set_cons_succ, i64_w, i32_w]
    rfl
  refine pure_ (i := 11) (N := some 136) (v := ?_) (a' := ?_) (bb 20 4095) rfl rfl (by kernel_rfl) (fun _ _ _ h => h) (Or.inl ⟨by rfl, ?_⟩) ?_ ?_
  rotate_left
  · intro w'
    go_simp
    with_reducible rfl
  rotate_left
  · simp only [Act.put, List.setIfInBounds_toArray, List.set_cons_zero, List.set_cons_succ, i64_w, i32_w]
    rfl
  refine pure_ (i := 12) (N := some 137) (v := ?_) (a' := ?_) (bb 20 8191) rfl rfl (by kernel_rfl) (fun _ _ _ h => h) (Or.inl ⟨by rfl, ?_⟩) ?_ ?_
  rotate_left
  · intro w'
    go_simp
    with_reducible rfl
  rotate_left
  · simp only [Act.put, List.setIfInBounds_toArray, List.set_cons_zero, List.set_cons_succ, i64_w, i32_w]
    rfl
  refine pure_ (i := 13) (N := some 138) (v := ?_) (a' := ?_) (bb 20 16383) rfl rfl (by kernel_rfl) (fun _ _ _ h => h) (Or.inl ⟨by rfl, ?_⟩) ?_ ?_
  rotate_left
  · intro w'
    go_simp
    with_reducible rfl
  rotate_left
  · simp only [Act.put, List.setIfInBounds_toArray, List.set_cons_zero, List.set_cons_succ, i64_w, i32_w]
    rfl
  refine take_ (i := 14) (N := some 139) (v := ?_) (a' := ?_) (bb 20 32767) rfl rfl (by kernel_rfl) (fun _ _ _ h => h) (Or.inl ⟨by rfl, ?_⟩) hHeld ?_ ?_
  rotate_left
  · intro w' hSw
    obtain ⟨p0, p1, p2, p3, p4, -⟩ := five hSw
    go_simp
    with_reducible rfl
  rotate_left
  · simp only [Act.put, List.setIfInBounds_toArray, List.set_cons_zero, List.set_cons_succ, i64_w, i32_w]
    rfl
  refine pure_ (i := 15) (N := some 140) (v := ?_) (a' := ?_) (bb 20 65535) rfl rfl (by kernel_rfl) (fun _ _ _ h => h) (Or.inl ⟨by rfl, ?_⟩) ?_ ?_
  rotate_left
  · intro w'
    go_simp
    with_reducible rfl
  rotate_left
  · simp only [Act.put, List.setIfInBounds_toArray, List.set_cons_zero, List.set_cons_succ, i64_w, i32_w]
    rfl
  refine pure_ (i := 16) (N := some 141) (v := ?_) (a' := ?_) (bb 20 131071) rfl rfl (by kernel_rfl) (fun _ _ _ h => h) (Or.inl ⟨by rfl, ?_⟩) ?_ ?_
  rotate_left
  · intro w'
    go_simp
    with_reducible rfl
  rotate_left
  · simp only [Act.put, List.setIfInBounds_toArray, List.set_cons_zero, List.set_cons_succ, i64_w, i32_w]
    rfl
  refine pure_ (i := 17) (N := some 142) (v := ?_) (a' := ?_) (bb 20 262143) rfl rfl (by kernel_rfl) (fun _ _ _ h => h) (Or.inl ⟨by rfl, ?_⟩) ?_ ?_
  rotate_left
  · intro w'
    go_simp
    with_reducible rfl
  rotate_left
  · simp only [Act.put, List.setIfInBounds_toArray, List.set_cons_zero, List.set_cons_succ, i64_w, i32_w]
    rfl
  obtain ⟨q0, q1, q2, q3, q4, s0_, s1_, s2_, s3_, s4_⟩ := five HS.out.br
  refine one_ (i := 18) (N := none) (bb 20 524287) rfl rfl (by kernel_rfl) (by decide) (fun K hK => ?_)
  refine skip_ (w1 := ((((w8.setCell ⟨gr, 0, none⟩ (.int .i64 s1.low)).setCell ⟨gr, 1, none⟩ (.int .i64 s1.high)).setCell ⟨gr, 2, none⟩ (.int .i64 s1.last)).setCell ⟨gr, 3, none⟩ (.slice A n co)).setCell ⟨gr, 4, none⟩ (.slice A' n' co')) (by rfl) rfl (by first | (go_simp; done) | (go_simp; rfl)) ?_
  refine hK.out _ _ (five_far HS.out.bg HS.out.ne.2.2.2.2.2 _ _ _ _ _) (fun hHeld => ?_)
  clear hK K q0 q1 q2 q3 q4 s0_ s1_ s2_ s3_ s4_
  refine pure_ (i := 19) (N := some 7) (v := ?_) (a' := ?_) (bb 20 1048575) rfl rfl (by kernel_rfl) (fun _ _ _ h => h) (Or.inl ⟨by rfl, ?_⟩) ?_ ?_
  rotate_left
  · intro w'
    go_simp
    with_reducible rfl
  rotate_left
  · simp only [Act.put, List.setIfInBounds_toArray, List.set_cons_zero, List.set_cons_succ, i64_w, i32_w]
    rfl
  refine done_ (by kernel_rfl) ?_
  go_wp2
  refine bodyPost_ret (results_ct rfl _ _ gr 100 #[.int .i64 s1.low, .int .i64 s1.high, .int .i64 s1.last, .slice A n co, .slice A' n' co'] (0, 0) _ rfl (five_put HS.out.br _ _ _ _ _) Try.underlying100 rfl (by kernel_rfl)) rfl ?_
  obtain ⟨f1, f2, f3⟩ := HS.out.putr (.int .i64 s1.low) (.int .i64 s1.high) (.int .i64 s1.last) (.slice A n co) (.slice A' n' co')
  exact ⟨s1, A, n, co, l, A', n', co', l', rfl, HOK.out, f1, f2, f3, HGR.out⟩
set_option maxRecDepth 100000 in
set_option maxHeartbeats 16000000 in
theorem step_x {B b mb ma mj : Nat} {s : TS} {l : List S175} {l' : List S177} {w : World} {A : Option Addr} {n co : Nat} {A' : Option Addr} {n' co' : Nat} (h : Ok s l l') (hT : Tb B w b mb ma mj s) (hR : Rb B w A n co l A' n' co' l') (hB : B ≤ w.heap.size) (x o a p c d : Int) (ho : okQ ((a, p), (c, d))) (hx : x < 0 ∨ 4 < x) :
    Calls Try.prog 48 #[.pointer (some ⟨b, 0, none⟩), rt s.low s.high s.last A n co A' n' co', .agg #[.int .i64 x, .int .i64 o, .int .u32 a, .int .u16 p, .int .u32 c, .int .u16 d]] w fun e w' => ∃ s1 A1 n1 co1 l1 A1' n1' co1' l1', e = .returned (.tuple #[rt s1.low s1.high s1.last A1 n1 co1 A1' n1' co1', .bool true]) ∧ Stepped B w b mb ma mj w' s s1 A1 n1 co1 l1 A1' n1' co1' l1' := by
  have z0 : (x == 0) = false := beq_eq_false_iff_ne.2 (by omega)
  have y0 : decide (x = 0) = false := decide_eq_false (by omega)
  have z1 : (x == 1) = false := beq_eq_false_iff_ne.2 (by omega)
  have y1 : decide (x = 1) = false := decide_eq_false (by omega)
  have z2 : (x == 2) = false := beq_eq_false_iff_ne.2 (by omega)
  have y2 : decide (x = 2) = false := decide_eq_false (by omega)
  have z3 : (x == 3) = false := beq_eq_false_iff_ne.2 (by omega)
  have y3 : decide (x = 3) = false := decide_eq_false (by omega)
  have z4 : (x == 4) = false := beq_eq_false_iff_ne.2 (by omega)
  have y4 : decide (x = 4) = false := decide_eq_false (by omega)
  clear hx
  have HOK := Aside0.mk h
  have HGR := Aside0.mk (Gr.refl s)
  obtain ⟨hb1, hba, hb2, hB3⟩ := boxed3 w (.cells #[.int .i64 s.low, .int .i64 s.high, .int .i64 s.last, .slice A n co, .slice A' n' co'] 100) (.cells #[.int .i64 x, .int .i64 o, .int .u32 a, .int .u16 p, .int .u32 c, .int .u16 d] 109) (.cells #[.int .i64 0, .int .i64 0, .int .i64 0, .slice none 0 0, .slice none 0 0] 100)
  have HSP : ∀ w1, w1 = ((w.alloc (.cells #[.int .i64 s.low, .int .i64 s.high, .int .i64 s.last, .slice A n co, .slice A' n' co'] 100)).alloc (.cells #[.int .i64 x, .int .i64 o, .int .u32 a, .int .u16 p, .int .u32 c, .int .u16 d] 109)).alloc (.cells #[.int .i64 0, .int .i64 0, .int .i64 0, .slice none 0 0, .slice none 0 0] 100) → Sp B w w1 b mb ma mj s A n co l A' n' co' l' w.heap.size (w.heap.size + 1) (w.heap.size + 1 + 1) #[.int .i64 s.low, .int .i64 s.high, .int .i64 s.last, .slice A n co, .slice A' n' co'] #[.int .i64 x, .int .i64 o, .int .u32 a, .int .u16 p, .int .u32 c, .int .u16 d] #[.int .i64 0, .int .i64 0, .int .i64 0, .slice none 0 0, .slice none 0 0] := by
    rintro w1 rfl
    exact ⟨hT.below hB3, hR.below hB3, Tv.of_below hB3, hb1, hba, hb2, by omega⟩
  have HX := Aside0.mk HSP
  have HSZ := Aside0.mk hB
  clear hb1 hba hb2 hB3 HSP hT hR hB h ho
  unfold rt
  go_enter Try.func48, Try.ntmps48
  go_upto_region 2 with (fail)
  generalize hw1 : ((w.alloc (.cells #[.int .i64 s.low, .int .i64 s.high, .int .i64 s.last, .slice A n co, .slice A' n' co'] 100)).alloc (.cells #[.int .i64 x, .int .i64 o, .int .u32 a, .int .u16 p, .int .u32 c, .int .u16 d] 109)).alloc (.cells #[.int .i64 0, .int .i64 0, .int .i64 0, .slice none 0 0, .slice none 0 0] 100) = w1
  have HS := Aside0.mk (HX.out w1 hw1.symm)
  clear HX hw1
  generalize w.heap.size + 1 + 1 = gr at HS ⊢
  generalize w.heap.size + 1 = ga at HS ⊢
  obtain ⟨g, hg⟩ : ∃ g, w.heap.size = g := ⟨_, rfl⟩
  rw [hg] at HS ⊢
  clear hg
  obtain ⟨p0, p1, p2, p3, p4, s0_, s1_, s2_, s3_, s4_⟩ := five HS.out.bg
  have e0 := (blk_cell HS.out.ba 0).trans rfl
  have e1 := (blk_cell HS.out.ba 1).trans rfl
  have e2 := (blk_cell HS.out.ba 2).trans rfl
  have e3 := (blk_cell HS.out.ba 3).trans rfl
  have e4 := (blk_cell HS.out.ba 4).trans rfl
  have e5 := (blk_cell HS.out.ba 5).trans rfl
  go_upto_region 22 with (fail)
  clear p0 p1 p2 p3 p4 s0_ s1_ s2_ s3_ s4_ e0 e1 e2 e3 e4 e5
  obtain ⟨w6, hw6⟩ : ∃ w6, w6 = w1 := ⟨_, rfl⟩
  rw [← hw6] at HS ⊢
  clear hw6
  have HN := Aside0.mk (HS.out.rb.len)
  have hq0 := HOK.out.rel.nb
  have hq1 := HOK.out.rel.nj
  have hq2 := HN.out
  have d0 : decide ((s.nb : Int) = (n : Int)) = true := decide_eq_true (by omega)
  have d1 : decide ((s.nj : Int) = (n' : Int)) = true := decide_eq_true (by omega)
  have d2 : ((s.nb : Int) == (n : Int)) = true := beq_iff_eq.2 (by omega)
  have d3 : ((s.nj : Int) == (n' : Int)) = true := beq_iff_eq.2 (by omega)
  clear hq0 hq1 hq2 HN
  go_upto_region 23 with (go_at_call 57; refine (len_any HS.out.tb).mono ?_; rintro e w7 ⟨rfl, hb⟩; replace HS := Aside0.mk (HS.out.below hb); clear hb)
  refine start_ (n := 20) (S := fun w' => w'.heap[g]? = some (.cells #[.int .i64 s.low, .int .i64 s.high, .int .i64 s.last, .slice A n co, .slice A' n' co'] 100 (0, 0))) (ds := []) (bb 20 0) (by kernel_rfl) rfl rfl (HS.out.bg) (fun hHeld => ?_)
  replace HS := Aside0.mk (HS.out.below (below_drew (Below.refl _ _)))
  generalize w7.drew = w8 at HS hHeld ⊢
  refine take_ (i := 0) (N := some 125) (v := ?_) (a' := ?_) (bb 20 1) rfl rfl (by kernel_rfl) (fun _ _ _ h => h) (Or.inl ⟨by rfl, ?_⟩) hHeld ?_ ?_
  rotate_left
  · intro w' hSw
    obtain ⟨p0, p1, p2, p3, p4, -⟩ := five hSw
    go_simp
    with_reducible rfl
  rotate_left
  · simp only [Act.put, List.setIfInBounds_toArray, List.set_cons_zero, List.set_cons_succ, i64_w, i32_w]
    rfl
  refine pure_ (i := 1) (N := some 126) (v := ?_) (a' := ?_) (bb 20 3) rfl rfl (by kernel_rfl) (fun _ _ _ h => h) (Or.inl ⟨by rfl, ?_⟩) ?_ ?_
  rotate_left
  · intro w'
    go_simp
    with_reducible rfl
  rotate_left
  · simp only [Act.put, List.setIfInBounds_toArray, List.set_cons_zero, List.set_cons_succ, i64_w, i32_w]
    rfl
  refine pure_ (i := 2) (N := some 127) (v := ?_) (a' := ?_) (bb 20 7) rfl rfl (by kernel_rfl) (fun _ _ _ h => h) (Or.inl ⟨by rfl, ?_⟩) ?_ ?_
  rotate_left
  · intro w'
    go_simp
    with_reducible rfl
  rotate_left
  · simp only [Act.put, List.setIfInBounds_toArray, List.set_cons_zero, List.set_cons_succ, i64_w, i32_w]
    rfl
  refine pure_ (i := 3) (N := some 128) (v := ?_) (a' := ?_) (bb 20 15) rfl rfl (by kernel_rfl) (fun _ _ _ h => h) (Or.inl ⟨by rfl, ?_⟩) ?_ ?_
  rotate_left
  · intro w'
    go_simp
    with_reducible rfl
  rotate_left
  · simp only [Act.put, List.setIfInBounds_toArray, List.set_cons_zero, List.set_cons_succ, i64_w, i32_w]
    rfl
  refine pure_ (i := 4) (N := some 129) (v := ?_) (a' := ?_) (bb 20 31) rfl rfl (by kernel_rfl) (fun _ _ _ h => h) (Or.inl ⟨by rfl, ?_⟩) ?_ ?_
  rotate_left
  · intro w'
    go_simp
    with_reducible rfl
  rotate_left
  · simp only [Act.put, List.setIfInBounds_toArray, List.set_cons_zero, List.set_cons_succ, i64_w, i32_w]
    rfl
  refine pure_ (i := 5) (N := some 130) (v := ?_) (a' := ?_) (bb 20 63) rfl rfl (by kernel_rfl) (fun _ _ _ h => h) (Or.inl ⟨by rfl, ?_⟩) ?_ ?_
  rotate_left
  · intro w'
    go_simp
    with_reducible rfl
  rotate_left
  · simp only [Act.put, List.setIfInBounds_toArray, List.set_cons_zero, List.set_cons_succ, i64_w, i32_w]
    rfl
  refine pure_ (i := 6) (N := some 131) (v := ?_) (a' := ?_) (bb 20 127) rfl rfl (by kernel_rfl) (fun _ _ _ h => h) (Or.inl ⟨by rfl, ?_⟩) ?_ ?_
  rotate_left
  · intro w'
    go_simp
    with_reducible rfl
  rotate_left
  · simp only [Act.put, List.setIfInBounds_toArray, List.set_cons_zero, List.set_cons_succ, i64_w, i32_w]
    rfl
  refine take_ (i := 7) (N := some 132) (v := ?_) (a' := ?_) (bb 20 255) rfl rfl (by kernel_rfl) (fun _ _ _ h => h) (Or.inl ⟨by rfl, ?_⟩) hHeld ?_ ?_
  rotate_left
  · intro w' hSw
    obtain ⟨p0, p1, p2, p3, p4, -⟩ := five hSw
    go_simp
    with_reducible rfl
  rotate_left
  · simp only [Act.put, List.setIfInBounds_toArray, List.set_cons_zero, List.set_cons_succ, i64_w, i32_w]
    rfl
  refine pure_ (i := 8) (N := some 133) (v := ?_) (a' := ?_) (bb 20 511) rfl rfl (by kernel_rfl) (fun _ _ _ h => h) (Or.inl ⟨by rfl, ?_⟩) ?_ ?_
  rotate_left
  · intro w'
    go_simp
    with_reducible rfl
  rotate_left
  · simp only [Act.put, List.setIfInBounds_toArray, List.set_cons_zero, List.set_cons_succ, i64_w, i32_w]
    rfl
  refine pure_ (i := 9) (N := some 134) (v := ?_) (a' := ?_) (bb 20 1023) rfl rfl (by kernel_rfl) (fun _ _ _ h => h) (Or.inl ⟨by rfl, ?_⟩) ?_ ?_
  rotate_left
  · intro w'
    go_simp
    with_reducible rfl
  rotate_left
  · simp only [Act.put, List.setIfInBounds_toArray, List.set_cons_zero, List.set_cons_succ, i64_w, i32_w]
    rfl
  refine pure_ (i := 10) (N := some 135) (v := ?_) (a' := ?_) (bb 20 2047) rfl rfl (by kernel_rfl) (fun _ _ _ h => h) (Or.inl ⟨by rfl, ?_⟩) ?_ ?_
  rotate_left
  · intro w'
    go_simp
    with_reducible rfl
  rotate_left
  · simp only [Act.put, List.setIfInBounds_toArray, List.set_cons_zero, List.set_cons_succ, i64_w, i32_w]
    rfl
  refine pure_ (i := 11) (N := some 136) (v := ?_) (a' := ?_) (bb 20 4095) rfl rfl (by kernel_rfl) (fun _ _ _ h => h) (Or.inl ⟨by rfl, ?_⟩) ?_ ?_
  rotate_left
  · intro w'
    go_simp
    with_reducible rfl
  rotate_left
  · simp only [Act.put, List.setIfInBounds_toArray, List.set_cons_zero, List.set_cons_succ, i64_w, i32_w]
    rfl
  refine pure_ (i := 12) (N := some 137) (v := ?_) (a' := ?_) (bb 20 8191) rfl rfl (by kernel_rfl) (fun _ _ _ h => h) (Or.inl ⟨by rfl, ?_⟩) ?_ ?_
  rotate_left
  · intro w'
    go_simp
    with_reducible rfl
  rotate_left
  · simp only [Act.put, List.setIfInBounds_toArray, List.set_cons_zero, List.set_cons_succ, i64_w, i32_w]
    rfl
  refine pure_ (i := 13) (N := some 138) (v := ?_) (a' := ?_) (bb 20 16383) rfl rfl (by kernel_rfl) (fun _ _ _ h => h) (Or.inl ⟨by rfl, ?_⟩) ?_ ?_
  rotate_left
  · intro w'
    go_simp
    with_reducible rfl
  rotate_left
  · simp only [Act.put, List.setIfInBounds_toArray, List.set_cons_zero, List.set_cons_succ, i64_w, i32_w]
    rfl
  refine take_ (i := 14) (N := some 139) (v := ?_) (a' := ?_) (bb 20 32767) rfl rfl (by kernel_rfl) (fun _ _ _ h => h) (Or.inl ⟨by rfl, ?_⟩) hHeld ?_ ?_
  rotate_left
  · intro w' hSw
    obtain ⟨p0, p1, p2, p3, p4, -⟩ := five hSw
    go_simp
    with_reducible rfl
  rotate_left
  · simp only [Act.put, List.setIfInBounds_toArray, List.set_cons_zero, List.set_cons_succ, i64_w, i32_w]
    rfl
  refine pure_ (i := 15) (N := some 140) (v := ?_) (a' := ?_) (bb 20 65535) rfl rfl (by kernel_rfl) (fun _ _ _ h => h) (Or.inl ⟨by rfl, ?_⟩) ?_ ?_
  rotate_left
  · intro w'
    go_simp
    with_reducible rfl
  rotate_left
  · simp only [Act.put, List.setIfInBounds_toArray, List.set_cons_zero, List.set_cons_succ, i64_w, i32_w]
    rfl
  refine pure_ (i := 16) (N := some 141) (v := ?_) (a' := ?_) (bb 20 131071) rfl rfl (by kernel_rfl) (fun _ _ _ h => h) (Or.inl ⟨by rfl, ?_⟩) ?_ ?_
  rotate_left
  · intro w'
    go_simp
    with_reducible rfl
  rotate_left
  · simp only [Act.put, List.setIfInBounds_toArray, List.set_cons_zero, List.set_cons_succ, i64_w, i32_w]
    rfl
  refine pure_ (i := 17) (N := some 142) (v := ?_) (a' := ?_) (bb 20 262143) rfl rfl (by kernel_rfl) (fun _ _ _ h => h) (Or.inl ⟨by rfl, ?_⟩) ?_ ?_
  rotate_left
  · intro w'
    go_simp
    with_reducible rfl
  rotate_left
  · simp only [Act.put, List.setIfInBounds_toArray, List.set_cons_zero, List.set_cons_succ, i64_w, i32_w]
    rfl
  obtain ⟨q0, q1, q2, q3, q4, s0_, s1_, s2_, s3_, s4_⟩ := five HS.out.br
  refine one_ (i := 18) (N := none) (bb 20 524287) rfl rfl (by kernel_rfl) (by decide) (fun K hK => ?_)
  refine skip_ (w1 := ((((w8.setCell ⟨gr, 0, none⟩ (.int .i64 s.low)).setCell ⟨gr, 1, none⟩ (.int .i64 s.high)).setCell ⟨gr, 2, none⟩ (.int .i64 s.last)).setCell ⟨gr, 3, none⟩ (.slice A n co)).setCell ⟨gr, 4, none⟩ (.slice A' n' co')) (by rfl) rfl (by first | (go_simp; done) | (go_simp; rfl)) ?_
  refine hK.out _ _ (five_far HS.out.bg HS.out.ne.2.2.2.2.2 _ _ _ _ _) (fun hHeld => ?_)
  clear hK K q0 q1 q2 q3 q4 s0_ s1_ s2_ s3_ s4_
  refine pure_ (i := 19) (N := some 7) (v := ?_) (a' := ?_) (bb 20 1048575) rfl rfl (by kernel_rfl) (fun _ _ _ h => h) (Or.inl ⟨by rfl, ?_⟩) ?_ ?_
  rotate_left
  · intro w'
    go_simp
    with_reducible rfl
  rotate_left
  · simp only [Act.put, List.setIfInBounds_toArray, List.set_cons_zero, List.set_cons_succ, i64_w, i32_w]
    rfl
  refine done_ (by kernel_rfl) ?_
  go_wp2
  refine bodyPost_ret (results_ct rfl _ _ gr 100 #[.int .i64 s.low, .int .i64 s.high, .int .i64 s.last, .slice A n co, .slice A' n' co'] (0, 0) _ rfl (five_put HS.out.br _ _ _ _ _) Try.underlying100 rfl (by kernel_rfl)) rfl ?_
  obtain ⟨f1, f2, f3⟩ := HS.out.putr (.int .i64 s.low) (.int .i64 s.high) (.int .i64 s.last) (.slice A n co) (.slice A' n' co')
  exact ⟨s, A, n, co, l, A', n', co', l', rfl, HOK.out, f1, f2, f3, HGR.out⟩
end Go.Proofs.Ytimgfdkndlbfbaa.HPortS2
