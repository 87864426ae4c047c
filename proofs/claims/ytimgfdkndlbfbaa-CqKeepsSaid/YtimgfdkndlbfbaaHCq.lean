/- cq: the rings: one put behind, the first taken. Conditions: each theorem's own. -/
import Derived.Test.YtimgfdkndlbfbaaHRng
import Derived.Test.YtimgfdkndlbfbaaHReg
import Derived.Test.YtimgfdkndlbfbaaPCqx0
import Derived.StillTailTactics
namespace Go.Proofs.Ytimgfdkndlbfbaa.HCq
open Go.RowKit Go.Proofs.YtimgfdkndlbfbaaW.PrintWords Go.Proofs.YtimgfdkndlbfbaaW.PrintLast Go.Proofs.YtimgfdkndlbfbaaW.PrintMore Go.Proofs.Ytimgfdkndlbfbaa.PCq Go.Proofs.Ytimgfdkndlbfbaa.HRng Go.Proofs.Ytimgfdkndlbfbaa.HReg
set_option linter.unusedVariables false
set_option linter.unusedSimpArgs false
set_option linter.unusedSectionVars false
/-- From w to w' only blocks of S turned. -/
structure Kx (w w' : World) (S : Nat → Prop) : Prop where
  os : w'.os = w.os
  tape : w'.tape = w.tape
  output : w'.output = w.output
  size : w.heap.size ≤ w'.heap.size
  old : ∀ k, k < w.heap.size → ¬ S k → w'.heap[k]? = w.heap[k]?
section
variable {w w' w2 : World} {S S2 : Nat → Prop}
theorem Kx.refl (w : World) (S : Nat → Prop) : Kx w w S := ⟨rfl, rfl, rfl, Nat.le_refl _, fun _ _ _ => rfl⟩
theorem Kx.of_below (h : Below w.heap.size w w') (S : Nat → Prop) : Kx w w' S := ⟨h.os, h.tape, h.output, h.size, fun k hk _ => h.block k hk⟩
theorem Kx.trans (h : Kx w w' S) (h2 : Kx w' w2 S2) (hs : ∀ k, S2 k → S k ∨ w.heap.size ≤ k) : Kx w w2 S :=
  ⟨h2.os.trans h.os, h2.tape.trans h.tape, h2.output.trans h.output, Nat.le_trans h.size h2.size, fun k hk hn => (h2.old k (Nat.lt_of_lt_of_le hk h.size) (fun e => (hs k e).elim hn (fun e1 => Nat.not_lt.2 e1 hk))).trans (h.old k hk hn)⟩
theorem Kx.below (h : Kx w w' S) (h2 : Below w'.heap.size w' w2) : Kx w w2 S := h.trans (Kx.of_below h2 (fun _ => False)) (fun _ e => e.elim)
theorem Kx.alloc (h : Kx w w' S) (o : Obj) : Kx w (w'.alloc o) S := h.below (below_alloc (Below.refl _ _) o)
theorem Kx.drew (h : Kx w w' S) : Kx w w'.drew S := h.below (below_drew (Below.refl _ _))
theorem Kx.set (h : Kx w w' S) (p : Addr) (hp : S p.block ∨ w.heap.size ≤ p.block) (u : Value) : Kx w (w'.setCell p u) S :=
  h.trans (S2 := fun k => k = p.block) ⟨rfl, rfl, rfl, by simp [World.setCell], fun k _ hn => Below.heap_setCell w' p u k hn⟩ (fun k e => by rw [e]; exact hp)
theorem Kx.row (h : Kx w w' S) (g : Nat) (hp : S g ∨ w.heap.size ≤ g) (cs : Array Value) : Kx w (w'.setRow g cs) S :=
  h.trans (S2 := fun k => k = g) ⟨rfl, rfl, rfl, by simp [World.setRow], fun k _ hn => setRow_other w' g k cs hn⟩ (fun k e => by rw [e]; exact hp)
theorem Kx.mono (h : Kx w w' S) (hs : ∀ k, k < w.heap.size → S k → S2 k) : Kx w w' S2 := ⟨h.os, h.tape, h.output, h.size, fun k hk hn => h.old k hk (fun e => hn (hs k hk e))⟩
theorem Kx.to_below {B : Nat} {w0 : World} (h : Kx w w' S) (hb : Below B w0 w) (hB : B ≤ w.heap.size) (hs : ∀ k, S k → B ≤ k) : Below B w0 w' :=
  ⟨h.os.trans hb.os, h.tape.trans hb.tape, h.output.trans hb.output, Nat.le_trans hb.size h.size, fun k hk => (h.old k (Nat.lt_of_lt_of_le hk hB) (fun e => by have := hs k e; omega)).trans (hb.block k hk)⟩
end
theorem wid (n : Int) (h0 : -4611686018427387904 ≤ n) (h1 : n ≤ 4611686018427387904) : IntKind.i64.wrap n = n := by simp [IntKind.wrap, IntKind.bits, IntKind.signed]; omega
theorem w64 (n : Int) (h0 : -4611686018427387904 ≤ n) (h1 : n ≤ 4611686018427387904) : wrap64 n = n := by unfold wrap64; omega
/-- The place behind all. -/
theorem place_facts (f n E : Nat) (hf : f < E) (hn : n ≤ E) (hE : E ≤ 1024) : IntKind.i64.wrap ((f : Int) + (n : Int)) = (f : Int) + (n : Int) ∧ wrap64 ((f : Int) + (n : Int)) = (f : Int) + (n : Int) ∧ Int.tmod ((f : Int) + (n : Int)) (E : Int) = (((f + n) % E : Nat) : Int) ∧ IntKind.i64.wrap (((f + n) % E : Nat) : Int) = (((f + n) % E : Nat) : Int) ∧ (f + n) % E < E ∧ ((f + n) % E < E) = True ∧ ((((f + n) % E : Nat) : Int) < (E : Int)) = True ∧ decide ((E : Int) = 0) = false ∧ ((E : Int) = 0) = False ∧ ((E : Int) == 0) = false ∧ (E = 0) = False := by
  have h := Nat.mod_lt (f + n) (show 0 < E by omega)
  refine ⟨wid _ (by omega) (by omega), w64 _ (by omega) (by omega), ?_, wid _ (by omega) (by omega), h, eq_true h, eq_true (by omega), decide_eq_false (by omega), eq_false (by omega), beq_eq_false_iff_ne.2 (by omega), eq_false (by omega)⟩
  rw [show (f : Int) + (n : Int) = ((f + n : Nat) : Int) by omega]
  exact (Int.ofNat_tmod _ _)
theorem info37 : (Try.prog.info? 37).map (·.size) = some 11 := by kernel_rfl
theorem info43 : (Try.prog.info? 43).map (·.size) = some 5 := by kernel_rfl
theorem results_c {P : Program} {fn : Func} {p : Tmp} {ty : TypeId} (h : fn.results = #[.cell p ty]) (tmps : Array Value) (w : World) (g : Nat) (t : TypeId) (cs : Array Value) (fr : Nat × Nat) (d : TypeDesc)
    (hp : tmps.getD p undef = .pointer (some ⟨g, 0, none⟩)) (hg : w.heap[g]? = some (.cells cs t fr))
    (hu : P.underlying ty = some d) (hd : (match d with | .struct _ | .array _ _ => true | _ => false) = true) (hi : (P.info? ty).map (·.size) = some cs.size) :
    (results fn tmps).run P w = .ok (.agg cs) w := by
  have hp' : tmps[p]?.getD undef = .pointer (some ⟨g, 0, none⟩) := by simpa using hp
  simp [results, h, hp', asAddr, run_loadVar_row w g t ty cs fr d hg hu hd hi, Result.andThen]
theorem results_ct {P : Program} {fn : Func} {p u : Tmp} {ty : TypeId} (h : fn.results = #[.cell p ty, .tmp u]) (tmps : Array Value) (w : World) (g : Nat) (t : TypeId) (cs : Array Value) (fr : Nat × Nat) (d : TypeDesc)
    (hp : tmps.getD p undef = .pointer (some ⟨g, 0, none⟩)) (hg : w.heap[g]? = some (.cells cs t fr))
    (hu : P.underlying ty = some d) (hd : (match d with | .struct _ | .array _ _ => true | _ => false) = true) (hi : (P.info? ty).map (·.size) = some cs.size) :
    (results fn tmps).run P w = .ok (.tuple #[.agg cs, tmps.getD u undef]) w := by
  have hp' : tmps[p]?.getD undef = .pointer (some ⟨g, 0, none⟩) := by simpa using hp
  simp [results, h, hp', asAddr, run_loadVar_row w g t ty cs fr d hg hu hd hi, Result.andThen]
/-- The place behind the first one. -/
theorem next_facts (f E : Nat) (hf : f < E) (hE : E ≤ 1024) : IntKind.i64.wrap ((f : Int) + 1) = (f : Int) + 1 ∧ wrap64 ((f : Int) + 1) = (f : Int) + 1 ∧ Int.tmod ((f : Int) + 1) (E : Int) = (((f + 1) % E : Nat) : Int) ∧ IntKind.i64.wrap (((f + 1) % E : Nat) : Int) = (((f + 1) % E : Nat) : Int) ∧ decide ((E : Int) = 0) = false ∧ ((E : Int) = 0) = False ∧ ((E : Int) == 0) = false ∧ (E = 0) = False ∧ (f < E) = True ∧ ((f : Int) < (E : Int)) = True := by
  have h := Nat.mod_lt (f + 1) (show 0 < E by omega)
  refine ⟨wid _ (by omega) (by omega), w64 _ (by omega) (by omega), ?_, wid _ (by omega) (by omega), decide_eq_false (by omega), eq_false (by omega), beq_eq_false_iff_ne.2 (by omega), eq_false (by omega), eq_true hf, eq_true (by omega)⟩
  rw [show (f : Int) + 1 = ((f + 1 : Nat) : Int) by omega]
  exact (Int.ofNat_tmod _ _)
set_option maxRecDepth 100000 in
set_option maxHeartbeats 8000000 in
theorem put37_calls (rb g E f m : Nat) (rc : Array Value) (xs : List S37) (ok : Nat → Prop) (w : World) (hrb : w.heap[rb]? = some (.cells rc 147 (0, 0))) (h0 : rc[0]? = some (.slice (some ⟨g, 0, none⟩) E E)) (h1 : rc[1]? = some (.int .i64 f)) (h2 : rc[2]? = some (.int .i64 m))
    (hR : Rng k37 37 w ok g E f xs) (hm : xs.length = m) (hlt : m < E) (hE : E ≤ 1024) (hok : ∀ k, ok k → k ≠ g ∧ k ≠ rb) (x : S37) (A : Option Addr) (c : Nat) (hx : Kd.FK k37 w ok x [.int .u8 x.f0, .int .u8 x.f1, .int .i64 x.f2, .int .u32 x.f3, .int .u16 x.f4, .int .i64 x.f5, .int .i64 x.f6, .int .i64 x.f7, .int .u64 x.f8, .int .u64 x.f9, .slice A x.f10.length c]) :
    Calls Try.prog 75 #[.pointer (some ⟨rb, 0, none⟩), .agg #[.int .u8 x.f0, .int .u8 x.f1, .int .i64 x.f2, .int .u32 x.f3, .int .u16 x.f4, .int .i64 x.f5, .int .i64 x.f6, .int .i64 x.f7, .int .u64 x.f8, .int .u64 x.f9, .slice A x.f10.length c]] w fun e w' => e = .returned (.tuple #[]) ∧ w'.heap[rb]? = some (.cells (rc.setIfInBounds 2 (.int .i64 ((m + 1 : Nat) : Int))) 147 (0, 0)) ∧ Rng k37 37 w' ok g E f (xs ++ [x]) ∧ Kx w w' (fun k => k = rb ∨ k = g) := by
  obtain ⟨cur, hcur, hcs⟩ := hR.blk
  have hne : rb ≠ g := blk_ne hrb hcur (by decide)
  have hRlen := hR.len
  obtain ⟨q1, q2, q3, q4, q5, q6, q7, q8, q9, q10, q11⟩ := place_facts f m E hRlen.2 (by omega) hE
  have wn : IntKind.i64.wrap ((m : Int) + 1) = ((m + 1 : Nat) : Int) := by rw [wid _ (by omega) (by omega)]; omega
  have HX := Aside0.mk hx
  have HXL := Aside0.mk (show Value.oneCell' (.slice A x.f10.length c) = true from rfl)
  generalize x.f10.length = L at HX HXL ⊢
  have HA := Aside0.mk (below_alloc (Below.refl w.heap.size w) (.cells #[.int .u8 x.f0, .int .u8 x.f1, .int .i64 x.f2, .int .u32 x.f3, .int .u16 x.f4, .int .i64 x.f5, .int .i64 x.f6, .int .i64 x.f7, .int .u64 x.f8, .int .u64 x.f9, .slice A L c] 37))
  have HG := Aside0.mk (blk_new w (.cells #[.int .u8 x.f0, .int .u8 x.f1, .int .i64 x.f2, .int .u32 x.f3, .int .u16 x.f4, .int .i64 x.f5, .int .i64 x.f6, .int .i64 x.f7, .int .u64 x.f8, .int .u64 x.f9, .slice A L c] 37))
  have HRB := Aside0.mk hrb
  have HR := Aside0.mk hR
  have HM := Aside0.mk (And.intro hm (And.intro hlt (And.intro hE (And.intro hok (And.intro hne hcs)))))
  have HC := Aside0.mk hcur
  have HSZ := Aside0.mk (And.intro (blk_lt hrb) (blk_lt hcur))
  clear hx hrb hR hm hlt hE hok hne hcs hcur hRlen
  go_enter Try.func75, Try.ntmps75
  go_upto_region 1 with (fail)
  obtain ⟨bx, hbx⟩ : ∃ bx, bx = w.heap.size := ⟨_, rfl⟩
  have HBX := Aside0.mk hbx
  rw [← hbx] at HG ⊢
  clear hbx
  generalize w.alloc (.cells #[.int .u8 x.f0, .int .u8 x.f1, .int .i64 x.f2, .int .u32 x.f3, .int .u16 x.f4, .int .i64 x.f5, .int .i64 x.f6, .int .i64 x.f7, .int .u64 x.f8, .int .u64 x.f9, .slice A L c] 37) = w1 at HA HG ⊢
  have HRB1 := Aside0.mk (blk_below HRB.out HA.out)
  have HC1 := Aside0.mk (blk_below HC.out HA.out)
  have x_0 := (blk_cell HG.out 0).trans rfl
  have x_1 := (blk_cell HG.out 1).trans rfl
  have x_2 := (blk_cell HG.out 2).trans rfl
  have x_3 := (blk_cell HG.out 3).trans rfl
  have x_4 := (blk_cell HG.out 4).trans rfl
  have x_5 := (blk_cell HG.out 5).trans rfl
  have x_6 := (blk_cell HG.out 6).trans rfl
  have x_7 := (blk_cell HG.out 7).trans rfl
  have x_8 := (blk_cell HG.out 8).trans rfl
  have x_9 := (blk_cell HG.out 9).trans rfl
  have x_10 := (blk_cell HG.out 10).trans rfl
  have r0 := (blk_cell HRB1.out 0).trans h0
  have r1 := (blk_cell HRB1.out 1).trans h1
  have r2 := (blk_cell HRB1.out 2).trans h2
  obtain ⟨P, hP⟩ : ∃ P, (f + m) % E = P := ⟨_, rfl⟩
  rw [hP] at q3 q4 q5 q6 q7
  have HP := Aside0.mk hP
  clear hP
  go_still_tail 21, (by kernel_rfl)
  change wpList _ _ _ _ _ (World.drew _)
  refine store_at rfl 37 (.tmp 24) (.tmp 23) rfl g (P * 11) #[.int .u8 x.f0, .int .u8 x.f1, .int .i64 x.f2, .int .u32 x.f3, .int .u16 x.f4, .int .i64 x.f5, .int .i64 x.f6, .int .i64 x.f7, .int .u64 x.f8, .int .u64 x.f9, .slice A L c] rfl (by first | exact add_plain_ _ _ | rfl) rfl 37 cur HC1.out info37 ?_ ?_ ?_
  · rw [HM.out.2.2.2.2.2]; exact seg_fit q5
  · simp [Value.oneCell']
  have HRB2 := Aside0.mk ((setRow_other w1.drew g rb (spl cur (P * 11) [.int .u8 x.f0, .int .u8 x.f1, .int .i64 x.f2, .int .u32 x.f3, .int .u16 x.f4, .int .i64 x.f5, .int .i64 x.f6, .int .i64 x.f7, .int .u64 x.f8, .int .u64 x.f9, .slice A L c]) HM.out.2.2.2.2.1).trans HRB1.out)
  have hRw := (HR.out.below HA.out).below (below_drew (Below.refl w1.heap.size w1))
  have hxw := Foot.step (Foot.step HX.out (fun k _ hk => HA.out.block k hk)) (fun k _ hk => (below_drew (Below.refl w1.heap.size w1)).block k hk)
  have hpush := hRw.push (x := x) (fun k hk => (HM.out.2.2.2.1 k hk).1) (by rw [HM.out.1]; exact HM.out.2.1) hxw HC1.out
  rw [HM.out.1, HP.out] at hpush
  replace hpush : Rng k37 37 (w1.drew.setRow g (spl cur (P * 11) [.int .u8 x.f0, .int .u8 x.f1, .int .i64 x.f2, .int .u32 x.f3, .int .u16 x.f4, .int .i64 x.f5, .int .i64 x.f6, .int .i64 x.f7, .int .u64 x.f8, .int .u64 x.f9, .slice A L c])) ok g E f (xs ++ [x]) := hpush
  have HPU := Aside0.mk hpush
  have HKX := Aside0.mk (((Kx.of_below HA.out (fun k => k = rb ∨ k = g)).drew).row g (.inl (.inr rfl)) (spl cur (P * 11) [.int .u8 x.f0, .int .u8 x.f1, .int .i64 x.f2, .int .u32 x.f3, .int .u16 x.f4, .int .i64 x.f5, .int .i64 x.f6, .int .i64 x.f7, .int .u64 x.f8, .int .u64 x.f9, .slice A L c]))
  clear r0 r1 r2 x_0 x_1 x_2 x_3 x_4 x_5 x_6 x_7 x_8 x_9 x_10 q1 q2 q3 q4 q5 q6 q7 q8 q9 q10 q11 hRw hxw hpush
  generalize w1.drew.setRow g (spl cur (P * 11) [.int .u8 x.f0, .int .u8 x.f1, .int .i64 x.f2, .int .u32 x.f3, .int .u16 x.f4, .int .i64 x.f5, .int .i64 x.f6, .int .i64 x.f7, .int .u64 x.f8, .int .u64 x.f9, .slice A L c]) = w2 at HPU HKX HRB2 ⊢
  have r2 := (blk_cell HRB2.out 2).trans h2
  have fz := blk_frozen HRB2.out 2
  go_wp2
  (try simp only [Exit.inBlock, Exit.then])
  go_end0
  have hne := HM.out.2.2.2.2.1
  refine ⟨rfl, blk_set HRB2.out _ _, HPU.out.step (Below.heap_setCell _ _ _ _ (fun e => hne e.symm)) (fun k hk _ => Below.heap_setCell _ _ _ _ (HM.out.2.2.2.1 k hk).2), HKX.out.set _ (.inl (.inl rfl)) _⟩
set_option maxRecDepth 100000 in
set_option maxHeartbeats 8000000 in
theorem take37_raw (rb g E f m : Nat) (rc : Array Value) (x : S37) (xs : List S37) (ok : Nat → Prop) (w : World) (hrb : w.heap[rb]? = some (.cells rc 147 (0, 0))) (h0 : rc[0]? = some (.slice (some ⟨g, 0, none⟩) E E)) (h1 : rc[1]? = some (.int .i64 f)) (h2 : rc[2]? = some (.int .i64 ((m : Int) + 1)))
    (hR : Rng k37 37 w ok g E f (x :: xs)) (hm : xs.length = m) (hE : E ≤ 1024) (hok : ∀ k, ok k → k ≠ g ∧ k ≠ rb) (hob : ∀ k, ok k → k < w.heap.size) :
    Calls Try.prog 76 #[.pointer (some ⟨rb, 0, none⟩)] w fun e w' => ∃ (A : Option Addr) (c : Nat), e = .returned (.agg #[.int .u8 x.f0, .int .u8 x.f1, .int .i64 x.f2, .int .u32 x.f3, .int .u16 x.f4, .int .i64 x.f5, .int .i64 x.f6, .int .i64 x.f7, .int .u64 x.f8, .int .u64 x.f9, .slice A x.f10.length c]) ∧ Kd.FK k37 w' ok x [.int .u8 x.f0, .int .u8 x.f1, .int .i64 x.f2, .int .u32 x.f3, .int .u16 x.f4, .int .i64 x.f5, .int .i64 x.f6, .int .i64 x.f7, .int .u64 x.f8, .int .u64 x.f9, .slice A x.f10.length c] ∧ w'.heap[rb]? = some (.cells ((rc.setIfInBounds 1 (.int .i64 (((f + 1) % E : Nat) : Int))).setIfInBounds 2 (.int .i64 (m : Int))) 147 (0, 0)) ∧ Rng k37 37 w' ok g E ((f + 1) % E) xs ∧ Kx w w' (fun k => k = rb ∨ k = g) := by
  obtain ⟨cur, hcur, hcs⟩ := hR.blk
  have hne : rb ≠ g := blk_ne hrb hcur (by decide)
  have hRlen := hR.len
  obtain ⟨c0, hc0, hx, hcell⟩ := hR.first
  obtain ⟨A, c, rfl, hcl, hF⟩ := k37_openF hx
  obtain ⟨q1, q2, q3, q4, q5, q6, q7, q8, q9, q10⟩ := next_facts f E hRlen.2 hE
  obtain ⟨P, hP⟩ : ∃ P, (f + 1) % E = P := ⟨_, rfl⟩
  rw [hP] at q3 q4 ⊢
  have HP := Aside0.mk hP
  clear hP
  have wn : IntKind.i64.wrap ((m : Int) + 1 - 1) = (m : Int) := by simp only [List.length_cons] at hRlen; rw [wid _ (by omega) (by omega)]; omega
  have wn2 : IntKind.i64.wrap (m : Int) = (m : Int) := by simp only [List.length_cons] at hRlen; rw [wid _ (by omega) (by omega)]
  have c_0 : w.cell? ⟨g, f * 11, none⟩ = some (.int .u8 x.f0) := hcell 0 (by show 0 < 11; omega)
  have c_1 : w.cell? ⟨g, f * 11 + 1, none⟩ = some (.int .u8 x.f1) := hcell 1 (by show 1 < 11; omega)
  have c_2 : w.cell? ⟨g, f * 11 + 2, none⟩ = some (.int .i64 x.f2) := hcell 2 (by show 2 < 11; omega)
  have c_3 : w.cell? ⟨g, f * 11 + 3, none⟩ = some (.int .u32 x.f3) := hcell 3 (by show 3 < 11; omega)
  have c_4 : w.cell? ⟨g, f * 11 + 4, none⟩ = some (.int .u16 x.f4) := hcell 4 (by show 4 < 11; omega)
  have c_5 : w.cell? ⟨g, f * 11 + 5, none⟩ = some (.int .i64 x.f5) := hcell 5 (by show 5 < 11; omega)
  have c_6 : w.cell? ⟨g, f * 11 + 6, none⟩ = some (.int .i64 x.f6) := hcell 6 (by show 6 < 11; omega)
  have c_7 : w.cell? ⟨g, f * 11 + 7, none⟩ = some (.int .i64 x.f7) := hcell 7 (by show 7 < 11; omega)
  have c_8 : w.cell? ⟨g, f * 11 + 8, none⟩ = some (.int .u64 x.f8) := hcell 8 (by show 8 < 11; omega)
  have c_9 : w.cell? ⟨g, f * 11 + 9, none⟩ = some (.int .u64 x.f9) := hcell 9 (by show 9 < 11; omega)
  have c_10 : w.cell? ⟨g, f * 11 + 10, none⟩ = some (.slice A x.f10.length c) := hcell 10 (by show 10 < 11; omega)
  have k_0 := (blk_cell hcur (f * 11)).symm.trans c_0
  have k_1 := (blk_cell hcur (f * 11 + 1)).symm.trans c_1
  have k_2 := (blk_cell hcur (f * 11 + 2)).symm.trans c_2
  have k_3 := (blk_cell hcur (f * 11 + 3)).symm.trans c_3
  have k_4 := (blk_cell hcur (f * 11 + 4)).symm.trans c_4
  have k_5 := (blk_cell hcur (f * 11 + 5)).symm.trans c_5
  have k_6 := (blk_cell hcur (f * 11 + 6)).symm.trans c_6
  have k_7 := (blk_cell hcur (f * 11 + 7)).symm.trans c_7
  have k_8 := (blk_cell hcur (f * 11 + 8)).symm.trans c_8
  have k_9 := (blk_cell hcur (f * 11 + 9)).symm.trans c_9
  have k_10 := (blk_cell hcur (f * 11 + 10)).symm.trans c_10
  have HX := Aside0.mk hx
  generalize x.f10.length = L at HX c_10 k_10 ⊢
  have HRB := Aside0.mk hrb
  have HR := Aside0.mk hR
  have HM := Aside0.mk (And.intro hm (And.intro hRlen.2 (And.intro hE (And.intro hok (And.intro hne hcs)))))
  have HC := Aside0.mk hcur
  have HOB := Aside0.mk hob
  clear hob
  have HSZ := Aside0.mk (And.intro (blk_lt hrb) (blk_lt hcur))
  have r0 := (blk_cell HRB.out 0).trans h0
  have r1 := (blk_cell HRB.out 1).trans h1
  have r2 := (blk_cell HRB.out 2).trans h2
  clear hx hrb hR hm hE hok hne hcs hcur hRlen hc0 hcell hcl hF
  go_enter Try.func76, Try.ntmps76
  go_upto_region 1 with (fail)
  obtain ⟨b2, hb2⟩ : ∃ b2, b2 = w.heap.size := ⟨_, rfl⟩
  have HB2 := Aside0.mk hb2
  have HA := Aside0.mk (below_alloc (Below.refl w.heap.size w) (.cells #[.int .u8 0, .int .u8 0, .int .i64 0, .int .u32 0, .int .u16 0, .int .i64 0, .int .i64 0, .int .i64 0, .int .u64 0, .int .u64 0, .slice none 0 0] 37))
  have HG2 := Aside0.mk (blk_new w (.cells #[.int .u8 0, .int .u8 0, .int .i64 0, .int .u32 0, .int .u16 0, .int .i64 0, .int .i64 0, .int .i64 0, .int .u64 0, .int .u64 0, .slice none 0 0] 37))
  rw [← hb2] at HG2 ⊢
  clear hb2 r0 r1 r2
  replace c_0 := pw_cell_below HA.out c_0
  replace c_1 := pw_cell_below HA.out c_1
  replace c_2 := pw_cell_below HA.out c_2
  replace c_3 := pw_cell_below HA.out c_3
  replace c_4 := pw_cell_below HA.out c_4
  replace c_5 := pw_cell_below HA.out c_5
  replace c_6 := pw_cell_below HA.out c_6
  replace c_7 := pw_cell_below HA.out c_7
  replace c_8 := pw_cell_below HA.out c_8
  replace c_9 := pw_cell_below HA.out c_9
  replace c_10 := pw_cell_below HA.out c_10
  generalize w.alloc (.cells #[.int .u8 0, .int .u8 0, .int .i64 0, .int .u32 0, .int .u16 0, .int .i64 0, .int .i64 0, .int .i64 0, .int .u64 0, .int .u64 0, .slice none 0 0] 37) = w1 at HA HG2 c_0 c_1 c_2 c_3 c_4 c_5 c_6 c_7 c_8 c_9 c_10 ⊢
  have HRB1 := Aside0.mk (blk_below HRB.out HA.out)
  have r0 := (blk_cell HRB1.out 0).trans h0
  have r1 := (blk_cell HRB1.out 1).trans h1
  have r2 := (blk_cell HRB1.out 2).trans h2
  have HC1 := Aside0.mk (blk_below HC.out HA.out)
  have HW2 := Aside0.mk (below_drew HA.out)
  have HW12 : Below w1.heap.size w1 w1.drew := below_drew (Below.refl _ _)
  have HRB2 := Aside0.mk (show w1.drew.heap[rb]? = _ from HRB1.out)
  have HC2 := Aside0.mk (show w1.drew.heap[g]? = _ from HC1.out)
  clear r0 r1 r2 c_0 c_1 c_2 c_3 c_4 c_5 c_6 c_7 c_8 c_9 c_10
  refine start_ (n := 12) (S := fun w' => w'.heap[rb]? = some (.cells rc 147 (0, 0)) ∧ w'.heap[g]? = some (.cells cur 37 (0, 0))) (ds := []) (bb 12 0) (by kernel_rfl) rfl rfl (⟨HRB2.out, HC2.out⟩) (fun hHeld => ?_)
  generalize w1.drew = w2 at HW2 HW12 hHeld ⊢
  refine pure_ (i := 0) (N := some 5) (v := ?_) (a' := ?_) (bb 12 1) rfl rfl (by kernel_rfl) (fun _ _ _ h => h) (Or.inl ⟨by rfl, ?_⟩) ?_ ?_
  rotate_left
  · intro w'
    go_simp
    with_reducible rfl
  rotate_left
  · simp only [Act.put, List.setIfInBounds_toArray, List.set_cons_zero, List.set_cons_succ, i64_w, i32_w]
    rfl
  refine pure_ (i := 1) (N := some 6) (v := ?_) (a' := ?_) (bb 12 3) rfl rfl (by kernel_rfl) (fun _ _ _ h => h) (Or.inl ⟨by rfl, ?_⟩) ?_ ?_
  rotate_left
  · intro w'
    go_simp
    with_reducible rfl
  rotate_left
  · simp only [Act.put, List.setIfInBounds_toArray, List.set_cons_zero, List.set_cons_succ, i64_w, i32_w]
    rfl
  refine pure_ (i := 2) (N := some 7) (v := ?_) (a' := ?_) (bb 12 7) rfl rfl (by kernel_rfl) (fun _ _ _ h => h) (Or.inl ⟨by rfl, ?_⟩) ?_ ?_
  rotate_left
  · intro w'
    go_simp
    with_reducible rfl
  rotate_left
  · simp only [Act.put, List.setIfInBounds_toArray, List.set_cons_zero, List.set_cons_succ, i64_w, i32_w]
    rfl
  refine take_ (i := 3) (N := some 8) (v := ?_) (a' := ?_) (bb 12 15) rfl rfl (by kernel_rfl) (fun _ _ _ h => h) (Or.inl ⟨by rfl, ?_⟩) hHeld ?_ ?_
  rotate_left
  · intro w' hSw
    have r0 := (blk_cell hSw.1 0).trans h0
    have r1 := (blk_cell hSw.1 1).trans h1
    have c_0 := (blk_cell hSw.2 (f * 11)).trans k_0
    have c_1 := (blk_cell hSw.2 (f * 11 + 1)).trans k_1
    have c_2 := (blk_cell hSw.2 (f * 11 + 2)).trans k_2
    have c_3 := (blk_cell hSw.2 (f * 11 + 3)).trans k_3
    have c_4 := (blk_cell hSw.2 (f * 11 + 4)).trans k_4
    have c_5 := (blk_cell hSw.2 (f * 11 + 5)).trans k_5
    have c_6 := (blk_cell hSw.2 (f * 11 + 6)).trans k_6
    have c_7 := (blk_cell hSw.2 (f * 11 + 7)).trans k_7
    have c_8 := (blk_cell hSw.2 (f * 11 + 8)).trans k_8
    have c_9 := (blk_cell hSw.2 (f * 11 + 9)).trans k_9
    have c_10 := (blk_cell hSw.2 (f * 11 + 10)).trans k_10
    go_simp
    with_reducible rfl
  rotate_left
  · simp only [Act.put, List.setIfInBounds_toArray, List.set_cons_zero, List.set_cons_succ, i64_w, i32_w]
    rfl
  refine pure_ (i := 4) (N := some 9) (v := ?_) (a' := ?_) (bb 12 31) rfl rfl (by kernel_rfl) (fun _ _ _ h => h) (Or.inl ⟨by rfl, ?_⟩) ?_ ?_
  rotate_left
  · intro w'
    go_simp
    with_reducible rfl
  rotate_left
  · simp only [Act.put, List.setIfInBounds_toArray, List.set_cons_zero, List.set_cons_succ, i64_w, i32_w]
    rfl
  refine pure_ (i := 5) (N := some 10) (v := ?_) (a' := ?_) (bb 12 63) rfl rfl (by kernel_rfl) (fun _ _ _ h => h) (Or.inl ⟨by rfl, ?_⟩) ?_ ?_
  rotate_left
  · intro w'
    go_simp
    with_reducible rfl
  rotate_left
  · simp only [Act.put, List.setIfInBounds_toArray, List.set_cons_zero, List.set_cons_succ, i64_w, i32_w]
    rfl
  refine pure_ (i := 6) (N := some 11) (v := ?_) (a' := ?_) (bb 12 127) rfl rfl (by kernel_rfl) (fun _ _ _ h => h) (Or.inl ⟨by rfl, ?_⟩) ?_ ?_
  rotate_left
  · intro w'
    go_simp
    with_reducible rfl
  rotate_left
  · simp only [Act.put, List.setIfInBounds_toArray, List.set_cons_zero, List.set_cons_succ, i64_w, i32_w]
    rfl
  refine take_ (i := 7) (N := some 12) (v := ?_) (a' := ?_) (bb 12 255) rfl rfl (by kernel_rfl) (fun _ _ _ h => h) (Or.inl ⟨by rfl, ?_⟩) hHeld ?_ ?_
  rotate_left
  · intro w' hSw
    have r0 := (blk_cell hSw.1 0).trans h0
    have r1 := (blk_cell hSw.1 1).trans h1
    have c_0 := (blk_cell hSw.2 (f * 11)).trans k_0
    have c_1 := (blk_cell hSw.2 (f * 11 + 1)).trans k_1
    have c_2 := (blk_cell hSw.2 (f * 11 + 2)).trans k_2
    have c_3 := (blk_cell hSw.2 (f * 11 + 3)).trans k_3
    have c_4 := (blk_cell hSw.2 (f * 11 + 4)).trans k_4
    have c_5 := (blk_cell hSw.2 (f * 11 + 5)).trans k_5
    have c_6 := (blk_cell hSw.2 (f * 11 + 6)).trans k_6
    have c_7 := (blk_cell hSw.2 (f * 11 + 7)).trans k_7
    have c_8 := (blk_cell hSw.2 (f * 11 + 8)).trans k_8
    have c_9 := (blk_cell hSw.2 (f * 11 + 9)).trans k_9
    have c_10 := (blk_cell hSw.2 (f * 11 + 10)).trans k_10
    go_simp
    with_reducible rfl
  rotate_left
  · simp only [Act.put, List.setIfInBounds_toArray, List.set_cons_zero, List.set_cons_succ, i64_w, i32_w]
    rfl
  refine pure_ (i := 8) (N := some 13) (v := ?_) (a' := ?_) (bb 12 511) rfl rfl (by kernel_rfl) (fun _ _ _ h => h) (Or.inl ⟨by rfl, ?_⟩) ?_ ?_
  rotate_left
  · intro w'
    go_simp
    with_reducible rfl
  rotate_left
  · simp only [Act.put, List.setIfInBounds_toArray, List.set_cons_zero, List.set_cons_succ, i64_w, i32_w]
    rfl
  refine take_ (i := 9) (N := some 14) (v := ?_) (a' := ?_) (bb 12 1023) rfl rfl (by kernel_rfl) (fun _ _ _ h => h) (Or.inl ⟨by rfl, ?_⟩) hHeld ?_ ?_
  rotate_left
  · intro w' hSw
    have r0 := (blk_cell hSw.1 0).trans h0
    have r1 := (blk_cell hSw.1 1).trans h1
    have c_0 := (blk_cell hSw.2 (f * 11)).trans k_0
    have c_1 := (blk_cell hSw.2 (f * 11 + 1)).trans k_1
    have c_2 := (blk_cell hSw.2 (f * 11 + 2)).trans k_2
    have c_3 := (blk_cell hSw.2 (f * 11 + 3)).trans k_3
    have c_4 := (blk_cell hSw.2 (f * 11 + 4)).trans k_4
    have c_5 := (blk_cell hSw.2 (f * 11 + 5)).trans k_5
    have c_6 := (blk_cell hSw.2 (f * 11 + 6)).trans k_6
    have c_7 := (blk_cell hSw.2 (f * 11 + 7)).trans k_7
    have c_8 := (blk_cell hSw.2 (f * 11 + 8)).trans k_8
    have c_9 := (blk_cell hSw.2 (f * 11 + 9)).trans k_9
    have c_10 := (blk_cell hSw.2 (f * 11 + 10)).trans k_10
    go_simp
    with_reducible rfl
  rotate_left
  · simp only [Act.put, List.setIfInBounds_toArray, List.set_cons_zero, List.set_cons_succ, i64_w, i32_w]
    rfl
  refine one_ (i := 10) (N := some 3) (bb 12 2047) rfl rfl (by kernel_rfl) (by decide) (fun K hK => ?_)
  refine event_step (by rfl) (show _ = Result.ok (Next.value (.pointer (some ⟨w2.heap.size, 0, none⟩))) (World.alloc _ (.cells #[.int .u8 0, .int .u8 0, .int .i64 0, .int .u32 0, .int .u16 0, .int .i64 0, .int .i64 0, .int .i64 0, .int .u64 0, .int .u64 0, .slice none 0 0] 37)) from by first | (go_simp; done) | (go_simp; rfl)) ?_
  have HA3 := Aside0.mk (below_alloc (Below.refl w2.heap.size w2) (.cells #[.int .u8 0, .int .u8 0, .int .i64 0, .int .u32 0, .int .u16 0, .int .i64 0, .int .i64 0, .int .i64 0, .int .u64 0, .int .u64 0, .slice none 0 0] 37))
  have HG3 := Aside0.mk (blk_new w2 (.cells #[.int .u8 0, .int .u8 0, .int .i64 0, .int .u32 0, .int .u16 0, .int .i64 0, .int .i64 0, .int .i64 0, .int .u64 0, .int .u64 0, .slice none 0 0] 37))
  obtain ⟨b3, hb3⟩ : ∃ b3, b3 = w2.heap.size := ⟨_, rfl⟩
  have HB3 := Aside0.mk hb3
  rw [← hb3] at HG3 ⊢
  clear hb3
  generalize w2.alloc (.cells #[.int .u8 0, .int .u8 0, .int .i64 0, .int .u32 0, .int .u16 0, .int .i64 0, .int .i64 0, .int .i64 0, .int .u64 0, .int .u64 0, .slice none 0 0] 37) = w3 at HA3 HG3 ⊢
  refine hK.out _ _ (⟨blk_below hHeld.1 HA3.out, blk_below hHeld.2 HA3.out⟩) (fun hHeld => ?_)
  clear hK K
  refine norm_ (a' := ?_) ?_ ?_
  rotate_left
  · show Act.put _ (some 3) _ = _
    simp only [Act.put, List.setIfInBounds_toArray, List.set_cons_zero, List.set_cons_succ, i64_w, i32_w]
    rfl
  refine one_ (i := 11) (N := none) (bb 12 4095) rfl rfl (by kernel_rfl) (by decide) (fun K hK => ?_)
  refine skip_ (by rfl) rfl (store_run (old := #[.int .u8 0, .int .u8 0, .int .i64 0, .int .u32 0, .int .u16 0, .int .i64 0, .int .i64 0, .int .i64 0, .int .u64 0, .int .u64 0, .slice none 0 0]) 37 (.tmp 3) (.tmp 14) rfl rfl rfl info37 rfl (by simp [Value.oneCell']) HG3.out) ?_
  refine hK.out _ _ ⟨(setRow_other w3 b3 rb #[.int .u8 x.f0, .int .u8 x.f1, .int .i64 x.f2, .int .u32 x.f3, .int .u16 x.f4, .int .i64 x.f5, .int .i64 x.f6, .int .i64 x.f7, .int .u64 x.f8, .int .u64 x.f9, .slice A L c] (by have := HB3.out; have := HW2.out.size; have := HSZ.out; omega)).trans hHeld.1, (setRow_other w3 b3 g #[.int .u8 x.f0, .int .u8 x.f1, .int .i64 x.f2, .int .u32 x.f3, .int .u16 x.f4, .int .i64 x.f5, .int .i64 x.f6, .int .i64 x.f7, .int .u64 x.f8, .int .u64 x.f9, .slice A L c] (by have := HB3.out; have := HW2.out.size; have := HSZ.out; omega)).trans hHeld.2⟩ (fun hHeld => ?_)
  clear hK K
  refine done_ (by kernel_rfl) ?_

  have hH := hHeld
  have HRB3 := Aside0.mk hH.1
  have HC3 := Aside0.mk hH.2
  have HG4 := Aside0.mk (setRow_heap w3 b3 _ #[.int .u8 x.f0, .int .u8 x.f1, .int .i64 x.f2, .int .u32 x.f3, .int .u16 x.f4, .int .i64 x.f5, .int .i64 x.f6, .int .i64 x.f7, .int .u64 x.f8, .int .u64 x.f9, .slice A L c] 37 (0, 0) HG3.out)
  have HG24 := Aside0.mk ((setRow_other w3 b3 b2 #[.int .u8 x.f0, .int .u8 x.f1, .int .i64 x.f2, .int .u32 x.f3, .int .u16 x.f4, .int .i64 x.f5, .int .i64 x.f6, .int .i64 x.f7, .int .u64 x.f8, .int .u64 x.f9, .slice A L c] (by have h1_ := HB3.out; have h2_ := HW12.size; have h3_ := blk_lt HG2.out; omega)).trans (blk_below (blk_below HG2.out HW12) HA3.out))
  have HW4 := Aside0.mk (((Kx.of_below HW2.out (fun k => k = rb ∨ k = g)).below HA3.out).row b3 (.inr (by have := HB3.out; have := HW2.out.size; omega)) #[.int .u8 x.f0, .int .u8 x.f1, .int .i64 x.f2, .int .u32 x.f3, .int .u16 x.f4, .int .i64 x.f5, .int .i64 x.f6, .int .i64 x.f7, .int .u64 x.f8, .int .u64 x.f9, .slice A L c])
  have HF4 := Aside0.mk (show w.heap.size ≤ b2 ∧ b2 < b3 from ⟨by have := HB2.out; omega, by have := HB3.out; have := HB2.out; have := HW12.size; have := blk_lt HG2.out; omega⟩)
  clear hHeld hH
  go_wp2
  have HS4 := Aside0.mk (show (w3.setRow b3 #[.int .u8 x.f0, .int .u8 x.f1, .int .i64 x.f2, .int .u32 x.f3, .int .u16 x.f4, .int .i64 x.f5, .int .i64 x.f6, .int .i64 x.f7, .int .u64 x.f8, .int .u64 x.f9, .slice A L c]).heap.size = w3.heap.size by simp [World.setRow])
  generalize w3.setRow b3 #[.int .u8 x.f0, .int .u8 x.f1, .int .i64 x.f2, .int .u32 x.f3, .int .u16 x.f4, .int .i64 x.f5, .int .i64 x.f6, .int .i64 x.f7, .int .u64 x.f8, .int .u64 x.f9, .slice A L c] = w4 at HRB3 HC3 HG4 HG24 HW4 HS4 ⊢
  go_upto_region 3 with (fail)
  have HA5 := Aside0.mk (below_alloc (Below.refl w4.heap.size w4) (.cells #[.int .u8 0, .int .u8 0, .int .i64 0, .int .u32 0, .int .u16 0, .int .i64 0, .int .i64 0, .int .i64 0, .int .u64 0, .int .u64 0, .slice none 0 0] 37))
  have HG5 := Aside0.mk (blk_new w4 (.cells #[.int .u8 0, .int .u8 0, .int .i64 0, .int .u32 0, .int .u16 0, .int .i64 0, .int .i64 0, .int .i64 0, .int .u64 0, .int .u64 0, .slice none 0 0] 37))
  rw [← HS4.out]
  obtain ⟨b4, hb4⟩ : ∃ b4, b4 = w4.heap.size := ⟨_, rfl⟩
  have HB4 := Aside0.mk hb4
  rw [← hb4] at HG5 ⊢
  clear hb4
  generalize w4.alloc (.cells #[.int .u8 0, .int .u8 0, .int .i64 0, .int .u32 0, .int .u16 0, .int .i64 0, .int .i64 0, .int .i64 0, .int .u64 0, .int .u64 0, .slice none 0 0] 37) = w5 at HA5 HG5 ⊢
  have HRB5 := Aside0.mk (blk_below HRB3.out HA5.out)
  have HC5 := Aside0.mk (blk_below HC3.out HA5.out)
  have HG25 := Aside0.mk (blk_below HG24.out HA5.out)
  have HG35 := Aside0.mk (blk_below HG4.out HA5.out)
  have HW5 := Aside0.mk (HW4.out.below HA5.out)
  have HF5 := Aside0.mk (show b3 < b4 by have h1_ := blk_lt HG4.out; have h2_ := HB4.out; omega)
  have z_0 := (blk_cell HG5.out 0).trans rfl
  have z_1 := (blk_cell HG5.out 1).trans rfl
  have z_2 := (blk_cell HG5.out 2).trans rfl
  have z_3 := (blk_cell HG5.out 3).trans rfl
  have z_4 := (blk_cell HG5.out 4).trans rfl
  have z_5 := (blk_cell HG5.out 5).trans rfl
  have z_6 := (blk_cell HG5.out 6).trans rfl
  have z_7 := (blk_cell HG5.out 7).trans rfl
  have z_8 := (blk_cell HG5.out 8).trans rfl
  have z_9 := (blk_cell HG5.out 9).trans rfl
  have z_10 := (blk_cell HG5.out 10).trans rfl
  have r0 := (blk_cell HRB5.out 0).trans h0
  have r1 := (blk_cell HRB5.out 1).trans h1
  clear HRB HRB1 HRB2 HRB3 HC1 HC2 HC3 HG2 HG3 HG24 HG4 HW4 HA HA3 HW2 HW12 k_0 k_1 k_2 k_3 k_4 k_5 k_6 k_7 k_8 k_9 k_10
  go_still_tail 10, (by kernel_rfl)
  change wpList _ _ _ _ _ (World.drew _)
  refine store_at rfl 37 (.tmp 24) (.tmp 23) rfl g (f * 11) #[.int .u8 0, .int .u8 0, .int .i64 0, .int .u32 0, .int .u16 0, .int .i64 0, .int .i64 0, .int .i64 0, .int .u64 0, .int .u64 0, .slice none 0 0] rfl (by first | exact add_plain_ _ _ | rfl) rfl 37 cur HC5.out info37 ?_ ?_ ?_
  · have h_ := HM.out
    rw [h_.2.2.2.2.2]
    exact seg_fit h_.2.1
  · simp [Value.oneCell']
  have HH := HM.out
  have HRB6 := Aside0.mk ((setRow_other w5.drew g rb (spl cur (f * 11) [.int .u8 0, .int .u8 0, .int .i64 0, .int .u32 0, .int .u16 0, .int .i64 0, .int .i64 0, .int .i64 0, .int .u64 0, .int .u64 0, .slice none 0 0]) HH.2.2.2.2.1).trans HRB5.out)
  have HG26 := Aside0.mk ((setRow_other w5.drew g b2 (spl cur (f * 11) [.int .u8 0, .int .u8 0, .int .i64 0, .int .u32 0, .int .u16 0, .int .i64 0, .int .i64 0, .int .i64 0, .int .u64 0, .int .u64 0, .slice none 0 0]) (by have h1_ := HSZ.out; have h2_ := HF4.out; omega)).trans HG25.out)
  have HG36 := Aside0.mk ((setRow_other w5.drew g b3 (spl cur (f * 11) [.int .u8 0, .int .u8 0, .int .i64 0, .int .u32 0, .int .u16 0, .int .i64 0, .int .i64 0, .int .i64 0, .int .u64 0, .int .u64 0, .slice none 0 0]) (by have h1_ := HSZ.out; have h2_ := HF4.out; omega)).trans HG35.out)
  have hRw := (HR.out.step (w' := w5.drew) ?_ ?_).pop (fun k hk => (HH.2.2.2.1 k hk).1) [.int .u8 0, .int .u8 0, .int .i64 0, .int .u32 0, .int .u16 0, .int .i64 0, .int .i64 0, .int .i64 0, .int .u64 0, .int .u64 0, .slice none 0 0] rfl HC5.out
  rotate_left
  · have h_ := HC5.out
    have h2_ := HC.out
    exact (show w5.drew.heap[g]? = _ from h_).trans h2_.symm
  · intro k hk hlt
    exact (HW5.out.old k hlt (fun e => e.elim (HH.2.2.2.1 k hk).2 (HH.2.2.2.1 k hk).1) : w5.heap[k]? = w.heap[k]?)
  replace hRw : Rng k37 37 (w5.drew.setRow g (spl cur (f * 11) [.int .u8 0, .int .u8 0, .int .i64 0, .int .u32 0, .int .u16 0, .int .i64 0, .int .i64 0, .int .i64 0, .int .u64 0, .int .u64 0, .slice none 0 0])) ok g E P xs := by rw [← HP.out]; exact hRw
  have HPO := Aside0.mk hRw
  have HFX := Aside0.mk (Foot.step (Foot.step HX.out (fun k hk hlt => HW5.out.old k hlt (fun e => e.elim (HH.2.2.2.1 k hk).2 (HH.2.2.2.1 k hk).1))) (W1 := w5.drew.setRow g (spl cur (f * 11) [.int .u8 0, .int .u8 0, .int .i64 0, .int .u32 0, .int .u16 0, .int .i64 0, .int .i64 0, .int .i64 0, .int .u64 0, .int .u64 0, .slice none 0 0])) (fun k hk _ => setRow_other w5.drew g k _ (HH.2.2.2.1 k hk).1))
  have HW6 := Aside0.mk (HW5.out.drew.row g (.inl (.inr rfl)) (spl cur (f * 11) [.int .u8 0, .int .u8 0, .int .i64 0, .int .u32 0, .int .u16 0, .int .i64 0, .int .i64 0, .int .i64 0, .int .u64 0, .int .u64 0, .slice none 0 0]))
  clear hRw HH r0 r1 z_0 z_1 z_2 z_3 z_4 z_5 z_6 z_7 z_8 z_9 z_10 HRB5 HC5 HG25 HG35 HW5 HG5
  go_wp2
  generalize w5.drew.setRow g (spl cur (f * 11) [.int .u8 0, .int .u8 0, .int .i64 0, .int .u32 0, .int .u16 0, .int .i64 0, .int .i64 0, .int .i64 0, .int .u64 0, .int .u64 0, .slice none 0 0]) = w6 at HRB6 HG26 HG36 HPO HFX HW6 ⊢
  go_upto_region 4 with (fail)
  have r0 := (blk_cell HRB6.out 0).trans h0
  have r1 := (blk_cell HRB6.out 1).trans h1
  have fz := blk_frozen HRB6.out 1
  go_still_tail 14, (by kernel_rfl)
  change wpList _ _ _ _ _ (World.drew _)
  have HRB7 := Aside0.mk (show w6.drew.heap[rb]? = _ from HRB6.out)
  have HG27 := Aside0.mk (show w6.drew.heap[b2]? = _ from HG26.out)
  have HG37 := Aside0.mk (show w6.drew.heap[b3]? = _ from HG36.out)
  have HPO7 := Aside0.mk (HPO.out.below (below_drew (Below.refl w6.heap.size w6)))
  have HFX7 := Aside0.mk (Foot.step HFX.out (W1 := w6.drew) (fun k _ _ => rfl))
  have HW7 := Aside0.mk HW6.out.drew
  clear r0 r1 fz HRB6 HG26 HG36 HPO HFX HW6
  generalize w6.drew = w7 at HRB7 HG27 HG37 HPO7 HFX7 HW7 ⊢
  have fz := blk_frozen HRB7.out 1
  have r1 := (blk_cell HRB7.out 1).trans h1
  go_upto_region 5 with (fail)
  have HRB8 := Aside0.mk (blk_set HRB7.out 1 (.int .i64 (P : Int)))
  have HG28 := Aside0.mk (blk_far HG27.out (p := ⟨rb, 1, none⟩) (by show b2 ≠ rb; have h1_ := HSZ.out; have h2_ := HF4.out; omega) (.int .i64 (P : Int)))
  have HG38 := Aside0.mk (blk_far HG37.out (p := ⟨rb, 1, none⟩) (by show b3 ≠ rb; have h1_ := HSZ.out; have h2_ := HF4.out; omega) (.int .i64 (P : Int)))
  have HPO8 := Aside0.mk (HPO7.out.step (w' := w7.setCell ⟨rb, 1, none⟩ (.int .i64 (P : Int))) (Below.heap_setCell _ _ _ _ (fun e => HM.out.2.2.2.2.1 e.symm)) (fun k hk _ => Below.heap_setCell _ _ _ _ (HM.out.2.2.2.1 k hk).2))
  have HFX8 := Aside0.mk (Foot.step HFX7.out (W1 := w7.setCell ⟨rb, 1, none⟩ (.int .i64 (P : Int))) (fun k hk _ => Below.heap_setCell _ _ _ _ (HM.out.2.2.2.1 k hk).2))
  have HW8 := Aside0.mk (HW7.out.set ⟨rb, 1, none⟩ (.inl (.inl rfl)) (.int .i64 (P : Int)))
  clear r1 fz HRB7 HG27 HG37 HPO7 HFX7 HW7
  generalize w7.setCell ⟨rb, 1, none⟩ (.int .i64 (P : Int)) = w8 at HRB8 HG28 HG38 HPO8 HFX8 HW8 ⊢
  have h2' : (rc.setIfInBounds 1 (.int .i64 (P : Int)))[2]? = some (.int .i64 ((m : Int) + 1)) := by rw [Array.getElem?_setIfInBounds, if_neg (by decide)]; exact h2
  have r2 := (blk_cell HRB8.out 2).trans h2'
  have fz := blk_frozen HRB8.out 2
  clear h2'
  go_upto_region 6 with (fail)
  have HRB9 := Aside0.mk (blk_set HRB8.out 2 (.int .i64 (m : Int)))
  have HG29 := Aside0.mk (blk_far HG28.out (p := ⟨rb, 2, none⟩) (by show b2 ≠ rb; have h1_ := HSZ.out; have h2_ := HF4.out; omega) (.int .i64 (m : Int)))
  have HG39 := Aside0.mk (blk_far HG38.out (p := ⟨rb, 2, none⟩) (by show b3 ≠ rb; have h1_ := HSZ.out; have h2_ := HF4.out; omega) (.int .i64 (m : Int)))
  have HPO9 := Aside0.mk (HPO8.out.step (w' := w8.setCell ⟨rb, 2, none⟩ (.int .i64 (m : Int))) (Below.heap_setCell _ _ _ _ (fun e => HM.out.2.2.2.2.1 e.symm)) (fun k hk _ => Below.heap_setCell _ _ _ _ (HM.out.2.2.2.1 k hk).2))
  have HFX9 := Aside0.mk (Foot.step HFX8.out (W1 := w8.setCell ⟨rb, 2, none⟩ (.int .i64 (m : Int))) (fun k hk _ => Below.heap_setCell _ _ _ _ (HM.out.2.2.2.1 k hk).2))
  have HW9 := Aside0.mk (HW8.out.set ⟨rb, 2, none⟩ (.inl (.inl rfl)) (.int .i64 (m : Int)))
  clear r2 fz HRB8 HG28 HG38 HPO8 HFX8 HW8
  generalize w8.setCell ⟨rb, 2, none⟩ (.int .i64 (m : Int)) = w9 at HRB9 HG29 HG39 HPO9 HFX9 HW9 ⊢
  have x_0 := (blk_cell HG39.out 0).trans rfl
  have x_1 := (blk_cell HG39.out 1).trans rfl
  have x_2 := (blk_cell HG39.out 2).trans rfl
  have x_3 := (blk_cell HG39.out 3).trans rfl
  have x_4 := (blk_cell HG39.out 4).trans rfl
  have x_5 := (blk_cell HG39.out 5).trans rfl
  have x_6 := (blk_cell HG39.out 6).trans rfl
  have x_7 := (blk_cell HG39.out 7).trans rfl
  have x_8 := (blk_cell HG39.out 8).trans rfl
  have x_9 := (blk_cell HG39.out 9).trans rfl
  have x_10 := (blk_cell HG39.out 10).trans rfl
  go_wp2_with ((with_reducible refine store_at (ad := ⟨b2, 0, none⟩) rfl 37 (.tmp 2) (.tmp 46) rfl b2 0 #[.int .u8 x.f0, .int .u8 x.f1, .int .i64 x.f2, .int .u32 x.f3, .int .u16 x.f4, .int .i64 x.f5, .int .i64 x.f6, .int .i64 x.f7, .int .u64 x.f8, .int .u64 x.f9, .slice A L c] rfl rfl rfl 37 #[.int .u8 0, .int .u8 0, .int .i64 0, .int .u32 0, .int .u16 0, .int .i64 0, .int .i64 0, .int .i64 0, .int .u64 0, .int .u64 0, .slice none 0 0] HG29.out ?hi ?hz ?h1 ?_); (case hi => exact info37); (case hz => simp); (case h1 => simp [Value.oneCell']))
  have hsp : spl #[.int .u8 0, .int .u8 0, .int .i64 0, .int .u32 0, .int .u16 0, .int .i64 0, .int .i64 0, .int .i64 0, .int .u64 0, .int .u64 0, .slice none 0 0] 0 (#[.int .u8 x.f0, .int .u8 x.f1, .int .i64 x.f2, .int .u32 x.f3, .int .u16 x.f4, .int .i64 x.f5, .int .i64 x.f6, .int .i64 x.f7, .int .u64 x.f8, .int .u64 x.f9, .slice A L c] : Array Value).toList = #[.int .u8 x.f0, .int .u8 x.f1, .int .i64 x.f2, .int .u32 x.f3, .int .u16 x.f4, .int .i64 x.f5, .int .i64 x.f6, .int .i64 x.f7, .int .u64 x.f8, .int .u64 x.f9, .slice A L c] := spl_all rfl
  have hg2 : (w9.setRow b2 (spl #[.int .u8 0, .int .u8 0, .int .i64 0, .int .u32 0, .int .u16 0, .int .i64 0, .int .i64 0, .int .i64 0, .int .u64 0, .int .u64 0, .slice none 0 0] 0 (#[.int .u8 x.f0, .int .u8 x.f1, .int .i64 x.f2, .int .u32 x.f3, .int .u16 x.f4, .int .i64 x.f5, .int .i64 x.f6, .int .i64 x.f7, .int .u64 x.f8, .int .u64 x.f9, .slice A L c] : Array Value).toList)).heap[b2]? = some (.cells #[.int .u8 x.f0, .int .u8 x.f1, .int .i64 x.f2, .int .u32 x.f3, .int .u16 x.f4, .int .i64 x.f5, .int .i64 x.f6, .int .i64 x.f7, .int .u64 x.f8, .int .u64 x.f9, .slice A L c] 37 (0, 0)) := by rw [hsp]; exact setRow_heap w9 b2 _ _ 37 (0, 0) HG29.out
  refine bodyPost_ret (results_c rfl _ _ b2 37 #[.int .u8 x.f0, .int .u8 x.f1, .int .i64 x.f2, .int .u32 x.f3, .int .u16 x.f4, .int .i64 x.f5, .int .i64 x.f6, .int .i64 x.f7, .int .u64 x.f8, .int .u64 x.f9, .slice A L c] (0, 0) _ rfl hg2 Try.underlying37 rfl info37) rfl ?_
  have hne2 : rb ≠ b2 ∧ g ≠ b2 := by have h1_ := HSZ.out; have h2_ := HF4.out; omega
  have hlo : w.heap.size ≤ b2 := HF4.out.1
  refine ⟨A, c, rfl, Foot.step HFX9.out (fun k hk hlt => ?_), (setRow_other w9 b2 rb _ hne2.1).trans HRB9.out, HPO9.out.step (setRow_other w9 b2 g _ hne2.2) (fun k hk hlt => ?_), HW9.out.row b2 (.inr hlo) _⟩
  · exact setRow_other w9 b2 k _ (by have h1_ := HOB.out k hk; omega)
  · exact setRow_other w9 b2 k _ (by have h1_ := HOB.out k hk; omega)
theorem take37_calls (rb g E f m : Nat) (rc : Array Value) (x : S37) (xs : List S37) (ok : Nat → Prop) (w : World) (hrb : w.heap[rb]? = some (.cells rc 147 (0, 0))) (h0 : rc[0]? = some (.slice (some ⟨g, 0, none⟩) E E)) (h1 : rc[1]? = some (.int .i64 f)) (h2 : rc[2]? = some (.int .i64 ((m : Int) + 1)))
    (hR : Rng k37 37 w ok g E f (x :: xs)) (hm : xs.length = m) (hE : E ≤ 1024) (hok : ∀ k, ok k → k ≠ g ∧ k ≠ rb) :
    Calls Try.prog 76 #[.pointer (some ⟨rb, 0, none⟩)] w fun e w' => ∃ (A : Option Addr) (c : Nat), e = .returned (.agg #[.int .u8 x.f0, .int .u8 x.f1, .int .i64 x.f2, .int .u32 x.f3, .int .u16 x.f4, .int .i64 x.f5, .int .i64 x.f6, .int .i64 x.f7, .int .u64 x.f8, .int .u64 x.f9, .slice A x.f10.length c]) ∧ Kd.FK k37 w' (fun k => ok k ∧ k < w.heap.size) x [.int .u8 x.f0, .int .u8 x.f1, .int .i64 x.f2, .int .u32 x.f3, .int .u16 x.f4, .int .i64 x.f5, .int .i64 x.f6, .int .i64 x.f7, .int .u64 x.f8, .int .u64 x.f9, .slice A x.f10.length c] ∧ w'.heap[rb]? = some (.cells ((rc.setIfInBounds 1 (.int .i64 (((f + 1) % E : Nat) : Int))).setIfInBounds 2 (.int .i64 (m : Int))) 147 (0, 0)) ∧ Rng k37 37 w' (fun k => ok k ∧ k < w.heap.size) g E ((f + 1) % E) xs ∧ Kx w w' (fun k => k = rb ∨ k = g) :=
  take37_raw rb g E f m rc x xs (fun k => ok k ∧ k < w.heap.size) w hrb h0 h1 h2 (hR.mono (fun k a b => ⟨a, b⟩)) hm hE (fun k hk => hok k hk.1) (fun k hk => hk.2)
set_option maxRecDepth 100000 in
set_option maxHeartbeats 8000000 in
theorem put43_calls (rb g E f m : Nat) (rc : Array Value) (xs : List S43) (ok : Nat → Prop) (w : World) (hrb : w.heap[rb]? = some (.cells rc 147 (0, 0))) (h0 : rc[3]? = some (.slice (some ⟨g, 0, none⟩) E E)) (h1 : rc[4]? = some (.int .i64 f)) (h2 : rc[5]? = some (.int .i64 m))
    (hR : Rng k43 43 w ok g E f xs) (hm : xs.length = m) (hlt : m < E) (hE : E ≤ 1024) (hok : ∀ k, ok k → k ≠ g ∧ k ≠ rb) (x : S43) (A : Option Addr) (c : Nat) (hx : Kd.FK k43 w ok x [.int .u64 x.f0, .int .i64 x.f1, .int .u8 x.f2, .int .i64 x.f3, .slice A x.f4.length c]) :
    Calls Try.prog 97 #[.pointer (some ⟨rb, 3, none⟩), .agg #[.int .u64 x.f0, .int .i64 x.f1, .int .u8 x.f2, .int .i64 x.f3, .slice A x.f4.length c]] w fun e w' => e = .returned (.tuple #[]) ∧ w'.heap[rb]? = some (.cells (rc.setIfInBounds 5 (.int .i64 ((m + 1 : Nat) : Int))) 147 (0, 0)) ∧ Rng k43 43 w' ok g E f (xs ++ [x]) ∧ Kx w w' (fun k => k = rb ∨ k = g) := by
  obtain ⟨cur, hcur, hcs⟩ := hR.blk
  have hne : rb ≠ g := blk_ne hrb hcur (by decide)
  have hRlen := hR.len
  obtain ⟨q1, q2, q3, q4, q5, q6, q7, q8, q9, q10, q11⟩ := place_facts f m E hRlen.2 (by omega) hE
  have wn : IntKind.i64.wrap ((m : Int) + 1) = ((m + 1 : Nat) : Int) := by rw [wid _ (by omega) (by omega)]; omega
  have HX := Aside0.mk hx
  have HXL := Aside0.mk (show Value.oneCell' (.slice A x.f4.length c) = true from rfl)
  generalize x.f4.length = L at HX HXL ⊢
  have HA := Aside0.mk (below_alloc (Below.refl w.heap.size w) (.cells #[.int .u64 x.f0, .int .i64 x.f1, .int .u8 x.f2, .int .i64 x.f3, .slice A L c] 43))
  have HG := Aside0.mk (blk_new w (.cells #[.int .u64 x.f0, .int .i64 x.f1, .int .u8 x.f2, .int .i64 x.f3, .slice A L c] 43))
  have HRB := Aside0.mk hrb
  have HR := Aside0.mk hR
  have HM := Aside0.mk (And.intro hm (And.intro hlt (And.intro hE (And.intro hok (And.intro hne hcs)))))
  have HC := Aside0.mk hcur
  have HSZ := Aside0.mk (And.intro (blk_lt hrb) (blk_lt hcur))
  clear hx hrb hR hm hlt hE hok hne hcs hcur hRlen
  go_enter Try.func97, Try.ntmps97
  go_upto_region 1 with (fail)
  obtain ⟨bx, hbx⟩ : ∃ bx, bx = w.heap.size := ⟨_, rfl⟩
  have HBX := Aside0.mk hbx
  rw [← hbx] at HG ⊢
  clear hbx
  generalize w.alloc (.cells #[.int .u64 x.f0, .int .i64 x.f1, .int .u8 x.f2, .int .i64 x.f3, .slice A L c] 43) = w1 at HA HG ⊢
  have HRB1 := Aside0.mk (blk_below HRB.out HA.out)
  have HC1 := Aside0.mk (blk_below HC.out HA.out)
  have x_0 := (blk_cell HG.out 0).trans rfl
  have x_1 := (blk_cell HG.out 1).trans rfl
  have x_2 := (blk_cell HG.out 2).trans rfl
  have x_3 := (blk_cell HG.out 3).trans rfl
  have x_4 := (blk_cell HG.out 4).trans rfl
  have r0 := (blk_cell HRB1.out 3).trans h0
  have r1 := (blk_cell HRB1.out 4).trans h1
  have r2 := (blk_cell HRB1.out 5).trans h2
  obtain ⟨P, hP⟩ : ∃ P, (f + m) % E = P := ⟨_, rfl⟩
  rw [hP] at q3 q4 q5 q6 q7
  have HP := Aside0.mk hP
  clear hP
  go_still_tail 21, (by kernel_rfl)
  change wpList _ _ _ _ _ (World.drew _)
  refine store_at rfl 43 (.tmp 24) (.tmp 23) rfl g (P * 5) #[.int .u64 x.f0, .int .i64 x.f1, .int .u8 x.f2, .int .i64 x.f3, .slice A L c] rfl (by first | exact add_plain_ _ _ | rfl) rfl 43 cur HC1.out info43 ?_ ?_ ?_
  · rw [HM.out.2.2.2.2.2]; exact seg_fit q5
  · simp [Value.oneCell']
  have HRB2 := Aside0.mk ((setRow_other w1.drew g rb (spl cur (P * 5) [.int .u64 x.f0, .int .i64 x.f1, .int .u8 x.f2, .int .i64 x.f3, .slice A L c]) HM.out.2.2.2.2.1).trans HRB1.out)
  have hRw := (HR.out.below HA.out).below (below_drew (Below.refl w1.heap.size w1))
  have hxw := Foot.step (Foot.step HX.out (fun k _ hk => HA.out.block k hk)) (fun k _ hk => (below_drew (Below.refl w1.heap.size w1)).block k hk)
  have hpush := hRw.push (x := x) (fun k hk => (HM.out.2.2.2.1 k hk).1) (by rw [HM.out.1]; exact HM.out.2.1) hxw HC1.out
  rw [HM.out.1, HP.out] at hpush
  replace hpush : Rng k43 43 (w1.drew.setRow g (spl cur (P * 5) [.int .u64 x.f0, .int .i64 x.f1, .int .u8 x.f2, .int .i64 x.f3, .slice A L c])) ok g E f (xs ++ [x]) := hpush
  have HPU := Aside0.mk hpush
  have HKX := Aside0.mk (((Kx.of_below HA.out (fun k => k = rb ∨ k = g)).drew).row g (.inl (.inr rfl)) (spl cur (P * 5) [.int .u64 x.f0, .int .i64 x.f1, .int .u8 x.f2, .int .i64 x.f3, .slice A L c]))
  clear r0 r1 r2 x_0 x_1 x_2 x_3 x_4 q1 q2 q3 q4 q5 q6 q7 q8 q9 q10 q11 hRw hxw hpush
  generalize w1.drew.setRow g (spl cur (P * 5) [.int .u64 x.f0, .int .i64 x.f1, .int .u8 x.f2, .int .i64 x.f3, .slice A L c]) = w2 at HPU HKX HRB2 ⊢
  have r2 := (blk_cell HRB2.out 5).trans h2
  have fz := blk_frozen HRB2.out 5
  go_wp2
  (try simp only [Exit.inBlock, Exit.then])
  go_end0
  have hne := HM.out.2.2.2.2.1
  refine ⟨rfl, blk_set HRB2.out _ _, HPU.out.step (Below.heap_setCell _ _ _ _ (fun e => hne e.symm)) (fun k hk _ => Below.heap_setCell _ _ _ _ (HM.out.2.2.2.1 k hk).2), HKX.out.set _ (.inl (.inl rfl)) _⟩
set_option maxRecDepth 100000 in
set_option maxHeartbeats 8000000 in
theorem take43_raw (rb g E f m : Nat) (rc : Array Value) (x : S43) (xs : List S43) (ok : Nat → Prop) (w : World) (hrb : w.heap[rb]? = some (.cells rc 147 (0, 0))) (h0 : rc[3]? = some (.slice (some ⟨g, 0, none⟩) E E)) (h1 : rc[4]? = some (.int .i64 f)) (h2 : rc[5]? = some (.int .i64 ((m : Int) + 1)))
    (hR : Rng k43 43 w ok g E f (x :: xs)) (hm : xs.length = m) (hE : E ≤ 1024) (hok : ∀ k, ok k → k ≠ g ∧ k ≠ rb) (hob : ∀ k, ok k → k < w.heap.size) :
    Calls Try.prog 78 #[.pointer (some ⟨rb, 3, none⟩)] w fun e w' => ∃ (A : Option Addr) (c : Nat), e = .returned (.agg #[.int .u64 x.f0, .int .i64 x.f1, .int .u8 x.f2, .int .i64 x.f3, .slice A x.f4.length c]) ∧ Kd.FK k43 w' ok x [.int .u64 x.f0, .int .i64 x.f1, .int .u8 x.f2, .int .i64 x.f3, .slice A x.f4.length c] ∧ w'.heap[rb]? = some (.cells ((rc.setIfInBounds 4 (.int .i64 (((f + 1) % E : Nat) : Int))).setIfInBounds 5 (.int .i64 (m : Int))) 147 (0, 0)) ∧ Rng k43 43 w' ok g E ((f + 1) % E) xs ∧ Kx w w' (fun k => k = rb ∨ k = g) := by
  obtain ⟨cur, hcur, hcs⟩ := hR.blk
  have hne : rb ≠ g := blk_ne hrb hcur (by decide)
  have hRlen := hR.len
  obtain ⟨c0, hc0, hx, hcell⟩ := hR.first
  obtain ⟨A, c, rfl, hcl, hF⟩ := k43_openF hx
  obtain ⟨q1, q2, q3, q4, q5, q6, q7, q8, q9, q10⟩ := next_facts f E hRlen.2 hE
  obtain ⟨P, hP⟩ : ∃ P, (f + 1) % E = P := ⟨_, rfl⟩
  rw [hP] at q3 q4 ⊢
  have HP := Aside0.mk hP
  clear hP
  have wn : IntKind.i64.wrap ((m : Int) + 1 - 1) = (m : Int) := by simp only [List.length_cons] at hRlen; rw [wid _ (by omega) (by omega)]; omega
  have wn2 : IntKind.i64.wrap (m : Int) = (m : Int) := by simp only [List.length_cons] at hRlen; rw [wid _ (by omega) (by omega)]
  have c_0 : w.cell? ⟨g, f * 5, none⟩ = some (.int .u64 x.f0) := hcell 0 (by show 0 < 5; omega)
  have c_1 : w.cell? ⟨g, f * 5 + 1, none⟩ = some (.int .i64 x.f1) := hcell 1 (by show 1 < 5; omega)
  have c_2 : w.cell? ⟨g, f * 5 + 2, none⟩ = some (.int .u8 x.f2) := hcell 2 (by show 2 < 5; omega)
  have c_3 : w.cell? ⟨g, f * 5 + 3, none⟩ = some (.int .i64 x.f3) := hcell 3 (by show 3 < 5; omega)
  have c_4 : w.cell? ⟨g, f * 5 + 4, none⟩ = some (.slice A x.f4.length c) := hcell 4 (by show 4 < 5; omega)
  have k_0 := (blk_cell hcur (f * 5)).symm.trans c_0
  have k_1 := (blk_cell hcur (f * 5 + 1)).symm.trans c_1
  have k_2 := (blk_cell hcur (f * 5 + 2)).symm.trans c_2
  have k_3 := (blk_cell hcur (f * 5 + 3)).symm.trans c_3
  have k_4 := (blk_cell hcur (f * 5 + 4)).symm.trans c_4
  have HX := Aside0.mk hx
  generalize x.f4.length = L at HX c_4 k_4 ⊢
  have HRB := Aside0.mk hrb
  have HR := Aside0.mk hR
  have HM := Aside0.mk (And.intro hm (And.intro hRlen.2 (And.intro hE (And.intro hok (And.intro hne hcs)))))
  have HC := Aside0.mk hcur
  have HOB := Aside0.mk hob
  clear hob
  have HSZ := Aside0.mk (And.intro (blk_lt hrb) (blk_lt hcur))
  have r0 := (blk_cell HRB.out 3).trans h0
  have r1 := (blk_cell HRB.out 4).trans h1
  have r2 := (blk_cell HRB.out 5).trans h2
  clear hx hrb hR hm hE hok hne hcs hcur hRlen hc0 hcell hcl hF
  go_enter Try.func78, Try.ntmps78
  go_upto_region 1 with (fail)
  obtain ⟨b2, hb2⟩ : ∃ b2, b2 = w.heap.size := ⟨_, rfl⟩
  have HB2 := Aside0.mk hb2
  have HA := Aside0.mk (below_alloc (Below.refl w.heap.size w) (.cells #[.int .u64 0, .int .i64 0, .int .u8 0, .int .i64 0, .slice none 0 0] 43))
  have HG2 := Aside0.mk (blk_new w (.cells #[.int .u64 0, .int .i64 0, .int .u8 0, .int .i64 0, .slice none 0 0] 43))
  rw [← hb2] at HG2 ⊢
  clear hb2 r0 r1 r2
  replace c_0 := pw_cell_below HA.out c_0
  replace c_1 := pw_cell_below HA.out c_1
  replace c_2 := pw_cell_below HA.out c_2
  replace c_3 := pw_cell_below HA.out c_3
  replace c_4 := pw_cell_below HA.out c_4
  generalize w.alloc (.cells #[.int .u64 0, .int .i64 0, .int .u8 0, .int .i64 0, .slice none 0 0] 43) = w1 at HA HG2 c_0 c_1 c_2 c_3 c_4 ⊢
  have HRB1 := Aside0.mk (blk_below HRB.out HA.out)
  have r0 := (blk_cell HRB1.out 3).trans h0
  have r1 := (blk_cell HRB1.out 4).trans h1
  have r2 := (blk_cell HRB1.out 5).trans h2
  have HC1 := Aside0.mk (blk_below HC.out HA.out)
  have HW2 := Aside0.mk (below_drew HA.out)
  have HW12 : Below w1.heap.size w1 w1.drew := below_drew (Below.refl _ _)
  have HRB2 := Aside0.mk (show w1.drew.heap[rb]? = _ from HRB1.out)
  have HC2 := Aside0.mk (show w1.drew.heap[g]? = _ from HC1.out)
  clear r0 r1 r2 c_0 c_1 c_2 c_3 c_4
  refine start_ (n := 12) (S := fun w' => w'.heap[rb]? = some (.cells rc 147 (0, 0)) ∧ w'.heap[g]? = some (.cells cur 43 (0, 0))) (ds := []) (bb 12 0) (by kernel_rfl) rfl rfl (⟨HRB2.out, HC2.out⟩) (fun hHeld => ?_)
  generalize w1.drew = w2 at HW2 HW12 hHeld ⊢
  refine pure_ (i := 0) (N := some 5) (v := ?_) (a' := ?_) (bb 12 1) rfl rfl (by kernel_rfl) (fun _ _ _ h => h) (Or.inl ⟨by rfl, ?_⟩) ?_ ?_
  rotate_left
  · intro w'
    go_simp
    with_reducible rfl
  rotate_left
  · simp only [Act.put, List.setIfInBounds_toArray, List.set_cons_zero, List.set_cons_succ, i64_w, i32_w]
    rfl
  refine pure_ (i := 1) (N := some 6) (v := ?_) (a' := ?_) (bb 12 3) rfl rfl (by kernel_rfl) (fun _ _ _ h => h) (Or.inl ⟨by rfl, ?_⟩) ?_ ?_
  rotate_left
  · intro w'
    go_simp
    with_reducible rfl
  rotate_left
  · simp only [Act.put, List.setIfInBounds_toArray, List.set_cons_zero, List.set_cons_succ, i64_w, i32_w]
    rfl
  refine pure_ (i := 2) (N := some 7) (v := ?_) (a' := ?_) (bb 12 7) rfl rfl (by kernel_rfl) (fun _ _ _ h => h) (Or.inl ⟨by rfl, ?_⟩) ?_ ?_
  rotate_left
  · intro w'
    go_simp
    with_reducible rfl
  rotate_left
  · simp only [Act.put, List.setIfInBounds_toArray, List.set_cons_zero, List.set_cons_succ, i64_w, i32_w]
    rfl
  refine take_ (i := 3) (N := some 8) (v := ?_) (a' := ?_) (bb 12 15) rfl rfl (by kernel_rfl) (fun _ _ _ h => h) (Or.inl ⟨by rfl, ?_⟩) hHeld ?_ ?_
  rotate_left
  · intro w' hSw
    have r0 := (blk_cell hSw.1 3).trans h0
    have r1 := (blk_cell hSw.1 4).trans h1
    have c_0 := (blk_cell hSw.2 (f * 5)).trans k_0
    have c_1 := (blk_cell hSw.2 (f * 5 + 1)).trans k_1
    have c_2 := (blk_cell hSw.2 (f * 5 + 2)).trans k_2
    have c_3 := (blk_cell hSw.2 (f * 5 + 3)).trans k_3
    have c_4 := (blk_cell hSw.2 (f * 5 + 4)).trans k_4
    go_simp
    with_reducible rfl
  rotate_left
  · simp only [Act.put, List.setIfInBounds_toArray, List.set_cons_zero, List.set_cons_succ, i64_w, i32_w]
    rfl
  refine pure_ (i := 4) (N := some 9) (v := ?_) (a' := ?_) (bb 12 31) rfl rfl (by kernel_rfl) (fun _ _ _ h => h) (Or.inl ⟨by rfl, ?_⟩) ?_ ?_
  rotate_left
  · intro w'
    go_simp
    with_reducible rfl
  rotate_left
  · simp only [Act.put, List.setIfInBounds_toArray, List.set_cons_zero, List.set_cons_succ, i64_w, i32_w]
    rfl
  refine pure_ (i := 5) (N := some 10) (v := ?_) (a' := ?_) (bb 12 63) rfl rfl (by kernel_rfl) (fun _ _ _ h => h) (Or.inl ⟨by rfl, ?_⟩) ?_ ?_
  rotate_left
  · intro w'
    go_simp
    with_reducible rfl
  rotate_left
  · simp only [Act.put, List.setIfInBounds_toArray, List.set_cons_zero, List.set_cons_succ, i64_w, i32_w]
    rfl
  refine pure_ (i := 6) (N := some 11) (v := ?_) (a' := ?_) (bb 12 127) rfl rfl (by kernel_rfl) (fun _ _ _ h => h) (Or.inl ⟨by rfl, ?_⟩) ?_ ?_
  rotate_left
  · intro w'
    go_simp
    with_reducible rfl
  rotate_left
  · simp only [Act.put, List.setIfInBounds_toArray, List.set_cons_zero, List.set_cons_succ, i64_w, i32_w]
    rfl
  refine take_ (i := 7) (N := some 12) (v := ?_) (a' := ?_) (bb 12 255) rfl rfl (by kernel_rfl) (fun _ _ _ h => h) (Or.inl ⟨by rfl, ?_⟩) hHeld ?_ ?_
  rotate_left
  · intro w' hSw
    have r0 := (blk_cell hSw.1 3).trans h0
    have r1 := (blk_cell hSw.1 4).trans h1
    have c_0 := (blk_cell hSw.2 (f * 5)).trans k_0
    have c_1 := (blk_cell hSw.2 (f * 5 + 1)).trans k_1
    have c_2 := (blk_cell hSw.2 (f * 5 + 2)).trans k_2
    have c_3 := (blk_cell hSw.2 (f * 5 + 3)).trans k_3
    have c_4 := (blk_cell hSw.2 (f * 5 + 4)).trans k_4
    go_simp
    with_reducible rfl
  rotate_left
  · simp only [Act.put, List.setIfInBounds_toArray, List.set_cons_zero, List.set_cons_succ, i64_w, i32_w]
    rfl
  refine pure_ (i := 8) (N := some 13) (v := ?_) (a' := ?_) (bb 12 511) rfl rfl (by kernel_rfl) (fun _ _ _ h => h) (Or.inl ⟨by rfl, ?_⟩) ?_ ?_
  rotate_left
  · intro w'
    go_simp
    with_reducible rfl
  rotate_left
  · simp only [Act.put, List.setIfInBounds_toArray, List.set_cons_zero, List.set_cons_succ, i64_w, i32_w]
    rfl
  refine take_ (i := 9) (N := some 14) (v := ?_) (a' := ?_) (bb 12 1023) rfl rfl (by kernel_rfl) (fun _ _ _ h => h) (Or.inl ⟨by rfl, ?_⟩) hHeld ?_ ?_
  rotate_left
  · intro w' hSw
    have r0 := (blk_cell hSw.1 3).trans h0
    have r1 := (blk_cell hSw.1 4).trans h1
    have c_0 := (blk_cell hSw.2 (f * 5)).trans k_0
    have c_1 := (blk_cell hSw.2 (f * 5 + 1)).trans k_1
    have c_2 := (blk_cell hSw.2 (f * 5 + 2)).trans k_2
    have c_3 := (blk_cell hSw.2 (f * 5 + 3)).trans k_3
    have c_4 := (blk_cell hSw.2 (f * 5 + 4)).trans k_4
    go_simp
    with_reducible rfl
  rotate_left
  · simp only [Act.put, List.setIfInBounds_toArray, List.set_cons_zero, List.set_cons_succ, i64_w, i32_w]
    rfl
  refine one_ (i := 10) (N := some 3) (bb 12 2047) rfl rfl (by kernel_rfl) (by decide) (fun K hK => ?_)
  refine event_step (by rfl) (show _ = Result.ok (Next.value (.pointer (some ⟨w2.heap.size, 0, none⟩))) (World.alloc _ (.cells #[.int .u64 0, .int .i64 0, .int .u8 0, .int .i64 0, .slice none 0 0] 43)) from by first | (go_simp; done) | (go_simp; rfl)) ?_
  have HA3 := Aside0.mk (below_alloc (Below.refl w2.heap.size w2) (.cells #[.int .u64 0, .int .i64 0, .int .u8 0, .int .i64 0, .slice none 0 0] 43))
  have HG3 := Aside0.mk (blk_new w2 (.cells #[.int .u64 0, .int .i64 0, .int .u8 0, .int .i64 0, .slice none 0 0] 43))
  obtain ⟨b3, hb3⟩ : ∃ b3, b3 = w2.heap.size := ⟨_, rfl⟩
  have HB3 := Aside0.mk hb3
  rw [← hb3] at HG3 ⊢
  clear hb3
  generalize w2.alloc (.cells #[.int .u64 0, .int .i64 0, .int .u8 0, .int .i64 0, .slice none 0 0] 43) = w3 at HA3 HG3 ⊢
  refine hK.out _ _ (⟨blk_below hHeld.1 HA3.out, blk_below hHeld.2 HA3.out⟩) (fun hHeld => ?_)
  clear hK K
  refine norm_ (a' := ?_) ?_ ?_
  rotate_left
  · show Act.put _ (some 3) _ = _
    simp only [Act.put, List.setIfInBounds_toArray, List.set_cons_zero, List.set_cons_succ, i64_w, i32_w]
    rfl
  refine one_ (i := 11) (N := none) (bb 12 4095) rfl rfl (by kernel_rfl) (by decide) (fun K hK => ?_)
  refine skip_ (by rfl) rfl (store_run (old := #[.int .u64 0, .int .i64 0, .int .u8 0, .int .i64 0, .slice none 0 0]) 43 (.tmp 3) (.tmp 14) rfl rfl rfl info43 rfl (by simp [Value.oneCell']) HG3.out) ?_
  refine hK.out _ _ ⟨(setRow_other w3 b3 rb #[.int .u64 x.f0, .int .i64 x.f1, .int .u8 x.f2, .int .i64 x.f3, .slice A L c] (by have := HB3.out; have := HW2.out.size; have := HSZ.out; omega)).trans hHeld.1, (setRow_other w3 b3 g #[.int .u64 x.f0, .int .i64 x.f1, .int .u8 x.f2, .int .i64 x.f3, .slice A L c] (by have := HB3.out; have := HW2.out.size; have := HSZ.out; omega)).trans hHeld.2⟩ (fun hHeld => ?_)
  clear hK K
  refine done_ (by kernel_rfl) ?_

  have hH := hHeld
  have HRB3 := Aside0.mk hH.1
  have HC3 := Aside0.mk hH.2
  have HG4 := Aside0.mk (setRow_heap w3 b3 _ #[.int .u64 x.f0, .int .i64 x.f1, .int .u8 x.f2, .int .i64 x.f3, .slice A L c] 43 (0, 0) HG3.out)
  have HG24 := Aside0.mk ((setRow_other w3 b3 b2 #[.int .u64 x.f0, .int .i64 x.f1, .int .u8 x.f2, .int .i64 x.f3, .slice A L c] (by have h1_ := HB3.out; have h2_ := HW12.size; have h3_ := blk_lt HG2.out; omega)).trans (blk_below (blk_below HG2.out HW12) HA3.out))
  have HW4 := Aside0.mk (((Kx.of_below HW2.out (fun k => k = rb ∨ k = g)).below HA3.out).row b3 (.inr (by have := HB3.out; have := HW2.out.size; omega)) #[.int .u64 x.f0, .int .i64 x.f1, .int .u8 x.f2, .int .i64 x.f3, .slice A L c])
  have HF4 := Aside0.mk (show w.heap.size ≤ b2 ∧ b2 < b3 from ⟨by have := HB2.out; omega, by have := HB3.out; have := HB2.out; have := HW12.size; have := blk_lt HG2.out; omega⟩)
  clear hHeld hH
  go_wp2
  have HS4 := Aside0.mk (show (w3.setRow b3 #[.int .u64 x.f0, .int .i64 x.f1, .int .u8 x.f2, .int .i64 x.f3, .slice A L c]).heap.size = w3.heap.size by simp [World.setRow])
  generalize w3.setRow b3 #[.int .u64 x.f0, .int .i64 x.f1, .int .u8 x.f2, .int .i64 x.f3, .slice A L c] = w4 at HRB3 HC3 HG4 HG24 HW4 HS4 ⊢
  go_upto_region 3 with (fail)
  have HA5 := Aside0.mk (below_alloc (Below.refl w4.heap.size w4) (.cells #[.int .u64 0, .int .i64 0, .int .u8 0, .int .i64 0, .slice none 0 0] 43))
  have HG5 := Aside0.mk (blk_new w4 (.cells #[.int .u64 0, .int .i64 0, .int .u8 0, .int .i64 0, .slice none 0 0] 43))
  rw [← HS4.out]
  obtain ⟨b4, hb4⟩ : ∃ b4, b4 = w4.heap.size := ⟨_, rfl⟩
  have HB4 := Aside0.mk hb4
  rw [← hb4] at HG5 ⊢
  clear hb4
  generalize w4.alloc (.cells #[.int .u64 0, .int .i64 0, .int .u8 0, .int .i64 0, .slice none 0 0] 43) = w5 at HA5 HG5 ⊢
  have HRB5 := Aside0.mk (blk_below HRB3.out HA5.out)
  have HC5 := Aside0.mk (blk_below HC3.out HA5.out)
  have HG25 := Aside0.mk (blk_below HG24.out HA5.out)
  have HG35 := Aside0.mk (blk_below HG4.out HA5.out)
  have HW5 := Aside0.mk (HW4.out.below HA5.out)
  have HF5 := Aside0.mk (show b3 < b4 by have h1_ := blk_lt HG4.out; have h2_ := HB4.out; omega)
  have z_0 := (blk_cell HG5.out 0).trans rfl
  have z_1 := (blk_cell HG5.out 1).trans rfl
  have z_2 := (blk_cell HG5.out 2).trans rfl
  have z_3 := (blk_cell HG5.out 3).trans rfl
  have z_4 := (blk_cell HG5.out 4).trans rfl
  have r0 := (blk_cell HRB5.out 3).trans h0
  have r1 := (blk_cell HRB5.out 4).trans h1
  clear HRB HRB1 HRB2 HRB3 HC1 HC2 HC3 HG2 HG3 HG24 HG4 HW4 HA HA3 HW2 HW12 k_0 k_1 k_2 k_3 k_4
  go_still_tail 10, (by kernel_rfl)
  change wpList _ _ _ _ _ (World.drew _)
  refine store_at rfl 43 (.tmp 24) (.tmp 23) rfl g (f * 5) #[.int .u64 0, .int .i64 0, .int .u8 0, .int .i64 0, .slice none 0 0] rfl (by first | exact add_plain_ _ _ | rfl) rfl 43 cur HC5.out info43 ?_ ?_ ?_
  · have h_ := HM.out
    rw [h_.2.2.2.2.2]
    exact seg_fit h_.2.1
  · simp [Value.oneCell']
  have HH := HM.out
  have HRB6 := Aside0.mk ((setRow_other w5.drew g rb (spl cur (f * 5) [.int .u64 0, .int .i64 0, .int .u8 0, .int .i64 0, .slice none 0 0]) HH.2.2.2.2.1).trans HRB5.out)
  have HG26 := Aside0.mk ((setRow_other w5.drew g b2 (spl cur (f * 5) [.int .u64 0, .int .i64 0, .int .u8 0, .int .i64 0, .slice none 0 0]) (by have h1_ := HSZ.out; have h2_ := HF4.out; omega)).trans HG25.out)
  have HG36 := Aside0.mk ((setRow_other w5.drew g b3 (spl cur (f * 5) [.int .u64 0, .int .i64 0, .int .u8 0, .int .i64 0, .slice none 0 0]) (by have h1_ := HSZ.out; have h2_ := HF4.out; omega)).trans HG35.out)
  have hRw := (HR.out.step (w' := w5.drew) ?_ ?_).pop (fun k hk => (HH.2.2.2.1 k hk).1) [.int .u64 0, .int .i64 0, .int .u8 0, .int .i64 0, .slice none 0 0] rfl HC5.out
  rotate_left
  · have h_ := HC5.out
    have h2_ := HC.out
    exact (show w5.drew.heap[g]? = _ from h_).trans h2_.symm
  · intro k hk hlt
    exact (HW5.out.old k hlt (fun e => e.elim (HH.2.2.2.1 k hk).2 (HH.2.2.2.1 k hk).1) : w5.heap[k]? = w.heap[k]?)
  replace hRw : Rng k43 43 (w5.drew.setRow g (spl cur (f * 5) [.int .u64 0, .int .i64 0, .int .u8 0, .int .i64 0, .slice none 0 0])) ok g E P xs := by rw [← HP.out]; exact hRw
  have HPO := Aside0.mk hRw
  have HFX := Aside0.mk (Foot.step (Foot.step HX.out (fun k hk hlt => HW5.out.old k hlt (fun e => e.elim (HH.2.2.2.1 k hk).2 (HH.2.2.2.1 k hk).1))) (W1 := w5.drew.setRow g (spl cur (f * 5) [.int .u64 0, .int .i64 0, .int .u8 0, .int .i64 0, .slice none 0 0])) (fun k hk _ => setRow_other w5.drew g k _ (HH.2.2.2.1 k hk).1))
  have HW6 := Aside0.mk (HW5.out.drew.row g (.inl (.inr rfl)) (spl cur (f * 5) [.int .u64 0, .int .i64 0, .int .u8 0, .int .i64 0, .slice none 0 0]))
  clear hRw HH r0 r1 z_0 z_1 z_2 z_3 z_4 HRB5 HC5 HG25 HG35 HW5 HG5
  go_wp2
  generalize w5.drew.setRow g (spl cur (f * 5) [.int .u64 0, .int .i64 0, .int .u8 0, .int .i64 0, .slice none 0 0]) = w6 at HRB6 HG26 HG36 HPO HFX HW6 ⊢
  go_upto_region 4 with (fail)
  have r0 := (blk_cell HRB6.out 3).trans h0
  have r1 := (blk_cell HRB6.out 4).trans h1
  have fz := blk_frozen HRB6.out 4
  go_still_tail 14, (by kernel_rfl)
  change wpList _ _ _ _ _ (World.drew _)
  have HRB7 := Aside0.mk (show w6.drew.heap[rb]? = _ from HRB6.out)
  have HG27 := Aside0.mk (show w6.drew.heap[b2]? = _ from HG26.out)
  have HG37 := Aside0.mk (show w6.drew.heap[b3]? = _ from HG36.out)
  have HPO7 := Aside0.mk (HPO.out.below (below_drew (Below.refl w6.heap.size w6)))
  have HFX7 := Aside0.mk (Foot.step HFX.out (W1 := w6.drew) (fun k _ _ => rfl))
  have HW7 := Aside0.mk HW6.out.drew
  clear r0 r1 fz HRB6 HG26 HG36 HPO HFX HW6
  generalize w6.drew = w7 at HRB7 HG27 HG37 HPO7 HFX7 HW7 ⊢
  have fz := blk_frozen HRB7.out 4
  have r1 := (blk_cell HRB7.out 4).trans h1
  go_upto_region 5 with (fail)
  have HRB8 := Aside0.mk (blk_set HRB7.out 4 (.int .i64 (P : Int)))
  have HG28 := Aside0.mk (blk_far HG27.out (p := ⟨rb, 4, none⟩) (by show b2 ≠ rb; have h1_ := HSZ.out; have h2_ := HF4.out; omega) (.int .i64 (P : Int)))
  have HG38 := Aside0.mk (blk_far HG37.out (p := ⟨rb, 4, none⟩) (by show b3 ≠ rb; have h1_ := HSZ.out; have h2_ := HF4.out; omega) (.int .i64 (P : Int)))
  have HPO8 := Aside0.mk (HPO7.out.step (w' := w7.setCell ⟨rb, 4, none⟩ (.int .i64 (P : Int))) (Below.heap_setCell _ _ _ _ (fun e => HM.out.2.2.2.2.1 e.symm)) (fun k hk _ => Below.heap_setCell _ _ _ _ (HM.out.2.2.2.1 k hk).2))
  have HFX8 := Aside0.mk (Foot.step HFX7.out (W1 := w7.setCell ⟨rb, 4, none⟩ (.int .i64 (P : Int))) (fun k hk _ => Below.heap_setCell _ _ _ _ (HM.out.2.2.2.1 k hk).2))
  have HW8 := Aside0.mk (HW7.out.set ⟨rb, 4, none⟩ (.inl (.inl rfl)) (.int .i64 (P : Int)))
  clear r1 fz HRB7 HG27 HG37 HPO7 HFX7 HW7
  generalize w7.setCell ⟨rb, 4, none⟩ (.int .i64 (P : Int)) = w8 at HRB8 HG28 HG38 HPO8 HFX8 HW8 ⊢
  have h2' : (rc.setIfInBounds 4 (.int .i64 (P : Int)))[5]? = some (.int .i64 ((m : Int) + 1)) := by rw [Array.getElem?_setIfInBounds, if_neg (by decide)]; exact h2
  have r2 := (blk_cell HRB8.out 5).trans h2'
  have fz := blk_frozen HRB8.out 5
  clear h2'
  go_upto_region 6 with (fail)
  have HRB9 := Aside0.mk (blk_set HRB8.out 5 (.int .i64 (m : Int)))
  have HG29 := Aside0.mk (blk_far HG28.out (p := ⟨rb, 5, none⟩) (by show b2 ≠ rb; have h1_ := HSZ.out; have h2_ := HF4.out; omega) (.int .i64 (m : Int)))
  have HG39 := Aside0.mk (blk_far HG38.out (p := ⟨rb, 5, none⟩) (by show b3 ≠ rb; have h1_ := HSZ.out; have h2_ := HF4.out; omega) (.int .i64 (m : Int)))
  have HPO9 := Aside0.mk (HPO8.out.step (w' := w8.setCell ⟨rb, 5, none⟩ (.int .i64 (m : Int))) (Below.heap_setCell _ _ _ _ (fun e => HM.out.2.2.2.2.1 e.symm)) (fun k hk _ => Below.heap_setCell _ _ _ _ (HM.out.2.2.2.1 k hk).2))
  have HFX9 := Aside0.mk (Foot.step HFX8.out (W1 := w8.setCell ⟨rb, 5, none⟩ (.int .i64 (m : Int))) (fun k hk _ => Below.heap_setCell _ _ _ _ (HM.out.2.2.2.1 k hk).2))
  have HW9 := Aside0.mk (HW8.out.set ⟨rb, 5, none⟩ (.inl (.inl rfl)) (.int .i64 (m : Int)))
  clear r2 fz HRB8 HG28 HG38 HPO8 HFX8 HW8
  generalize w8.setCell ⟨rb, 5, none⟩ (.int .i64 (m : Int)) = w9 at HRB9 HG29 HG39 HPO9 HFX9 HW9 ⊢
  have x_0 := (blk_cell HG39.out 0).trans rfl
  have x_1 := (blk_cell HG39.out 1).trans rfl
  have x_2 := (blk_cell HG39.out 2).trans rfl
  have x_3 := (blk_cell HG39.out 3).trans rfl
  have x_4 := (blk_cell HG39.out 4).trans rfl
  go_wp2_with ((with_reducible refine store_at (ad := ⟨b2, 0, none⟩) rfl 43 (.tmp 2) (.tmp 46) rfl b2 0 #[.int .u64 x.f0, .int .i64 x.f1, .int .u8 x.f2, .int .i64 x.f3, .slice A L c] rfl rfl rfl 43 #[.int .u64 0, .int .i64 0, .int .u8 0, .int .i64 0, .slice none 0 0] HG29.out ?hi ?hz ?h1 ?_); (case hi => exact info43); (case hz => simp); (case h1 => simp [Value.oneCell']))
  have hsp : spl #[.int .u64 0, .int .i64 0, .int .u8 0, .int .i64 0, .slice none 0 0] 0 (#[.int .u64 x.f0, .int .i64 x.f1, .int .u8 x.f2, .int .i64 x.f3, .slice A L c] : Array Value).toList = #[.int .u64 x.f0, .int .i64 x.f1, .int .u8 x.f2, .int .i64 x.f3, .slice A L c] := spl_all rfl
  have hg2 : (w9.setRow b2 (spl #[.int .u64 0, .int .i64 0, .int .u8 0, .int .i64 0, .slice none 0 0] 0 (#[.int .u64 x.f0, .int .i64 x.f1, .int .u8 x.f2, .int .i64 x.f3, .slice A L c] : Array Value).toList)).heap[b2]? = some (.cells #[.int .u64 x.f0, .int .i64 x.f1, .int .u8 x.f2, .int .i64 x.f3, .slice A L c] 43 (0, 0)) := by rw [hsp]; exact setRow_heap w9 b2 _ _ 43 (0, 0) HG29.out
  refine bodyPost_ret (results_c rfl _ _ b2 43 #[.int .u64 x.f0, .int .i64 x.f1, .int .u8 x.f2, .int .i64 x.f3, .slice A L c] (0, 0) _ rfl hg2 Try.underlying43 rfl info43) rfl ?_
  have hne2 : rb ≠ b2 ∧ g ≠ b2 := by have h1_ := HSZ.out; have h2_ := HF4.out; omega
  have hlo : w.heap.size ≤ b2 := HF4.out.1
  refine ⟨A, c, rfl, Foot.step HFX9.out (fun k hk hlt => ?_), (setRow_other w9 b2 rb _ hne2.1).trans HRB9.out, HPO9.out.step (setRow_other w9 b2 g _ hne2.2) (fun k hk hlt => ?_), HW9.out.row b2 (.inr hlo) _⟩
  · exact setRow_other w9 b2 k _ (by have h1_ := HOB.out k hk; omega)
  · exact setRow_other w9 b2 k _ (by have h1_ := HOB.out k hk; omega)
theorem take43_calls (rb g E f m : Nat) (rc : Array Value) (x : S43) (xs : List S43) (ok : Nat → Prop) (w : World) (hrb : w.heap[rb]? = some (.cells rc 147 (0, 0))) (h0 : rc[3]? = some (.slice (some ⟨g, 0, none⟩) E E)) (h1 : rc[4]? = some (.int .i64 f)) (h2 : rc[5]? = some (.int .i64 ((m : Int) + 1)))
    (hR : Rng k43 43 w ok g E f (x :: xs)) (hm : xs.length = m) (hE : E ≤ 1024) (hok : ∀ k, ok k → k ≠ g ∧ k ≠ rb) :
    Calls Try.prog 78 #[.pointer (some ⟨rb, 3, none⟩)] w fun e w' => ∃ (A : Option Addr) (c : Nat), e = .returned (.agg #[.int .u64 x.f0, .int .i64 x.f1, .int .u8 x.f2, .int .i64 x.f3, .slice A x.f4.length c]) ∧ Kd.FK k43 w' (fun k => ok k ∧ k < w.heap.size) x [.int .u64 x.f0, .int .i64 x.f1, .int .u8 x.f2, .int .i64 x.f3, .slice A x.f4.length c] ∧ w'.heap[rb]? = some (.cells ((rc.setIfInBounds 4 (.int .i64 (((f + 1) % E : Nat) : Int))).setIfInBounds 5 (.int .i64 (m : Int))) 147 (0, 0)) ∧ Rng k43 43 w' (fun k => ok k ∧ k < w.heap.size) g E ((f + 1) % E) xs ∧ Kx w w' (fun k => k = rb ∨ k = g) :=
  take43_raw rb g E f m rc x xs (fun k => ok k ∧ k < w.heap.size) w hrb h0 h1 h2 (hR.mono (fun k a b => ⟨a, b⟩)) hm hE (fun k hk => hok k hk.1) (fun k hk => hk.2)
end Go.Proofs.Ytimgfdkndlbfbaa.HCq
