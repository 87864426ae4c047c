/- cq: the state of the law CqKeeps: what was submitted, taken, posted and reaped, by numbers into one list. Conditions: each theorem's own. -/
import Derived.Test.YtimgfdkndlbfbaaHCq8
namespace Go.Proofs.Ytimgfdkndlbfbaa.HCq
open Go.RowKit Go.Proofs.YtimgfdkndlbfbaaW.PrintWords Go.Proofs.YtimgfdkndlbfbaaW.PrintLast Go.Proofs.YtimgfdkndlbfbaaW.PrintMore Go.Proofs.Ytimgfdkndlbfbaa.PCq Go.Proofs.Ytimgfdkndlbfbaa.HRng Go.Proofs.Ytimgfdkndlbfbaa.HReg
set_option linter.unusedVariables false
set_option linter.unusedSimpArgs false
set_option linter.unusedSectionVars false
def zq (u : Int) : S37 := ⟨0, 0, 0, 0, 0, 0, 0, 0, 0, u, []⟩
def zc (u : Int) : S43 := ⟨u, 0, 0, 0, []⟩
/-- us: the users; i submitted, nq taken, np posted, g reaped (in the list vg). -/
structure Kp (E : Nat) (us : List Int) (B : Nat) (w0 w : World) (rb eb db i nq np g : Nat) (vg : Value) : Prop where
  st : ∃ ovv s, Cq (fun k => some k = vg.ownBlock) B w rb eb db ovv s ∧ s.E = E ∧ s.q = ((us.take i).drop nq).map zq ∧ s.c ++ s.ov = ((us.take np).drop g).map zc ∧ (s.ov = [] ∨ s.c ≠ []) ∧ Kd.N k43 43 w B (fun k => ¬ Sx rb eb db ovv k) vg ((us.take g).map zc)
  bl : Below B w0 w
  hB : B ≤ w.heap.size
  le : nq ≤ i ∧ i ≤ us.length ∧ np ≤ nq ∧ g ≤ np ∧ us.length ≤ 300
theorem sx_low {X : Nat → Prop} {B : Nat} {w : World} {rb eb db : Nat} {ovv : Value} {s : CS} (h : Cq X B w rb eb db ovv s) : ∀ k, Sx rb eb db ovv k → B ≤ k := fun k e => by
  obtain rfl | rfl | rfl | e := e
  · exact h.lo.1
  · exact h.lo.2.1
  · exact h.lo.2.2
  · exact Kd.N_base h.ov k e.symm
theorem sx_lt {X : Nat → Prop} {B : Nat} {w : World} {rb eb db : Nat} {ovv : Value} {s : CS} (h : Cq X B w rb eb db ovv s) : ∀ k, Sx rb eb db ovv k → k < w.heap.size := fun k e => by
  have := h.lt
  obtain rfl | rfl | rfl | e := e
  · exact this.1
  · exact this.2.1
  · exact this.2.2
  · exact Kd.N_lt h.ov k e.symm
section
variable {E : Nat} {us : List Int} {B : Nat} {w0 w : World} {rb eb db i nq np g : Nat} {vg : Value}
theorem Kp.new {D : Nat} (h : Cq (fun _ => False) w0.heap.size w rb eb db (.slice none 0 0) ⟨E, D, 0, 0, [], [], [], 0, 0, 0, 0⟩) (hb : Below w0.heap.size w0 w) (hu : us.length ≤ 300) : Kp E us w0.heap.size w0 w rb eb db 0 0 0 0 (.slice none 0 0) :=
  ⟨⟨_, _, h.reX (fun k _ e => nil_own k e) (fun k e => (nil_own k e).elim), rfl, rfl, rfl, .inl rfl, Kd.N_nil _ _ _ _ _⟩, hb, hb.size, ⟨Nat.le_refl _, Nat.zero_le _, Nat.le_refl _, Nat.le_refl _, hu⟩⟩
theorem Kp.below {w' : World} (h : Kp E us B w0 w rb eb db i nq np g vg) (hb : Below w.heap.size w w') : Kp E us B w0 w' rb eb db i nq np g vg := by
  obtain ⟨ovv, s, hQ, hE, hq, hc, ho, hN⟩ := h.st
  exact ⟨⟨ovv, s, hQ.below hb, hE, hq, hc, ho, Kd.N_below hN hb⟩, below_then h.bl h.hB hb, Nat.le_trans h.hB hb.size, h.le⟩
theorem Kp.qlen (h : Kp E us B w0 w rb eb db i nq np g vg) : i - nq ≤ E ∧ 0 < E := by
  obtain ⟨ovv, s, hQ, hE, hq, hc, ho, hN⟩ := h.st
  have hl := hQ.q.len
  have := congrArg List.length hq
  have := h.le
  simp only [List.length_map, List.length_drop, List.length_take] at *
  omega
theorem zq_F {u : Int} {g : Nat} {w1 : World} (hg : w1.heap[g]? = some (.cells #[.int .u8 0, .int .u8 0, .int .i64 0, .int .u32 0, .int .u16 0, .int .i64 0, .int .i64 0, .int .i64 0, .int .u64 0, .int .u64 u, .slice none 0 0] 37 (0, 0))) : Kd.F k37 w1 (fun k => k = g) (some ⟨g, 0, none⟩) 1 [zq u] := fun W hW => by
  have hg' := (hW g rfl (blk_lt hg)).trans hg
  have hK := k37_mk W (zq u) (A10 := none) (c10 := 0) (Nat.le_refl _) (Kd.C_nil _ _)
  refine ⟨rfl, by decide, fun _ => ⟨⟨g, 0, none⟩, rfl, fun j p hj => ?_⟩⟩
  have hj0 : j = 0 := by have := (List.getElem?_eq_some_iff.1 hj).1; simp at this; omega
  subst hj0
  have hj2 : zq u = p := by simpa using hj
  subst hj2
  refine ⟨_, k37.K_len hK, hK, fun i v hv => ?_⟩
  rw [Nat.zero_mul, Nat.zero_add, HRng.add_plain_, blk_cell hg']
  simpa [zq] using hv
theorem take_snoc {α : Type} {us : List α} {i : Nat} {u : α} (hu : us[i]? = some u) : us.take (i + 1) = us.take i ++ [u] := by rw [List.take_add_one, hu]; rfl
theorem Kp.sub1 (h : Kp E us B w0 w rb eb db i nq np g vg) (hr : i - nq ≠ E) {u : Int} (hu : us[i]? = some u) {b : Nat} {w1 : World} (hb : Below w.heap.size w w1) (hlo : w.heap.size ≤ b) (hg : w1.heap[b]? = some (.cells #[.int .u8 0, .int .u8 0, .int .i64 0, .int .u32 0, .int .u16 0, .int .i64 0, .int .i64 0, .int .i64 0, .int .u64 0, .int .u64 u, .slice none 0 0] 37 (0, 0))) :
    Calls Try.prog 15 #[.pointer (some ⟨rb, 0, none⟩), .slice (some ⟨b, 0, none⟩) 1 1] w1 fun e w' => e = .returned (.int .i64 1) ∧ Kp E us B w0 w' rb eb db (i + 1) nq np g vg := by
  obtain ⟨ovv, s, hQ, hE, hq, hc, ho, hN⟩ := h.st
  have hle := h.le
  have hl := h.qlen
  have hql : s.q.length = i - nq := by rw [hq]; simp only [List.length_map, List.length_drop, List.length_take]; omega
  have hi : i < us.length := (List.getElem?_eq_some_iff.1 hu).1
  have hslt := sx_lt hQ
  refine ((hQ.below hb).submit (some ⟨b, 0, none⟩) 1 1 [zq u] _ (zq_F hg) (Nat.le_refl _) (fun k hk e => by have := hslt k e; omega) (fun j x hx => ?_) (by decide) 1 (by omega)).mono ?_
  · have := List.mem_of_getElem? hx
    rw [List.mem_singleton.1 this]
    exact Nat.zero_le _
  · rintro e w' ⟨rfl, hQ', hK⟩
    refine ⟨rfl, ⟨ovv, _, hQ', hE, ?_, hc, ho, Kd.N_step (Kd.N_below hN hb) (fun k hk hlt => hK.old k hlt hk)⟩, hK.to_below (below_then h.bl h.hB hb) (Nat.le_trans h.hB hb.size) (sx_low hQ), Nat.le_trans (Nat.le_trans h.hB hb.size) hK.size, ⟨by omega, by omega, by omega, by omega, by omega⟩⟩
    show s.q ++ [zq u] = _
    rw [hq, take_snoc hu, List.drop_append_of_le_length (by rw [List.length_take]; omega), List.map_append]
    rfl
theorem Kp.sub0 (h : Kp E us B w0 w rb eb db i nq np g vg) (hr : i - nq = E) {u : Int} {b : Nat} {w1 : World} (hb : Below w.heap.size w w1) (hlo : w.heap.size ≤ b) (hg : w1.heap[b]? = some (.cells #[.int .u8 0, .int .u8 0, .int .i64 0, .int .u32 0, .int .u16 0, .int .i64 0, .int .i64 0, .int .i64 0, .int .u64 0, .int .u64 u, .slice none 0 0] 37 (0, 0))) :
    Calls Try.prog 15 #[.pointer (some ⟨rb, 0, none⟩), .slice (some ⟨b, 0, none⟩) 1 1] w1 fun e w' => e = .returned (.int .i64 0) ∧ Kp E us B w0 w' rb eb db i nq np g vg := by
  obtain ⟨ovv, s, hQ, hE, hq, hc, ho, hN⟩ := h.st
  have hle := h.le
  have hl := h.qlen
  have hql : s.q.length = i - nq := by rw [hq]; simp only [List.length_map, List.length_drop, List.length_take]; omega
  have hslt := sx_lt hQ
  refine ((hQ.below hb).submit (some ⟨b, 0, none⟩) 1 1 [zq u] _ (zq_F hg) (Nat.le_refl _) (fun k hk e => by have := hslt k e; omega) (fun j x hx => ?_) (by decide) 0 (by omega)).mono ?_
  · have := List.mem_of_getElem? hx
    rw [List.mem_singleton.1 this]
    exact Nat.zero_le _
  · rintro e w' ⟨rfl, hQ', hK⟩
    refine ⟨rfl, ⟨ovv, _, hQ', hE, ?_, hc, ho, Kd.N_step (Kd.N_below hN hb) (fun k hk hlt => hK.old k hlt hk)⟩, hK.to_below (below_then h.bl h.hB hb) (Nat.le_trans h.hB hb.size) (sx_low hQ), Nat.le_trans (Nat.le_trans h.hB hb.size) hK.size, h.le⟩
    show s.q ++ [] = _
    rw [List.append_nil, hq]
theorem Kp.next (h : Kp E us B w0 w rb eb db i nq np g vg) (hlt : nq < i) {u : Int} (hu : us[nq]? = some u) :
    Calls Try.prog 16 #[.pointer (some ⟨rb, 0, none⟩)] w fun e w' => ∃ (A : Option Addr) (c : Nat), e = .returned (.tuple #[.agg #[.int .u8 0, .int .u8 0, .int .i64 0, .int .u32 0, .int .u16 0, .int .i64 0, .int .i64 0, .int .i64 0, .int .u64 0, .int .u64 u, .slice A 0 c], .bool true]) ∧ Kp E us B w0 w' rb eb db i (nq + 1) np g vg := by
  obtain ⟨ovv, s, hQ, hE, hq, hc, ho, hN⟩ := h.st
  have hle := h.le
  have hg2 : (us.take i)[nq]? = some u := by rw [List.getElem?_take, if_pos hlt]; exact hu
  have hd : (us.take i).drop nq = u :: (us.take i).drop (nq + 1) := by
    obtain ⟨hl, he⟩ := List.getElem?_eq_some_iff.1 hg2
    rw [List.drop_eq_getElem_cons hl, he]
  rw [hd, List.map_cons] at hq
  refine (hQ.next (zq u) _ hq).mono ?_
  rintro e w' ⟨A, c, rfl, -, hQ', hK⟩
  exact ⟨A, c, rfl, ⟨ovv, _, hQ', hE, rfl, hc, ho, Kd.N_step hN (fun k hk hlt => hK.old k hlt hk)⟩, hK.to_below h.bl h.hB (sx_low hQ), Nat.le_trans h.hB hK.size, ⟨by omega, by omega, by omega, by omega, by omega⟩⟩
theorem sx_new {w w' : World} {ovv v : Value} (hM : Mv w w' rb eb db ovv v) {k : Nat} (hk : ¬ Sx rb eb db ovv k) (hlt : k < w.heap.size) : ¬ Sx rb eb db v k := fun e => by
  obtain e | e | e | e := e
  · exact hk (.inl e)
  · exact hk (.inr (.inl e))
  · exact hk (.inr (.inr (.inl e)))
  · have := hM.2 k e.symm
    omega
theorem N_mv {w' : World} {ovv v vg : Value} {xs : List S43} (hN : Kd.N k43 43 w B (fun k => ¬ Sx rb eb db ovv k) vg xs) (hM : Mv w w' rb eb db ovv v) : Kd.N k43 43 w' B (fun k => ¬ Sx rb eb db v k) vg xs :=
  Kd.N_mono (Kd.N_step (Kd.N_bound hN) (fun k hk hlt => hM.1.old k hlt hk.1)) (fun k hk => sx_new hM hk.1 hk.2)
theorem shS_all (s : CS) : (shS s).c ++ (shS s).ov = s.c ++ s.ov := by
  show (s.c ++ s.ov.take (shN s)) ++ s.ov.drop (shN s) = _
  rw [List.append_assoc, List.take_append_drop]
theorem shS_some (s : CS) (hD : 0 < s.D) (hle : s.c.length ≤ s.D) : (shS s).ov = [] ∨ (shS s).c ≠ [] := by
  by_cases h : s.ov.length ≤ s.D - s.c.length
  · left
    show s.ov.drop (shN s) = []
    exact List.drop_eq_nil_of_le (by unfold shN; omega)
  · right
    show s.c ++ s.ov.take (shN s) ≠ []
    intro e
    have := congrArg List.length e
    simp only [List.length_append, List.length_take, List.length_nil, shN] at this
    omega
theorem Kp.post (h : Kp E us B w0 w rb eb db i nq np g vg) (hlt : np < nq) {u : Int} (hu : us[np]? = some u) :
    Calls Try.prog 17 #[.pointer (some ⟨rb, 0, none⟩), .agg #[.int .u64 u, .int .i64 0, .int .u8 0, .int .i64 0, .slice none 0 0]] w fun e w' => e = .returned (.tuple #[]) ∧ Kp E us B w0 w' rb eb db i nq (np + 1) g vg := by
  obtain ⟨ovv, s, hQ, hE, hq, hc, ho, hN⟩ := h.st
  have hle := h.le
  have hcl := hQ.c.len
  have hl : s.ov.length + 1 ≤ 1000000 := by
    have := congrArg List.length hc
    simp only [List.length_append, List.length_map, List.length_drop, List.length_take] at this
    omega
  refine (hQ.post (zc u) none 0 (Kd.C_nil _ _) (Nat.le_refl _) (Nat.zero_le _) hl h.hB).mono ?_
  rintro e w' ⟨rfl, v, hQ', hM⟩
  refine ⟨rfl, ⟨v, _, hQ', hE, hq, ?_, shS_some _ (show 0 < s.D by omega) hcl.1, N_mv hN hM⟩, hM.1.to_below h.bl h.hB (sx_low hQ), Nat.le_trans h.hB hM.1.size, ⟨by omega, by omega, by omega, by omega, by omega⟩⟩
  rw [shS_all]
  show s.c ++ (s.ov ++ [zc u]) = _
  rw [← List.append_assoc, hc, take_snoc hu, List.drop_append_of_le_length (by rw [List.length_take]; omega), List.map_append]
  rfl
/-- What was reaped, and the append behind it. -/
structure Kr (E : Nat) (us : List Int) (B : Nat) (w0 w : World) (rb eb db i nq np g : Nat) (vg : Value) (n : Int) (m : Nat) (A : Option Addr) (c : Nat) (ok okp : Nat → Prop) (news : List S43) : Prop where
  hm : g + m ≤ np
  pos : 0 < n → g < np → 0 < m
  old : Kd.N k43 43 w B ok vg ((us.take g).map zc)
  new : Kd.F k43 w okp A m news
  fr : ∀ k, w.heap.size ≤ k → ok k
  ap : ∀ k, okp k → ok k ∧ some k ≠ vg.ownBlock
  hB : B ≤ w.heap.size
  lb : (((us.take g).map zc).length + m) * 56 ≤ 140737488355328
  go : ∀ (v1 : Value) (w1 : World), Kd.N k43 43 w1 B ok v1 ((us.take g).map zc ++ news) → w.grownBy w1 vg.ownBlock → (v1.ownBlock = vg.ownBlock ∨ ∃ b, v1.ownBlock = some b ∧ w.heap.size ≤ b) → Kp E us B w0 w1 rb eb db i nq np (g + m) v1
set_option maxHeartbeats 1000000 in
theorem Kp.reap (h : Kp E us B w0 w rb eb db i nq np g vg) (n : Int) (h0 : 0 ≤ n) : Calls Try.prog 18 #[.pointer (some ⟨rb, 0, none⟩), .int .i64 n] w fun e w' => ∃ (m : Nat) (A : Option Addr) (c : Nat) (ok okp : Nat → Prop) (news : List S43), e = .returned (.slice A m c) ∧ Kr E us B w0 w' rb eb db i nq np g vg n m A c ok okp news := by
  obtain ⟨ovv, s, hQ, hE, hq, hc, ho, hN⟩ := h.st
  have hle := h.le
  have hcl := hQ.c.len
  have hcc := congrArg List.length hc
  simp only [List.length_append, List.length_map, List.length_drop, List.length_take] at hcc
  obtain ⟨m, hm⟩ : ∃ m : Nat, (m : Int) = min (max n 0) s.c.length := ⟨(min (max n 0) (s.c.length : Int)).toNat, by omega⟩
  refine (hQ.reap n (by omega) h.hB m hm).mono ?_
  rintro e w' ⟨vo, v, rfl, hNo, hQ', hM⟩
  obtain ⟨A, c, rfl⟩ := Kd.N_slice hNo
  have hml : (s.c.take m).length = m := by rw [List.length_take]; omega
  have hF := Kd.N_F hNo
  rw [hml] at hF ⊢
  have hN' := N_mv hN hM
  have hsplit : ((us.take np).drop g).map zc = s.c.take m ++ (s.c.drop m ++ s.ov) := by rw [← hc, ← List.append_assoc, List.take_append_drop]
  have htk : s.c.take m = (((us.take np).drop g).take m).map zc := by
    rw [List.map_take, hsplit, List.take_append_of_le_length (by omega), List.take_take]
    congr 1
    omega
  have htg : us.take (g + m) = us.take g ++ ((us.take np).drop g).take m := by
    rw [List.take_add, List.drop_take, List.take_take]
    congr 2
    omega
  refine ⟨m, A, c, fun k => ¬ Sx rb eb db v k, okc rb eb db v (fun k => some k = vg.ownBlock), s.c.take m, rfl, ⟨by omega, fun hn hg => ?_, hN', hF, fun k hk e => ?_, fun k hk => ⟨hk.1, hk.2⟩, Nat.le_trans h.hB hM.1.size, by rw [List.length_map, List.length_take]; omega, ?_⟩⟩
  · have : s.c ≠ [] := by
      rcases ho with ho | ho
      · intro e
        rw [ho, e] at hcc
        simp only [List.length_nil] at hcc
        omega
      · exact ho
    have := List.length_pos_iff.2 this
    omega
  · have := sx_lt hQ' k e
    omega
  · intro v1 w1 hN1 hG hat
    have hkT : Kx w' w1 (fun k => some k = vg.ownBlock) := ⟨hG.os, hG.tape, hG.output, hG.size, fun k hk hn => hG.block k hk hn⟩
    have hQ1 := hQ'.kxm (Z := fun k => some k = v1.ownBlock) hkT (fun k e => e) (fun k hs e => hN'.1 k e.symm hs) (fun k hk hz => by
      rcases hat with e2 | ⟨b, e2, hb⟩
      · exact hz.trans e2
      · rw [e2] at hz
        injection hz with hz
        omega) (fun k hz => Kd.N_lt hN1 k hz.symm)
    refine ⟨⟨v, _, hQ1, hE, hq, ?_, shS_some _ (show 0 < s.D by omega) (show (s.c.drop m).length ≤ s.D by rw [List.length_drop]; omega), ?_⟩, ?_, Nat.le_trans (Nat.le_trans h.hB hM.1.size) hG.size, ⟨hle.1, hle.2.1, hle.2.2.1, by omega, hle.2.2.2.2⟩⟩
    · rw [shS_all]
      show s.c.drop m ++ s.ov = _
      have := congrArg (List.drop m) hsplit
      rw [List.drop_append_of_le_length (by omega), (show List.drop m (List.take m s.c) = [] from List.drop_eq_nil_of_le (by omega)), List.nil_append, ← List.map_drop, List.drop_drop] at this
      exact this.symm
    · rw [htg, List.map_append, ← htk]
      exact hN1
    · exact hkT.to_below (hM.1.to_below h.bl h.hB (sx_low hQ)) (Nat.le_trans h.hB hM.1.size) (fun k e => Kd.N_base hN' k e.symm)
theorem Kp.elem (h : Kp E us B w0 w rb eb db i nq np g vg) {j : Nat} (hj : j < g) {u : Int} (hu : us[j]? = some u) : ∃ (A : Option Addr) (ad : Addr) (c : Nat), vg = .slice (some ad) g c ∧ w.cell? (ad.add (j * 5)) = some (.int .u64 u) := by
  obtain ⟨ovv, s, hQ, hE, hq, hc, ho, hN⟩ := h.st
  have hle := h.le
  obtain ⟨A, c, rfl, -, hC⟩ := Kd.N_reads hN
  have hlen : ((us.take g).map zc).length = g := by rw [List.length_map, List.length_take]; omega
  rw [hlen] at hC ⊢
  obtain ⟨ad, A4, c4, rfl, h0, -⟩ := at_T43 hC j (by omega) (by omega)
  refine ⟨none, ad, c, rfl, ?_⟩
  have : (rd_T43 ((us.take g).map zc) (j : Int)).f0 = u := by
    unfold rd_T43
    rw [List.getD_eq_getElem?_getD, Int.toNat_natCast, List.getElem?_map, List.getElem?_take, if_pos hj, hu]
    rfl
  rw [this] at h0
  exact h0
theorem Kp.form (h : Kp E us B w0 w rb eb db i nq np g vg) : ∃ (A : Option Addr) (c : Nat), vg = .slice A g c := by
  obtain ⟨ovv, s, hQ, hE, hq, hc, ho, hN⟩ := h.st
  have hle := h.le
  obtain ⟨A, c, rfl⟩ := Kd.N_slice hN
  have hlen : ((us.take g).map zc).length = g := by rw [List.length_map, List.length_take]; omega
  rw [hlen]
  exact ⟨A, c, rfl⟩
end
end Go.Proofs.Ytimgfdkndlbfbaa.HCq
