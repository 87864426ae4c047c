/- Small additions to the print's words: a string made of a row that may be shared; no conditions beyond each lemma's own. -/
import Derived.Test.YtimgfdkndlbfbaaProg
import Derived.Laws.CopyOwn
import Derived.Below
import Derived.Deep.Draws
import Derived.Deep.AppendLies
import Derived.Maps.AppendAt
import Derived.OwnWalk
import Derived.Laws.BytesArg
import Derived.Laws.MakeOwn
import Derived.Laws.OwnMore
import Derived.Deep.OwnRows
import Derived.Tactics
import Derived.Lib.ConvBytes
import Derived.Laws.Slices
import Derived.WalkKit
import Derived.KernelRfl
import Derived.RowKit3
import Derived.Deep.LoopGhost
import Derived.Deep.QuietTactic
import Derived.BigQuiet
import Derived.WideLaws
import Derived.Deep.DeepCutAuto
import Derived.Deep.CutBlock
import Derived.Deep.RegionHeld3
import Derived.Laws.Rows
import Derived.Lib.AppendStr
import Derived.ArgAppend
import Derived.Laws.IdiomCopy
import Derived.OrdersHeld
import Derived.Laws.BitsLemmas
import Derived.RowKit
import Derived.Test.YtimgfdkndlbfbaaWWords
import Derived.Test.YtimgfdkndlbfbaaWLast
import Derived.Test.YtimgfdkndlbfbaaWTab
import Derived.Test.YtimgfdkndlbfbaaWFour
import Derived.Test.YtimgfdkndlbfbaaWQPut
import Derived.Test.YtimgfdkndlbfbaaWApart
import Derived.Test.YtimgfdkndlbfbaaWArr
import Derived.Test.YtimgfdkndlbfbaaWZeros
import Derived.Test.YtimgfdkndlbfbaaWFoot
import Derived.Test.YtimgfdkndlbfbaaWKept
import Derived.Test.YtimgfdkndlbfbaaWShare
import Derived.Test.YtimgfdkndlbfbaaWN
import Derived.Test.YtimgfdkndlbfbaaWFootNe
import Derived.Test.YtimgfdkndlbfbaaWAt
import Derived.Test.YtimgfdkndlbfbaaWEqStruct
import Derived.Test.YtimgfdkndlbfbaaWRepsOne
import Derived.Test.YtimgfdkndlbfbaaWInv
import Derived.Test.YtimgfdkndlbfbaaWInvWords
import Derived.Test.YtimgfdkndlbfbaaWGuard
import Derived.Test.YtimgfdkndlbfbaaWNEv
import Derived.Test.YtimgfdkndlbfbaaWMore
namespace Go.Proofs.Ytimgfdkndlbfbaa.HExt
open Go.RowKit Go.Proofs.YtimgfdkndlbfbaaW.PrintWords Go.Proofs.YtimgfdkndlbfbaaW.PrintLast Go.Proofs.YtimgfdkndlbfbaaW.PrintMore
theorem V_string {P : Program} {w : World} {src dst e : TypeId} {e0 base : Nat} {ok : Nat → Prop} {v : Value} {xs : List Int} (hs : P.underlying src = some (.slice e)) (he : P.underlying e = some (.int .u8)) (hd : P.underlying dst = some .string)
    (h : Kd.V (Kd.int .u8) e0 w base ok v xs) : (convert src dst v).run P w = .ok (.string (strOfNums xs)) w := by
  obtain ⟨A, c, rfl, _, hF⟩ := h
  exact Kd.C_string hs he hd (Kd.F_now hF)

theorem copy_list (xs ts : List Int) (cur : List Value) (lo n : Nat) (hx : xs.length = n) (hcur : n ≤ cur.length) (h : cur.take n = encs (Value.int .u8) xs) (hfit : lo + ts.length ≤ n) :
    (splice cur lo (encs (Value.int .u8) ts)).take n = encs (Value.int .u8) (xs.take lo ++ (ts ++ xs.drop (lo + ts.length))) := by
  have hl : (encs (Value.int .u8) ts).length = ts.length := by simp [encs]
  have e0 : ∀ j, j < n → cur[j]? = some (Value.int .u8 (xs.getD j 0)) := by
    intro j hj
    have := congrArg (fun l => l[j]?) h
    simp only [List.getElem?_take, if_pos hj] at this
    rw [this]
    exact encs_get (d := 0) xs j (by omega)
  apply List.ext_getElem?
  intro j
  unfold splice
  rw [List.getElem?_take, hl]
  by_cases hj : j < n
  · rw [if_pos hj, show encs (Value.int .u8) (xs.take lo ++ (ts ++ xs.drop (lo + ts.length))) = encs (Value.int .u8) (xs.take lo) ++ (encs (Value.int .u8) ts ++ encs (Value.int .u8) (xs.drop (lo + ts.length))) by simp [encs]]
    have l1 : (cur.take lo).length = lo := by rw [List.length_take]; omega
    have l2 : (encs (Value.int .u8) (xs.take lo)).length = lo := by simp [encs]; omega
    by_cases h1 : j < lo
    · rw [List.getElem?_append_left (by omega), List.getElem?_append_left (by omega), List.getElem?_take, if_pos h1, e0 j hj]
      simp [encs, h1, show j < xs.length by omega]
    · have r1 : (encs (Value.int .u8) (xs.take lo) ++ (encs (Value.int .u8) ts ++ encs (Value.int .u8) (xs.drop (lo + ts.length))))[j]? = (encs (Value.int .u8) ts ++ encs (Value.int .u8) (xs.drop (lo + ts.length)))[j - lo]? := by
        rw [List.getElem?_append_right (by omega), l2]
      have r2 : (cur.take lo ++ (encs (Value.int .u8) ts ++ cur.drop (lo + ts.length)))[j]? = (encs (Value.int .u8) ts ++ cur.drop (lo + ts.length))[j - lo]? := by
        rw [List.getElem?_append_right (by omega), l1]
      rw [r1, r2]
      by_cases h2 : j - lo < ts.length
      · have r3 : (encs (Value.int .u8) ts ++ cur.drop (lo + ts.length))[j - lo]? = (encs (Value.int .u8) ts)[j - lo]? := by
          rw [List.getElem?_append_left (by omega)]
        rw [r3, List.getElem?_append_left (by omega)]
      · have r3 : (encs (Value.int .u8) ts ++ cur.drop (lo + ts.length))[j - lo]? = some (Value.int .u8 (xs.getD j 0)) := by
          rw [List.getElem?_append_right (by omega), hl, List.getElem?_drop, show lo + ts.length + (j - lo - ts.length) = j by omega, e0 j hj]
        rw [r3, List.getElem?_append_right (by omega), hl]
        simp [encs, show lo + ts.length + (j - lo - ts.length) = j by omega, show j < xs.length by omega]
  · rw [if_neg hj, List.getElem?_eq_none (by simp [encs]; omega)]

/-- 'copy(b[lo:], x)' as one step of a region that draws its order: b a row of bytes of the call's own, x whatever is read; x fits. -/
theorem R_copy_step {P : Program} {ops : Array Oper} {o : Oper} {a : Act} {W : World} {K : Act → World → Prop} {Q : Exit → Act → World → Prop} {E : Prop} (hgd : o.guard = none) (d s : Operand) (dT sT e : TypeId)
    (ho : o.op = .call { callee := .builtin .copy, args := #[d, s], argTypes := #[dT, sT] }) (hu : P.underlying dT = some (.slice e)) (hsz : (P.info? e).map (·.size) = some 1)
    (lo g n c dL dC sC : Nat) (xs ts : List Int) (base : Nat) (ok : Nat → Prop) (A : Option Addr) (hd : a.eval d = .slice (some ⟨g, lo, none⟩) dL dC) (hs : a.eval s = .slice A ts.length sC) (hdL : dL = n - lo)
    (HO : Kd.R (Kd.int .u8) e W base ok (.slice (some ⟨g, 0, none⟩) n c) xs) (HS : Kd.C (Kd.int .u8) W A ts.length ts) (hfit : lo + ts.length ≤ n) (hpos : 0 < ts.length)
    (h : ∀ w', Kd.R (Kd.int .u8) e w' base ok (.slice (some ⟨g, 0, none⟩) n c) (xs.take lo ++ (ts ++ xs.drop (lo + ts.length))) → W.grownBy w' (some g) → K (a.put o.dst (goInt ts.length)) w') :
    if Region.wanted o (yielded ops a.tmps) = true then Oper.wp P o a W K Q else E := by
  have hw : Region.wanted o (yielded ops a.tmps) = true := by simp [Region.wanted, hgd]
  rw [if_pos hw]
  subst hdL
  have hok := HO.1
  have hxn : n = xs.length := (Kd.R_reads' HO).1
  have hown := Kd.own_of_R (enc := Value.int .u8) (h1 := fun _ => rfl) HO
  rcases hown.2 with ⟨hv, _⟩ | ⟨g', cap', cur, hv, hb, hh, hnc, hcm, hcs, htake⟩
  · cases hv
  injection hv with ha _ hc
  injection ha with ha
  injection ha with hg
  subst hg; subst hc
  rw [Nat.mul_one] at hcs htake
  have hcur : cur.toList.length = c := by rw [Array.length_toList]; exact hcs
  have hcl : (encs (Value.int .u8) ts).length = ts.length := by simp [encs]
  have HS' := Kd.reads_of_C (enc := Value.int .u8) (d := (0 : Int)) (h1 := fun _ => rfl) HS
  obtain ⟨ad, rfl, hcell⟩ := HS'.2.2 hpos
  have hsrc : ∀ j v, (encs (Value.int .u8) ts)[j]? = some v → W.cell? (ad.add j) = some v := by
    intro j v hj
    have hjl : j < ts.length := by
      have := (List.getElem?_eq_some_iff.1 hj).1
      omega
    rw [encs_get (d := 0) ts j hjl] at hj
    rw [hcell j hjl]
    exact hj
  have hrun := run_copy_row (P := P) W dT sT o.type e g lo (n - lo) dC ad ts.length sC cur e (encs (Value.int .u8) ts) hu hsz hh (by rw [hcl]; exact (Nat.min_eq_left (by omega)).symm) hsrc (by rw [hcl, hcs]; omega)
    (fun v hv => by obtain ⟨x, _, rfl⟩ := List.mem_map.1 hv; rfl)
  unfold Oper.wp
  simp [execOp, ho, resolve, invoke, builtin, hd, hs, hrun, Result.andThen]
  rw [hcl]
  have hlen2 : (xs.take lo ++ (ts ++ xs.drop (lo + ts.length))).length = n := by simp; omega
  refine h _ ?_ ?_
  · refine Kd.R_of_own ⟨?_, .inr ⟨g, c, _, ?_, hb, setRow_heap W g _ _ e _ hh, ?_, hcm, ?_, ?_⟩⟩ hok
    · simp only [encs, List.length_map, Nat.mul_one]
    · rw [hlen2]
    · rw [hlen2]; omega
    · have := length_splice cur.toList lo (encs (Value.int .u8) ts) (by rw [hcl, hcur]; omega)
      unfold splice at this
      rw [hcl] at this
      simpa [hcur] using this
    · rw [hlen2, Nat.mul_one]
      have := copy_list xs ts cur.toList lo n hxn.symm (by omega) (by rw [hxn]; exact htake) hfit
      unfold splice at this
      rw [hcl] at this
      exact this
  · exact ⟨rfl, rfl, rfl, by simp [World.setRow], fun k hk hne => setRow_other W g k _ (fun e => hne (by rw [e]))⟩
/-- What a row is, of which a part is written over. -/
def over (lo : Nat) (xs ts : List Int) : List Int := xs.take lo ++ (ts ++ xs.drop (lo + ts.length))
/-- An own row that isn't empty lies at the head of a block. -/
theorem R_block {e : TypeId} {w : World} {base n c : Nat} {ok : Nat → Prop} {A : Option Addr} {xs : List Int} (h : Kd.R (Kd.int .u8) e w base ok (.slice A n c) xs) (hp : 0 < xs.length) : ∃ g : Nat, A = some ⟨g, 0, none⟩ ∧ xs.length ≤ c ∧ base ≤ g := by
  rcases (Kd.own_of_R (enc := Value.int .u8) (h1 := fun _ => rfl) h).2 with ⟨_, h0⟩ | ⟨g, cap, cur, hv, hb, hh, hnc, _⟩
  · omega
  · injection hv with ha hn hc
    subst hc
    exact ⟨g, ha, hnc, hb⟩
/-- 'b[lo:]' of such a row, in whatever world. -/
theorem slice_run {P : Program} (a : Act) {o : Oper} (lo g n c : Nat) (t e : TypeId) (x : Operand) (ho : o.op = .slice t x (some (.const (.int .i64 (lo : Int)))) none none) (hu : P.underlying t = some (.slice e)) (hsz : (P.info? e).map (·.size) = some 1)
    (hx : a.eval x = .slice (some ⟨g, 0, none⟩) n c) (hlo : lo < n) (hn : n ≤ c) (w : World) : (execOp a.eval o).run P w = .ok (.value (.slice (some ⟨g, lo, none⟩) (n - lo) (c - lo))) w := by
  cases hq : P.info? e with
  | none => simp [hq] at hsz
  | some i =>
    have hi : i.size = 1 := by simpa [hq] using hsz
    have he : P.underlying t = some (.slice (P.elem t)) := by rw [hu]; simp [Program.elem, hu]
    have h1 : (execOp a.eval o).run P w = ((Instr.sliceAt t (a.eval x) (some (.int .i64 (lo : Int))) none none).run P w).andThen fun v w' => .ok (.value v) w' := by
      unfold execOp
      simp [ho]
      rfl
    rw [h1, hx, run_sliceAt_slice w t _ _ _ _ he, run_slice_l w t _ n c he .i64 (lo : Int) (by omega) (by omega)]
    have h2 : P.info? (P.elem t) = some i := by
      have : P.elem t = e := by simp [Program.elem, hu]
      rw [this]; exact hq
    simp [sizeOf, typeInfo, h2, hi, sliced, Result.andThen, show ¬ c = lo by omega, Addr.add]
    exact fun h => h.symm
/-- 'copy(b[lo:], x)' of a region that draws, told as the print tells an append. -/
theorem R_copy_rows {P : Program} {ops : Array Oper} {o : Oper} {a : Act} {w0 W : World} {K : Act → World → Prop} {Q : Exit → Act → World → Prop} {E : Prop} (base : Nat) (hgd : o.guard = none) (d s : Operand) (t e : TypeId)
    (ho : o.op = .call { callee := .builtin .copy, args := #[d, s], argTypes := #[t, t] }) (hu : P.underlying t = some (.slice e)) (hsz : (P.info? e).map (·.size) = some 1)
    (lo g n c dC : Nat) (v : Value) (hv : v = .slice (some ⟨g, 0, none⟩) n c) (xs ys : List Int) (A : Option Addr) (m sC : Nat) (ok : Nat → Prop) (hd : a.eval d = .slice (some ⟨g, lo, none⟩) (n - lo) dC) (hx : a.eval s = .slice A m sC)
    (HO : Kd.R (Kd.int .u8) e W base ok v xs) (HR : Kd.C (Kd.int .u8) W A m ys) (HB : Below base w0 W) (hbase : base ≤ W.heap.size) (hl : lo + ys.length ≤ xs.length ∧ 0 < ys.length)
    (h : ∀ v1 w1, v1 = v → Kd.R (Kd.int .u8) e w1 base ok v1 (over lo xs ys) → Below base w0 w1 → W.grownBy w1 v.ownBlock → (v1.ownBlock = v.ownBlock ∨ ∃ b, v1.ownBlock = some b ∧ W.heap.size ≤ b) → K (a.put o.dst (goInt ys.length)) w1) :
    if Region.wanted o (yielded ops a.tmps) = true then Oper.wp P o a W K Q else E := by
  subst hv
  have hm : m = ys.length := (HR.1).symm
  subst hm
  obtain ⟨g', hg', _, hb⟩ := R_block HO (by omega)
  injection hg' with hg'
  injection hg' with hg'
  subst hg'
  have hn : n = xs.length := (Kd.R_reads' HO).1
  refine R_copy_step hgd d s t t e ho hu hsz lo g n c (n - lo) dC sC xs ys base ok A hd hx rfl HO HR (by omega) hl.2 (fun w' h1 h2 => h _ _ rfl h1 (HB.grown h2 hbase (fun k hk => by injection hk with hk; omega)) h2 (.inl rfl))
end Go.Proofs.Ytimgfdkndlbfbaa.HExt
namespace Go.Proofs.YtimgfdkndlbfbaaW.PrintWords
open Go.RowKit
/-- A row of n bits, told by a number: which operations of a region are done. -/
def bbl : Nat → Nat → List Bool
  | 0, _ => []
  | n + 1, b => (b % 2 == 1) :: bbl n (b / 2)
def bb (n b : Nat) : Array Bool := ⟨bbl n b⟩
/-- A block that lies apart from what a row that isn't empty leads to. -/
theorem Kd.V_away {d : Kd Int} {e : Nat} {W : World} {base g : Nat} {ok : Nat → Prop} {v : Value} {xs : List Int} (h : Kd.V d e W base ok v xs) (hok : ∀ k, ok k → k ≠ g) (hp : 0 < xs.length := by (simp only [eq_iff_iff, iff_true] at *; omega)) (hs : 0 < d.sz := by exact Nat.one_pos) : some g ≠ v.ownBlock := by
  obtain ⟨A, c, rfl, _, hF⟩ := h
  obtain ⟨ad, _, rfl, _, _, _, hk⟩ := Kd.F_get hF 0 0 (by omega) (by omega)
  intro he
  have : g = ad.block := by simpa [Value.ownBlock] using he
  exact hok _ (hk hs) this.symm
end Go.Proofs.YtimgfdkndlbfbaaW.PrintWords
