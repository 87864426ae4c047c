/- port: the step for every act; what the reading functions answer, by both; acts as arguments. Conditions: each theorem's own. -/
import Derived.Test.YtimgfdkndlbfbaaHPortU2
import Derived.Test.YtimgfdkndlbfbaaHRow2
namespace Go.Proofs.Ytimgfdkndlbfbaa.HPortS2
open Go.RowKit Go.Proofs.YtimgfdkndlbfbaaW.PrintWords Go.Proofs.YtimgfdkndlbfbaaW.PrintLast Go.Proofs.YtimgfdkndlbfbaaW.PrintMore Go.Proofs.Ytimgfdkndlbfbaa.HPort Go.Proofs.Ytimgfdkndlbfbaa.HPortR Go.Proofs.Ytimgfdkndlbfbaa.PRp Go.Proofs.Ytimgfdkndlbfbaa.PPortL Go.Proofs.Ytimgfdkndlbfbaa.HRow2 Go.Proofs.Ytimgfdkndlbfbaa.HPortS
set_option linter.unusedVariables false
set_option linter.unusedSimpArgs false
set_option linter.unusedSectionVars false
theorem step_any {B b mb ma mj : Nat} {s : TS} {l : List S175} {l' : List S177} {w : World} {A : Option Addr} {n co : Nat} {A' : Option Addr} {n' co' : Nat} (h : Ok s l l') (hT : Tb B w b mb ma mj s) (hR : Rb B w A n co l A' n' co' l') (hB : B ≤ w.heap.size) (x o a p c d : Int) (ho : okQ ((a, p), (c, d))) :
    Calls Try.prog 48 #[.pointer (some ⟨b, 0, none⟩), rt s.low s.high s.last A n co A' n' co', .agg #[.int .i64 x, .int .i64 o, .int .u32 a, .int .u16 p, .int .u32 c, .int .u16 d]] w fun e w' => ∃ s1 A1 n1 co1 l1 A1' n1' co1' l1', e = .returned (.tuple #[rt s1.low s1.high s1.last A1 n1 co1 A1' n1' co1', .bool true]) ∧ Stepped B w b mb ma mj w' s s1 A1 n1 co1 l1 A1' n1' co1' l1' := by
  by_cases h0 : x = 0
  · subst h0; exact step_0 h hT hR hB o a p c d ho
  · by_cases h1 : x = 1
    · subst h1; exact step_1 h hT hR hB o a p c d ho
    · by_cases h2 : x = 2
      · subst h2; exact step_2 h hT hR hB o a p c d ho
      · by_cases h3 : x = 3
        · subst h3; exact step_3 h hT hR hB o a p c d ho
        · by_cases h4 : x = 4
          · subst h4; exact step_4 h hT hR hB o a p c d ho
          · exact step_x h hT hR hB x o a p c d ho (by omega)
/-- What Owner, Talks and Find answer, by both. -/
structure Looks (B b mb ma mj : Nat) (s : TS) (l : List S175) (l' : List S177) (a p c d O1 : Int) (O2 : Bool) (Y1 : Int) (Y2 : Bool) (W1 : Int) (J I : Bool) : Prop where
  own : ∀ w, Tb B w b mb ma mj s → Calls Try.prog 49 #[.pointer (some ⟨b, 0, none⟩), .agg #[.int .u32 a, .int .u16 p]] w fun e w' => e = .returned (.tuple #[.int .i64 O1, .bool O2]) ∧ Below w.heap.size w w'
  rown : ∀ (w : World) (A : Option Addr) (n co : Nat) (A' : Option Addr) (n' co' : Nat), Rb B w A n co l A' n' co' l' → Calls Try.prog 50 #[rt s.low s.high s.last A n co A' n' co', .agg #[.int .u32 a, .int .u16 p]] w fun e w' => e = .returned (.tuple #[.int .i64 O1, .bool O2]) ∧ Below w.heap.size w w'
  talk : ∀ w, Tb B w b mb ma mj s → Calls Try.prog 51 #[.pointer (some ⟨b, 0, none⟩), .agg #[.int .u32 a, .int .u16 p, .int .u32 c, .int .u16 d]] w fun e w' => e = .returned (.tuple #[.int .i64 Y1, .bool Y2]) ∧ Below w.heap.size w w'
  rtalk : ∀ (w : World) (A : Option Addr) (n co : Nat) (A' : Option Addr) (n' co' : Nat), Rb B w A n co l A' n' co' l' → Calls Try.prog 52 #[rt s.low s.high s.last A n co A' n' co', .agg #[.int .u32 a, .int .u16 p, .int .u32 c, .int .u16 d]] w fun e w' => e = .returned (.tuple #[.int .i64 Y1, .bool Y2]) ∧ Below w.heap.size w w'
  find : ∀ w, Tb B w b mb ma mj s → Calls Try.prog 53 #[.pointer (some ⟨b, 0, none⟩), .agg #[.int .u32 a, .int .u16 p, .int .u32 c, .int .u16 d]] w fun e w' => e = .returned (.tuple #[.int .i64 W1, .bool J, .bool I]) ∧ Below w.heap.size w w'
theorem looks (B b mb ma mj : Nat) {s : TS} {l : List S175} {l' : List S177} (h : Ok s l l') {a p c d : Int} (ho : okQ ((a, p), (c, d))) : ∃ O1 O2 Y1 Y2 W1 J I, Looks B b mb ma mj s l l' a p c d O1 O2 Y1 Y2 W1 J I ∧ ((Y2 = true ∧ W1 = Y1 ∧ J = true ∧ I = true) ∨ (Y2 = false ∧ W1 = O1 ∧ J = false ∧ I = O2)) := by
  refine ⟨(ownL l a p).1, (ownL l a p).2, (fjL l' a p c d).getD 0, (fjL l' a p c d).isSome, (findF s a p c d).1, (findF s a p c d).2.1, (findF s a p c d).2.2, ⟨fun w hT => ?_, fun w A n co A' n' co' hR => ?_, fun w hT => ?_, fun w A n co A' n' co' hR => ?_, fun w hT => ?_⟩, ?_⟩
  · have := owner_any hT a p ho.1
    rw [h.rel.owner] at this
    exact this
  · exact owner_ref (hR.rw h.rel) a p
  · have := talks_any hT a p c d ho
    rw [h.rel.fjl] at this
    exact this
  · exact talks_ref (hR.rw h.rel) a p c d
  · exact find_any hT a p c d ho
  · unfold findF
    rw [h.rel.fjl, h.rel.owner]
    cases hq : (fjL l' a p c d).isSome with
    | true => left; simp
    | false => right; simp
/-- An act by its cells. -/
structure Act9 (w : World) (ad : Addr) (x o a p c d : Int) : Prop where
  c0 : w.cell? ad = some (.int .i64 x)
  c1 : w.cell? ⟨ad.block, ad.off + 1, none⟩ = some (.int .i64 o)
  c2 : w.cell? ⟨ad.block, ad.off + 2, none⟩ = some (.int .u32 a)
  c3 : w.cell? ⟨ad.block, ad.off + 3, none⟩ = some (.int .u16 p)
  c4 : w.cell? ⟨ad.block, ad.off + 4, none⟩ = some (.int .u32 c)
  c5 : w.cell? ⟨ad.block, ad.off + 5, none⟩ = some (.int .u16 d)
theorem Act9.below {w w' : World} {ad : Addr} {x o a p c d : Int} (h : Act9 w ad x o a p c d) (hb : Below w.heap.size w w') : Act9 w' ad x o a p c d :=
  ⟨pw_cell_below hb h.c0, pw_cell_below hb h.c1, pw_cell_below hb h.c2, pw_cell_below hb h.c3, pw_cell_below hb h.c4, pw_cell_below hb h.c5⟩
/-- A slice of acts. -/
def Acts9 (w : World) (A : Option Addr) (n : Nat) : Prop := ∀ i, i < n → ∃ ad, A = some ad ∧ ∃ x o a p c d, Act9 w (ad.add (i * 6)) x o a p c d ∧ okQ ((a, p), (c, d))
section
open Go.Deep Go.ChangeShapes Go.WideShapes Go.ChangeAt
variable {H : Type} {enc : TypeId × Value → H} {w : World} {base : Nat} {held : Bool}
set_option maxRecDepth 100000 in
theorem open_acts {r : Reach} {b0 : Nat} {v : Value} {d : DataW H} {p : List MemPlace} (hv : Value.okWide Try.prog w r b0 93 v) (h : DataW.Trod enc Try.prog w base (fun _ => true) held 93 v d p) : ∃ A n cap, v = .slice A n cap ∧ Acts9 w A n := by
  obtain ⟨a0, len0, cap0, rfl⟩ := okWide_slice Try.underlying93 hv
  obtain ⟨fuel, hf⟩ := h
  obtain ⟨A, n, cap, hc, hn, hel⟩ := rd_slice (c := .slice a0 len0 cap0) Try.underlying93 ⟨fuel, _, hf⟩
  refine ⟨A, n, cap, hc, fun i hi => ?_⟩
  obtain ⟨ad, e, cs, hl, hcell, hr⟩ := hel i hi
  obtain ⟨x, o, a, p, c, d, rfl, hq⟩ := rd_act hr
  have h6 : Try.prog.cellsOf 109 = 6 := by kernel_rfl
  rw [h6] at hcell
  have k0 := hcell 0 (by decide)
  have k1 := hcell 1 (by decide)
  have k2 := hcell 2 (by decide)
  have k3 := hcell 3 (by decide)
  have k4 := hcell 4 (by decide)
  have k5 := hcell 5 (by decide)
  refine ⟨ad, e, x, o, a, p, c, d, ⟨?_, ?_, ?_, ?_, ?_, ?_⟩, hq⟩
  · simpa [Addr.add] using k0
  · simpa [Addr.add] using k1
  · simpa [Addr.add] using k2
  · simpa [Addr.add] using k3
  · simpa [Addr.add] using k4
  · simpa [Addr.add] using k5
end
/-- The table and its reference, side by side, as a law sees them: its box G. -/
structure Pd (w0 w : World) (b mb ma mj : Nat) (s : TS) (A : Option Addr) (n co : Nat) (l : List S175) (A' : Option Addr) (n' co' : Nat) (l' : List S177) (G : Nat) (bx : Array Value) : Prop where
  ok : Ok s l l'
  tb : Tb w0.heap.size w b mb ma mj s
  rb : Rb w0.heap.size w A n co l A' n' co' l'
  bl : Below w0.heap.size w0 w
  box : w.heap[G]? = some (.cells bx 100 (0, 0))
  lo : w0.heap.size ≤ G
section
variable {w0 w w' : World} {b mb ma mj : Nat} {s s1 : TS} {A A1 : Option Addr} {n co n1 co1 : Nat} {l l1 : List S175} {A' A1' : Option Addr} {n' co' n1' co1' : Nat} {l' l1' : List S177} {G : Nat} {bx : Array Value}
theorem Pd.below (h : Pd w0 w b mb ma mj s A n co l A' n' co' l' G bx) (hb : Below w.heap.size w w') : Pd w0 w' b mb ma mj s A n co l A' n' co' l' G bx :=
  ⟨h.ok, h.tb.below hb, h.rb.below hb, below_step h.bl hb, blk_below h.box hb, h.lo⟩
theorem Pd.step (h : Pd w0 w b mb ma mj s A n co l A' n' co' l' G bx) (hS : Stepped w0.heap.size w b mb ma mj w' s s1 A1 n1 co1 l1 A1' n1' co1' l1') : Pd w0 w' b mb ma mj s1 A1 n1 co1 l1 A1' n1' co1' l1' G bx :=
  ⟨hS.1, hS.2.1, hS.2.2.1, hS.2.2.2.1.below h.bl h.bl.size h.tb.lo, hS.2.2.2.1.box h.tb h.box (by decide), h.lo⟩
theorem Pd.turn (h : Pd w0 w b mb ma mj s A n co l A' n' co' l' G bx) (hO : Ok s1 l l') (hT : Tb w0.heap.size w' b mb ma mj s1) (hV : Tv w w' b mb ma mj) : Pd w0 w' b mb ma mj s1 A n co l A' n' co' l' G bx :=
  ⟨hO, hT, ⟨Tv_R h.rb.R t175 h.tb hV, Tv_R h.rb.R' t177 h.tb hV⟩, hV.below h.bl h.bl.size h.tb.lo, hV.box h.tb h.box (by decide), h.lo⟩
theorem Pd.put {x0 x1 x2 x3 x4 : Value} (h : Pd w0 w b mb ma mj s A n co l A' n' co' l' G #[x0, x1, x2, x3, x4]) (y0 y1 y2 y3 y4 : Value) : Pd w0 (put5 w G y0 y1 y2 y3 y4) b mb ma mj s A n co l A' n' co' l' G #[y0, y1, y2, y3, y4] :=
  ⟨h.ok, h.tb.five h.box _ _ _ _ _, ⟨R_five h.rb.R e175 h.box _ _ _ _ _, R_five h.rb.R' e177 h.box _ _ _ _ _⟩, five_b h.bl h.lo _ _ _ _ _, five_put h.box _ _ _ _ _, h.lo⟩
theorem Pd.far {g : Nat} {x0 x1 x2 x3 x4 : Value} (h : Pd w0 w b mb ma mj s A n co l A' n' co' l' G bx) (hg : w.heap[g]? = some (.cells #[x0, x1, x2, x3, x4] 100 (0, 0))) (hlo : w0.heap.size ≤ g) (hne : G ≠ g) (y0 y1 y2 y3 y4 : Value) : Pd w0 (put5 w g y0 y1 y2 y3 y4) b mb ma mj s A n co l A' n' co' l' G bx :=
  ⟨h.ok, h.tb.five hg _ _ _ _ _, ⟨R_five h.rb.R e175 hg _ _ _ _ _, R_five h.rb.R' e177 hg _ _ _ _ _⟩, five_b h.bl hlo _ _ _ _ _, five_far h.box hne _ _ _ _ _, h.lo⟩
end
/-- What a round knows. -/
def Pl (w0 w : World) (b mb ma mj G : Nat) : Prop := ∃ s A n co l A' n' co' l', Pd w0 w b mb ma mj s A n co l A' n' co' l' G #[.int .i64 s.low, .int .i64 s.high, .int .i64 s.last, .slice A n co, .slice A' n' co']
theorem Pl.bl {w0 w : World} {b mb ma mj G : Nat} (h : Pl w0 w b mb ma mj G) : Below w0.heap.size w0 w := by
  obtain ⟨s, A, n, co, l, A', n', co', l', h⟩ := h
  exact h.bl
/-- The start: a new table, a new reference, its box. -/
theorem pl_start {w0 w1 w2 : World} {b mb ma mj : Nat} {low high : Int} {A : Option Addr} {co : Nat} {A' : Option Addr} {co' : Nat} (h0 : 1 ≤ low) (h1 : low ≤ high) (h2 : high ≤ 65535) (hT : Tb w0.heap.size w1 b mb ma mj (ts0 low high)) (hB : Below w0.heap.size w0 w1)
    (hR : Kd.R k175 175 w2 w1.heap.size (fun _ => True) (.slice A 0 co) []) (hR' : Kd.R k177 177 w2 w1.heap.size (fun _ => True) (.slice A' 0 co') []) (hB2 : Below w1.heap.size w1 w2) :
    Pl w0 (w2.alloc (.cells #[.int .i64 low, .int .i64 high, .int .i64 high, .slice A 0 co, .slice A' 0 co'] 100)) b mb ma mj w2.heap.size := by
  have hn := below_alloc (Below.refl w2.heap.size w2) (.cells #[.int .i64 low, .int .i64 high, .int .i64 high, .slice A 0 co, .slice A' 0 co'] 100)
  have h3 := hB.size
  have h4 := hB2.size
  exact ⟨ts0 low high, A, 0, co, [], A', 0, co', [], ⟨⟨by simp, by rfl, rfl, by simp, fun _ => rfl, by simp, by rfl, rfl, by simp⟩, ⟨h0, h1, h2, h1, Int.le_refl _⟩⟩, (hT.below hB2).below hn, ⟨Kd.R_below (Kd.R_lower hR h3) hn, Kd.R_below (Kd.R_lower hR' h3) hn⟩, below_step (below_step hB hB2) hn, blk_new w2 _, by omega⟩
end Go.Proofs.Ytimgfdkndlbfbaa.HPortS2
