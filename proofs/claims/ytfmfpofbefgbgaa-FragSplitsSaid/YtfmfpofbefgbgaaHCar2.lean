/- frag.Carried: its walk. Conditions: each theorem's own. -/
import Derived.Test.YtfmfpofbefgbgaaHCar
namespace Go.Proofs.Ytfmfpofbefgbgaa.HCar
open Go.RowKit Go.Proofs.YtfmfpofbefgbgaaW.PrintWords Go.Proofs.YtfmfpofbefgbgaaW.PrintLast Go.Proofs.YtfmfpofbefgbgaaW.PrintMore Go.Proofs.Ytfmfpofbefgbgaa.HExt
set_option linter.unusedVariables false
set_option linter.unusedSimpArgs false
def lenS : Value → Nat
  | .slice _ n _ => n
  | _ => 0
def bytes (l : List Int) : Bool := l.all (fun x => decide (0 ≤ x) && decide (x ≤ 255))
theorem bytes_get {l : List Int} (h : bytes l = true) {x : Int} (hx : x ∈ l) : 0 ≤ x ∧ x ≤ 255 := by
  have := List.all_eq_true.1 h x hx
  simpa using this
theorem bytes_drop {l : List Int} (h : bytes l = true) (n : Nat) : bytes (l.drop n) = true := List.all_eq_true.2 fun x hx => List.all_eq_true.1 h x ((List.drop_sublist n l).subset hx)
/-- Which options each piece has, filled up; or the error. -/
def carF (padf : List Int → Option (List Int × Int)) (l0 : List Int) : Option (List Int × Int) :=
  if bytes l0 = true then (if 40 < l0.length then some ([], 1) else match car l0 [] with
    | none => some ([], 3)
    | some out => (padf out).map (fun p => (p.1, 0)))
  else none
def PadC (padf : List Int → Option (List Int × Int)) : Prop := ∀ (A0 : Option Addr) (c0 : Nat) (l0 r1 : List Int) (r2 : Int) (w : World), Kd.C (Kd.int .u8) w A0 l0.length l0 → l0.length ≤ c0 → padf l0 = some (r1, r2) →
  Calls Try.prog 67 #[.slice A0 l0.length c0, .int .i64 4] w fun e w' => ∃ v0_ : Value, e = .returned (.tuple #[v0_, .int .i64 r2]) ∧ Kd.R (Kd.int .u8) 5 w' w.heap.size (fun _ => True) v0_ r1 ∧ Below w.heap.size w w'
set_option maxRecDepth 100000 in
set_option maxHeartbeats 8000000 in
theorem carried_calls (padf : List Int → Option (List Int × Int)) (hpad : PadC padf) (A0 : Option Addr) (c0 : Nat) (l0 r1 : List Int) (r2 : Int) (w : World) (hr0 : Kd.C (Kd.int .u8) w A0 l0.length l0) (hc0 : l0.length ≤ c0) (h : carF padf l0 = some (r1, r2)) :
    Calls Try.prog 36 #[.slice A0 l0.length c0] w fun e w' => ∃ v0_ : Value, e = .returned (.tuple #[v0_, .int .i64 r2]) ∧ Kd.R (Kd.int .u8) 5 w' w.heap.size (fun _ => True) v0_ r1 ∧ Below w.heap.size w w' := by
  unfold carF at h
  have hby : bytes l0 = true := by
    cases hb : bytes l0 with
    | true => rfl
    | false => rw [hb] at h; cases h
  rw [if_pos hby] at h
  by_cases h40 : 40 < l0.length
  · rw [if_pos h40] at h
    simp only [Option.some.injEq, Prod.mk.injEq] at h
    obtain ⟨rfl, rfl⟩ := h
    have d0 : decide (40 < (l0.length : Int)) = true := decide_eq_true (by omega)
    clear h40 hby hr0 hc0
    go_enter Try.func36, Try.ntmps36
    go_wp2
    go_step3
    go_wp2
    rw [Exit.noGoto_ret]
    go_ret2
    exact ⟨_, rfl, Kd.R_nil _ _ _ _ _, Below.refl _ _⟩
  rw [if_neg h40] at h
  have d0 : decide (40 < (l0.length : Int)) = false := decide_eq_false (by omega)
  have HP := Aside0.mk hpad
  obtain ⟨N0, hN0⟩ : ∃ N0, l0.length = N0 := ⟨_, rfl⟩
  have HH : Aside0 (N0 = l0.length ∧ N0 ≤ c0 ∧ Kd.C (Kd.int .u8) w A0 N0 l0 ∧ Below w.heap.size w w ∧ Ub w.heap.size w (.slice none 0 0) [] ∧ 0 = ([] : List Int).length ∧ l0.length + ([] : List Int).length ≤ 40 ∧ bytes l0 = true) := ⟨hN0.symm, by omega, by rw [← hN0]; exact hr0, Below.refl _ _, Ub.nil _ _, rfl, by simp; omega, hby⟩
  have HRES := Aside0.mk h
  rw [hN0] at d0 ⊢
  clear hby h40 hr0 hc0 hpad h hN0
  go_enter Try.func36, Try.ntmps36
  go_wp2
  go_step3
  go_wp2
  go_step3
  go_wp2
  clear d0
  go_loopw [0, 4] (fun o u wr => ∃ (A : Option Addr) (n c : Nat) (l : List Int) (B : Option Addr) (m cb : Nat) (out : List Int), o = .slice A n c ∧ u = .slice B m cb ∧ Aside0 (n = l.length ∧ n ≤ c ∧ Kd.C (Kd.int .u8) w A n l ∧ Below w.heap.size w wr ∧ Ub w.heap.size wr (.slice B m cb) out ∧ m = out.length ∧ car l out = car l0 [] ∧ l.length + out.length ≤ 40 ∧ bytes l = true)) (fun o _ _ => lenS o)
  case atStart => exact ⟨_, _, _, l0, _, _, _, [], rfl, rfl, ⟨HH.out.1, HH.out.2.1, HH.out.2.2.1, HH.out.2.2.2.1, HH.out.2.2.2.2.1, HH.out.2.2.2.2.2.1, rfl, HH.out.2.2.2.2.2.2.1, HH.out.2.2.2.2.2.2.2⟩⟩
  case round =>
    clear HH
    obtain ⟨A, n, c, l, B, m, cb, out, rfl, rfl, ⟨hn, hc, hR, hB, hU, hm, hcar, hlen, hby⟩⟩ := hrel
    cases l with
    | nil =>
      rw [List.length_nil] at hn
      subst hn
      rw [car_nil] at hcar
      have hres := HRES.out
      rw [← hcar] at hres
      obtain ⟨⟨p1, p2⟩, hp, hq⟩ := Option.map_eq_some_iff.1 hres
      simp only [Prod.mk.injEq] at hq
      obtain ⟨rfl, rfl⟩ := hq
      obtain ⟨-, -, hcb⟩ : True ∧ True ∧ out.length ≤ cb := ⟨trivial, trivial, by obtain ⟨A_, c_, e_, h_⟩ := hU.shape; injection e_ with e1 e2 e3; subst e3; exact h_⟩
      subst hm
      have HCP := Aside0.mk (HP.out B cb out p1 p2 wr hU.reads hcb hp)
      have HX := Aside0.mk hB
      clear hc hR hB hU hcar hlen hby hres hp hcb HRES HP
      go_wp2_with (go_at_call 67; have hh := HCP.out; with_reducible refine hh.mono ?_; clear hh; rintro e w3 ⟨v3, rfl, hR3, hB3⟩; obtain ⟨A3, c3, rfl⟩ := Kd.R_slice hR3; have HR3 := Aside0.mk hR3; have HB3 := Aside0.mk hB3; clear hR3 hB3)
      rw [Exit.noGoto_ret]
      go_ret2
      exact ⟨_, rfl, Kd.R_lower HR3.out HX.out.size, below_step HX.out HB3.out⟩
    | cons x r =>
      obtain ⟨ad, rfl, hrd⟩ := (Kd.reads_of_C (enc := Value.int .u8) (d := (0 : Int)) (h1 := fun _ => rfl) hR).2.2 (by simp at hn; omega)
      have hx0 : w.cell? ad = some (.int .u8 x) := by
        have := hrd 0 (by simp at hn; omega)
        rw [show ad.add 0 = ad by obtain ⟨g, o, q⟩ := ad; unfold Addr.add; split <;> simp_all] at this
        exact this
      have hx1 := pw_cell_below hB hx0
      have hxr := bytes_get hby (List.mem_cons_self ..)
      have hn1 : n = r.length + 1 := by simpa using hn
      have b0 : decide (0 < (n : Int)) = true := decide_eq_true (by omega)
      have b1 : decide (0 < n) = true := decide_eq_true (by omega)
      have b2 : (0 < n) = True := eq_true (by omega)
      have b3 : (0 < (n : Int)) = True := eq_true (by omega)
      have HXW := Aside0.mk hx0
      clear hx0
      obtain ⟨ii, hii, iz0, iz1, iz2⟩ := info_parts info5
      by_cases x0 : x = 0
      · subst x0
        rw [car_end] at hcar
        have hres := HRES.out
        rw [← hcar] at hres
        obtain ⟨⟨p1, p2⟩, hp, hq⟩ := Option.map_eq_some_iff.1 hres
        simp only [Prod.mk.injEq] at hq
        obtain ⟨rfl, rfl⟩ := hq
        obtain ⟨-, -, hcb⟩ : True ∧ True ∧ out.length ≤ cb := ⟨trivial, trivial, by obtain ⟨A_, c_, e_, h_⟩ := hU.shape; injection e_ with e1 e2 e3; subst e3; exact h_⟩
        subst hm
        have HCP := Aside0.mk (HP.out B cb out p1 p2 wr hU.reads hcb hp)
        have HX := Aside0.mk hB
        clear hrd hxr hn1 hii hc hR hB hU hcar hlen hby hres hp hcb HRES HP
        go_wp2_with (go_at_call 67; have hh := HCP.out; with_reducible refine hh.mono ?_; clear hh; rintro e w3 ⟨v3, rfl, hR3, hB3⟩; obtain ⟨A3, c3, rfl⟩ := Kd.R_slice hR3; have HR3 := Aside0.mk hR3; have HB3 := Aside0.mk hB3; clear hR3 hB3)
        rw [Exit.noGoto_ret]
        go_ret2
        exact ⟨_, rfl, Kd.R_lower HR3.out HX.out.size, below_step HX.out HB3.out⟩
      have t0 : (x == 0) = false := beq_eq_false_iff_ne.2 x0
      have t1 : decide (x = 0) = false := decide_eq_false x0
      by_cases x1 : x = 1
      · subst x1
        rw [car_pad] at hcar
        have c1 := cut_from (P := Try.prog) 23 5 .i64 Try.underlying23 hii 1 iz1 (some ad) n c 1 (by omega) (by omega)
        have hC := Kd.C_drop (k := Kd.int .u8) (by rw [hn] at hR; exact hR) (m := 1) (by simp) (c := c) (by rw [← hn]; exact hc)
        have hC' : Kd.C (Kd.int .u8) w (if c = 1 then some ad else (some ad).map (·.add (1 * 1))) (n - 1) r := by
          have e : (List.drop 1 (1 :: r)).length = n - 1 := by simp; omega
          rw [e] at hC
          exact hC
        simp only [show (1 : Int).toNat = 1 from rfl] at c1
        generalize (if c = 1 then some ad else (some ad).map (·.add (1 * 1))) = A2 at c1 hC'
        have HNX : Aside0 (n - 1 = r.length ∧ n - 1 ≤ c - 1 ∧ Kd.C (Kd.int .u8) w A2 (n - 1) r ∧ Below w.heap.size w wr ∧ Ub w.heap.size wr (.slice B m cb) out ∧ m = out.length ∧ car r out = car l0 [] ∧ r.length + out.length ≤ 40 ∧ bytes r = true) := ⟨by omega, by omega, hC', hB, hU, hm, hcar, by simp at hlen; omega, bytes_drop hby 1⟩
        have HLN := Aside0.mk hn1
        clear hrd hxr hn1 hn hc hR hB hU hm hcar hlen hby hC hC' hii
        go_wp2
        go_roundw
        case rel => exact ⟨A2, _, _, r, B, m, cb, out, rfl, rfl, HNX⟩
        case measure => simp only [lenS]; have := HLN.out; omega
      have t2 : (x == 1) = false := beq_eq_false_iff_ne.2 x1
      have t3 : decide (x = 1) = false := decide_eq_false x1
      cases r with
      | nil =>
        rw [car_bad x [] out x0 x1 (by simp)] at hcar
        have b4 : decide ((n : Int) < 2) = true := decide_eq_true (by simp at hn1; omega)
        have b5 : decide (n < 2) = true := decide_eq_true (by simp at hn1; omega)
        have b6 : (n < 2) = True := eq_true (by simp at hn1; omega)
        have HE : Aside0 (r1 = [] ∧ r2 = 3 ∧ Below w.heap.size w wr) := ⟨by
          have hres := HRES.out
          rw [← hcar] at hres
          simp only [Option.some.injEq, Prod.mk.injEq] at hres
          exact ⟨hres.1.symm, hres.2.symm, hB⟩⟩
        clear hc hR hB hU hm hcar hlen hby hrd hxr hn1 hn hii HRES HP
        go_wp2
        rw [Exit.noGoto_ret]
        go_ret2
        obtain ⟨e1_, e2_, e3_⟩ := HE.out
        subst e1_; subst e2_
        exact ⟨_, rfl, Kd.R_nil _ _ _ _ _, e3_⟩
      | cons y r =>
        have hy1 : wr.cell? (ad.add 1) = some (.int .u8 y) := pw_cell_below hB (by
          have := hrd 1 (by simp at hn; omega)
          simpa using this)
        have HYW := Aside0.mk (show w.cell? ⟨ad.block, ad.off + 1, none⟩ = some (.int .u8 y) by
          have := hrd 1 (by simp at hn; omega)
          simpa [Addr.add] using this)
        have hy2 : wr.cell? ⟨ad.block, ad.off + 1, none⟩ = some (.int .u8 y) := by simpa [Addr.add] using hy1
        have hyr := bytes_get hby (List.mem_cons_of_mem _ (List.mem_cons_self ..))
        simp only [List.length_cons] at hn1
        have b4 : decide ((n : Int) < 2) = false := decide_eq_false (by omega)
        have b5 : decide (n < 2) = false := decide_eq_false (by omega)
        have b7 : (1 < n) = True := eq_true (by omega)
        have b8 : decide (1 < n) = true := decide_eq_true (by omega)
        have b8a : ((1 : Int) < (n : Int)) = True := eq_true (by omega)
        have b8b : decide ((1 : Int) < (n : Int)) = true := decide_eq_true (by omega)
        have w1 : IntKind.i64.wrap y = y := wid _ (by omega) (by omega)
        have w2 : wrap64 y = y := by unfold wrap64; omega
        by_cases y2 : y < 2
        · rw [car_bad x (y :: r) out x0 x1 (fun e => by have := e.2.1; simp at this; omega)] at hcar
          have b9 : decide (y < 2) = true := decide_eq_true y2
          have HE : Aside0 (r1 = [] ∧ r2 = 3 ∧ Below w.heap.size w wr) := ⟨by
            have hres := HRES.out
            rw [← hcar] at hres
            simp only [Option.some.injEq, Prod.mk.injEq] at hres
            exact ⟨hres.1.symm, hres.2.symm, hB⟩⟩
          clear hc hR hB hU hm hcar hlen hby hrd hxr hn1 hn hii HRES HP hyr y2
          go_wp2
          rw [Exit.noGoto_ret]
          go_ret2
          obtain ⟨e1_, e2_, e3_⟩ := HE.out
          subst e1_; subst e2_
          exact ⟨_, rfl, Kd.R_nil _ _ _ _ _, e3_⟩
        have b9 : decide (y < 2) = false := decide_eq_false y2
        by_cases yn : (n : Int) < y
        · rw [car_bad x (y :: r) out x0 x1 (fun e => by have := e.2.2; simp at this; omega)] at hcar
          have b10 : decide ((n : Int) < y) = true := decide_eq_true yn
          have HE : Aside0 (r1 = [] ∧ r2 = 3 ∧ Below w.heap.size w wr) := ⟨by
            have hres := HRES.out
            rw [← hcar] at hres
            simp only [Option.some.injEq, Prod.mk.injEq] at hres
            exact ⟨hres.1.symm, hres.2.symm, hB⟩⟩
          clear hc hR hB hU hm hcar hlen hby hrd hxr hn1 hn hii HRES HP hyr y2 yn
          go_wp2
          rw [Exit.noGoto_ret]
          go_ret2
          obtain ⟨e1_, e2_, e3_⟩ := HE.out
          subst e1_; subst e2_
          exact ⟨_, rfl, Kd.R_nil _ _ _ _ _, e3_⟩
        have b10 : decide ((n : Int) < y) = false := decide_eq_false yn
        rw [car_more x (y :: r) out x0 x1 ⟨by simp, by simp; omega, by simp; omega⟩] at hcar
        rw [show (y :: r).getD 0 0 = y from rfl] at hcar
        obtain ⟨yk, hyk⟩ : ∃ k : Nat, y = k := ⟨y.toNat, by omega⟩
        rw [show y.toNat = yk by omega] at hcar
        have c1 := cut_from (P := Try.prog) 23 5 .u8 Try.underlying23 hii 1 iz1 (some ad) n c y (by omega) (by omega)
        have c2 := cut_to (P := Try.prog) 23 5 .u8 Try.underlying23 hii (some ad) n c y (by omega) (by omega) hc
        rw [show y.toNat = yk by omega] at c1 c2
        have hR' : Kd.C (Kd.int .u8) w (some ad) (x :: y :: r).length (x :: y :: r) := by rw [hn] at hR; exact hR
        have hC := Kd.C_drop (k := Kd.int .u8) hR' (m := yk) (by simp; omega) (c := c) (by rw [← hn]; exact hc)
        have hT := Kd.C_take (k := Kd.int .u8) hR' (m := yk) (by simp; omega)
        have hdl : (List.drop yk (x :: y :: r)).length = n - yk := by rw [List.length_drop, ← hn]
        have htl : (List.take yk (x :: y :: r)).length = yk := by rw [List.length_take, ← hn]; omega
        have hC' : Kd.C (Kd.int .u8) w (if c = yk then some ad else (some ad).map (·.add (yk * 1))) (n - yk) (List.drop yk (x :: y :: r)) := by rw [hdl] at hC; exact hC
        generalize (if c = yk then some ad else (some ad).map (·.add (yk * 1))) = A2 at c1 hC'
        have hlen' : (List.drop yk (x :: y :: r)).length + (List.take yk (x :: y :: r)).length = (x :: y :: r).length := by rw [List.length_drop, List.length_take]; omega
        have HLN := Aside0.mk (And.intro hn1 (show 2 ≤ yk by omega))
        have hby' := bytes_drop hby yk
        by_cases x128 : 128 ≤ x
        · rw [if_pos x128] at hcar
          have t4 : decide (128 ≤ x) = true := decide_eq_true x128
          have hTw := Kd.C_below hT hB
          have HT := Aside0.mk hTw
          have HU := Aside0.mk hU
          have HB := Aside0.mk hB
          have HNX : Aside0 (n - yk = (List.drop yk (x :: y :: r)).length ∧ n - yk ≤ c - yk ∧ Kd.C (Kd.int .u8) w A2 (n - yk) (List.drop yk (x :: y :: r)) ∧ car (List.drop yk (x :: y :: r)) (out ++ List.take yk (x :: y :: r)) = car l0 [] ∧ (List.drop yk (x :: y :: r)).length + (out ++ List.take yk (x :: y :: r)).length ≤ 40 ∧ bytes (List.drop yk (x :: y :: r)) = true) := ⟨hdl.symm, by omega, hC', hcar, by rw [List.length_append]; omega, hby'⟩
          have HTL := Aside0.mk (And.intro htl (And.intro hm (show out.length + yk ≤ 40 by omega)))
          have HBS := Aside0.mk (show w.heap.size ≤ wr.heap.size from hB.size)
          generalize List.take yk (x :: y :: r) = tk at HT HNX HTL
          clear hrd hxr hn1 hn hc hR hB hU hm hcar hlen hby hC hC' hii hlen' hyr hT hTw hdl htl hR' hby' y2 yn hyk x128 x0 x1
          have HTL' := HTL.out.1
          go_wp2_with ((with_reducible refine gate_builtin (b := .append) (xs := #[.tmp 47, .tmp 52]) rfl ?_); refine appU_step rfl (.tmp 47) (.tmp 52) (A := some ad) (c := c) (m := tk) rfl rfl (by rw [HTL.out.1]; rfl) HU.out HT.out (by rw [HTL.out.1]; have := HLN.out.2; omega) HBS.out (by have := HTL.out; omega) ?_; intro v6 w6 hU6 hG6; obtain ⟨A6, c6, rfl, hc6⟩ := hU6.shape; have HB6 := Aside0.mk (pw_below_grown HB.out _ HB.out.size hG6 (fun k hk => HU.out.low k hk)); have hx6 := pw_cell_below HB6.out HXW.out; have hy6 := pw_cell_below HB6.out HYW.out; generalize hm6 : (out ++ tk).length = m6 at hU6 hc6 ⊢; have HU6 := Aside0.mk hU6; have HM6 := Aside0.mk hm6; clear hU6 hG6 hc6 hm6 hx1 hy1 hy2)
          go_roundw
          case rel => exact ⟨A2, _, _, _, A6, m6, c6, _, rfl, rfl, ⟨HNX.out.1, HNX.out.2.1, HNX.out.2.2.1, HB6.out, HU6.out, HM6.out.symm, HNX.out.2.2.2.1, HNX.out.2.2.2.2.1, HNX.out.2.2.2.2.2⟩⟩
          case measure => simp only [lenS]; have := HLN.out; omega
        · rw [if_neg x128] at hcar
          have t4 : decide (128 ≤ x) = false := decide_eq_false x128
          have HNX : Aside0 (n - yk = (List.drop yk (x :: y :: r)).length ∧ n - yk ≤ c - yk ∧ Kd.C (Kd.int .u8) w A2 (n - yk) (List.drop yk (x :: y :: r)) ∧ Below w.heap.size w wr ∧ Ub w.heap.size wr (.slice B m cb) out ∧ m = out.length ∧ car (List.drop yk (x :: y :: r)) out = car l0 [] ∧ (List.drop yk (x :: y :: r)).length + out.length ≤ 40 ∧ bytes (List.drop yk (x :: y :: r)) = true) := ⟨hdl.symm, by omega, hC', hB, hU, hm, hcar, by omega, hby'⟩
          clear hrd hxr hn1 hn hc hR hB hU hm hcar hlen hby hC hC' hii hlen' hyr hT hdl htl hR' hby' y2 yn hyk x128 x0 x1
          go_wp2
          go_roundw
          case rel => exact ⟨A2, _, _, _, B, m, cb, out, rfl, rfl, HNX⟩
          case measure => simp only [lenS]; have := HLN.out; omega
end Go.Proofs.Ytfmfpofbefgbgaa.HCar
