/- hose: its functions in one word (what a hose holds), the page's example, and what a hose that is nil answers. Conditions: each theorem's own. -/
import Derived.Test.YtfmfpofbefgbgaaHHose3
namespace Go.Proofs.Ytfmfpofbefgbgaa.HHose
open Go.RowKit Go.Proofs.YtfmfpofbefgbgaaW.PrintWords Go.Proofs.YtfmfpofbefgbgaaW.PrintLast Go.Proofs.YtfmfpofbefgbgaaW.PrintMore Go.Proofs.Ytfmfpofbefgbgaa.HExt Go.Proofs.Ytfmfpofbefgbgaa.HCopy Go.Proofs.Ytfmfpofbefgbgaa.HRing
set_option linter.unusedVariables false
set_option linter.unusedSimpArgs false
/-- Of what was there, only what lies in S may have turned. -/
structure Ap (S : Nat → Prop) (w w' : World) : Prop where
  os : w'.os = w.os
  tape : w'.tape = w.tape
  output : w'.output = w.output
  size : w.heap.size ≤ w'.heap.size
  block : ∀ k, k < w.heap.size → ¬ S k → w'.heap[k]? = w.heap[k]?
theorem Ap.below {S : Nat → Prop} {B : Nat} {w w' : World} (h : Ap S w w') (hS : ∀ k, S k → B ≤ k) (hB : B ≤ w.heap.size) : Below B w w' :=
  ⟨h.os, h.tape, h.output, h.size, fun k hk => h.block k (by omega) (fun hs => by have := hS k hs; omega)⟩
theorem Ap.of_kp {S : Nat → Prop} {b : Nat} {v : Value} {w w' : World} (h : Kp b v w w') (hb : S b) (hv : ∀ k, v.ownBlock = some k → S k) : Ap S w w' :=
  ⟨h.os, h.tape, h.output, h.size, fun k hk hn => h.block k hk (fun e => hn (e ▸ hb)) (fun e => hn (hv k e.symm))⟩
theorem Ap.of_below {S : Nat → Prop} {w w' : World} (h : Below w.heap.size w w') : Ap S w w' := ⟨h.os, h.tape, h.output, h.size, fun k hk _ => h.block k hk⟩
/-- What a hose may lie in behind a call. -/
def Grew (S : Nat → Prop) (w w' : World) : Nat → Prop := fun k => S k ∨ (w.heap.size ≤ k ∧ k < w'.heap.size)
/-- A hose at block b, in memory S (new since B), for room bytes: it holds l; so many came in, so many went out. -/
def At (B : Nat) (w : World) (b : Nat) (S : Nat → Prop) (room : Int) (l : List Int) (i o : Int) : Prop :=
  ∃ v zs f, Hz B w b v zs room f l.length i o ∧ cont zs f l.length = l ∧ S b ∧ (∀ k, v.ownBlock = some k → S k) ∧ (∀ k, S k → B ≤ k ∧ k < w.heap.size)
section
variable {B : Nat} {w w' : World} {b : Nat} {S : Nat → Prop} {room : Int} {l : List Int} {i o : Int}
theorem At.move (h : At B w b S room l i o) (hs : w.heap.size ≤ w'.heap.size) (hm : ∀ k, S k → w'.heap[k]? = w.heap[k]?) : At B w' b S room l i o := by
  obtain ⟨v, zs, f, h1, h2, h3, h4, h5⟩ := h
  exact ⟨v, zs, f, h1.move (hm b h3) (fun k hk => hm k (h4 k hk)), h2, h3, h4, fun k hk => ⟨(h5 k hk).1, Nat.lt_of_lt_of_le (h5 k hk).2 hs⟩⟩
theorem At.below (h : At B w b S room l i o) (hb : Below w.heap.size w w') : At B w' b S room l i o := by
  obtain ⟨v, zs, f, h1, h2, h3, h4, h5⟩ := h
  exact At.move ⟨v, zs, f, h1, h2, h3, h4, h5⟩ hb.size (fun k hk => hb.block k (h5 k hk).2)
theorem At.lt (h : At B w b S room l i o) : ∀ k, S k → k < w.heap.size := by obtain ⟨v, zs, f, h1, h2, h3, h4, h5⟩ := h; exact fun k hk => (h5 k hk).2
theorem At.ge (h : At B w b S room l i o) : ∀ k, S k → B ≤ k := by obtain ⟨v, zs, f, h1, h2, h3, h4, h5⟩ := h; exact fun k hk => (h5 k hk).1
theorem At.fits (h : At B w b S room l i o) : (l.length : Int) ≤ room ∧ room ≤ 1048576 := by
  obtain ⟨v, zs, f, h1, h2, h3, h4, h5⟩ := h
  exact ⟨by have := h1.ln; have := h1.lr; omega, h1.r1⟩
end
theorem new_at (room : Int) (w : World) (h0 : 1 ≤ room) (h1 : room ≤ 1048576) : Calls Try.prog 16 #[.int .i64 room] w fun e w' => ∃ b S, e = .returned (.tuple #[.pointer (some ⟨b, 0, none⟩), .int .i64 0]) ∧ At w.heap.size w' b S room [] 0 0 ∧ Below w.heap.size w w' := by
  refine (new_calls room w h0 h1).mono ?_
  rintro e w' ⟨b, rfl, hH, hB⟩
  exact ⟨b, fun k => k = b, rfl, ⟨_, _, _, hH, rfl, rfl, fun k hk => by simp [Value.ownBlock] at hk, fun k hk => by subst hk; exact ⟨hH.lb, hH.lt⟩⟩, hB⟩
section
variable {B : Nat} {w : World} {b : Nat} {S : Nat → Prop} {room : Int} {l : List Int} {i o : Int}
theorem write_at (h : At B w b S room l i o) (hB : B ≤ w.heap.size) (A : Option Addr) (c : Nat) (xs : List Int) (ok : Nat → Prop) (hs : Kd.F (Kd.int .u8) w ok A xs.length xs) (hok : ∀ k, ok k → ¬ S k) (hc : xs.length ≤ c) (i0 : 0 ≤ i) (i1 : i ≤ 1000000000000) :
    Calls Try.prog 18 #[.pointer (some ⟨b, 0, none⟩), .slice A xs.length c] w fun e w' => e = .returned (.int .i64 ((min xs.length (room.toNat - l.length) : Nat) : Int)) ∧ At B w' b (Grew S w w') room (l ++ xs.take (min xs.length (room.toNat - l.length))) (i + (min xs.length (room.toNat - l.length) : Nat)) o ∧ Ap S w w' := by
  obtain ⟨v, zs, f, h1, h2, h3, h4, h5⟩ := h
  refine (write_calls h1 hB A c xs ok hs (fun k hk => ⟨fun e => hok k hk (e ▸ h3), fun e => hok k hk (h4 k e.symm)⟩) hc i0 i1).mono ?_
  rintro e w' ⟨rfl, v', zs', f', g1, g2, g3, g4⟩
  have hlen : (l ++ xs.take (min xs.length (room.toNat - l.length))).length = l.length + min xs.length (room.toNat - l.length) := by rw [List.length_append, List.length_take]; omega
  refine ⟨rfl, ⟨v', zs', f', by rw [hlen]; exact g1, by rw [hlen, g2, h2], .inl h3, fun k hk => ?_, fun k hk => ?_⟩, Ap.of_kp g3 h3 h4⟩
  · rcases g4 with e | ⟨g, e, hg⟩
    · exact .inl (h4 k (by rw [← e]; exact hk))
    · have := g1.ring_lt k hk
      rw [e] at hk; injection hk with hk; subst hk
      exact .inr ⟨hg, this⟩
  · rcases hk with hk | hk
    · exact ⟨(h5 k hk).1, Nat.lt_of_lt_of_le (h5 k hk).2 g3.size⟩
    · exact ⟨by omega, hk.2⟩
theorem read_at (h : At B w b S room l i o) (q : Int) (o0 : 0 ≤ o) (o1 : o ≤ 1000000000000) :
    Calls Try.prog 19 #[.pointer (some ⟨b, 0, none⟩), .int .i64 q] w fun e w' => ∃ v', e = .returned v' ∧ Kd.R (Kd.int .u8) 5 w' w.heap.size (fun _ => True) v' (l.take (outN q l.length)) ∧ At B w' b S room (l.drop (outN q l.length)) i (o + (outN q l.length : Nat)) ∧ Ap S w w' := by
  obtain ⟨v, zs, f, h1, h2, h3, h4, h5⟩ := h
  refine (read_calls h1 q o0 o1).mono ?_
  rintro e w' ⟨v', rfl, hR, ⟨f', g1, g2⟩, g3⟩
  rw [h2] at hR g2
  have hlen : (l.drop (outN q l.length)).length = l.length - outN q l.length := List.length_drop
  exact ⟨v', rfl, hR, ⟨v, zs, f', by rw [hlen]; exact g1, by rw [hlen]; exact g2, h3, h4, fun k hk => ⟨(h5 k hk).1, Nat.lt_of_lt_of_le (h5 k hk).2 g3.size⟩⟩, Ap.of_kp g3 h3 h4⟩
theorem read_to (h : At B w b S room l i o) (q : Int) (o0 : 0 ≤ o) (o1 : o ≤ 1000000000000) (out rest : List Int) (k m : Nat) (h1 : l.take (outN q l.length) = out) (h2 : l.drop (outN q l.length) = rest) (h3 : outN q l.length = k) (h4 : out.length = m) :
    Calls Try.prog 19 #[.pointer (some ⟨b, 0, none⟩), .int .i64 q] w fun e w' => ∃ A c, e = .returned (.slice A m c) ∧ Kd.R (Kd.int .u8) 5 w' w.heap.size (fun _ => True) (.slice A m c) out ∧ At B w' b S room rest i (o + (k : Nat)) ∧ Ap S w w' := by
  subst h1; subst h2; subst h3; subst h4
  refine (read_at h q o0 o1).mono ?_
  rintro e w' ⟨v', rfl, hR, hA, hK⟩
  obtain ⟨A, c, rfl⟩ := Kd.R_slice hR
  exact ⟨A, c, rfl, hR, hA, hK⟩
theorem drop_at (h : At B w b S room l i o) (q : Int) (o0 : 0 ≤ o) (o1 : o ≤ 1000000000000) :
    Calls Try.prog 23 #[.pointer (some ⟨b, 0, none⟩), .int .i64 q] w fun e w' => e = .returned (.int .i64 (outN q l.length : Nat)) ∧ At B w' b S room (l.drop (outN q l.length)) i (o + (outN q l.length : Nat)) ∧ Ap S w w' := by
  obtain ⟨v, zs, f, h1, h2, h3, h4, h5⟩ := h
  refine (drop_calls h1 q o0 o1).mono ?_
  rintro e w' ⟨rfl, f', g1, g2, g3⟩
  rw [h2] at g2
  have hlen : (l.drop (outN q l.length)).length = l.length - outN q l.length := List.length_drop
  exact ⟨rfl, ⟨v, zs, f', by rw [hlen]; exact g1, by rw [hlen]; exact g2, h3, h4, fun k hk => ⟨(h5 k hk).1, Nat.lt_of_lt_of_le (h5 k hk).2 (g3 v).size⟩⟩, Ap.of_kp (g3 v) h3 h4⟩
theorem peek_at (h : At B w b S room l i o) (p q : Int) :
    Calls Try.prog 24 #[.pointer (some ⟨b, 0, none⟩), .int .i64 p, .int .i64 q] w fun e w' => ∃ v', e = .returned v' ∧ Kd.R (Kd.int .u8) 5 w' w.heap.size (fun _ => True) v' (peekF l p q) ∧ Below w.heap.size w w' := by
  obtain ⟨v, zs, f, h1, h2, h3, h4, h5⟩ := h
  have := peek_calls h1 p q
  rw [h2] at this
  exact this
theorem len_at (h : At B w b S room l i o) : Calls Try.prog 20 #[.pointer (some ⟨b, 0, none⟩)] w fun e w' => e = .returned (.int .i64 (l.length : Int)) ∧ w = w' := by
  obtain ⟨v, zs, f, h1, h2, h3, h4, h5⟩ := h
  exact len_calls h1
theorem room_at (h : At B w b S room l i o) : Calls Try.prog 27 #[.pointer (some ⟨b, 0, none⟩)] w fun e w' => e = .returned (.int .i64 (room - l.length)) ∧ ∃ m, w' = w.drewN m := by
  obtain ⟨v, zs, f, h1, h2, h3, h4, h5⟩ := h
  exact room_calls h1
theorem passed_at (h : At B w b S room l i o) : Calls Try.prog 26 #[.pointer (some ⟨b, 0, none⟩)] w fun e w' => e = .returned (.tuple #[.int .i64 i, .int .i64 o]) ∧ ∃ m, w' = w.drewN m := by
  obtain ⟨v, zs, f, h1, h2, h3, h4, h5⟩ := h
  exact passed_calls h1
end
theorem code_calls (n : Int) (w : World) : Calls Try.prog 17 #[.int .i64 n] w fun e w' => e = .returned (.int .i64 n) ∧ w = w' := by
  go_enter Try.func17, Try.ntmps17
  go_wp2
  go_ret
  exact ⟨rfl, rfl⟩
theorem row_string {w : World} {base : Nat} {ok : Nat → Prop} {v : Value} {xs : List Int} (h : Kd.R (Kd.int .u8) 5 w base ok v xs) : (convert 23 9 v).run Try.prog w = .ok (.string (strOfNums xs)) w :=
  own_string Try.underlying23 Try.underlying5 Try.underlying9 (Kd.own_of_R (enc := Value.int .u8) (h1 := fun _ => rfl) h)
theorem row_ap {S : Nat → Prop} {w w' : World} {base : Nat} {ok : Nat → Prop} {v : Value} {xs : List Int} (h : Kd.R (Kd.int .u8) 5 w base ok v xs) (ha : Ap S w w') (hs : ∀ k, S k → k < base) : Kd.R (Kd.int .u8) 5 w' base ok v xs :=
  row_move h (fun k hk => ha.block k (Kd.R_lt h k hk) (fun e => by have := hs k e; have := Kd.R_base h k hk; omega))
set_option maxRecDepth 100000 in
set_option maxHeartbeats 4000000 in
theorem live_calls (w : World) : Calls Try.prog 15 #[] w fun e w' => e = .returned (.bool true) ∧ Below w.heap.size w w' := by
  go_enter Try.func15, Try.ntmps15
  go_upto_region 5 with (first | (go_at_call 16; refine (new_at 4 _ (by decide) (by decide)).mono ?_; rintro e w1 ⟨b, S, rfl, hA, hB⟩; have HA1 := Aside0.mk hA; have HB1 := Aside0.mk hB; clear hA hB) | (go_at_call 17; refine (code_calls _ _).mono ?_; rintro e w' ⟨rfl, rfl⟩) | ((with_reducible refine gate_dst (N := 18) rfl ?_); refine Kd.R_lit (Kd.int .u8) _ 5 ?hg (N := 18) ?hd (xs := ([1, 2, 3] : List Int)) (inner := [.int .u8 1, .int .u8 2, .int .u8 3]) (ok := fun _ => True) (okp := fun _ => True) ?hr ?hp (fun _ hk => hk) trivial (Below.refl _ _) (Nat.le_refl _) (by simp) ?_; (case hd => rfl); (case hg => rfl); (case hr => first | (go_simp; done) | (go_simp; rfl)); (case hp => exact (Reps.one (show Kd.M (Kd.int .u8) _ _ _ 1 [.int .u8 1] from rfl) (Reps.one (show Kd.M (Kd.int .u8) _ _ _ 2 [.int .u8 2] from rfl) (Reps.one (show Kd.M (Kd.int .u8) _ _ _ 3 [.int .u8 3] from rfl) (Reps.none _ _))))); intro v2 w2 ho hb hg_ hnew_; obtain ⟨A2, c2, rfl⟩ := Kd.R_slice ho; have HR2 := Aside0.mk ho; have HB2 := Aside0.mk hb; clear ho hb hg_ hnew_) | (go_at_call 18; refine (write_at (HA1.out.below HB2.out) (Nat.le_trans HB1.out.size HB2.out.size) A2 c2 [1, 2, 3] _ (Kd.R_F (Kd.R_mono (ok' := fun k => w1.heap.size ≤ k) (Kd.R_bound HR2.out) (fun _ hk => hk.2.1))) (fun k hk hs => by have := HA1.out.lt k hs; omega) (Kd.R_reads' HR2.out).2.1 (by decide) (by decide)).mono ?_; rintro e w3 ⟨rfl, hA, hK⟩; have HA3 : Aside0 (At w.heap.size w3 b (Grew S w2 w3) 4 [1, 2, 3] 3 0) := Aside0.mk hA; have HK3 := Aside0.mk hK; clear hA hK))
  have hz1 : w.heap.size ≤ w1.heap.size := HB1.out.size
  have hz2 : w1.heap.size ≤ w2.heap.size := HB2.out.size
  have HZ := Aside0.mk (And.intro hz1 hz2)
  clear hz1 hz2
  go_upto_region 6 with (go_at_call 19; refine (read_to HA3.out 2 (by decide) (by decide) [1, 2] [3] 2 2 rfl rfl rfl rfl).mono ?_; rintro e w4 ⟨A4, c4, rfl, hR, hA, hK⟩; have HR4 : Aside0 (Kd.R (Kd.int .u8) 5 w4 w3.heap.size (fun _ => True) (.slice A4 2 c4) [1, 2]) := Aside0.mk hR; have HA4 : Aside0 (At w.heap.size w4 b (Grew S w2 w3) 4 [3] 3 2) := Aside0.mk hA; have HK4 := Aside0.mk hK; clear hA hK hR)
  go_upto_region 7 with (first | ((with_reducible refine gate_dst (N := 23) rfl ?_); refine Kd.R_lit (Kd.int .u8) _ 5 ?hg (N := 23) ?hd (xs := ([4, 5, 6] : List Int)) (inner := [.int .u8 4, .int .u8 5, .int .u8 6]) (ok := fun _ => True) (okp := fun _ => True) ?hr ?hp (fun _ hk => hk) trivial (Below.refl _ _) (Nat.le_refl _) (by simp) ?_; (case hd => rfl); (case hg => rfl); (case hr => first | (go_simp; done) | (go_simp; rfl)); (case hp => exact (Reps.one (show Kd.M (Kd.int .u8) _ _ _ 4 [.int .u8 4] from rfl) (Reps.one (show Kd.M (Kd.int .u8) _ _ _ 5 [.int .u8 5] from rfl) (Reps.one (show Kd.M (Kd.int .u8) _ _ _ 6 [.int .u8 6] from rfl) (Reps.none _ _))))); intro v_ w5 ho hb hg_ hnew_; obtain ⟨A5, c5, rfl⟩ := Kd.R_slice ho; have HR5 := Aside0.mk ho; have HB5 := Aside0.mk hb; clear ho hb hg_ hnew_) | (go_at_call 18; refine (write_at (HA4.out.below HB5.out) (by have := HZ.out; have := HK3.out.size; have := HK4.out.size; have := HB5.out.size; omega) A5 c5 [4, 5, 6] _ (Kd.R_F (Kd.R_mono (ok' := fun k => w4.heap.size ≤ k) (Kd.R_bound HR5.out) (fun _ hk => hk.2.1))) (fun k hk hs => by have := HA4.out.lt k hs; omega) (Kd.R_reads' HR5.out).2.1 (by decide) (by decide)).mono ?_; rintro e w6 ⟨rfl, hA, hK⟩; have HA6 : Aside0 (At w.heap.size w6 b (Grew (Grew S w2 w3) w5 w6) 4 [3, 4, 5, 6] 6 2) := Aside0.mk hA; have HK6 := Aside0.mk hK; clear hA hK))
  have hs4 := row_string (row_ap (Kd.R_below HR4.out HB5.out) HK6.out (fun k hk => HA3.out.lt k hk))
  rw [show strOfNums [1, 2] = ⟨#[1, 2]⟩ from rfl] at hs4
  go_wp2_with (go_at_call 19; refine (read_to HA6.out 9 (by decide) (by decide) [3, 4, 5, 6] [] 4 4 rfl rfl rfl rfl).mono ?_; rintro e w7 ⟨A7, c7, rfl, hR, hA, hK⟩; have HK7 := Aside0.mk hK; have hs7 := row_string hR; rw [show strOfNums [3, 4, 5, 6] = ⟨#[3, 4, 5, 6]⟩ from rfl] at hs7; clear hA hK hR)
  go_ret
  have h1 := HZ.out.1
  have h2 := HZ.out.2
  have h3 := HK3.out.size
  have h4 := HK4.out.size
  have h5 := HB5.out.size
  refine ⟨rfl, ?_⟩
  have b2 := below_step HB1.out (HB2.out)
  have b3 := b2.trans (HK3.out.below HA1.out.ge (by omega))
  have b4 := b3.trans (HK4.out.below HA3.out.ge (by omega))
  have b5 := b4.trans (HB5.out.mono (by omega))
  have b6 := b5.trans (HK6.out.below HA4.out.ge (by omega))
  exact b6.trans (HK7.out.below HA6.out.ge (by have := HK6.out.size; omega))
end Go.Proofs.Ytfmfpofbefgbgaa.HHose
