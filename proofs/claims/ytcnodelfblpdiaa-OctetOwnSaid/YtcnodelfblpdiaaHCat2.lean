/- slices.Grow at nil, slices.Concat, octet.Join where more than 2^47 bytes come together (no more than 2^48). Conditions: each theorem's own. -/
import Derived.Test.YtcnodelfblpdiaaHCat
namespace Go.Proofs.Ytcnodelfblpdiaa.HCat
open Go.RowKit Go.Proofs.YtcnodelfblpdiaaW.PrintWords Go.Proofs.YtcnodelfblpdiaaW.PrintLast Go.Proofs.YtcnodelfblpdiaaW.PrintMore Go.Proofs.Ytcnodelfblpdiaa.HExt
set_option linter.unusedVariables false
set_option linter.unusedSimpArgs false
/-- append(nil, make([]byte, m)...). -/
theorem zeros_nil (w : World) (ty : TypeId) (m : Nat) (h0 : 0 < m) (hm : m ≤ 281474976710656) :
    (Builtin.append_ #[29, 3] ty #[.slice none 0 0, .int .i64 (m : Int)]).run Try.prog w = .ok (.slice (some ⟨w.heap.size, 0, none⟩) m (grownCap w m 0 5)) (w.drew.alloc (.cells (Builtin.zeroCells (Value.int .u8 0).cells m ++ Builtin.zeroCells (Value.int .u8 0).cells (grownCap w m 0 5 - m)) 5)) := by
  obtain ⟨i, hi, hz0, hz1, hz2⟩ := info_parts info5
  have hw : IntKind.i64.wrap (m : Int) = m := by rw [IntKind.wrap_i64]; omega
  have hneg : ¬ ((m : Int) < 0) := by omega
  have hbig : ¬ (281474976710656 < (m : Int) * (i.bytes : Int)) := by rw [hz2]; omega
  have hn : ¬ (m ≤ 0) := by omega
  have hne : ¬ (m = 0) := by omega
  have h63 : ¬ (9223372036854775807 < (m : Int)) := by omega
  have hcap : Builtin.nextslicecap m 0 = m := by unfold Builtin.nextslicecap; rw [if_pos (by omega)]
  have h48 : ¬ (281474976710656 < Builtin.nextslicecap m 0 * i.bytes) := by rw [hcap, hz2]; omega
  have hfo : (Builtin.firstCells i.size 0 (.slice none 0 0)).run Try.prog w.drew = .ok #[] w.drew := by simp [Builtin.firstCells]
  have hmz : ¬ (m * i.size = 0) := by rw [hz1]; omega
  simp [Builtin.append_, run_underlying Try.underlying29, run_underlying Try.underlying3, sizeOf, typeInfo, zeroValue, hi, hz0, asInt, asIntOf, hw, hneg, hbig, hn, hne, h63, h48, Question.forced, hfo, newRow, grownCap, hmz]
theorem zeros_step {W : World} {ops : Array Oper} {rest : List Oper} {o : Oper} {a : Act} {Q : Exit → Act → World → Prop} (hgd : o.guard = none) (s x : Operand) (ho : o.op = .call { callee := .builtin .append, args := #[s, x], argTypes := #[29, 3] })
    (m : Nat) (h0 : 0 < m) (hm : m ≤ 281474976710656) (hs : a.eval s = .slice none 0 0) (hx : a.eval x = .int .i64 (m : Int))
    (h : wpList Try.prog ops Q rest (a.put o.dst (.slice (some ⟨W.heap.size, 0, none⟩) m (grownCap W m 0 5))) (W.drew.alloc (.cells (Builtin.zeroCells (Value.int .u8 0).cells m ++ Builtin.zeroCells (Value.int .u8 0).cells (grownCap W m 0 5 - m)) 5))) : wpList Try.prog ops Q (o :: rest) a W := by
  refine wpList_plain hgd fun K hK => ?_
  unfold Oper.wp execOp
  simp only [ho, resolve, invoke, builtin, Sem.run_bind, Sem.run_pure, Result.andThen_ok, List.map_toArray, List.map_cons, List.map_nil, hs, hx, zeros_nil W o.type m h0 hm]
  exact hK _ _ h
theorem zeros_row (w : World) (m : Nat) (h0 : 0 < m) (hm : m ≤ 281474976710656) (j : Nat) (hj : j ≤ m) :
    Kd.R (Kd.int .u8) 5 (w.drew.alloc (.cells (Builtin.zeroCells (Value.int .u8 0).cells m ++ Builtin.zeroCells (Value.int .u8 0).cells (grownCap w m 0 5 - m)) 5)) w.heap.size (fun _ => True) (.slice (some ⟨w.heap.size, 0, none⟩) 0 (grownCap w m 0 5)) [] := by
  have hge := grownCap_ge w m 0 5
  have hcm : grownCap w m 0 5 ≤ maxLen := grownCap_le_maxLen w m 0 5 (by simp only [maxLen]; omega)
  refine Kd.R_of_own (enc := Value.int .u8) (h1 := fun _ => rfl) ⟨by simp [encs], .inr ⟨w.heap.size, grownCap w m 0 5, _, rfl, Nat.le_refl _, heap_alloc_new w.drew _, Nat.zero_le _, hcm, ?_, by simp [encs]⟩⟩ (fun _ _ => trivial)
  have hs : (Value.int IntKind.u8 0).cells.size = 1 := rfl
  rw [Array.size_append, size_zeroCells, size_zeroCells, hs]
  omega
theorem cutTo0 (A : Option Addr) (n c : Nat) (hn : n ≤ c) : ∀ W : World, (Instr.slice 29 (.slice A n c) none (some (.int .i64 0)) none).run Try.prog W = .ok (.slice A 0 c) W := by
  obtain ⟨i0, hi0, _, hsz0, _⟩ := info_parts info5
  exact cut_to (P := Try.prog) 29 5 .i64 Try.underlying29 hi0 A n c 0 (by omega) (by omega) hn
set_option maxRecDepth 100000 in
set_option maxHeartbeats 2000000 in
theorem grow_big (n : Nat) (w : World) (h0 : 0 < n) (h1 : n ≤ 281474976710656) : Calls Try.prog 70 #[.slice none 0 0, .int .i64 (n : Int)] w fun e w' => ∃ g c, e = .returned (.slice (some ⟨g, 0, none⟩) 0 c) ∧ w.heap.size ≤ g ∧ n ≤ c ∧ Kd.R (Kd.int .u8) 5 w' w.heap.size (fun _ => True) (.slice (some ⟨g, 0, none⟩) 0 c) [] ∧ Below w.heap.size w w' := by
  have d0 : decide ((n : Int) < 0) = false := decide_eq_false (by omega)
  have d1 : decide (0 < (n : Int)) = true := decide_eq_true (by omega)
  have d2 : decide (0 < n) = true := decide_eq_true h0
  have d3 : (n : Int) ≤ 4611686018427387904 := by omega
  go_enter Try.func70, Try.ntmps70
  go_wp2_with (((with_reducible refine gate_builtin (b := .append) (xs := #[.tmp 20, .tmp 21]) rfl ?_); refine zeros_step rfl (.tmp 20) (.tmp 21) rfl n h0 h1 rfl rfl ?_; have HR := Aside0.mk (zeros_row w n h0 h1 0 (Nat.zero_le _)); have HG := Aside0.mk (grownCap_ge w n 0 5); have HB : Aside0 (Below w.heap.size w (w.drew.alloc (.cells (Builtin.zeroCells (Value.int .u8 0).cells n ++ Builtin.zeroCells (Value.int .u8 0).cells (grownCap w n 0 5 - n)) 5))) := ⟨below_alloc (below_drew (Below.refl _ _)) _⟩; generalize w.drew.alloc (.cells (Builtin.zeroCells (Value.int .u8 0).cells n ++ Builtin.zeroCells (Value.int .u8 0).cells (grownCap w n 0 5 - n)) 5) = w2 at HR HB ⊢; generalize grownCap w n 0 5 = cp at HR HG ⊢; have hcut := cutTo0 (some ⟨w.heap.size, 0, none⟩) n cp HG.out))
  go_ret
  exact ⟨_, _, rfl, Nat.le_refl _, HG.out, HR.out, HB.out⟩
/-- append, where there is room. -/
theorem R_append_fits {W : World} {ops : Array Oper} {rest : List Oper} {o : Oper} {a : Act} {Q : Exit → Act → World → Prop} (hgd : o.guard = none) (s x : Operand) (ho : o.op = .call { callee := .builtin .append, args := #[s, x], argTypes := #[29, 29] })
    (base g n cap m c : Nat) (xs ys : List Int) (A : Option Addr) (ok : Nat → Prop) (hs : a.eval s = .slice (some ⟨g, 0, none⟩) n cap) (hx : a.eval x = .slice A m c) (HO : Kd.R (Kd.int .u8) 5 W base ok (.slice (some ⟨g, 0, none⟩) n cap) xs) (HC : Kd.C (Kd.int .u8) W A m ys) (hroom : n + m ≤ cap)
    (h : ∀ w', Kd.R (Kd.int .u8) 5 w' base ok (.slice (some ⟨g, 0, none⟩) (n + m) cap) (xs ++ ys) → W.grownBy w' (some g) → wpList Try.prog ops Q rest (a.put o.dst (.slice (some ⟨g, 0, none⟩) (n + m) cap)) w') : wpList Try.prog ops Q (o :: rest) a W := by
  obtain ⟨i, hi, hz0, hz1, hz2⟩ := info_parts info5
  have hown := Kd.own_of_R (enc := Value.int .u8) (h1 := fun _ => rfl) HO
  have hxn : n = xs.length := (Kd.R_reads' HO).1
  subst hxn
  have hrun : ∃ w', (Builtin.append_ #[29, 29] o.type #[.slice (some ⟨g, 0, none⟩) xs.length cap, .slice A m c]).run Try.prog W = .ok (.slice (some ⟨g, 0, none⟩) (xs.length + m) cap) w' ∧ Kd.R (Kd.int .u8) 5 w' base ok (.slice (some ⟨g, 0, none⟩) (xs.length + m) cap) (xs ++ ys) ∧ W.grownBy w' (some g) := by
    have hm : m = ys.length := HC.1.symm
    subst hm
    have HC' := Kd.reads_of_C (enc := Value.int .u8) (d := (0 : Int)) (h1 := fun _ => rfl) HC
    cases A with
    | none =>
      have hy : ys = [] := by
        rcases Nat.eq_zero_or_pos ys.length with e | e
        · exact List.eq_nil_of_length_eq_zero e
        · obtain ⟨ad, h', _⟩ := HC'.2.2 e
          cases h'
      subst hy
      have hc : (Builtin.append_ #[29, 29] o.type #[.slice (some ⟨g, 0, none⟩) xs.length cap, .slice none 0 c]).run Try.prog W = .ok (.slice (some ⟨g, 0, none⟩) xs.length cap) W := by
        have hnc : xs.length ≤ cap := by simpa using hroom
        simp [Builtin.append_, run_underlying Try.underlying29, sizeOf, typeInfo, hi, Builtin.lenOf, Builtin.firstCells, hnc, storeCells]
      exact ⟨W, by simpa using hc, by simpa using HO, ⟨rfl, rfl, rfl, Nat.le_refl _, fun _ _ _ => rfl⟩⟩
    | some ad =>
      have hcell : ∀ j u, (encs (Value.int .u8) ys)[j]? = some u → W.cell? (ad.add j) = some u := by
        intro j u hj
        have hjl : j < ys.length := by have := (List.getElem?_eq_some_iff.1 hj).1; simpa [encs] using this
        obtain ⟨ad', e, hc⟩ := HC'.2.2 (by omega)
        injection e with e
        subst e
        rw [encs_get (d := 0) ys j hjl] at hj
        rw [hc j hjl]; exact hj
      obtain ⟨w', hr, ho', hg⟩ := run_append_fits (P := Try.prog) W base 29 o.type 5 i 1 Try.underlying29 hi hz1 g xs.length cap (encs (Value.int .u8) xs) hown ad ys.length c (encs (Value.int .u8) ys) (by simp [encs]) hcell (fun v hv => by obtain ⟨z, _, rfl⟩ := List.mem_map.1 hv; rfl) hroom
      refine ⟨w', hr, ?_, hg⟩
      have e1 : encs (Value.int .u8) xs ++ encs (Value.int .u8) ys = encs (Value.int .u8) (xs ++ ys) := by simp [encs]
      rw [e1, ← List.length_append] at ho'
      rw [← List.length_append]
      exact Kd.R_of_own (enc := Value.int .u8) (h1 := fun _ => rfl) ho' (fun k hk => HO.1 k (by simpa [Value.ownBlock] using hk))
  obtain ⟨w', hr, h1, h2⟩ := hrun
  refine wpList_plain hgd fun K hK => ?_
  unfold Oper.wp execOp
  simp only [ho, resolve, invoke, builtin, Sem.run_bind, Sem.run_pure, Result.andThen_ok, List.map_toArray, List.map_cons, List.map_nil, hs, hx, hr]
  exact hK _ _ (h w' h1 h2)
set_option maxRecDepth 100000 in
set_option maxHeartbeats 4000000 in
theorem concat_big (A : Option Addr) (c : Nat) (ls : List (List Int)) (w : World) (hr : Rows w A ls) (hn : ls.length ≤ 1000) (hp : 0 < ls.flatten.length) (ht : ls.flatten.length ≤ 281474976710656) :
    Calls Try.prog 68 #[.slice A ls.length c] w fun e w' => ∃ v, e = .returned v ∧ Kd.R (Kd.int .u8) 5 w' w.heap.size (fun _ => True) v ls.flatten ∧ Below w.heap.size w w' := by
  have HR := Aside0.mk hr
  have HN := Aside0.mk (And.intro hn (And.intro hp ht))
  clear hr hn hp ht
  go_enter Try.func68, Try.ntmps68
  go_wp2
  go_loop [3, 11] (fun s i => ∃ k : Nat, i = .int .i64 k ∧ s = .int .i64 (tot ls k) ∧ Aside0 (k ≤ ls.length)) (fun _ i => ls.length - num i)
  case atStart => exact ⟨0, rfl, rfl, ⟨Nat.zero_le _⟩⟩
  case round =>
    obtain ⟨k, rfl, rfl, ⟨hk⟩⟩ := hrel
    have hnn := HN.out
    by_cases hlt : k < ls.length
    · have c0 : decide ((k : Int) < (ls.length : Int)) = true := decide_eq_true (by omega)
      have c1 : decide (k < ls.length) = true := decide_eq_true hlt
      have c2 : (k < ls.length) = True := eq_true hlt
      obtain ⟨ad, rfl, Ai, ci, hx, -, -⟩ := HR.out k hlt
      have hts := tot_succ ls k hlt
      have htl := tot_le ls (k + 1)
      obtain ⟨T1, hT1⟩ : ∃ T1, tot ls (k + 1) = T1 := ⟨_, rfl⟩
      obtain ⟨T0, hT0⟩ : ∃ T0, tot ls k = T0 := ⟨_, rfl⟩
      obtain ⟨li, hli⟩ : ∃ li, ls.getD k [] = li := ⟨_, rfl⟩
      rw [hli] at hx hts
      rw [hT1] at hts htl
      rw [hT0] at hts ⊢
      have e1 : IntKind.i64.wrap ((T0 : Int) + (li.length : Int)) = (T1 : Int) := by rw [wid _ (by omega) (by omega)]; omega
      have e2 : IntKind.i64.wrap ((k : Int) + 1) = (k : Int) + 1 := wid _ (by omega) (by omega)
      have e3 : decide ((T1 : Int) < 0) = false := decide_eq_false (by omega)
      have HK := Aside0.mk (And.intro hlt hT1)
      clear hk hnn hlt hts htl hT1 hT0 hli
      go_wp2
      go_round
      case rel => exact ⟨k + 1, by go_num, by rw [HK.out.2], ⟨HK.out.1⟩⟩
      case measure => simp only [num]; have := HK.out.1; omega
    · have c0 : decide ((k : Int) < (ls.length : Int)) = false := decide_eq_false (by omega)
      have c1 : decide (k < ls.length) = false := decide_eq_false hlt
      obtain rfl : k = ls.length := by omega
      have e0 : tot ls ls.length = ls.flatten.length := by unfold tot; rw [List.take_length]
      rw [e0]
      obtain ⟨T, hT⟩ : ∃ T, ls.flatten.length = T := ⟨_, rfl⟩
      rw [hT]
      have HG := Aside0.mk (grow_big T w (by omega) (by omega))
      have HT := Aside0.mk hT
      clear hk hnn hlt e0 hT
      go_wp2_with (go_at_call 70; refine HG.out.mono ?_; rintro e w2 ⟨g, cp, rfl, hge, hcp, hR, hB⟩; have HR2 := Aside0.mk hR; have HB2 := Aside0.mk hB; have HD := Aside0.mk (And.intro hge hcp); clear hR hB hge hcp)
      have HH : Aside0 (0 ≤ ls.length ∧ Kd.R (Kd.int .u8) 5 w2 w.heap.size (fun _ => True) (.slice (some ⟨g, 0, none⟩) (tot ls 0) cp) (ls.take 0).flatten ∧ Below w.heap.size w w2) := ⟨Nat.zero_le _, HR2.out, HB2.out⟩
      clear HR2 HB2 HG
      go_loopw [6, 27] (fun v i wr => ∃ k : Nat, i = .int .i64 k ∧ v = .slice (some ⟨g, 0, none⟩) (tot ls k) cp ∧ Aside0 (k ≤ ls.length ∧ Kd.R (Kd.int .u8) 5 wr w.heap.size (fun _ => True) (.slice (some ⟨g, 0, none⟩) (tot ls k) cp) (ls.take k).flatten ∧ Below w.heap.size w wr)) (fun _ i _ => ls.length - num i)
      case atStart => exact ⟨0, rfl, rfl, HH⟩
      case round =>
        clear HH
        obtain ⟨k, rfl, rfl, ⟨hk, hO, hB⟩⟩ := hrel
        have hnn := HN.out
        by_cases hlt : k < ls.length
        · have c0 : decide ((k : Int) < (ls.length : Int)) = true := decide_eq_true (by omega)
          have c1 : decide (k < ls.length) = true := decide_eq_true hlt
          have c2 : (k < ls.length) = True := eq_true hlt
          obtain ⟨ad, rfl, Ai, ci, hx, hCi, hci⟩ := (HR.out.below hB) k hlt
          have htl := tot_le ls (k + 1)
          have hts := tot_succ ls k hlt
          have hfs := flat_succ ls k hlt
          obtain ⟨T1, hT1⟩ : ∃ T1, tot ls (k + 1) = T1 := ⟨_, rfl⟩
          obtain ⟨T0, hT0⟩ : ∃ T0, tot ls k = T0 := ⟨_, rfl⟩
          obtain ⟨li, hli⟩ : ∃ li, ls.getD k [] = li := ⟨_, rfl⟩
          rw [hli] at hx hCi hts hfs
          rw [hT1] at hts htl
          rw [hT0] at hts hO ⊢
          have e2 : IntKind.i64.wrap ((k : Int) + 1) = (k : Int) + 1 := wid _ (by omega) (by omega)
          have HL := Aside0.mk (And.intro htl hts)
          have HF := Aside0.mk hfs
          have HC := Aside0.mk hCi
          have HO := Aside0.mk hO
          have HB := Aside0.mk hB
          have HK := Aside0.mk (And.intro hlt hT1)
          clear hk hnn hlt htl hts hfs hli hCi hO hB hci hT1 hT0
          go_wp2_with (((with_reducible refine gate_builtin (b := .append) (xs := #[.tmp 31, .tmp 32]) rfl ?_); refine R_append_fits rfl (.tmp 31) (.tmp 32) rfl w.heap.size g T0 cp li.length _ (ls.take k).flatten li _ (fun _ => True) rfl rfl HO.out HC.out ?aL ?_; (case aL => have h1 := HL.out; have h2 := HD.out.2; have h3 := HT.out; omega); intro w4 ho hg; rw [← HF.out, ← HL.out.2] at ho; rw [← HL.out.2]; have HO4 := Aside0.mk ho; have HB4 := Aside0.mk (pw_below_grown HB.out (some g) HB.out.size hg (fun j hj => by injection hj with hj; subst hj; exact HD.out.1)); clear ho hg))
          go_roundw
          case rel => refine ⟨k + 1, by go_num, by rw [HK.out.2], ⟨HK.out.1, ?_, HB4.out⟩⟩; rw [HK.out.2]; exact HO4.out
          case measure => simp only [num]; have := HK.out.1; omega
        · have c0 : decide ((k : Int) < (ls.length : Int)) = false := decide_eq_false (by omega)
          have c1 : decide (k < ls.length) = false := decide_eq_false hlt
          obtain rfl : k = ls.length := by omega
          rw [List.take_length] at hO
          have HO := Aside0.mk hO
          have HB := Aside0.mk hB
          clear hk hnn hlt hO hB
          go_wp2
          go_ret
          exact ⟨_, rfl, HO.out, HB.out⟩
theorem join_big (A : Option Addr) (c : Nat) (ls : List (List Int)) (n : Nat) (hl : ls.length = n) (w : World) (hr : Rows w A ls) (hn : ls.length ≤ 1000) (hp : 0 < ls.flatten.length) (ht : ls.flatten.length ≤ 281474976710656) :
    Calls Try.prog 59 #[.slice A n c] w fun e w' => ∃ v, e = .returned v ∧ Kd.R (Kd.int .u8) 5 w' w.heap.size (fun _ => True) v ls.flatten ∧ Below w.heap.size w w' := by
  subst hl
  have HC := Aside0.mk (concat_big A c ls w hr hn hp ht)
  clear hr hn hp ht
  go_enter Try.func59, Try.ntmps59
  go_wp2_with (go_at_call 68; refine HC.out.mono ?_; rintro e w2 ⟨v2, rfl, hR, hB⟩; have HR2 := Aside0.mk hR; have HB2 := Aside0.mk hB; clear hR hB)
  go_ret
  exact ⟨_, rfl, HR2.out, HB2.out⟩
theorem join_all (A : Option Addr) (c : Nat) (ls : List (List Int)) (n : Nat) (hl : ls.length = n) (w : World) (hr : Rows w A ls) (hn : ls.length ≤ 1000) (ht : ls.flatten.length ≤ 281474976710656) :
    Calls Try.prog 59 #[.slice A n c] w fun e w' => ∃ v, e = .returned v ∧ Kd.R (Kd.int .u8) 5 w' w.heap.size (fun _ => True) v ls.flatten ∧ Below w.heap.size w w' := by
  by_cases h : ls.flatten.length = 0
  · exact join_calls A c ls n hl w hr hn (by omega)
  · exact join_big A c ls n hl w hr hn (by omega) ht
end Go.Proofs.Ytcnodelfblpdiaa.HCat
