/- The laws of octet: OctetBack's function answers true, for all bytes and numbers. Conditions: each theorem's own. -/
import Derived.Test.YtcnodelfblpdiaaPOctLx0
import Derived.Test.YtcnodelfblpdiaaPOctx2
import Derived.Test.YtcnodelfblpdiaaOctLOctB
import Derived.Test.YtcnodelfblpdiaaHCat
namespace Go.Proofs.Ytcnodelfblpdiaa.POctL
open Go.RowKit Go.Proofs.YtcnodelfblpdiaaW.PrintWords Go.Proofs.YtcnodelfblpdiaaW.PrintLast Go.Proofs.YtcnodelfblpdiaaW.PrintMore Go.Proofs.Ytcnodelfblpdiaa.HReg Go.Proofs.Ytcnodelfblpdiaa.POct Go.Proofs.Ytcnodelfblpdiaa.HCat
set_option linter.unusedVariables false
set_option linter.unusedSimpArgs false
theorem twoS_bytes (n : Int) : Bytes (twoS n) := fun x hx => by
  unfold twoS at hx
  simp only [List.mem_cons, List.not_mem_nil, or_false] at hx
  omega
theorem fourS_bytes (n : Int) : Bytes (fourS n) := fun x hx => by
  unfold fourS at hx
  simp only [List.mem_cons, List.not_mem_nil, or_false] at hx
  omega
theorem view_two (l : List Int) (n m : Int) : viewS (l ++ twoS n ++ fourS m) l.length 2 = (twoS n, 0) := by
  unfold viewS
  have e : (l ++ twoS n ++ fourS m).length = l.length + 6 := by simp [twoS, fourS]
  rw [if_neg (by rw [e]; omega), if_neg (by decide), if_neg (by rw [e]; omega)]
  have e2 : ((l.length : Int) + 2).toNat = (l ++ twoS n).length := by simp [twoS]; omega
  rw [e2, List.take_left, Int.toNat_natCast, List.drop_left]
theorem view_four (l : List Int) (n m : Int) : viewS (l ++ twoS n ++ fourS m) ((l.length : Int) + 2) 4 = (fourS m, 0) := by
  unfold viewS
  have e : (l ++ twoS n ++ fourS m).length = l.length + 6 := by simp [twoS, fourS]
  rw [if_neg (by rw [e]; omega), if_neg (by decide), if_neg (by rw [e]; omega)]
  have e2 : ((l.length : Int) + 2 + 4).toNat = (l ++ twoS n ++ fourS m).length := by rw [e]; omega
  have e3 : ((l.length : Int) + 2).toNat = (l ++ twoS n).length := by simp [twoS]; omega
  rw [e2, e3, List.take_length, List.drop_left]
theorem get_two (l : List Int) (n m : Int) (h0 : 0 ≤ n) (h1 : n ≤ 65535) : getS (l ++ twoS n ++ fourS m) l.length 2 = (n, 0) := by
  unfold getS
  rw [view_two]
  simp only [twoS, numF, List.foldl_cons, List.foldl_nil]
  congr 1
  omega
theorem get_four (l : List Int) (n m : Int) (h0 : 0 ≤ m) (h1 : m ≤ 4294967295) : getS (l ++ twoS n ++ fourS m) ((l.length : Int) + 2) 4 = (m, 0) := by
  unfold getS
  rw [view_four]
  simp only [fourS, numF, List.foldl_cons, List.foldl_nil]
  congr 1
  omega
theorem view_left (l : List Int) (k : Nat) (hk : k ≤ l.length) : viewS l 0 k = (l.take k, 0) := by
  unfold viewS
  rw [if_neg (by omega), if_neg (by omega), if_neg (by omega)]
  simp
theorem view_right (l : List Int) (k : Nat) (hk : k ≤ l.length) : viewS l k ((l.length : Int) - k) = (l.drop k, 0) := by
  unfold viewS
  rw [if_neg (by omega), if_neg (by omega), if_neg (by omega)]
  have e : ((k : Int) + ((l.length : Int) - k)).toNat = l.length := by omega
  rw [e, List.take_length]
  simp
theorem bytes_app {a b : List Int} (ha : Bytes a) (hb : Bytes b) : Bytes (a ++ b) := fun x hx => (List.mem_append.1 hx).elim (ha x) (hb x)
theorem rows3 {w : World} {g : Nat} {A5 A6 : Option Addr} {c5 c6 : Nat} {l1 l2 : List Int} (h : w.heap[g]? = some (.cells #[.slice A5 l1.length c5, .slice none 0 0, .slice A6 l2.length c6] 29 (0, 0))) (h5 : Kd.C (Kd.int .u8) w A5 l1.length l1) (k5 : l1.length ≤ c5) (h6 : Kd.C (Kd.int .u8) w A6 l2.length l2) (k6 : l2.length ≤ c6) : HCat.Rows w (some ⟨g, 0, none⟩) [l1, [], l2] := fun i hi => by
  refine ⟨_, rfl, ?_⟩
  rw [add_plain]
  match i, hi with
  | 0, _ => exact ⟨A5, c5, (blk_cell h 0).trans rfl, h5, k5⟩
  | 1, _ => exact ⟨none, 0, (blk_cell h 1).trans rfl, Kd.C_nil _ _, Nat.le_refl _⟩
  | 2, _ => exact ⟨A6, c6, (blk_cell h 2).trans rfl, h6, k6⟩
theorem rows2 {w : World} {g : Nat} {A5 A6 : Option Addr} {x y : Int} (h : w.heap[g]? = some (.cells #[.slice A5 1 1, .slice A6 1 1] 29 (0, 0))) (h5 : Kd.C (Kd.int .u8) w A5 1 [x]) (h6 : Kd.C (Kd.int .u8) w A6 1 [y]) : HCat.Rows w (some ⟨g, 0, none⟩) [[x], [y]] := fun i hi => by
  refine ⟨_, rfl, ?_⟩
  rw [add_plain]
  match i, hi with
  | 0, _ => exact ⟨A5, 1, (blk_cell h 0).trans rfl, h5, Nat.le_refl _⟩
  | 1, _ => exact ⟨A6, 1, (blk_cell h 1).trans rfl, h6, Nat.le_refl _⟩
theorem one_row {w : World} {g : Nat} {x : Int} (h : w.heap[g]? = some (.cells #[.int .u8 x] 5 (0, 0))) : Kd.C (Kd.int .u8) w (some ⟨g, 0, none⟩) 1 [x] := by
  refine Kd.C_of_reads (d := (0 : Int)) (h1 := fun _ => rfl) ⟨rfl, by decide, fun _ => ⟨_, rfl, fun j hj => ?_⟩⟩
  obtain rfl : j = 0 := by omega
  exact (blk_cell h 0).trans rfl
theorem code_still (n : Int) (w : World) : Calls Try.prog 37 #[.int .i64 n] w fun e w' => e = .returned (.int .i64 n) ∧ w = w' := by
  go_enter Try.func37, Try.ntmps37
  go_wp2
  go_ret
  exact ⟨rfl, rfl⟩
/-- OctetBack answers true, for all bytes and numbers. -/
def towropelaw01_OctetBack.f (l0 : List Int) (a1 a2 a3 : Int) : Option Bool := if l0.length ≤ 140737488351232 ∧ (0 ≤ a1 ∧ a1 ≤ 65535) ∧ (0 ≤ a2 ∧ a2 ≤ 4294967295) ∧ (0 ≤ a3 ∧ a3 ≤ 65535) ∧ ∀ x ∈ l0, 0 ≤ x ∧ x ≤ 255 then some true else none
set_option maxRecDepth 100000 in
set_option maxHeartbeats 8000000 in
theorem back_all (A0 : Option Addr) (c0 : Nat) (l0 : List Int) (a1 a2 a3 : Int) (w : World) (hr0 : Kd.C (Kd.int .u8) w A0 l0.length l0) (hc0 : l0.length ≤ c0) (hl : l0.length ≤ 140737488351232) (h1 : 0 ≤ a1 ∧ a1 ≤ 65535) (h2 : 0 ≤ a2 ∧ a2 ≤ 4294967295) (h3 : 0 ≤ a3 ∧ a3 ≤ 65535) (hB : Bytes l0) :
    Calls Try.prog 18 #[.slice A0 l0.length c0, .int .u16 a1, .int .u32 a2, .int .u16 a3] w fun e w' => e = .returned (.bool true) ∧ Below w.heap.size w w' := by
  obtain ⟨kk, hkk⟩ : ∃ kk, kk = if l0.length = 0 then 0 else a3.toNat % l0.length := ⟨_, rfl⟩
  have hkl : kk ≤ l0.length := by rw [hkk]; split; exact Nat.zero_le _; exact Nat.le_of_lt (Nat.mod_lt _ (by omega))
  obtain ⟨y, hy⟩ : ∃ y, y = l0 ++ twoS a1 := ⟨_, rfl⟩
  obtain ⟨x, hx⟩ : ∃ x, x = l0 ++ twoS a1 ++ fourS a2 := ⟨_, rfl⟩
  obtain ⟨l1, hl1⟩ : ∃ z, z = l0.take kk := ⟨_, rfl⟩
  obtain ⟨l2, hl2⟩ : ∃ z, z = l0.drop kk := ⟨_, rfl⟩
  have hyl : y.length = l0.length + 2 := by rw [hy]; simp [twoS]
  have hxl : x.length = l0.length + 6 := by rw [hx]; simp [twoS, fourS]
  have hxb : Bytes x := by rw [hx]; exact bytes_app (bytes_app hB (twoS_bytes _)) (fourS_bytes _)
  have f1 : octet_Put16.f 3 l0 a1 = some y := by rw [hy]; exact put16_f 0 l0 a1 (by omega)
  have f2 : octet_Put32.f 5 y a2 = some x := by rw [hx, ← hy]; exact put32_f 0 y a2 h2.1 h2.2 (by omega)
  have f3 : octet_Get16.f 5 x l0.length = some (a1, 0) := by rw [get16_f 0 x l0.length hxb (by omega) (by omega) (by omega), hx, get_two l0 a1 a2 h1.1 h1.2]
  have f4 : octet_Get32.f 5 x ((l0.length : Int) + 2) = some (a2, 0) := by rw [get32_f 0 x _ hxb (by omega) (by omega) (by omega), hx, get_four l0 a1 a2 h2.1 h2.2]
  obtain ⟨KI, hKI⟩ : ∃ KI : Int, KI = (kk : Int) := ⟨_, rfl⟩
  have f5 : octet_Cut.f 1 l0 0 KI = some (l1, 0) := by rw [hKI, cut_f 0 l0 0 kk (by omega) (by omega) (by omega) (by omega) (by omega), view_left l0 kk hkl, hl1]
  have f6 : octet_Cut.f 1 l0 KI ((l0.length : Int) - KI) = some (l2, 0) := by rw [hKI, cut_f 0 l0 kk _ (by omega) (by omega) (by omega) (by omega) (by omega), view_right l0 kk hkl, hl2]
  have e1 : IntKind.i64.wrap a1 = a1 := HCat.wid _ (by omega) (by omega)
  have e2 : IntKind.i64.wrap ((l0.length : Int) + 2) = (l0.length : Int) + 2 := HCat.wid _ (by omega) (by omega)
  have e3 : IntKind.i64.wrap a3 = a3 := HCat.wid _ (by omega) (by omega)
  have e4 : IntKind.i64.wrap ((l0.length : Int) - KI) = (l0.length : Int) - KI := HCat.wid _ (by omega) (by omega)
  have hflat : ([l1, [], l2] : List (List Int)).flatten = l0 := by rw [hl1, hl2]; simp
  have HF := Aside0.mk (And.intro f1 (And.intro f2 (And.intro f3 (And.intro f4 (And.intro f5 f6)))))
  have HL := Aside0.mk (And.intro hc0 hl)
  have HC := Aside0.mk hr0
  have HFL := Aside0.mk hflat
  obtain ⟨X0, hX0⟩ : ∃ X, X = strOfNums l0 := ⟨_, rfl⟩
  have HX := Aside0.mk hX0
  have hd : (decide (0 < (l0.length : Int)) = false ∧ decide (0 < l0.length) = false ∧ KI = 0) ∨ (decide (0 < (l0.length : Int)) = true ∧ decide (0 < l0.length) = true ∧ (l0 = []) = False ∧ ((l0.length : Int) == 0) = false ∧ a3.tmod (l0.length : Int) = KI ∧ a3 % (l0.length : Int) = KI) := by
    rw [hKI]
    by_cases c : l0.length = 0
    · exact .inl ⟨decide_eq_false (by omega), decide_eq_false (by omega), by rw [hkk, if_pos c]; rfl⟩
    · refine .inr ⟨decide_eq_true (by omega), decide_eq_true (by omega), eq_false (fun e => c (by rw [e]; rfl)), beq_eq_false_iff_ne.2 (by omega), ?_, ?_⟩
      · rw [Int.tmod_eq_emod_of_nonneg h3.1, hkk, if_neg c]
        obtain ⟨n, rfl⟩ := Int.eq_ofNat_of_zero_le h3.1
        rfl
      · rw [hkk, if_neg c]
        obtain ⟨n, rfl⟩ := Int.eq_ofNat_of_zero_le h3.1
        rfl
  clear hkk hkl hKI hy hx hl1 hl2 hyl hxl hxb f1 f2 f3 f4 f5 f6 hflat hX0 hr0 hc0 hl h1 h2 h3 hB
  have hw0 : wrap64 0 = 0 := by unfold wrap64; omega
  have hlw : IntKind.i64.wrap (l0.length : Int) = (l0.length : Int) := HCat.wid _ (by omega) (by have := HL.out.2; omega)
  rcases hd with ⟨d1, d2, rfl⟩ | ⟨d1, d2, d3, d4, d5, d6⟩
  all_goals
    (try (rw [Int.sub_zero] at e4; replace HF := Aside0.mk (And.intro HF.out.1 (And.intro HF.out.2.1 (And.intro HF.out.2.2.1 (And.intro HF.out.2.2.2.1 (And.intro HF.out.2.2.2.2.1 (show octet_Cut.f 1 l0 0 (l0.length : Int) = some (l2, 0) by have := HF.out.2.2.2.2.2; rw [Int.sub_zero] at this; exact this)))))); clear e4))
    have HB := Aside0.mk (Below.refl w.heap.size w)
    go_enter Try.func18, Try.ntmps18
    go_upto_region 8 with (first | (go_at_call 23; refine (octet_Put16.calls 3 A0 c0 l0 a1 y _ HC.out HL.out.1 HF.out.1).mono ?_; rintro e w1 ⟨v1, rfl, hR, hB⟩; obtain ⟨A1, c1, rfl⟩ := Kd.R_slice hR; have HR1 := Aside0.mk hR; replace HB := Aside0.mk (below_step HB.out hB); replace HC := Aside0.mk (Kd.C_below HC.out hB); clear hR hB) | (go_at_call 25; refine (octet_Put32.calls 5 A1 c1 y a2 x _ (R_to_C HR1.out) (Kd.R_reads' HR1.out).2.1 HF.out.2.1).mono ?_; rintro e w2 ⟨v2, rfl, hR, hB⟩; obtain ⟨A2, c2, rfl⟩ := Kd.R_slice hR; have HR2 := Aside0.mk hR; replace HB := Aside0.mk (below_step HB.out hB); replace HC := Aside0.mk (Kd.C_below HC.out hB); clear hR hB) | (go_at_call 45; refine (octet_Get16.calls 5 A2 c2 x l0.length a1 0 _ (R_to_C HR2.out) (Kd.R_reads' HR2.out).2.1 HF.out.2.2.1).mono ?_; rintro e w3 ⟨rfl, hB⟩; replace HR2 := Aside0.mk (Kd.R_below HR2.out hB); replace HB := Aside0.mk (below_step HB.out hB); replace HC := Aside0.mk (Kd.C_below HC.out hB); clear hB) | (go_at_call 47; refine (octet_Get32.calls 5 A2 c2 x _ a2 0 _ (R_to_C HR2.out) (Kd.R_reads' HR2.out).2.1 HF.out.2.2.2.1).mono ?_; rintro e w4 ⟨rfl, hB⟩; replace HB := Aside0.mk (below_step HB.out hB); replace HC := Aside0.mk (Kd.C_below HC.out hB); clear hB) | (go_at_call 35; refine (octet_Cut.calls 1 A0 c0 l0 0 _ l1 0 _ HC.out HL.out.1 HF.out.2.2.2.2.1).mono ?_; rintro e w5 ⟨v5, rfl, hR, hB⟩; obtain ⟨A5, c5, rfl⟩ := Kd.R_slice hR; have HC5 := Aside0.mk (And.intro (R_to_C hR) (Kd.R_reads' hR).2.1); replace HB := Aside0.mk (below_step HB.out hB); replace HC := Aside0.mk (Kd.C_below HC.out hB); clear hR hB))
    go_upto_region 9 with (go_at_call 35; refine (octet_Cut.calls 1 A0 c0 l0 _ _ l2 0 _ HC.out HL.out.1 HF.out.2.2.2.2.2).mono ?_; rintro e w6 ⟨v6, rfl, hR, hB⟩; obtain ⟨A6, c6, rfl⟩ := Kd.R_slice hR; have HC6 := Aside0.mk (And.intro (R_to_C hR) (Kd.R_reads' hR).2.1); replace HC5 := Aside0.mk (And.intro (Kd.C_below HC5.out.1 hB) HC5.out.2); replace HB := Aside0.mk (below_step HB.out hB); replace HC := Aside0.mk (Kd.C_below HC.out hB); clear hR hB)
    refine start_ (n := 42) (S := fun w' => (convert 29 9 (.slice A0 l0.length c0)).run Try.prog w' = .ok (.string (X0)) w') (ds := []) (bb 42 0) (by kernel_rfl) rfl rfl (by rw [HX.out]; exact cs (Kd.C_drew HC.out)) (fun hHeld => ?_)
    replace HB := Aside0.mk (below_drew HB.out)
    replace HC := Aside0.mk (Kd.C_drew HC.out)
    replace HC5 := Aside0.mk (And.intro (Kd.C_drew HC5.out.1) HC5.out.2)
    replace HC6 := Aside0.mk (And.intro (Kd.C_drew HC6.out.1) HC6.out.2)
    generalize w6.drew = w7 at HB HC HC5 HC6 hHeld ⊢
    refine pure_ (i := 0) (N := some 64) (v := ?_) (a' := ?_) (bb 42 1) rfl rfl (by kernel_rfl) (fun _ _ _ h => h) (Or.inl ⟨by rfl, ?_⟩) ?_ ?_
    rotate_left
    · intro w'
      go_simp
      with_reducible rfl
    rotate_left
    · simp only [Act.put, List.setIfInBounds_toArray, List.set_cons_zero, List.set_cons_succ, i64_w, i32_w]
      rfl
    refine pure_ (i := 1) (N := some 65) (v := ?_) (a' := ?_) (bb 42 3) rfl rfl (by kernel_rfl) (fun _ _ _ h => h) (Or.inl ⟨by rfl, ?_⟩) ?_ ?_
    rotate_left
    · intro w'
      go_simp
      with_reducible rfl
    rotate_left
    · simp only [Act.put, List.setIfInBounds_toArray, List.set_cons_zero, List.set_cons_succ, i64_w, i32_w]
      rfl
    refine pure_ (i := 2) (N := some 66) (v := ?_) (a' := ?_) (bb 42 7) rfl rfl (by kernel_rfl) (fun _ _ _ h => h) (Or.inl ⟨by rfl, ?_⟩) ?_ ?_
    rotate_left
    · intro w'
      go_simp
      with_reducible rfl
    rotate_left
    · simp only [Act.put, List.setIfInBounds_toArray, List.set_cons_zero, List.set_cons_succ, i64_w, i32_w]
      rfl
    refine pure_ (i := 3) (N := some 67) (v := ?_) (a' := ?_) (bb 42 15) rfl rfl (by kernel_rfl) (fun _ _ _ h => h) (Or.inl ⟨by rfl, ?_⟩) ?_ ?_
    rotate_left
    · intro w'
      go_simp
      with_reducible rfl
    rotate_left
    · simp only [Act.put, List.setIfInBounds_toArray, List.set_cons_zero, List.set_cons_succ, i64_w, i32_w]
      rfl
    refine pure_ (i := 4) (N := some 68) (v := ?_) (a' := ?_) (bb 42 31) rfl rfl (by kernel_rfl) (fun _ _ _ h => h) (Or.inl ⟨by rfl, ?_⟩) ?_ ?_
    rotate_left
    · intro w'
      go_simp
      with_reducible rfl
    rotate_left
    · simp only [Act.put, List.setIfInBounds_toArray, List.set_cons_zero, List.set_cons_succ, i64_w, i32_w]
      rfl
    refine pure_ (i := 5) (N := some 69) (v := ?_) (a' := ?_) (bb 42 63) rfl rfl (by kernel_rfl) (fun _ _ _ h => h) (Or.inl ⟨by rfl, ?_⟩) ?_ ?_
    rotate_left
    · intro w'
      go_simp
      with_reducible rfl
    rotate_left
    · simp only [Act.put, List.setIfInBounds_toArray, List.set_cons_zero, List.set_cons_succ, i64_w, i32_w]
      rfl
    refine pure_ (i := 6) (N := some 70) (v := ?_) (a' := ?_) (bb 42 127) rfl rfl (by kernel_rfl) (fun _ _ _ h => h) (Or.inl ⟨by rfl, ?_⟩) ?_ ?_
    rotate_left
    · intro w'
      go_simp
      with_reducible rfl
    rotate_left
    · simp only [Act.put, List.setIfInBounds_toArray, List.set_cons_zero, List.set_cons_succ, i64_w, i32_w]
      rfl
    refine pure_ (i := 7) (N := some 71) (v := ?_) (a' := ?_) (bb 42 255) rfl rfl (by kernel_rfl) (fun _ _ _ h => h) (Or.inl ⟨by rfl, ?_⟩) ?_ ?_
    rotate_left
    · intro w'
      go_simp
      with_reducible rfl
    rotate_left
    · simp only [Act.put, List.setIfInBounds_toArray, List.set_cons_zero, List.set_cons_succ, i64_w, i32_w]
      rfl
    refine pure_ (i := 8) (N := some 72) (v := ?_) (a' := ?_) (bb 42 511) rfl rfl (by kernel_rfl) (fun _ _ _ h => h) (Or.inl ⟨by rfl, ?_⟩) ?_ ?_
    rotate_left
    · intro w'
      go_simp
      with_reducible rfl
    rotate_left
    · simp only [Act.put, List.setIfInBounds_toArray, List.set_cons_zero, List.set_cons_succ, i64_w, i32_w]
      rfl
    refine pure_ (i := 9) (N := some 73) (v := ?_) (a' := ?_) (bb 42 1023) rfl rfl (by kernel_rfl) (fun _ _ _ h => h) (Or.inl ⟨by rfl, ?_⟩) ?_ ?_
    rotate_left
    · intro w'
      go_simp
      with_reducible rfl
    rotate_left
    · simp only [Act.put, List.setIfInBounds_toArray, List.set_cons_zero, List.set_cons_succ, i64_w, i32_w]
      rfl
    refine pure_ (i := 10) (N := some 74) (v := ?_) (a' := ?_) (bb 42 2047) rfl rfl (by kernel_rfl) (fun _ _ _ h => h) (Or.inl ⟨by rfl, ?_⟩) ?_ ?_
    rotate_left
    · intro w'
      go_simp
      with_reducible rfl
    rotate_left
    · simp only [Act.put, List.setIfInBounds_toArray, List.set_cons_zero, List.set_cons_succ, i64_w, i32_w]
      rfl
    refine pure_ (i := 12) (N := some 76) (v := ?_) (a' := ?_) (bb 42 6143) rfl rfl (by kernel_rfl) (fun _ _ _ h => h) (Or.inl ⟨by rfl, ?_⟩) ?_ ?_
    rotate_left
    · intro w'
      go_simp
      with_reducible rfl
    rotate_left
    · simp only [Act.put, List.setIfInBounds_toArray, List.set_cons_zero, List.set_cons_succ, i64_w, i32_w]
      rfl
    refine pure_ (i := 15) (N := some 79) (v := ?_) (a' := ?_) (bb 42 38911) rfl rfl (by kernel_rfl) (fun _ _ _ h => h) (Or.inl ⟨by rfl, ?_⟩) ?_ ?_
    rotate_left
    · intro w'
      go_simp
      with_reducible rfl
    rotate_left
    · simp only [Act.put, List.setIfInBounds_toArray, List.set_cons_zero, List.set_cons_succ, i64_w, i32_w]
      rfl
    refine pure_ (i := 18) (N := some 82) (v := ?_) (a' := ?_) (bb 42 301055) rfl rfl (by kernel_rfl) (fun _ _ _ h => h) (Or.inl ⟨by rfl, ?_⟩) ?_ ?_
    rotate_left
    · intro w'
      go_simp
      with_reducible rfl
    rotate_left
    · simp only [Act.put, List.setIfInBounds_toArray, List.set_cons_zero, List.set_cons_succ, i64_w, i32_w]
      rfl
    refine one_ (i := 11) (N := some 75) (bb 42 303103) rfl rfl (by kernel_rfl) (by decide) (fun K hK => ?_)
    refine goes_ Try.func37 (by kernel_rfl) rfl #[.int .i64 0] (by rfl) rfl rfl (by (try simp only [List.map_toArray, List.map_cons, List.map_nil]); first | done | rfl | (go_simp; done) | (go_simp; omega)) ?_
    refine Calls.mono (code_still 0 w7) ?_
    rintro e w' ⟨rfl, rfl⟩
    refine ⟨_, rfl, ?_⟩
    refine hK.out _ _ (hHeld) (fun hHeld => ?_)
    clear hK K
    refine norm_ (a' := ?_) ?_ ?_
    rotate_left
    · show Act.put _ (some 75) _ = _
      simp only [Act.put, List.setIfInBounds_toArray, List.set_cons_zero, List.set_cons_succ, i64_w, i32_w]
      rfl
    refine one_ (i := 13) (N := some 77) (bb 42 311295) rfl rfl (by kernel_rfl) (by decide) (fun K hK => ?_)
    refine goes_ Try.func37 (by kernel_rfl) rfl #[.int .i64 0] (by rfl) rfl rfl (by (try simp only [List.map_toArray, List.map_cons, List.map_nil]); first | done | rfl | (go_simp; done) | (go_simp; omega)) ?_
    refine Calls.mono (code_still 0 w7) ?_
    rintro e w' ⟨rfl, rfl⟩
    refine ⟨_, rfl, ?_⟩
    refine hK.out _ _ (hHeld) (fun hHeld => ?_)
    clear hK K
    refine norm_ (a' := ?_) ?_ ?_
    rotate_left
    · show Act.put _ (some 77) _ = _
      simp only [Act.put, List.setIfInBounds_toArray, List.set_cons_zero, List.set_cons_succ, i64_w, i32_w]
      rfl
    refine pure_ (i := 14) (N := some 78) (v := ?_) (a' := ?_) (bb 42 327679) rfl rfl (by kernel_rfl) (fun _ _ _ h => h) (Or.inl ⟨by rfl, ?_⟩) ?_ ?_
    rotate_left
    · intro w'
      go_simp
      with_reducible rfl
    rotate_left
    · simp only [Act.put, List.setIfInBounds_toArray, List.set_cons_zero, List.set_cons_succ, i64_w, i32_w]
      rfl
    refine one_ (i := 16) (N := some 80) (bb 42 393215) rfl rfl (by kernel_rfl) (by decide) (fun K hK => ?_)
    refine goes_ Try.func37 (by kernel_rfl) rfl #[.int .i64 0] (by rfl) rfl rfl (by (try simp only [List.map_toArray, List.map_cons, List.map_nil]); first | done | rfl | (go_simp; done) | (go_simp; omega)) ?_
    refine Calls.mono (code_still 0 w7) ?_
    rintro e w' ⟨rfl, rfl⟩
    refine ⟨_, rfl, ?_⟩
    refine hK.out _ _ (hHeld) (fun hHeld => ?_)
    clear hK K
    refine norm_ (a' := ?_) ?_ ?_
    rotate_left
    · show Act.put _ (some 80) _ = _
      simp only [Act.put, List.setIfInBounds_toArray, List.set_cons_zero, List.set_cons_succ, i64_w, i32_w]
      rfl
    refine pure_ (i := 17) (N := some 81) (v := ?_) (a' := ?_) (bb 42 524287) rfl rfl (by kernel_rfl) (fun _ _ _ h => h) (Or.inl ⟨by rfl, ?_⟩) ?_ ?_
    rotate_left
    · intro w'
      go_simp
      with_reducible rfl
    rotate_left
    · simp only [Act.put, List.setIfInBounds_toArray, List.set_cons_zero, List.set_cons_succ, i64_w, i32_w]
      rfl
    refine one_ (i := 19) (N := some 83) (bb 42 1048575) rfl rfl (by kernel_rfl) (by decide) (fun K hK => ?_)
    refine goes_ Try.func37 (by kernel_rfl) rfl #[.int .i64 0] (by rfl) rfl rfl (by (try simp only [List.map_toArray, List.map_cons, List.map_nil]); first | done | rfl | (go_simp; done) | (go_simp; omega)) ?_
    refine Calls.mono (code_still 0 w7) ?_
    rintro e w' ⟨rfl, rfl⟩
    refine ⟨_, rfl, ?_⟩
    refine hK.out _ _ (hHeld) (fun hHeld => ?_)
    clear hK K
    refine norm_ (a' := ?_) ?_ ?_
    rotate_left
    · show Act.put _ (some 83) _ = _
      simp only [Act.put, List.setIfInBounds_toArray, List.set_cons_zero, List.set_cons_succ, i64_w, i32_w]
      rfl
    refine pure_ (i := 20) (N := some 84) (v := ?_) (a' := ?_) (bb 42 2097151) rfl rfl (by kernel_rfl) (fun _ _ _ h => h) (Or.inl ⟨by rfl, ?_⟩) ?_ ?_
    rotate_left
    · intro w'
      go_simp
      with_reducible rfl
    rotate_left
    · simp only [Act.put, List.setIfInBounds_toArray, List.set_cons_zero, List.set_cons_succ, i64_w, i32_w]
      rfl
    refine pure_ (i := 21) (N := some 85) (v := ?_) (a' := ?_) (bb 42 4194303) rfl rfl (by kernel_rfl) (fun _ _ _ h => h) (Or.inl ⟨by rfl, ?_⟩) ?_ ?_
    rotate_left
    · intro w'
      go_simp
      with_reducible rfl
    rotate_left
    · simp only [Act.put, List.setIfInBounds_toArray, List.set_cons_zero, List.set_cons_succ, i64_w, i32_w]
      rfl
    refine pure_ (i := 22) (N := some 86) (v := ?_) (a' := ?_) (bb 42 8388607) rfl rfl (by kernel_rfl) (fun _ _ _ h => h) (Or.inl ⟨by rfl, ?_⟩) ?_ ?_
    rotate_left
    · intro w'
      go_simp
      with_reducible rfl
    rotate_left
    · simp only [Act.put, List.setIfInBounds_toArray, List.set_cons_zero, List.set_cons_succ, i64_w, i32_w]
      rfl
    refine pure_ (i := 23) (N := some 87) (v := ?_) (a' := ?_) (bb 42 16777215) rfl rfl (by kernel_rfl) (fun _ _ _ h => h) (Or.inl ⟨by rfl, ?_⟩) ?_ ?_
    rotate_left
    · intro w'
      go_simp
      with_reducible rfl
    rotate_left
    · simp only [Act.put, List.setIfInBounds_toArray, List.set_cons_zero, List.set_cons_succ, i64_w, i32_w]
      rfl
    refine pure_ (i := 24) (N := some 88) (v := ?_) (a' := ?_) (bb 42 33554431) rfl rfl (by kernel_rfl) (fun _ _ _ h => h) (Or.inl ⟨by rfl, ?_⟩) ?_ ?_
    rotate_left
    · intro w'
      go_simp
      with_reducible rfl
    rotate_left
    · simp only [Act.put, List.setIfInBounds_toArray, List.set_cons_zero, List.set_cons_succ, i64_w, i32_w]
      rfl
    refine pure_ (i := 25) (N := some 89) (v := ?_) (a' := ?_) (bb 42 67108863) rfl rfl (by kernel_rfl) (fun _ _ _ h => h) (Or.inl ⟨by rfl, ?_⟩) ?_ ?_
    rotate_left
    · intro w'
      go_simp
      with_reducible rfl
    rotate_left
    · simp only [Act.put, List.setIfInBounds_toArray, List.set_cons_zero, List.set_cons_succ, i64_w, i32_w]
      rfl
    refine pure_ (i := 29) (N := some 93) (v := ?_) (a' := ?_) (bb 42 603979775) rfl rfl (by kernel_rfl) (fun _ _ _ h => h) (Or.inl ⟨by rfl, ?_⟩) ?_ ?_
    rotate_left
    · intro w'
      go_simp
      with_reducible rfl
    rotate_left
    · simp only [Act.put, List.setIfInBounds_toArray, List.set_cons_zero, List.set_cons_succ, i64_w, i32_w]
      rfl
    refine take_ (i := 30) (N := some 94) (v := ?_) (a' := ?_) (bb 42 1677721599) rfl rfl (by kernel_rfl) (fun _ _ _ h => h) (Or.inl ⟨by rfl, ?_⟩) hHeld ?_ ?_
    rotate_left
    · intro w' hSw
      go_simp
      with_reducible rfl
    rotate_left
    · simp only [Act.put, List.setIfInBounds_toArray, List.set_cons_zero, List.set_cons_succ, i64_w, i32_w]
      rfl
    refine one_ (i := 26) (N := some 90) (bb 42 1744830463) rfl rfl (by kernel_rfl) (by decide) (fun K hK => ?_)
    refine event_step (by rfl) (show _ = Result.ok (Next.value (.slice (some ⟨w7.heap.size, 0, none⟩) 3 3)) (World.alloc _ (.cells #[.slice A5 l1.length c5, .slice none 0 0, .slice A6 l2.length c6] 29)) from by first | (go_simp; done) | (go_simp; rfl)) ?_
    have hB := below_alloc (Below.refl _ w7) (.cells #[.slice A5 l1.length c5, .slice none 0 0, .slice A6 l2.length c6] 29)
    have hN := blk_new w7 (.cells #[.slice A5 l1.length c5, .slice none 0 0, .slice A6 l2.length c6] 29)
    generalize World.alloc w7 (.cells #[.slice A5 l1.length c5, .slice none 0 0, .slice A6 l2.length c6] 29) = w8 at hB hN ⊢
    have HRW := Aside0.mk (rows3 hN (Kd.C_below HC5.out.1 hB) HC5.out.2 (Kd.C_below HC6.out.1 hB) HC6.out.2)
    replace HC := Aside0.mk (Kd.C_below HC.out hB)
    replace HB := Aside0.mk (below_step HB.out hB)
    clear hB hN HC5 HC6
    refine hK.out _ _ (by rw [HX.out]; exact cs HC.out) (fun hHeld => ?_)
    clear hK K
    refine norm_ (a' := ?_) ?_ ?_
    rotate_left
    · show Act.put _ (some 90) _ = _
      simp only [Act.put, List.setIfInBounds_toArray, List.set_cons_zero, List.set_cons_succ, i64_w, i32_w]
      rfl
    refine one_ (i := 27) (N := some 91) (bb 42 1879048191) rfl rfl (by kernel_rfl) (by decide) (fun K hK => ?_)
    refine goes_ Try.func59 (by kernel_rfl) rfl #[.slice (some ⟨w7.heap.size, 0, none⟩) 3 3] (by rfl) rfl rfl (by (try simp only [List.map_toArray, List.map_cons, List.map_nil]); first | done | rfl | (go_simp; done) | (go_simp; omega)) ?_
    refine Calls.mono (join_calls (some ⟨w7.heap.size, 0, none⟩) 3 [l1, [], l2] 3 rfl w8 HRW.out (by simp) (by rw [HFL.out]; have := HL.out; omega)) ?_
    rintro e w' ⟨v_, rfl, hR, hB⟩
    refine ⟨_, rfl, ?_⟩
    rw [HFL.out] at hR
    obtain ⟨A9, n9, c9, rfl⟩ := R_sl hR
    have HC9 := Aside0.mk (R_to_C hR)
    replace HC := Aside0.mk (Kd.C_below HC.out hB)
    replace HB := Aside0.mk (below_step HB.out hB)
    clear hR hB
    refine hK.out _ _ (by rw [HX.out]; exact cs HC.out) (fun hHeld => ?_)
    clear hK K
    refine norm_ (a' := ?_) ?_ ?_
    rotate_left
    · show Act.put _ (some 91) _ = _
      simp only [Act.put, List.setIfInBounds_toArray, List.set_cons_zero, List.set_cons_succ, i64_w, i32_w]
      rfl
    refine more_ (S' := fun w' => (convert 29 9 (.slice A0 l0.length c0)).run Try.prog w' = .ok (.string (X0)) w' ∧ (convert 29 9 (.slice A9 n9 c9)).run Try.prog w' = .ok (.string (X0)) w') (fun _ h => h.1) (⟨by rw [HX.out]; exact cs HC.out, by rw [HX.out]; exact cs HC9.out⟩) (fun hHeld => ?_)
    refine take_ (i := 28) (N := some 92) (v := ?_) (a' := ?_) (bb 42 2147483647) rfl rfl (by kernel_rfl) (fun _ _ _ h => h) (Or.inl ⟨by rfl, ?_⟩) hHeld ?_ ?_
    rotate_left
    · intro w' hSw
      obtain ⟨q0, q1⟩ := hSw
      go_simp
      with_reducible rfl
    rotate_left
    · simp only [Act.put, List.setIfInBounds_toArray, List.set_cons_zero, List.set_cons_succ, i64_w, i32_w]
      rfl
    refine pure_ (i := 31) (N := some 95) (v := ?_) (a' := ?_) (bb 42 4294967295) rfl rfl (by kernel_rfl) (fun _ _ _ h => h) (Or.inl ⟨by rfl, ?_⟩) ?_ ?_
    rotate_left
    · intro w'
      go_simp
      with_reducible rfl
    rotate_left
    · simp only [Act.put, List.setIfInBounds_toArray, List.set_cons_zero, List.set_cons_succ, i64_w, i32_w]
      rfl
    refine pure_ (i := 32) (N := some 96) (v := ?_) (a' := ?_) (bb 42 8589934591) rfl rfl (by kernel_rfl) (fun _ _ _ h => h) (Or.inl ⟨by rfl, ?_⟩) ?_ ?_
    rotate_left
    · intro w'
      go_simp
      with_reducible rfl
    rotate_left
    · simp only [Act.put, List.setIfInBounds_toArray, List.set_cons_zero, List.set_cons_succ, i64_w, i32_w]
      rfl
    refine pure_ (i := 33) (N := some 97) (v := ?_) (a' := ?_) (bb 42 17179869183) rfl rfl (by kernel_rfl) (fun _ _ _ h => h) (Or.inl ⟨by rfl, ?_⟩) ?_ ?_
    rotate_left
    · intro w'
      go_simp
      with_reducible rfl
    rotate_left
    · simp only [Act.put, List.setIfInBounds_toArray, List.set_cons_zero, List.set_cons_succ, i64_w, i32_w]
      rfl
    refine two_ (i := 34) (j := 35) (Ni := some 98) (Nj := some 99) (bb 42 34359738367) (bb 42 51539607551) rfl rfl rfl rfl (by kernel_rfl) (by decide) (by decide) (fun K hK => ?_) (fun K hK => ?_)
    · refine event_step (by rfl) (show _ = Result.ok (Next.value (.slice (some ⟨w'.heap.size, 0, none⟩) 1 1)) (World.alloc _ (.cells #[.int .u8 1] 5)) from by first | (go_simp; done) | (go_simp; rfl)) ?_
      have hB := below_alloc (Below.refl _ w') (.cells #[.int .u8 1] 5)
      have hN := blk_new w' (.cells #[.int .u8 1] 5)
      obtain ⟨g34, hg_⟩ : ∃ g_, g_ = w'.heap.size := ⟨_, rfl⟩
      rw [← hg_] at hN ⊢
      generalize World.alloc w' (.cells #[.int .u8 1] 5) = w10 at hB hN ⊢
      have HN34 := Aside0.mk hN
      replace HC := Aside0.mk (Kd.C_below HC.out hB)
      replace HC9 := Aside0.mk (Kd.C_below HC9.out hB)
      replace HB := Aside0.mk (below_step HB.out hB)
      clear hB hN hg_
      refine hK.out _ _ (⟨by rw [HX.out]; exact cs HC.out, by rw [HX.out]; exact cs HC9.out⟩) (fun hHeld => ?_)
      clear hK K
      refine norm_ (a' := ?_) ?_ ?_
      rotate_left
      · show Act.put _ (some 98) _ = _
        simp only [Act.put, List.setIfInBounds_toArray, List.set_cons_zero, List.set_cons_succ, i64_w, i32_w]
        rfl
      refine one_ (i := 35) (N := some 99) (bb 42 68719476735) rfl rfl (by kernel_rfl) (by decide) (fun K hK => ?_)
      refine event_step (by rfl) (show _ = Result.ok (Next.value (.slice (some ⟨w10.heap.size, 0, none⟩) 1 1)) (World.alloc _ (.cells #[.int .u8 2] 5)) from by first | (go_simp; done) | (go_simp; rfl)) ?_
      have hB := below_alloc (Below.refl _ w10) (.cells #[.int .u8 2] 5)
      have hN := blk_new w10 (.cells #[.int .u8 2] 5)
      obtain ⟨g35, hg_⟩ : ∃ g_, g_ = w10.heap.size := ⟨_, rfl⟩
      rw [← hg_] at hN ⊢
      generalize World.alloc w10 (.cells #[.int .u8 2] 5) = w11 at hB hN ⊢
      have HN35 := Aside0.mk hN
      replace HN34 := Aside0.mk (blk_below HN34.out hB)
      replace HC := Aside0.mk (Kd.C_below HC.out hB)
      replace HC9 := Aside0.mk (Kd.C_below HC9.out hB)
      replace HB := Aside0.mk (below_step HB.out hB)
      clear hB hN hg_
      refine hK.out _ _ (⟨by rw [HX.out]; exact cs HC.out, by rw [HX.out]; exact cs HC9.out⟩) (fun hHeld => ?_)
      clear hK K
      refine norm_ (a' := ?_) ?_ ?_
      rotate_left
      · show Act.put _ (some 99) _ = _
        simp only [Act.put, List.setIfInBounds_toArray, List.set_cons_zero, List.set_cons_succ, i64_w, i32_w]
        rfl
      refine one_ (i := 36) (N := some 100) (bb 42 137438953471) rfl rfl (by kernel_rfl) (by decide) (fun K hK => ?_)
      refine event_step (by rfl) (show _ = Result.ok (Next.value (.slice (some ⟨w11.heap.size, 0, none⟩) 2 2)) (World.alloc _ (.cells #[.slice (some ⟨g34, 0, none⟩) 1 1, .slice (some ⟨g35, 0, none⟩) 1 1] 29)) from by first | (go_simp; done) | (go_simp; rfl)) ?_
      have hB := below_alloc (Below.refl _ w11) (.cells #[.slice (some ⟨g34, 0, none⟩) 1 1, .slice (some ⟨g35, 0, none⟩) 1 1] 29)
      have hN := blk_new w11 (.cells #[.slice (some ⟨g34, 0, none⟩) 1 1, .slice (some ⟨g35, 0, none⟩) 1 1] 29)
      obtain ⟨g36, hg_⟩ : ∃ g_, g_ = w11.heap.size := ⟨_, rfl⟩
      rw [← hg_] at hN ⊢
      generalize World.alloc w11 (.cells #[.slice (some ⟨g34, 0, none⟩) 1 1, .slice (some ⟨g35, 0, none⟩) 1 1] 29) = w12 at hB hN ⊢
      have HRW2 := Aside0.mk (rows2 hN (one_row (blk_below HN34.out hB)) (one_row (blk_below HN35.out hB)))
      replace HC := Aside0.mk (Kd.C_below HC.out hB)
      replace HC9 := Aside0.mk (Kd.C_below HC9.out hB)
      replace HB := Aside0.mk (below_step HB.out hB)
      clear hB hN hg_
      refine hK.out _ _ (⟨by rw [HX.out]; exact cs HC.out, by rw [HX.out]; exact cs HC9.out⟩) (fun hHeld => ?_)
      clear hK K
      refine norm_ (a' := ?_) ?_ ?_
      rotate_left
      · show Act.put _ (some 100) _ = _
        simp only [Act.put, List.setIfInBounds_toArray, List.set_cons_zero, List.set_cons_succ, i64_w, i32_w]
        rfl
      refine one_ (i := 37) (N := some 101) (bb 42 274877906943) rfl rfl (by kernel_rfl) (by decide) (fun K hK => ?_)
      refine goes_ Try.func59 (by kernel_rfl) rfl #[.slice (some ⟨g36, 0, none⟩) 2 2] (by rfl) rfl rfl (by (try simp only [List.map_toArray, List.map_cons, List.map_nil]); first | done | rfl | (go_simp; done) | (go_simp; omega)) ?_
      refine Calls.mono (join_calls (some ⟨g36, 0, none⟩) 2 [[1], [2]] 2 rfl w12 HRW2.out (by simp) (by simp)) ?_
      rintro e w' ⟨v_, rfl, hR, hB⟩
      refine ⟨_, rfl, ?_⟩
      obtain ⟨A13, n13, c13, rfl⟩ := R_sl hR
      have HC13 := Aside0.mk (R_to_C hR)
      replace HC := Aside0.mk (Kd.C_below HC.out hB)
      replace HC9 := Aside0.mk (Kd.C_below HC9.out hB)
      replace HB := Aside0.mk (below_step HB.out hB)
      clear hR hB
      refine hK.out _ _ (⟨by rw [HX.out]; exact cs HC.out, by rw [HX.out]; exact cs HC9.out⟩) (fun hHeld => ?_)
      clear hK K
      refine norm_ (a' := ?_) ?_ ?_
      rotate_left
      · show Act.put _ (some 101) _ = _
        simp only [Act.put, List.setIfInBounds_toArray, List.set_cons_zero, List.set_cons_succ, i64_w, i32_w]
        rfl
      refine more_ (S' := fun w' => (convert 29 9 (.slice A0 l0.length c0)).run Try.prog w' = .ok (.string (X0)) w' ∧ (convert 29 9 (.slice A9 n9 c9)).run Try.prog w' = .ok (.string (X0)) w' ∧ (convert 29 9 (.slice A13 n13 c13)).run Try.prog w' = .ok (.string (⟨#[1, 2]⟩)) w') (fun _ h => ⟨h.1, h.2.1⟩) (⟨by rw [HX.out]; exact cs HC.out, by rw [HX.out]; exact cs HC9.out, cs HC13.out⟩) (fun hHeld => ?_)
      refine take_ (i := 38) (N := some 102) (v := ?_) (a' := ?_) (bb 42 549755813887) rfl rfl (by kernel_rfl) (fun _ _ _ h => h) (Or.inl ⟨by rfl, ?_⟩) hHeld ?_ ?_
      rotate_left
      · intro w' hSw
        obtain ⟨q0, q1, q2⟩ := hSw
        go_simp
        with_reducible rfl
      rotate_left
      · simp only [Act.put, List.setIfInBounds_toArray, List.set_cons_zero, List.set_cons_succ, i64_w, i32_w]
        rfl
      refine pure_ (i := 39) (N := some 103) (v := ?_) (a' := ?_) (bb 42 1099511627775) rfl rfl (by kernel_rfl) (fun _ _ _ h => h) (Or.inl ⟨by rfl, ?_⟩) ?_ ?_
      rotate_left
      · intro w'
        go_simp
        with_reducible rfl
      rotate_left
      · simp only [Act.put, List.setIfInBounds_toArray, List.set_cons_zero, List.set_cons_succ, i64_w, i32_w]
        rfl
      refine pure_ (i := 40) (N := some 104) (v := ?_) (a' := ?_) (bb 42 2199023255551) rfl rfl (by kernel_rfl) (fun _ _ _ h => h) (Or.inl ⟨by rfl, ?_⟩) ?_ ?_
      rotate_left
      · intro w'
        go_simp
        with_reducible rfl
      rotate_left
      · simp only [Act.put, List.setIfInBounds_toArray, List.set_cons_zero, List.set_cons_succ, i64_w, i32_w]
        rfl
      refine pure_ (i := 41) (N := some 8) (v := ?_) (a' := ?_) (bb 42 4398046511103) rfl rfl (by kernel_rfl) (fun _ _ _ h => h) (Or.inl ⟨by rfl, ?_⟩) ?_ ?_
      rotate_left
      · intro w'
        go_simp
        with_reducible rfl
      rotate_left
      · simp only [Act.put, List.setIfInBounds_toArray, List.set_cons_zero, List.set_cons_succ, i64_w, i32_w]
        rfl
      refine done_ (by kernel_rfl) ?_
      go_wp2
      go_ret
      exact ⟨rfl, HB.out⟩
    · refine event_step (by rfl) (show _ = Result.ok (Next.value (.slice (some ⟨w'.heap.size, 0, none⟩) 1 1)) (World.alloc _ (.cells #[.int .u8 2] 5)) from by first | (go_simp; done) | (go_simp; rfl)) ?_
      have hB := below_alloc (Below.refl _ w') (.cells #[.int .u8 2] 5)
      have hN := blk_new w' (.cells #[.int .u8 2] 5)
      obtain ⟨g35, hg_⟩ : ∃ g_, g_ = w'.heap.size := ⟨_, rfl⟩
      rw [← hg_] at hN ⊢
      generalize World.alloc w' (.cells #[.int .u8 2] 5) = w10 at hB hN ⊢
      have HN35 := Aside0.mk hN
      replace HC := Aside0.mk (Kd.C_below HC.out hB)
      replace HC9 := Aside0.mk (Kd.C_below HC9.out hB)
      replace HB := Aside0.mk (below_step HB.out hB)
      clear hB hN hg_
      refine hK.out _ _ (⟨by rw [HX.out]; exact cs HC.out, by rw [HX.out]; exact cs HC9.out⟩) (fun hHeld => ?_)
      clear hK K
      refine norm_ (a' := ?_) ?_ ?_
      rotate_left
      · show Act.put _ (some 99) _ = _
        simp only [Act.put, List.setIfInBounds_toArray, List.set_cons_zero, List.set_cons_succ, i64_w, i32_w]
        rfl
      refine one_ (i := 34) (N := some 98) (bb 42 68719476735) rfl rfl (by kernel_rfl) (by decide) (fun K hK => ?_)
      refine event_step (by rfl) (show _ = Result.ok (Next.value (.slice (some ⟨w10.heap.size, 0, none⟩) 1 1)) (World.alloc _ (.cells #[.int .u8 1] 5)) from by first | (go_simp; done) | (go_simp; rfl)) ?_
      have hB := below_alloc (Below.refl _ w10) (.cells #[.int .u8 1] 5)
      have hN := blk_new w10 (.cells #[.int .u8 1] 5)
      obtain ⟨g34, hg_⟩ : ∃ g_, g_ = w10.heap.size := ⟨_, rfl⟩
      rw [← hg_] at hN ⊢
      generalize World.alloc w10 (.cells #[.int .u8 1] 5) = w11 at hB hN ⊢
      have HN34 := Aside0.mk hN
      replace HN35 := Aside0.mk (blk_below HN35.out hB)
      replace HC := Aside0.mk (Kd.C_below HC.out hB)
      replace HC9 := Aside0.mk (Kd.C_below HC9.out hB)
      replace HB := Aside0.mk (below_step HB.out hB)
      clear hB hN hg_
      refine hK.out _ _ (⟨by rw [HX.out]; exact cs HC.out, by rw [HX.out]; exact cs HC9.out⟩) (fun hHeld => ?_)
      clear hK K
      refine norm_ (a' := ?_) ?_ ?_
      rotate_left
      · show Act.put _ (some 98) _ = _
        simp only [Act.put, List.setIfInBounds_toArray, List.set_cons_zero, List.set_cons_succ, i64_w, i32_w]
        rfl
      refine one_ (i := 36) (N := some 100) (bb 42 137438953471) rfl rfl (by kernel_rfl) (by decide) (fun K hK => ?_)
      refine event_step (by rfl) (show _ = Result.ok (Next.value (.slice (some ⟨w11.heap.size, 0, none⟩) 2 2)) (World.alloc _ (.cells #[.slice (some ⟨g34, 0, none⟩) 1 1, .slice (some ⟨g35, 0, none⟩) 1 1] 29)) from by first | (go_simp; done) | (go_simp; rfl)) ?_
      have hB := below_alloc (Below.refl _ w11) (.cells #[.slice (some ⟨g34, 0, none⟩) 1 1, .slice (some ⟨g35, 0, none⟩) 1 1] 29)
      have hN := blk_new w11 (.cells #[.slice (some ⟨g34, 0, none⟩) 1 1, .slice (some ⟨g35, 0, none⟩) 1 1] 29)
      obtain ⟨g36, hg_⟩ : ∃ g_, g_ = w11.heap.size := ⟨_, rfl⟩
      rw [← hg_] at hN ⊢
      generalize World.alloc w11 (.cells #[.slice (some ⟨g34, 0, none⟩) 1 1, .slice (some ⟨g35, 0, none⟩) 1 1] 29) = w12 at hB hN ⊢
      have HRW2 := Aside0.mk (rows2 hN (one_row (blk_below HN34.out hB)) (one_row (blk_below HN35.out hB)))
      replace HC := Aside0.mk (Kd.C_below HC.out hB)
      replace HC9 := Aside0.mk (Kd.C_below HC9.out hB)
      replace HB := Aside0.mk (below_step HB.out hB)
      clear hB hN hg_
      refine hK.out _ _ (⟨by rw [HX.out]; exact cs HC.out, by rw [HX.out]; exact cs HC9.out⟩) (fun hHeld => ?_)
      clear hK K
      refine norm_ (a' := ?_) ?_ ?_
      rotate_left
      · show Act.put _ (some 100) _ = _
        simp only [Act.put, List.setIfInBounds_toArray, List.set_cons_zero, List.set_cons_succ, i64_w, i32_w]
        rfl
      refine one_ (i := 37) (N := some 101) (bb 42 274877906943) rfl rfl (by kernel_rfl) (by decide) (fun K hK => ?_)
      refine goes_ Try.func59 (by kernel_rfl) rfl #[.slice (some ⟨g36, 0, none⟩) 2 2] (by rfl) rfl rfl (by (try simp only [List.map_toArray, List.map_cons, List.map_nil]); first | done | rfl | (go_simp; done) | (go_simp; omega)) ?_
      refine Calls.mono (join_calls (some ⟨g36, 0, none⟩) 2 [[1], [2]] 2 rfl w12 HRW2.out (by simp) (by simp)) ?_
      rintro e w' ⟨v_, rfl, hR, hB⟩
      refine ⟨_, rfl, ?_⟩
      obtain ⟨A13, n13, c13, rfl⟩ := R_sl hR
      have HC13 := Aside0.mk (R_to_C hR)
      replace HC := Aside0.mk (Kd.C_below HC.out hB)
      replace HC9 := Aside0.mk (Kd.C_below HC9.out hB)
      replace HB := Aside0.mk (below_step HB.out hB)
      clear hR hB
      refine hK.out _ _ (⟨by rw [HX.out]; exact cs HC.out, by rw [HX.out]; exact cs HC9.out⟩) (fun hHeld => ?_)
      clear hK K
      refine norm_ (a' := ?_) ?_ ?_
      rotate_left
      · show Act.put _ (some 101) _ = _
        simp only [Act.put, List.setIfInBounds_toArray, List.set_cons_zero, List.set_cons_succ, i64_w, i32_w]
        rfl
      refine more_ (S' := fun w' => (convert 29 9 (.slice A0 l0.length c0)).run Try.prog w' = .ok (.string (X0)) w' ∧ (convert 29 9 (.slice A9 n9 c9)).run Try.prog w' = .ok (.string (X0)) w' ∧ (convert 29 9 (.slice A13 n13 c13)).run Try.prog w' = .ok (.string (⟨#[1, 2]⟩)) w') (fun _ h => ⟨h.1, h.2.1⟩) (⟨by rw [HX.out]; exact cs HC.out, by rw [HX.out]; exact cs HC9.out, cs HC13.out⟩) (fun hHeld => ?_)
      refine take_ (i := 38) (N := some 102) (v := ?_) (a' := ?_) (bb 42 549755813887) rfl rfl (by kernel_rfl) (fun _ _ _ h => h) (Or.inl ⟨by rfl, ?_⟩) hHeld ?_ ?_
      rotate_left
      · intro w' hSw
        obtain ⟨q0, q1, q2⟩ := hSw
        go_simp
        with_reducible rfl
      rotate_left
      · simp only [Act.put, List.setIfInBounds_toArray, List.set_cons_zero, List.set_cons_succ, i64_w, i32_w]
        rfl
      refine pure_ (i := 39) (N := some 103) (v := ?_) (a' := ?_) (bb 42 1099511627775) rfl rfl (by kernel_rfl) (fun _ _ _ h => h) (Or.inl ⟨by rfl, ?_⟩) ?_ ?_
      rotate_left
      · intro w'
        go_simp
        with_reducible rfl
      rotate_left
      · simp only [Act.put, List.setIfInBounds_toArray, List.set_cons_zero, List.set_cons_succ, i64_w, i32_w]
        rfl
      refine pure_ (i := 40) (N := some 104) (v := ?_) (a' := ?_) (bb 42 2199023255551) rfl rfl (by kernel_rfl) (fun _ _ _ h => h) (Or.inl ⟨by rfl, ?_⟩) ?_ ?_
      rotate_left
      · intro w'
        go_simp
        with_reducible rfl
      rotate_left
      · simp only [Act.put, List.setIfInBounds_toArray, List.set_cons_zero, List.set_cons_succ, i64_w, i32_w]
        rfl
      refine pure_ (i := 41) (N := some 8) (v := ?_) (a' := ?_) (bb 42 4398046511103) rfl rfl (by kernel_rfl) (fun _ _ _ h => h) (Or.inl ⟨by rfl, ?_⟩) ?_ ?_
      rotate_left
      · intro w'
        go_simp
        with_reducible rfl
      rotate_left
      · simp only [Act.put, List.setIfInBounds_toArray, List.set_cons_zero, List.set_cons_succ, i64_w, i32_w]
        rfl
      refine done_ (by kernel_rfl) ?_
      go_wp2
      go_ret
      exact ⟨rfl, HB.out⟩
theorem towropelaw01_OctetBack.calls (A0 : Option Addr) (c0 : Nat) (l0 : List Int) (a1 : Int) (a2 : Int) (a3 : Int) (r : Bool) (w : World) (hr0 : Kd.C (Kd.int .u8) w A0 l0.length l0) (hc0 : l0.length ≤ c0) (h : towropelaw01_OctetBack.f l0 a1 a2 a3 = some r) :
    Calls Try.prog 18 #[.slice A0 l0.length c0, .int .u16 a1, .int .u32 a2, .int .u16 a3] w fun e w' => e = .returned (.bool r) ∧ Below w.heap.size w w' := by
  unfold towropelaw01_OctetBack.f at h
  split at h
  case isFalse => cases h
  case isTrue ha =>
  cases h
  exact back_all A0 c0 l0 a1 a2 a3 w hr0 hc0 ha.1 ha.2.1 ha.2.2.1 ha.2.2.2.1 ha.2.2.2.2
end Go.Proofs.Ytcnodelfblpdiaa.POctL
