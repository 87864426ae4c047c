/- Plain law of layer 6: what ip's Put comes to. Conditions: each lemma's own. -/
import Derived.Test.YtdphjljbdodonaaPIpx1
import Derived.Test.YtdphjljbdodonaaPIpx2
import Derived.Test.YtdphjljbdodonaaPIpx3
import Derived.Test.YtdphjljbdodonaaPIpx4
import Derived.Test.YtdphjljbdodonaaPIpx5
import Derived.Test.YtdphjljbdodonaaIpLIpGet
import Derived.Test.YtdphjljbdodonaaIpLCk
namespace Go.Proofs.Ytdphjljbdodonaa.PIp
set_option linter.unusedVariables false
set_option linter.unusedSimpArgs false
open Go.RowKit Go.Proofs.Ytdphjljbdodonaa.PIp Go.Proofs.YtdphjljbdodonaaW.PrintWords Go.Proofs.YtdphjljbdodonaaW.PrintLast Go.Proofs.YtdphjljbdodonaaW.PrintMore Go.Proofs.Ytdphjljbdodonaa.Ar Go.Proofs.Ytdphjljbdodonaa.HSum Go.Proofs.Ytdphjljbdodonaa.HExt

def ckS (off : Int) (o d : List Int) : Int := if off < 0 ∨ off > 8191 ∨ (o.length : Int) > 40 ∨ (o.length : Int) % 4 ≠ 0 then 1 else if 20 + (o.length : Int) + d.length > 65535 then 9 else 0
theorem iplen_f (a0 a1 : Int) (a2 a3 : Bool) (a4 a5 a6 a7 a8 : Int) (o d : List Int) (ho : o.length ≤ 4611686018427387904) (hd : d.length ≤ 4611686018427387000) : ip_Len.f a0 a1 a2 a3 a4 a5 a6 a7 a8 o d = some (20 + (o.length : Int) + (d.length : Int)) := by
  unfold ip_Len.f
  rw [w64 (n := 20 + (o.length : Int)) (by omega) (by omega), w64 (by omega) (by omega)]
theorem reflen_f (a0 a1 : Int) (a2 a3 : Bool) (a4 a5 a6 a7 a8 : Int) (o d : List Int) (ho : o.length ≤ 4611686018427387904) (hd : d.length ≤ 4611686018427387000) : towroperef06_Len.f a0 a1 a2 a3 a4 a5 a6 a7 a8 o d = some (20 + (o.length : Int) + (d.length : Int)) := by
  unfold towroperef06_Len.f
  rw [w64 (n := 20 + (o.length : Int)) (by omega) (by omega), w64 (by omega) (by omega)]
theorem ipcheck_f (k : Nat) (a0 a1 : Int) (a2 a3 : Bool) (a4 a5 a6 a7 a8 : Int) (o d : List Int) (ho : o.length ≤ 4611686018427387904) (hd : d.length ≤ 4611686018427387000) : ip_Check.f (k + 2) a0 a1 a2 a3 a4 a5 a6 a7 a8 o d = some (ckS a4 o d) := by
  have hj1 : ∀ b : Bool, (b = true ↔ (a4 < 0 ∨ a4 > 8191 ∨ (o.length : Int) > 40 ∨ (o.length : Int) % 4 ≠ 0)) → ip_Check.j1 (k + 1) b a0 a1 a2 a3 a4 a5 a6 a7 a8 o d = some (ckS a4 o d) := by
    intro b hb
    simp only [ip_Check.j1]
    unfold ckS
    rw [iplen_f _ _ _ _ _ _ _ _ _ _ _ ho hd]
    by_cases h : a4 < 0 ∨ a4 > 8191 ∨ (o.length : Int) > 40 ∨ (o.length : Int) % 4 ≠ 0
    · rw [if_pos (hb.2 h), if_pos h]
    · rw [if_neg (fun x => h (hb.1 x)), if_neg h]
      simp only [Option.bind_some]
      split <;> rfl
  have hj0 : ∀ b : Bool, (b = true ↔ (a4 < 0 ∨ a4 > 8191)) → ip_Check.j0 (k + 2) b a0 a1 a2 a3 a4 a5 a6 a7 a8 o d = some (ckS a4 o d) := by
    intro b hb
    simp only [ip_Check.j0]
    by_cases h : b = true
    · rw [if_pos h]
      exact hj1 b ⟨fun _ => by have := hb.1 h; omega, fun _ => h⟩
    · have hn : ¬ (a4 < 0 ∨ a4 > 8191) := fun x => h (hb.2 x)
      rw [if_neg h]
      by_cases h4 : (o.length : Int) > 40
      · rw [if_pos h4]
        exact hj1 _ ⟨fun _ => .inr (.inr (.inl h4)), fun _ => decide_eq_true h4⟩
      · rw [if_neg h4]
        exact hj1 _ ⟨fun x => .inr (.inr (.inr (by simpa using x))), fun x => by
          have : (o.length : Int) % 4 ≠ 0 := by omega
          simpa using this⟩
  unfold ip_Check.f
  by_cases h : a4 < 0
  · rw [if_pos h]
    exact hj0 true ⟨fun _ => .inl h, fun _ => rfl⟩
  · rw [if_neg h]
    exact hj0 _ ⟨fun x => .inr (of_decide_eq_true x), fun x => decide_eq_true (x.resolve_left h)⟩
theorem refcheck_f (k : Nat) (a0 a1 : Int) (a2 a3 : Bool) (a4 a5 a6 a7 a8 : Int) (o d : List Int) (ho : o.length ≤ 4611686018427387904) (hd : d.length ≤ 4611686018427387000) : towroperef06_Check.f (k + 1) a0 a1 a2 a3 a4 a5 a6 a7 a8 o d = some (ckS a4 o d) := by
  have hj0 : ∀ b : Bool, (b = true ↔ (a4 < 0 ∨ a4 > 8191 ∨ (o.length : Int) > 40 ∨ (o.length : Int) % 4 ≠ 0)) → towroperef06_Check.j0 (k + 1) b a0 a1 a2 a3 a4 a5 a6 a7 a8 o d = some (ckS a4 o d) := by
    intro b hb
    simp only [towroperef06_Check.j0]
    unfold ckS
    rw [reflen_f _ _ _ _ _ _ _ _ _ _ _ ho hd]
    by_cases h : a4 < 0 ∨ a4 > 8191 ∨ (o.length : Int) > 40 ∨ (o.length : Int) % 4 ≠ 0
    · rw [if_pos (hb.2 h), if_pos h]
    · rw [if_neg (fun x => h (hb.1 x)), if_neg h]
      simp only [Option.bind_some]
      split <;> rfl
  unfold towroperef06_Check.f
  by_cases h : a4 < 0
  · rw [if_pos h]
    exact hj0 true ⟨fun _ => .inl h, fun _ => rfl⟩
  rw [if_neg h]
  by_cases h2 : a4 > 8191
  · rw [if_pos h2]
    exact hj0 true ⟨fun _ => .inr (.inl h2), fun _ => rfl⟩
  rw [if_neg h2]
  by_cases h4 : (o.length : Int) > 40
  · rw [if_pos h4]
    exact hj0 true ⟨fun _ => .inr (.inr (.inl h4)), fun _ => rfl⟩
  · rw [if_neg h4]
    exact hj0 _ ⟨fun x => .inr (.inr (.inr (by simpa using x))), fun x => by
      have : (o.length : Int) % 4 ≠ 0 := by omega
      simpa using this⟩

def flS (off : Int) (wh mo : Bool) : Int := off + (if wh = true then 16384 else 0) + (if mo = true then 8192 else 0)
theorem or_flags (off : Int) (h0 : 0 ≤ off ∧ off ≤ 8191) (wh mo : Bool) : Go.bits .or .i64 (Go.bits .or .i64 off (if wh = true then 16384 else 0)) (if mo = true then 8192 else 0) = flS off wh mo := by
  obtain ⟨a, rfl⟩ : ∃ a : Nat, off = a := ⟨off.toNat, by omega⟩
  have ha : a < 2 ^ 13 := by omega
  have hw := fun (n : Int) (h0 : 0 ≤ n) (h1 : n < 2 ^ 16) => (show IntKind.i64.wrap n = n by rw [IntKind.wrap_i64]; omega)
  have orn : ∀ x y : Nat, x < 2 ^ 16 → y < 2 ^ 16 → Go.bits .or .i64 (x : Int) (y : Int) = ((x ||| y : Nat) : Int) := fun x y hx hy => (bits_nat .i64 16 (by decide) hw x y hx hy).2
  have key : ∀ c : Nat, c ≤ 3 → a ||| (c * 8192) = a + c * 8192 := by
    intro c hc
    have h1 := orn (c * 8192) a (by omega) (by omega)
    have h2 := bits_join .i64 16 (by decide) hw 13 ((c * 8192 : Nat) : Int) (a : Int) (by omega) (by omega) (by omega) (by omega) (by omega) (by omega)
    rw [h1] at h2
    rw [Nat.or_comm]
    omega
  have k0 := key 0 (by omega)
  have k1 := key 1 (by omega)
  have k2 := key 2 (by omega)
  have k3 := key 3 (by omega)
  unfold flS
  cases wh <;> cases mo <;> simp only [if_true, if_false, Bool.false_eq_true]
  · rw [show (0 : Int) = ((0 : Nat) : Int) from rfl, orn a 0 (by omega) (by omega), Nat.or_zero, orn a 0 (by omega) (by omega), Nat.or_zero]
    omega
  · rw [show (0 : Int) = ((0 : Nat) : Int) from rfl, show (8192 : Int) = ((8192 : Nat) : Int) from rfl, orn a 0 (by omega) (by omega), Nat.or_zero, orn a 8192 (by omega) (by omega), show a ||| 8192 = a + 8192 from k1]
    omega
  · rw [show (0 : Int) = ((0 : Nat) : Int) from rfl, show (16384 : Int) = ((16384 : Nat) : Int) from rfl, orn a 16384 (by omega) (by omega), show a ||| 16384 = a + 16384 from k2, orn (a + 16384) 0 (by omega) (by omega), Nat.or_zero]
    omega
  · rw [show (8192 : Int) = ((8192 : Nat) : Int) from rfl, show (16384 : Int) = ((16384 : Nat) : Int) from rfl, orn a 16384 (by omega) (by omega), show a ||| 16384 = a + 16384 from k2, orn (a + 16384) 8192 (by omega) (by omega), ← show a ||| 16384 = a + 16384 from k2, Nat.or_assoc, show 16384 ||| 8192 = 3 * 8192 by decide, k3]
    omega

def preS (a0 a1 : Int) (a2 a3 : Bool) (a4 a5 a6 : Int) (o d : List Int) : List Int := [69 + (o.length : Int) / 4, a0] ++ (twoS (20 + o.length + d.length) ++ (twoS a1 ++ (twoS (flS a4 a2 a3) ++ [a5, a6])))
def postS (a7 a8 : Int) (o : List Int) : List Int := fourS a7 ++ (fourS a8 ++ o)
def sumIp (a0 a1 : Int) (a2 a3 : Bool) (a4 a5 a6 a7 a8 : Int) (o d : List Int) : Int := 65535 - sumW (preS a0 a1 a2 a3 a4 a5 a6 o d ++ ([0, 0] ++ postS a7 a8 o))
def headIp (a0 a1 : Int) (a2 a3 : Bool) (a4 a5 a6 a7 a8 : Int) (o d : List Int) : List Int := preS a0 a1 a2 a3 a4 a5 a6 o d ++ (twoS (sumIp a0 a1 a2 a3 a4 a5 a6 a7 a8 o d) ++ postS a7 a8 o)
theorem pre_bytes (a0 a1 : Int) (a2 a3 : Bool) (a4 a5 a6 : Int) (o d : List Int) (h0 : 0 ≤ a0 ∧ a0 ≤ 255) (h5 : 0 ≤ a5 ∧ a5 ≤ 255) (h6 : 0 ≤ a6 ∧ a6 ≤ 255) (ho : o.length ≤ 40) : bytesB (preS a0 a1 a2 a3 a4 a5 a6 o d) = true :=
  bytesB_append (bytesB_of fun x hx => by simp only [List.mem_cons, List.not_mem_nil, or_false] at hx; omega)
    (bytesB_append (twoS_bytes _) (bytesB_append (twoS_bytes _) (bytesB_append (twoS_bytes _) (bytesB_of fun x hx => by simp only [List.mem_cons, List.not_mem_nil, or_false] at hx; omega))))
theorem post_bytes (a7 a8 : Int) (o : List Int) (h : bytesB o = true) : bytesB (postS a7 a8 o) = true := bytesB_append (fourS_bytes _) (bytesB_append (fourS_bytes _) h)
theorem pre_len (a0 a1 : Int) (a2 a3 : Bool) (a4 a5 a6 : Int) (o d : List Int) : (preS a0 a1 a2 a3 a4 a5 a6 o d).length = 10 := rfl
theorem post_len (a7 a8 : Int) (o : List Int) : (postS a7 a8 o).length = o.length + 8 := by
  unfold postS fourS
  simp only [List.length_append, List.length_cons, List.length_nil]
  omega
theorem head_len (a0 a1 : Int) (a2 a3 : Bool) (a4 a5 a6 a7 a8 : Int) (o d : List Int) : (headIp a0 a1 a2 a3 a4 a5 a6 a7 a8 o d).length = o.length + 20 := by
  unfold headIp
  rw [List.length_append, pre_len, List.length_append, post_len]
  simp only [twoS, List.length_cons, List.length_nil]
  omega
theorem flag_f (b : Bool) (n : Int) : ip_flag.f b n = some (if b = true then n else 0) := by cases b <;> rfl
theorem ipput_f (k : Nat) (a0 a1 : Int) (a2 a3 : Bool) (a4 a5 a6 a7 a8 : Int) (o d : List Int) (h0 : 0 ≤ a0 ∧ a0 ≤ 255) (h1 : 0 ≤ a1 ∧ a1 ≤ 65535) (h5 : 0 ≤ a5 ∧ a5 ≤ 255) (h6 : 0 ≤ a6 ∧ a6 ≤ 255) (h7 : 0 ≤ a7 ∧ a7 ≤ 4294967295) (h8 : 0 ≤ a8 ∧ a8 ≤ 4294967295) (hob : bytesB o = true) (hc : ckS a4 o d = 0) :
    ip_Put.f (k + 5) a0 a1 a2 a3 a4 a5 a6 a7 a8 o d = some (headIp a0 a1 a2 a3 a4 a5 a6 a7 a8 o d ++ d, 0) := by
  have hcc := hc
  unfold ckS at hcc
  split at hcc
  · simp at hcc
  rename_i hbad
  split at hcc
  · simp at hcc
  rename_i hlong
  have ho : o.length ≤ 40 := by omega
  have hd : d.length ≤ 65535 := by omega
  have h4 : 0 ≤ a4 ∧ a4 ≤ 8191 := by omega
  have hpb := pre_bytes a0 a1 a2 a3 a4 a5 a6 o d h0 h5 h6 ho
  have hqb := post_bytes a7 a8 o hob
  have h00 : bytesB [0, 0] = true := by rfl
  have hall : bytesB (preS a0 a1 a2 a3 a4 a5 a6 o d ++ ([0, 0] ++ postS a7 a8 o)) = true := bytesB_append hpb (bytesB_append h00 hqb)
  unfold ip_Put.f
  rw [show k + 5 = k + 3 + 2 by omega, ipcheck_f (k + 3) _ _ _ _ _ _ _ _ _ _ _ (by omega) (by omega), hc]
  simp only [Option.bind_some, if_true]
  rw [iplen_f _ _ _ _ _ _ _ _ _ _ _ (by omega) (by omega), show k + 3 + 2 = k + 2 + 3 by omega]
  simp only [Option.bind_some]
  rw [put16_f (k + 2) _ _ (by simp only [List.length_cons, List.length_nil]; omega)]
  simp only [Option.bind_some]
  rw [put16_f (k + 2) _ _ (by simp only [twoS, List.length_append, List.length_cons, List.length_nil]; omega), w64 (n := a1) (by omega) (by omega)]
  simp only [Option.bind_some]
  rw [flag_f, Option.bind_some, flag_f, Option.bind_some]
  rw [or_flags a4 h4 a2 a3, put16_f (k + 2) _ _ (by simp only [twoS, List.length_append, List.length_cons, List.length_nil]; omega)]
  rw [Option.bind_some]
  rw [if_pos (by simp only [twoS, List.length_append, List.length_cons, List.length_nil]; omega), show k + 2 + 3 = k + 5 by omega, put32_f k _ a7 h7.1 h7.2 (by simp only [twoS, List.length_append, List.length_cons, List.length_nil]; omega)]
  rw [Option.bind_some]
  rw [put32_f k _ a8 h8.1 h8.2 (by simp only [twoS, fourS, List.length_append, List.length_cons, List.length_nil]; omega)]
  rw [Option.bind_some]
  rw [w64 (n := (o.length : Int) / 4) (by omega) (by omega), w64 (n := 69 + (o.length : Int) / 4) (by omega) (by omega), show (69 + (o.length : Int) / 4) % 256 = 69 + (o.length : Int) / 4 by omega]
  have e : ([69 + (o.length : Int) / 4, a0] ++ twoS (20 + ↑o.length + ↑d.length) ++ twoS a1 ++ twoS (flS a4 a2 a3) ++ [a5, a6, 0, 0] ++ fourS a7 ++ fourS a8) ++ o = preS a0 a1 a2 a3 a4 a5 a6 o d ++ ([0, 0] ++ postS a7 a8 o) := by
    unfold preS postS
    simp only [List.append_assoc, List.cons_append, List.nil_append]
  have el : ([69 + (o.length : Int) / 4, a0] ++ twoS (20 + ↑o.length + ↑d.length) ++ twoS a1 ++ twoS (flS a4 a2 a3) ++ [a5, a6, 0, 0] ++ fourS a7 ++ fourS a8).length = 20 := rfl
  rw [if_pos (by rw [el]; omega), e, check_f _ (by rw [List.length_append, pre_len, List.length_append, post_len]; simp only [List.length_cons, List.length_nil]; omega) hall]
  rw [Option.bind_some]
  rw [show k + 5 = k + 2 + 3 by omega, put16_f (k + 2) [] _ (by simp only [List.length_cons, List.length_nil]; omega)]
  rw [Option.bind_some, List.nil_append]
  have e2 : (twoS (65535 - sumW (preS a0 a1 a2 a3 a4 a5 a6 o d ++ ([0, 0] ++ postS a7 a8 o)))).length = 2 := rfl
  have e3 : (preS a0 a1 a2 a3 a4 a5 a6 o d ++ ([0, 0] ++ postS a7 a8 o)).length = o.length + 20 := by
    rw [List.length_append, pre_len, List.length_append, post_len]
    simp only [List.length_cons, List.length_nil]
    omega
  have e4 : over 10 (preS a0 a1 a2 a3 a4 a5 a6 o d ++ ([0, 0] ++ postS a7 a8 o)) (twoS (65535 - sumW (preS a0 a1 a2 a3 a4 a5 a6 o d ++ ([0, 0] ++ postS a7 a8 o)))) = headIp a0 a1 a2 a3 a4 a5 a6 a7 a8 o d := by
    have t1 : (preS a0 a1 a2 a3 a4 a5 a6 o d ++ ([0, 0] ++ postS a7 a8 o)).take 10 = preS a0 a1 a2 a3 a4 a5 a6 o d := List.take_left' (pre_len a0 a1 a2 a3 a4 a5 a6 o d)
    have t2 : (preS a0 a1 a2 a3 a4 a5 a6 o d ++ ([0, 0] ++ postS a7 a8 o)).drop (10 + 2) = postS a7 a8 o := by
      rw [← List.append_assoc]
      exact List.drop_left' (by rw [List.length_append, pre_len]; rfl)
    unfold over
    rw [e2, t1, t2]
    unfold headIp sumIp
    with_reducible rfl
  rw [if_pos ⟨by rw [e2, e3]; omega, by rw [e2]; omega⟩, e4, if_pos (by rw [head_len]; omega)]
theorem head_sum (a0 a1 : Int) (a2 a3 : Bool) (a4 a5 a6 a7 a8 : Int) (o d : List Int) (h0 : 0 ≤ a0 ∧ a0 ≤ 255) (h5 : 0 ≤ a5 ∧ a5 ≤ 255) (h6 : 0 ≤ a6 ∧ a6 ≤ 255) (ho : o.length ≤ 40) (hob : bytesB o = true) :
    bytesB (headIp a0 a1 a2 a3 a4 a5 a6 a7 a8 o d) = true ∧ ∃ u, 0 ≤ u ∧ tt (headIp a0 a1 a2 a3 a4 a5 a6 a7 a8 o d) = u + (65535 - norm u) ∧ sumW (headIp a0 a1 a2 a3 a4 a5 a6 a7 a8 o d) = 65535 := by
  have hpb := pre_bytes a0 a1 a2 a3 a4 a5 a6 o d h0 h5 h6 ho
  have hqb := post_bytes a7 a8 o hob
  exact ⟨bytesB_append hpb (bytesB_append (twoS_bytes _) hqb), ck_sum _ _ hpb hqb (by rw [pre_len]) _ rfl⟩
end Go.Proofs.Ytdphjljbdodonaa.PIp
