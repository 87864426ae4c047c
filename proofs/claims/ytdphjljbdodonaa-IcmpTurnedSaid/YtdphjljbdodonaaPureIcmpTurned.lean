/- A message of which one byte is another one is refused. No conditions. -/
import Derived.Test.YtdphjljbdodonaaPIcmpx18
import Derived.Test.YtdphjljbdodonaaQIcmpTurned
import Derived.Test.YtdphjljbdodonaaIcmpLIcmp
namespace Go.Proofs.Ytdphjljbdodonaa.Pure
set_option linter.unusedVariables false
set_option linter.unusedSimpArgs false
open Go.RowKit Go.Proofs.Ytdphjljbdodonaa.PIcmp Go.Proofs.YtdphjljbdodonaaW.PrintWords Go.Proofs.YtdphjljbdodonaaW.PrintLast Go.Proofs.YtdphjljbdodonaaW.PrintMore Go.Proofs.Ytdphjljbdodonaa.Ar Go.Proofs.Ytdphjljbdodonaa.HSum

theorem tt_one : ∀ (j : Nat) (l : List Int) (x : Int), j < l.length → ∃ m : Int, (m = 1 ∨ m = 256) ∧ tt (l.set j x) = tt l + m * (x - rd l j)
  | 0, [y], x, _ => ⟨256, .inr rfl, by simp [tt, rd]; omega⟩
  | 0, y :: z :: t, x, _ => ⟨256, .inr rfl, by simp [tt, rd]; omega⟩
  | 1, y :: z :: t, x, _ => ⟨1, .inl rfl, by simp [tt, rd]; omega⟩
  | j + 2, y :: z :: t, x, h => by
    obtain ⟨m, hm, e⟩ := tt_one j t x (by simp only [List.length_cons] at h; omega)
    refine ⟨m, hm, ?_⟩
    rw [rd_two]
    simp only [List.set_cons_succ, tt]
    rw [e]
    omega
  | j + 1, [_], _, h => by simp at h
theorem norm_other (t d m : Int) (h0 : 0 ≤ t + m * d) (hm : m = 1 ∨ m = 256) (hd : d ≠ 0) (d0 : -255 ≤ d) (d1 : d ≤ 255) (ht : ∃ u, 0 ≤ u ∧ t = u + (65535 - norm u)) : norm (t + m * d) ≠ 65535 := by
  obtain ⟨u, u0, rfl⟩ := ht
  have hu := norm_mod u
  have hv := norm_mod (u + (65535 - norm u) + m * d)
  intro he
  rw [he] at hv
  rcases hm with rfl | rfl <;> omega
theorem xor_u8 (x y : Int) (x0 : 0 ≤ x ∧ x ≤ 255) (y0 : 0 ≤ y ∧ y ≤ 255) (hy : y ≠ 0) : (0 ≤ Go.bits .xor .u8 x y ∧ Go.bits .xor .u8 x y ≤ 255) ∧ Go.bits .xor .u8 x y ≠ x := by
  have hlt := (BitVec.ofInt 8 x ^^^ BitVec.ofInt 8 y).isLt
  have e : Go.bits .xor .u8 x y = (((BitVec.ofInt 8 x ^^^ BitVec.ofInt 8 y).toNat : Nat) : Int) := by
    show IntKind.u8.wrap (((BitVec.ofInt 8 x ^^^ BitVec.ofInt 8 y).toNat : Nat) : Int) = _
    generalize (BitVec.ofInt 8 x ^^^ BitVec.ofInt 8 y).toNat = z at *
    simp [IntKind.wrap, IntKind.bits, IntKind.signed]
    omega
  rw [e]
  refine ⟨by omega, fun h => hy ?_⟩
  have h2 : BitVec.ofInt 8 x ^^^ BitVec.ofInt 8 y = BitVec.ofInt 8 x := by
    apply BitVec.eq_of_toNat_eq
    have e2 : (BitVec.ofInt 8 x).toNat = (x % 256).toNat := by rw [BitVec.toNat_ofInt]; rfl
    rw [e2]
    omega
  have h3 : BitVec.ofInt 8 y = 0#8 := by
    have := congrArg (fun z => BitVec.ofInt 8 x ^^^ z) h2
    simpa [← BitVec.xor_assoc] using this
  have h4 := congrArg BitVec.toNat h3
  rw [BitVec.toNat_ofInt] at h4
  have h5 : (y % ((2 ^ 8 : Nat) : Int)).toNat = 0 := h4
  have h6 : (y % 256).toNat = 0 := h5
  omega
theorem turned_bytes {l : List Int} (h : bytesB l = true) (j : Nat) {x : Int} (x0 : 0 ≤ x ∧ x ≤ 255) : bytesB (l.set j x) = true := bytesB_of fun y hy => by
  rcases List.mem_or_eq_of_mem_set hy with hy | rfl
  · exact bytesB_mem h hy
  · exact x0
theorem turned_j1 (k : Nat) (t c r : Int) (l : List Int) (a b : Int) (t0 : 0 ≤ t ∧ t ≤ 255) (c0 : 0 ≤ c ∧ c ≤ 255) (h : bytesB l = true) (hl : l.length ≤ 2000) (a0 : 0 ≤ a ∧ a ≤ 65535) (b0 : 0 ≤ b ∧ b ≤ 255) (hb : b ≠ 0) :
    towropelaw07_IcmpTurned.j1 (k + 6) a b (msgS t c r l) false = some true := by
  have hm := msg_bytes (r := r) t0 c0 h
  have hlen := msg_len t c r l
  obtain ⟨u, u0, hu, _⟩ := msg_sum (r := r) t0 c0 h
  generalize msgS t c r l = y at *
  simp only [towropelaw07_IcmpTurned.j1]
  rw [if_neg (by simp), if_neg (by omega), w64 (n := a) (by omega) (by omega), tm _ _ a0.1]
  have m0 : 0 ≤ a % (y.length : Int) := Int.emod_nonneg _ (by omega)
  have m1 : a % (y.length : Int) < y.length := Int.emod_lt_of_pos _ (by omega)
  rw [if_pos m0, if_pos m1]
  obtain ⟨j, hj⟩ : ∃ j : Nat, a % (y.length : Int) = j := ⟨(a % (y.length : Int)).toNat, by omega⟩
  rw [hj, Int.toNat_natCast]
  have hjl : j < y.length := by omega
  have hr : 0 ≤ rd y j ∧ rd y j ≤ 255 := Bytes.at_ (fun x hx => bytesB_mem hm hx) _
  obtain ⟨x0, xne⟩ := xor_u8 _ b hr b0 hb
  generalize Go.bits .xor .u8 (rd y j) b = x at *
  have hn := turned_bytes hm j x0
  obtain ⟨m, hmm, e⟩ := tt_one j y x hjl
  have hs : sumW (y.set j x) ≠ 65535 := by
    have ht := tt_nonneg hn
    rw [sumW_tt hn, e]
    rw [e] at ht
    exact norm_other (tt y) (x - rd y j) m ht hmm (by omega) (by omega) (by omega) ⟨u, u0, hu⟩
  rw [icmpget_f k _ hn (by rw [List.length_set]; omega), if_neg (by rw [List.length_set]; omega), if_neg hs]
  simp [code_f, same_refl, icmp_live]
theorem turned_j0 (k : Nat) (t c r : Int) (l : List Int) (a b : Int) (z : Bool) (t0 : 0 ≤ t ∧ t ≤ 255) (c0 : 0 ≤ c ∧ c ≤ 255) (r0 : 0 ≤ r ∧ r ≤ 4294967295) (h : bytesB l = true) (a0 : 0 ≤ a ∧ a ≤ 65535) (b0 : 0 ≤ b ∧ b ≤ 255) (hz : z = false → l.length ≤ 2000 ∧ b ≠ 0) :
    towropelaw07_IcmpTurned.j0 (k + 7) a b z t c r l = some true := by
  simp only [towropelaw07_IcmpTurned.j0]
  cases z with
  | true => rw [if_pos rfl, show k + 6 = k + 1 + 5 by omega, icmp_live]; rfl
  | false =>
    obtain ⟨hl, hb⟩ := hz rfl
    rw [if_neg (by simp), show k + 6 = k + 1 + 5 by omega, icmpput_f (k + 1) t c r l t0 c0 r0 h, if_neg (by omega)]
    simp only [Option.bind_some, code_f, if_true]
    rw [show (decide ((((msgS t c r l).length : Nat) : Int) < 8)) = false by rw [msg_len]; exact decide_eq_false (by omega)]
    exact turned_j1 k t c r l a b t0 c0 h hl a0 b0 hb
theorem IcmpTurned : IcmpTurnedSt := by
  intro t c r l a b ht hc hr _ hw ha hb
  have h := bytesB_wf hw
  have a0 := bounds_u16 ha
  have b0 := bounds_u8 hb
  refine ⟨7, ?_⟩
  unfold towropelaw07_IcmpTurned.f
  split
  · exact turned_j0 0 t c r l a b true (bounds_u8 ht) (bounds_u8 hc) (bounds_u32 hr) h a0 b0 (by simp)
  · rename_i hl
    exact turned_j0 0 t c r l a b _ (bounds_u8 ht) (bounds_u8 hc) (bounds_u32 hr) h a0 b0 (fun hz => ⟨by omega, by simpa using hz⟩)
end Go.Proofs.Ytdphjljbdodonaa.Pure
