/- Plain law of layer 26: which entries may be. Conditions: each lemma's own. -/
import Derived.Test.YtilkbmjkjlbfmaaPEntx6
import Derived.Test.YtilkbmjkjlbfmaaPEntx7
import Derived.Test.YtilkbmjkjlbfmaaPEntx8
import Derived.Test.YtilkbmjkjlbfmaaAr
import Derived.Test.YtilkbmjkjlbfmaaEntLEnt
namespace Go.Proofs.Ytilkbmjkjlbfmaa.PEnt
set_option linter.unusedVariables false
set_option linter.unusedSimpArgs false
open Go.RowKit Go.Proofs.Ytilkbmjkjlbfmaa.PEnt Go.Proofs.YtilkbmjkjlbfmaaW.PrintWords Go.Proofs.YtilkbmjkjlbfmaaW.PrintLast Go.Proofs.YtilkbmjkjlbfmaaW.PrintMore Go.Proofs.Ytilkbmjkjlbfmaa.Ar

/-- What may not be: of the op, the flags, the length, the number aside, how many bytes. -/
def BadE (op fl n aux dl : Int) : Prop :=
  op ≥ 14 ∨ fl > 31 ∨ (fl % 2 = 1 ∧ fl / 2 % 2 = 1) ∨ (fl / 4 % 2 = 1 ∧ op ≠ 5 ∧ op ≠ 7) ∨ (fl / 8 % 2 = 1 ∧ op ≠ 7) ∨ (fl / 16 % 2 = 1 ∧ op ≠ 12) ∨
  (op = 7 ∧ (n < 0 ∨ n > 65536 ∨ (n = 0 ∧ fl / 8 % 2 = 0))) ∨ (op = 6 ∧ dl > 65536) ∨ (op ≠ 6 ∧ dl > 0) ∨ ((op = 10 ∨ op = 11) ∧ aux > 1073741824)
instance (op fl n aux dl : Int) : Decidable (BadE op fl n aux dl) := by unfold BadE; infer_instance
def chk (op fl n aux dl : Int) : Int := if BadE op fl n aux dl then 260 else 0
theorem chk_bad {op fl n aux dl : Int} (h : BadE op fl n aux dl) : some 260 = some (chk op fl n aux dl) := by unfold chk; rw [if_pos h]
theorem chk_ok {op fl n aux dl : Int} (h : ¬ BadE op fl n aux dl) : some 0 = some (chk op fl n aux dl) := by unfold chk; rw [if_neg h]

theorem and8 : ∀ n : Nat, n < 256 → ((Go.bits .and .u8 (n : Int) 8 = 0) ↔ (n : Int) / 8 % 2 = 0) := by decide +kernel
theorem and3 : ∀ n : Nat, n < 256 → ((Go.bits .and .u8 (n : Int) 3 = 3) ↔ ((n : Int) % 2 = 1 ∧ (n : Int) / 2 % 2 = 1)) := by decide +kernel
theorem not0 : ∀ n : Nat, n < 32 → ((Go.bits .andNot .u8 (n : Int) (Go.bits .or .u8 3 0) != 0) = decide ((n : Int) / 4 % 2 = 1 ∨ (n : Int) / 8 % 2 = 1 ∨ (n : Int) / 16 % 2 = 1)) := by decide +kernel
theorem not4 : ∀ n : Nat, n < 32 → ((Go.bits .andNot .u8 (n : Int) (Go.bits .or .u8 3 4) != 0) = decide ((n : Int) / 8 % 2 = 1 ∨ (n : Int) / 16 % 2 = 1)) := by decide +kernel
theorem not12 : ∀ n : Nat, n < 32 → ((Go.bits .andNot .u8 (n : Int) (Go.bits .or .u8 3 12) != 0) = decide ((n : Int) / 16 % 2 = 1)) := by decide +kernel
theorem not16 : ∀ n : Nat, n < 32 → ((Go.bits .andNot .u8 (n : Int) (Go.bits .or .u8 3 16) != 0) = decide ((n : Int) / 4 % 2 = 1 ∨ (n : Int) / 8 % 2 = 1)) := by decide +kernel

theorem check_j1 (k : Nat) (b : Bool) (op fl fd ad po n gr ct aux us : Int) (d : List Int) (B : Prop) (hb : b = true ↔ B)
    (h : B ∨ (op = 6 ∧ (d.length : Int) > 65536) ∨ (op ≠ 6 ∧ (d.length : Int) > 0) ↔ BadE op fl n aux d.length) : entry_Check.j1 (k + 1) b op fl fd ad po n gr ct aux us d = some (chk op fl n aux d.length) := by
  simp only [entry_Check.j1]
  by_cases h6 : op = 6
  · rw [if_pos h6]
    by_cases hB : b = true
    · rw [if_pos hB]; exact chk_bad (h.1 (.inl (hb.1 hB)))
    · rw [if_neg hB]
      by_cases hd : (d.length : Int) > 65536
      · rw [if_pos hd]; exact chk_bad (h.1 (.inr (.inl ⟨h6, hd⟩)))
      · rw [if_neg hd]; exact chk_ok (fun x => by rcases h.2 x with y | y | y; exact hB (hb.2 y); exact hd y.2; exact y.1 h6)
  · rw [if_neg h6]
    by_cases hB : b = true
    · rw [if_pos hB]; exact chk_bad (h.1 (.inl (hb.1 hB)))
    · rw [if_neg hB]
      by_cases hd : (d.length : Int) > 0
      · rw [if_pos hd]; exact chk_bad (h.1 (.inr (.inr ⟨h6, hd⟩)))
      · rw [if_neg hd]; exact chk_ok (fun x => by rcases h.2 x with y | y | y; exact hB (hb.2 y); exact h6 y.1; exact hd y.2)

/-- What the op, the flags and the length alone forbid. -/
def FlE (op fl : Int) : Prop := op ≥ 14 ∨ fl > 31 ∨ (fl % 2 = 1 ∧ fl / 2 % 2 = 1) ∨ (fl / 4 % 2 = 1 ∧ op ≠ 5 ∧ op ≠ 7) ∨ (fl / 8 % 2 = 1 ∧ op ≠ 7) ∨ (fl / 16 % 2 = 1 ∧ op ≠ 12)
set_option maxHeartbeats 2000000 in
theorem check_j0 (k : Nat) (b : Bool) (op fl fd ad po n gr ct aux us : Int) (d : List Int) (hf : 0 ≤ fl ∧ fl ≤ 255) (hb : b = true ↔ FlE op fl) :
    entry_Check.j0 (k + 2) b op fl fd ad po n gr ct aux us d = some (chk op fl n aux d.length) := by
  have e8 : (Go.bits .and .u8 fl 8 = 0) ↔ fl / 8 % 2 = 0 := by
    have := and8 fl.toNat (by omega)
    rwa [Int.toNat_of_nonneg hf.1] at this
  simp only [entry_Check.j0]
  have hbf : b = false ↔ ¬ FlE op fl := by rw [← hb]; simp
  by_cases h7 : op = 7
  · rw [if_pos h7]
    by_cases h8 : fl / 8 % 2 = 0
    · rw [if_pos (e8.2 h8)]
      by_cases hB : b = true
      · rw [if_pos hB]; exact check_j1 k _ _ _ _ _ _ _ _ _ _ _ _ (FlE op fl) (by simp [hb.1 hB]) (by have := hb.1 hB; unfold BadE; unfold FlE at *; omega)
      · rw [if_neg hB]
        by_cases h1 : n < 1
        · rw [if_pos h1]; exact check_j1 k _ _ _ _ _ _ _ _ _ _ _ _ True (by simp) ⟨fun _ => by unfold BadE; omega, fun _ => .inl trivial⟩
        · rw [if_neg h1]; exact check_j1 k _ _ _ _ _ _ _ _ _ _ _ _ (n > 65536) (by simp) (by have hBn : ¬ FlE op fl := fun x => hB (hb.2 x); unfold BadE; unfold FlE at *; constructor <;> intro x <;> omega)
    · rw [if_neg (fun x => h8 (e8.1 x))]
      by_cases hB : b = true
      · rw [if_pos hB]; exact check_j1 k _ _ _ _ _ _ _ _ _ _ _ _ (FlE op fl) (by simp [hb.1 hB]) (by have := hb.1 hB; unfold BadE; unfold FlE at *; omega)
      · rw [if_neg hB]
        by_cases h1 : n < 0
        · rw [if_pos h1]; exact check_j1 k _ _ _ _ _ _ _ _ _ _ _ _ True (by simp) ⟨fun _ => by unfold BadE; omega, fun _ => .inl trivial⟩
        · rw [if_neg h1]; exact check_j1 k _ _ _ _ _ _ _ _ _ _ _ _ (n > 65536) (by simp) (by have hBn : ¬ FlE op fl := fun x => hB (hb.2 x); unfold BadE; unfold FlE at *; constructor <;> intro x <;> omega)
  · rw [if_neg h7]
    have fin : (op = 10 ∨ op = 11) → (if b = true then entry_Check.j1 (k + 1) true op fl fd ad po n gr ct aux us d else entry_Check.j1 (k + 1) (decide (aux > 1073741824)) op fl fd ad po n gr ct aux us d) = some (chk op fl n aux d.length) := by
      intro ho
      by_cases hB : b = true
      · rw [if_pos hB]; exact check_j1 k _ _ _ _ _ _ _ _ _ _ _ _ (FlE op fl) (by simp [hb.1 hB]) (by have := hb.1 hB; unfold BadE; unfold FlE at *; omega)
      · rw [if_neg hB]; exact check_j1 k _ _ _ _ _ _ _ _ _ _ _ _ (aux > 1073741824) (by simp) (by have hBn : ¬ FlE op fl := fun x => hB (hb.2 x); unfold BadE; unfold FlE at *; constructor <;> intro x <;> omega)
    by_cases h10 : op = 10
    · rw [if_pos h10]; exact fin (.inl h10)
    · rw [if_neg h10]
      by_cases h11 : op = 11
      · rw [if_pos h11]; exact fin (.inr h11)
      · rw [if_neg h11]; exact check_j1 k _ _ _ _ _ _ _ _ _ _ _ _ (FlE op fl) hb (by unfold BadE FlE; omega)
set_option maxHeartbeats 2000000 in
theorem check_f (k : Nat) (op fl fd ad po n gr ct aux us : Int) (d : List Int) (ho : 0 ≤ op ∧ op ≤ 255) (hf : 0 ≤ fl ∧ fl ≤ 255) : entry_Check.f (k + 2) op fl fd ad po n gr ct aux us d = some (chk op fl n aux d.length) := by
  unfold entry_Check.f
  have e3 := and3 fl.toNat (by omega)
  rw [Int.toNat_of_nonneg hf.1] at e3
  by_cases h14 : op ≥ 14
  · rw [if_pos h14]; exact check_j0 k _ _ _ _ _ _ _ _ _ _ _ _ hf (by simp [FlE, h14])
  rw [if_neg h14]
  by_cases h31 : fl > 31
  · rw [if_pos h31]; exact check_j0 k _ _ _ _ _ _ _ _ _ _ _ _ hf (by simp [FlE, h31])
  rw [if_neg h31]
  by_cases h3 : fl % 2 = 1 ∧ fl / 2 % 2 = 1
  · rw [if_pos (e3.2 h3)]; exact check_j0 k _ _ _ _ _ _ _ _ _ _ _ _ hf (by simp [FlE, h3])
  rw [if_neg (fun x => h3 (e3.1 x))]
  unfold entry_allowed.f
  have hn : fl.toNat < 32 := by omega
  have q0 := not0 fl.toNat hn
  have q4 := not4 fl.toNat hn
  have q12 := not12 fl.toNat hn
  have q16 := not16 fl.toNat hn
  rw [Int.toNat_of_nonneg hf.1] at q0 q4 q12 q16
  by_cases h5 : op = 5
  · rw [if_pos h5, Option.bind_some, q4]; exact check_j0 k _ _ _ _ _ _ _ _ _ _ _ _ hf (by rw [decide_eq_true_iff]; unfold FlE; omega)
  rw [if_neg h5]
  by_cases h7 : op = 7
  · rw [if_pos h7, Option.bind_some, q12]; exact check_j0 k _ _ _ _ _ _ _ _ _ _ _ _ hf (by rw [decide_eq_true_iff]; unfold FlE; omega)
  rw [if_neg h7]
  by_cases h12 : op = 12
  · rw [if_pos h12, Option.bind_some, q16]; exact check_j0 k _ _ _ _ _ _ _ _ _ _ _ _ hf (by rw [decide_eq_true_iff]; unfold FlE; omega)
  rw [if_neg h12, Option.bind_some, q0]; exact check_j0 k _ _ _ _ _ _ _ _ _ _ _ _ hf (by rw [decide_eq_true_iff]; unfold FlE; omega)

theorem ref_j3 (k : Nat) (b : Bool) (op fl fd ad po n gr ct aux us : Int) (d : List Int) (B : Prop) (hb : b = true ↔ B)
    (h : B ∨ ((op = 10 ∨ op = 11) ∧ aux > 1073741824) ↔ BadE op fl n aux d.length) : towroperef26_Check.j3 (k + 1) b op fl fd ad po n gr ct aux us d = some (chk op fl n aux d.length) := by
  simp only [towroperef26_Check.j3]
  by_cases hB : b = true
  · rw [if_pos hB]; exact chk_bad (h.1 (.inl (hb.1 hB)))
  have hB' := fun x => hB (hb.2 x)
  rw [if_neg hB]
  by_cases h10 : op = 10
  · rw [if_pos h10]
    by_cases ha : aux > 1073741824
    · rw [if_pos ha]; exact chk_bad (h.1 (.inr ⟨.inl h10, ha⟩))
    · rw [if_neg ha]; exact chk_ok (fun x => by rcases h.2 x with y | y; exact hB' y; exact ha y.2)
  rw [if_neg h10]
  by_cases h11 : op = 11
  · rw [if_pos h11]
    by_cases ha : aux > 1073741824
    · rw [if_pos ha]; exact chk_bad (h.1 (.inr ⟨.inr h11, ha⟩))
    · rw [if_neg ha]; exact chk_ok (fun x => by rcases h.2 x with y | y; exact hB' y; exact ha y.2)
  rw [if_neg h11]; exact chk_ok (fun x => by rcases h.2 x with y | y; exact hB' y; omega)
theorem ref_j2 (k : Nat) (b : Bool) (op fl fd ad po n gr ct aux us : Int) (d : List Int) (B : Prop) (hb : b = true ↔ B)
    (h : B ∨ (op = 6 ∧ (d.length : Int) > 65536) ∨ (op ≠ 6 ∧ (d.length : Int) > 0) ∨ ((op = 10 ∨ op = 11) ∧ aux > 1073741824) ↔ BadE op fl n aux d.length) : towroperef26_Check.j2 (k + 2) b op fl fd ad po n gr ct aux us d = some (chk op fl n aux d.length) := by
  simp only [towroperef26_Check.j2]
  by_cases hB : b = true
  · rw [if_pos hB]; exact chk_bad (h.1 (.inl (hb.1 hB)))
  have hB' := fun x => hB (hb.2 x)
  rw [if_neg hB]
  by_cases h6 : op = 6
  · rw [if_pos h6]
    by_cases hd : (d.length : Int) > 65536
    · rw [if_pos hd]; exact ref_j3 k _ _ _ _ _ _ _ _ _ _ _ _ True (by simp) ⟨fun _ => h.1 (.inr (.inl ⟨h6, hd⟩)), fun _ => .inl trivial⟩
    · rw [if_neg hd]; exact ref_j3 k _ _ _ _ _ _ _ _ _ _ _ _ False (by simp) ⟨fun x => h.1 (.inr (.inr (.inr (x.resolve_left id)))), fun x => by rcases h.2 x with y | y | y | y; exact absurd y hB'; exact absurd y.2 hd; exact absurd h6 y.1; exact .inr y⟩
  rw [if_neg h6]
  exact ref_j3 k _ _ _ _ _ _ _ _ _ _ _ _ ((d.length : Int) > 0) (by simp) ⟨fun x => h.1 (by rcases x with y | y; exact .inr (.inr (.inl ⟨h6, y⟩)); exact .inr (.inr (.inr y))), fun x => by rcases h.2 x with y | y | y | y; exact absurd y hB'; exact absurd y.1 h6; exact .inl y.2; exact .inr y⟩
theorem ref_j1 (k : Nat) (s b : Bool) (op fl fd ad po n gr ct aux us : Int) (d : List Int) (B : Prop) (hs : s = true ↔ fl / 8 % 2 = 1) (hb : b = true ↔ B)
    (h : B ∨ (op = 7 ∧ (n < 0 ∨ n > 65536 ∨ (n = 0 ∧ fl / 8 % 2 = 0))) ∨ (op = 6 ∧ (d.length : Int) > 65536) ∨ (op ≠ 6 ∧ (d.length : Int) > 0) ∨ ((op = 10 ∨ op = 11) ∧ aux > 1073741824) ↔ BadE op fl n aux d.length) : towroperef26_Check.j1 (k + 3) s b op fl fd ad po n gr ct aux us d = some (chk op fl n aux d.length) := by
  simp only [towroperef26_Check.j1]
  by_cases hB : b = true
  · rw [if_pos hB]; exact chk_bad (h.1 (.inl (hb.1 hB)))
  have hB' := fun x => hB (hb.2 x)
  have h' := h
  rw [show (B ∨ (op = 7 ∧ (n < 0 ∨ n > 65536 ∨ (n = 0 ∧ fl / 8 % 2 = 0))) ∨ (op = 6 ∧ (d.length : Int) > 65536) ∨ (op ≠ 6 ∧ (d.length : Int) > 0) ∨ ((op = 10 ∨ op = 11) ∧ aux > 1073741824)) ↔ ((op = 7 ∧ (n < 0 ∨ n > 65536 ∨ (n = 0 ∧ fl / 8 % 2 = 0))) ∨ (op = 6 ∧ (d.length : Int) > 65536) ∨ (op ≠ 6 ∧ (d.length : Int) > 0) ∨ ((op = 10 ∨ op = 11) ∧ aux > 1073741824)) from ⟨fun x => x.resolve_left hB', .inr⟩] at h'
  rw [if_neg hB]
  by_cases h7 : op = 7
  · rw [if_pos h7]
    by_cases h0 : n < 0
    · rw [if_pos h0]; exact ref_j2 k _ _ _ _ _ _ _ _ _ _ _ _ True (by simp) ⟨fun _ => h'.1 (.inl ⟨h7, .inl h0⟩), fun _ => .inl trivial⟩
    rw [if_neg h0]
    by_cases h6 : n > 65536
    · rw [if_pos h6]; exact ref_j2 k _ _ _ _ _ _ _ _ _ _ _ _ True (by simp) ⟨fun _ => h'.1 (.inl ⟨h7, .inr (.inl h6)⟩), fun _ => .inl trivial⟩
    rw [if_neg h6]
    by_cases hn : n = 0
    · rw [if_pos hn]; exact ref_j2 k _ _ _ _ _ _ _ _ _ _ _ _ (fl / 8 % 2 = 0) (by rw [Bool.not_eq_true', ← Bool.not_eq_true, hs]; omega) (by rw [← h']; exact ⟨fun x => by rcases x with x | x; exact .inl ⟨h7, .inr (.inr ⟨hn, x⟩)⟩; exact .inr x, fun x => by rcases x with x | x; exact .inl (by omega); exact .inr x⟩)
    rw [if_neg hn]; exact ref_j2 k _ _ _ _ _ _ _ _ _ _ _ _ False (by simp) (by rw [← h']; constructor <;> (intro x; first | omega | (rcases x with x | x <;> first | exact x.elim | omega)))
  rw [if_neg h7]; exact ref_j2 k _ _ _ _ _ _ _ _ _ _ _ _ False (by simp) (by rw [← h']; constructor <;> (intro x; first | omega | (rcases x with x | x <;> first | exact x.elim | omega)))
theorem ref_j0 (k : Nat) (m s f b : Bool) (op fl fd ad po n gr ct aux us : Int) (d : List Int) (B : Prop) (hm : m = true ↔ fl / 4 % 2 = 1) (hs : s = true ↔ fl / 8 % 2 = 1) (hf : f = true ↔ fl / 16 % 2 = 1) (hb : b = true ↔ B)
    (hB : B ↔ op ≥ 14 ∨ fl > 31 ∨ (fl % 2 = 1 ∧ fl / 2 % 2 = 1)) : towroperef26_Check.j0 (k + 4) m s f b op fl fd ad po n gr ct aux us d = some (chk op fl n aux d.length) := by
  simp only [towroperef26_Check.j0]
  by_cases hbb : b = true
  · rw [if_pos hbb]; exact chk_bad (by have := hB.1 (hb.1 hbb); unfold BadE; omega)
  have hB' : ¬ (op ≥ 14 ∨ fl > 31 ∨ (fl % 2 = 1 ∧ fl / 2 % 2 = 1)) := fun x => hbb (hb.2 (hB.2 x))
  rw [if_neg hbb]
  have fin : ∀ c : Bool, (c = true ↔ (fl / 4 % 2 = 1 ∧ op ≠ 5 ∧ op ≠ 7) ∨ (fl / 8 % 2 = 1 ∧ op ≠ 7) ∨ (fl / 16 % 2 = 1 ∧ op ≠ 12)) → towroperef26_Check.j1 (k + 3) s c op fl fd ad po n gr ct aux us d = some (chk op fl n aux d.length) := fun c hc =>
    ref_j1 k s c _ _ _ _ _ _ _ _ _ _ _ _ hs hc (by unfold BadE; omega)
  have hm' : m = false ↔ ¬ fl / 4 % 2 = 1 := by rw [← hm]; simp
  have hs' : s = false ↔ ¬ fl / 8 % 2 = 1 := by rw [← hs]; simp
  have hf' : f = false ↔ ¬ fl / 16 % 2 = 1 := by rw [← hf]; simp
  cases m <;> cases s <;> cases f <;> simp only [if_true, if_false, Bool.false_eq_true, true_iff, false_iff, iff_true, iff_false] at hm hs hf hm' hs' hf' ⊢ <;> (repeat' split) <;> refine fin _ ?_ <;> simp <;> omega
theorem ref_f (k : Nat) (op fl fd ad po n gr ct aux us : Int) (d : List Int) (ho : 0 ≤ op ∧ op ≤ 255) (hf : 0 ≤ fl ∧ fl ≤ 255) : towroperef26_Check.f (k + 4) op fl fd ad po n gr ct aux us d = some (chk op fl n aux d.length) := by
  have w : ∀ x : Int, 0 ≤ x → x ≤ 255 → wrap64 x = x := fun x h0 h1 => by unfold wrap64; omega
  have t : ∀ c : Int, c = 2 ∨ c = 4 ∨ c = 8 ∨ c = 16 → wrap64 (Int.tdiv (wrap64 fl) c) = fl / c := fun c hc => by
    rw [w fl hf.1 hf.2, Int.tdiv_eq_ediv_of_nonneg hf.1, w _ (by rcases hc with rfl | rfl | rfl | rfl <;> omega) (by rcases hc with rfl | rfl | rfl | rfl <;> omega)]
  have tm : ∀ x : Int, 0 ≤ x → Int.tmod x 2 = x % 2 := fun x h => Int.tmod_eq_emod_of_nonneg h
  unfold towroperef26_Check.f
  rw [t 2 (by omega), t 4 (by omega), t 8 (by omega), t 16 (by omega), w fl hf.1 hf.2, tm _ hf.1, tm _ (by omega), tm _ (by omega), tm _ (by omega), tm _ (by omega)]
  have hq : ∀ x : Int, ((x == 1) = true) ↔ x = 1 := fun x => by simp
  by_cases h1 : op > 13
  · rw [if_pos h1]; exact ref_j0 k _ _ _ _ _ _ _ _ _ _ _ _ _ _ _ True (hq _) (hq _) (hq _) (by simp) (by simp; omega)
  rw [if_neg h1]
  by_cases h2 : fl > 31
  · rw [if_pos h2]; exact ref_j0 k _ _ _ _ _ _ _ _ _ _ _ _ _ _ _ True (hq _) (hq _) (hq _) (by simp) (by simp; omega)
  rw [if_neg h2]
  by_cases h3 : fl % 2 = 1
  · rw [if_pos h3]; exact ref_j0 k _ _ _ _ _ _ _ _ _ _ _ _ _ _ _ (fl / 2 % 2 = 1) (hq _) (hq _) (hq _) (hq _) (by omega)
  rw [if_neg h3]; exact ref_j0 k _ _ _ _ _ _ _ _ _ _ _ _ _ _ _ False (hq _) (hq _) (hq _) (by simp) (by simp; omega)
end Go.Proofs.Ytilkbmjkjlbfmaa.PEnt
