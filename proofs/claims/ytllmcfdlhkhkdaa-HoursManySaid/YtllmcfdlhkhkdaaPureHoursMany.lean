/- The statement HoursMany as the print reckons it: with enough rounds the printed law answers true at every u16, u8, u8; no condition beside the kinds' ranges. -/
import Derived.Test.YtllmcfdlhkhkdaaPHoursManyx1
namespace Go.Proofs.Ytllmcfdlhkhkdaa.Pure
open Go.RowKit Go.Proofs.Ytllmcfdlhkhkdaa.PHoursMany Go.Proofs.YtllmcfdlhkhkdaaW.PrintWords Go.Proofs.YtllmcfdlhkhkdaaW.PrintLast

/-- Open at an hour of the day. -/
def Op (h f t : Int) : Bool := decide (f = t ∨ (f < t ∧ f ≤ h ∧ h < t) ∨ (t < f ∧ (f ≤ h ∨ h < t)))

theorem open_eq (h f t : Int) : hours_open.f h f t = some (Op h f t) := by
  unfold hours_open.f Op
  by_cases h1 : f = t
  · rw [if_pos h1]; simp [h1]
  · rw [if_neg h1]
    by_cases h2 : f < t
    · rw [if_pos h2]
      by_cases h3 : h ≥ f
      · rw [if_pos h3]; congr 1; rw [decide_eq_decide]; omega
      · rw [if_neg h3]; congr 1; symm; rw [decide_eq_false_iff_not]; omega
    · rw [if_neg h2]
      by_cases h3 : h ≥ f
      · rw [if_pos h3]; congr 1; symm; rw [decide_eq_true_eq]; omega
      · rw [if_neg h3]; congr 1; rw [decide_eq_decide]; omega

theorem may_eq (n f t : Int) (h0 : 0 ≤ n) (h1 : n ≤ 4503599627370496) (f0 : 0 ≤ f) (f1 : f ≤ 24) (t0 : 0 ≤ t) (t1 : t ≤ 24) : hours_may.f n f t = some true := by
  unfold hours_may.f mn mx
  rw [if_pos (by omega), if_pos h1, if_pos (by split <;> omega)]
  congr 1; rw [decide_eq_true_eq]; split <;> omega

theorem Open_eq (n f t : Int) (h0 : 0 ≤ n) (h1 : n ≤ 4503599627370496) (f0 : 0 ≤ f) (f1 : f ≤ 24) (t0 : 0 ≤ t) (t1 : t ≤ 24) : hours_Open.f n f t = some (Op (n % 24) f t) := by
  unfold hours_Open.f
  rw [may_eq n f t h0 h1 f0 f1 t0 t1, open_eq, Int.tmod_eq_emod_of_nonneg h0]; rfl

theorem awake_eq (k : Nat) (hk : 30 ≤ k) : brooklaw22_awake.f k = some true :=
  at_rounds (g := fun k => brooklaw22_awake.f k) brooklaw22_awake.mono hk (by decide +kernel)

/-- How many hours from the i-th on, of d. -/
def cnt (n f t : Int) : Nat → Int → Int
  | 0, _ => 0
  | d + 1, i => (if Op ((n + i) % 24) f t = true then 1 else 0) + cnt n f t d (i + 1)

theorem cnt_bd (n f t : Int) (d : Nat) : ∀ i, 0 ≤ cnt n f t d i ∧ cnt n f t d i ≤ d := by
  induction d with
  | zero => intro i; simp [cnt]
  | succ d ih => intro i; have := ih (i + 1); simp only [cnt]; split <;> omega

theorem cnt_last (n f t : Int) (d : Nat) : ∀ i, cnt n f t (d + 1) i = cnt n f t d i + (if Op ((n + i + d) % 24) f t = true then 1 else 0) := by
  induction d with
  | zero => intro i; simp [cnt]
  | succ d ih =>
    intro i
    rw [cnt, ih (i + 1)]
    simp only [cnt]
    rw [show n + (i + 1) + (d : Int) = n + i + ((d + 1 : Nat) : Int) from by omega]
    omega

theorem cnt_shift (n f t : Int) (d : Nat) : ∀ i, cnt (n + 1) f t d i = cnt n f t d (i + 1) := by
  induction d with
  | zero => intro i; rfl
  | succ d ih => intro i; simp only [cnt]; rw [ih, show n + 1 + i = n + (i + 1) from by omega]

theorem cnt_turn (n f t : Int) : cnt (n + 1) f t 24 0 = cnt n f t 24 0 := by
  rw [cnt_shift]
  have a := cnt_last n f t 23 1
  have b : cnt n f t 24 0 = (if Op ((n + 0) % 24) f t = true then 1 else 0) + cnt n f t 23 1 := rfl
  have e : (n + 1 + ((23 : Nat) : Int)) % 24 = (n + 0) % 24 := by omega
  rw [e] at a
  have g : cnt n f t 24 (0 + 1) = cnt n f t (23 + 1) 1 := rfl
  omega

theorem cnt_any (f t : Int) (n : Nat) : cnt n f t 24 0 = cnt 0 f t 24 0 := by
  induction n with
  | zero => rfl
  | succ n ih => rw [← ih]; exact cnt_turn n f t

def want (f t : Int) : Int := if f = t then 24 else (t - f + 24) % 24

theorem all_want : ∀ f : Fin 24, ∀ t : Fin 24, cnt 0 ((f.val : Nat) : Int) ((t.val : Nat) : Int) 24 0 = want ((f.val : Nat) : Int) ((t.val : Nat) : Int) := by decide +kernel

theorem cnt_want (n f t : Int) (hn : 0 ≤ n) (f0 : 0 ≤ f) (f1 : f < 24) (t0 : 0 ≤ t) (t1 : t < 24) : cnt n f t 24 0 = want f t := by
  obtain ⟨m, rfl⟩ := Int.eq_ofNat_of_zero_le hn
  obtain ⟨a, rfl⟩ := Int.eq_ofNat_of_zero_le f0
  obtain ⟨b, rfl⟩ := Int.eq_ofNat_of_zero_le t0
  rw [cnt_any]
  exact all_want ⟨a, by omega⟩ ⟨b, by omega⟩

theorem j1_eq (n f t c : Int) (hn : 0 ≤ n) (hn2 : n ≤ 65535) (f0 : 0 ≤ f) (f1 : f < 24) (t0 : 0 ≤ t) (t1 : t < 24) (k : Nat) (hk : 31 < k) : brooklaw22_HoursMany.j1 k n f t c c = some true := by
  obtain ⟨k, rfl⟩ : ∃ m, k = m + 1 := ⟨k - 1, by omega⟩
  have e0 : wrap64 n = n := by unfold wrap64; omega
  simp only [brooklaw22_HoursMany.j1]
  have a1 : hours_Open.f (-1) f t = some false := by unfold hours_Open.f hours_may.f; simp
  have a2 : hours_Open.f n 25 t = some false := by
    unfold hours_Open.f hours_may.f mn mx
    rw [if_pos (by omega), if_pos (by omega), if_pos (by split <;> omega)]
    rw [show decide ((if 25 < t then t else 25) ≤ 24) = false from by rw [decide_eq_false_iff_not]; split <;> omega]
    rfl
  have a3 : hours_Open.f n f (-1) = some false := by
    unfold hours_Open.f hours_may.f mn mx
    rw [if_pos (by omega), if_pos (by omega), if_neg (by split <;> omega)]
    rfl
  rw [e0, a1, a2, a3, awake_eq k (by omega)]
  simp

theorem law_l (n f t : Int) (hn : 0 ≤ n) (hn2 : n ≤ 65535) (f0 : 0 ≤ f) (f1 : f < 24) (t0 : 0 ≤ t) (t1 : t < 24) (d : Nat) :
    ∀ (k : Nat) (i c : Int), 0 ≤ i → i ≤ 24 → 24 - i = d → d + 40 < k → 0 ≤ c → c ≤ i → c + cnt n f t d i = want f t →
    brooklaw22_HoursMany.l0 k n f t c i = some true := by
  induction d with
  | zero =>
    intro k i c h0 h1 hd hk hc0 hc1 hc
    obtain ⟨k, rfl⟩ : ∃ m, k = m + 1 := ⟨k - 1, by omega⟩
    have hc : c = want f t := by simpa [cnt] using hc
    simp only [brooklaw22_HoursMany.l0]
    rw [if_neg (by omega)]
    have e1 : wrap64 (t - f) = t - f := by unfold wrap64; omega
    have e2 : wrap64 (t - f + 24) = t - f + 24 := by unfold wrap64; omega
    have e3 : Int.tmod (t - f + 24) 24 = (t - f + 24) % 24 := Int.tmod_eq_emod_of_nonneg (by omega)
    rw [e1, e2, e3, hc]
    have g := j1_eq n f t (want f t) hn hn2 f0 f1 t0 t1 k (by omega)
    unfold want at g ⊢
    by_cases e : f = t
    · simp only [if_pos e] at g ⊢; exact g
    · simp only [if_neg e] at g ⊢; exact g
  | succ d ih =>
    intro k i c h0 h1 hd hk hc0 hc1 hc
    obtain ⟨k, rfl⟩ : ∃ m, k = m + 1 := ⟨k - 1, by omega⟩
    have e0 : wrap64 n = n := by unfold wrap64; omega
    have e1 : wrap64 (n + i) = n + i := by unfold wrap64; omega
    have e2 : wrap64 (i + 1) = i + 1 := by unfold wrap64; omega
    have e3 : wrap64 (c + 1) = c + 1 := by unfold wrap64; omega
    simp only [brooklaw22_HoursMany.l0]
    rw [if_pos (by omega), e0, e1, e2, e3, Open_eq (n + i) f t (by omega) (by omega) f0 (by omega) t0 (by omega)]
    simp only [Option.bind_some]
    simp only [cnt] at hc
    cases hb : Op ((n + i) % 24) f t with
    | true =>
      rw [hb] at hc
      simp only [if_true] at hc ⊢
      exact ih k (i + 1) (c + 1) (by omega) (by omega) (by omega) (by omega) (by omega) (by omega) (by omega)
    | false =>
      rw [hb] at hc
      simp only [Bool.false_eq_true, if_false] at hc ⊢
      exact ih k (i + 1) c (by omega) (by omega) (by omega) (by omega) (by omega) (by omega) (by omega)

theorem HoursMany : brooklaw22_HoursMany.Pure := by
  intro a0 a1 a2 b0 b1 b2
  have hb0 : 0 ≤ a0 ∧ a0 < 65536 := by have := b0; simp [Lit.wf, IntKind.min, IntKind.max, IntKind.bits, IntKind.signed] at this; omega
  have hb1 : 0 ≤ a1 ∧ a1 < 256 := by have := b1; simp [Lit.wf, IntKind.min, IntKind.max, IntKind.bits, IntKind.signed] at this; omega
  have hb2 : 0 ≤ a2 ∧ a2 < 256 := by have := b2; simp [Lit.wf, IntKind.min, IntKind.max, IntKind.bits, IntKind.signed] at this; omega
  refine ⟨100, ?_⟩
  have e1 : wrap64 a1 = a1 := by unfold wrap64; omega
  have e2 : wrap64 a2 = a2 := by unfold wrap64; omega
  have t1 : Int.tmod a1 24 = a1 % 24 := Int.tmod_eq_emod_of_nonneg (by omega)
  have t2 : Int.tmod a2 24 = a2 % 24 := Int.tmod_eq_emod_of_nonneg (by omega)
  unfold brooklaw22_HoursMany.f
  rw [e1, e2, t1, t2]
  exact law_l a0 (a1 % 24) (a2 % 24) (by omega) (by omega) (by omega) (by omega) (by omega) (by omega) 24 100 0 0 (by omega) (by omega) (by omega) (by omega) (by omega) (by omega) (by
    rw [cnt_want a0 (a1 % 24) (a2 % 24) (by omega) (by omega) (by omega) (by omega) (by omega)]; omega)

end Go.Proofs.Ytllmcfdlhkhkdaa.Pure
