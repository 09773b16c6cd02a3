/- The statement HoursDays as the print reckons it: with enough rounds the printed law answers true at every u32, u8, u8, u8; no condition beside the kinds' ranges. -/
import Derived.Test.YtllmcfdlhkhkdaaPHoursDaysx1
namespace Go.Proofs.Ytllmcfdlhkhkdaa.Pure
open Go.RowKit Go.Proofs.Ytllmcfdlhkhkdaa.PHoursDays Go.Proofs.YtllmcfdlhkhkdaaW.PrintWords Go.Proofs.YtllmcfdlhkhkdaaW.PrintLast

/-- Open at an hour of the day. -/
def Op (h f t : Int) : Bool := decide (f = t ∨ (f < t ∧ f ≤ h ∧ h < t) ∨ (t < f ∧ (f ≤ h ∨ h < t)))

theorem open_eq (h f t : Int) : hours_open.f h f t = some (Op h f t) := by
  unfold hours_open.f Op
  by_cases h1 : f = t
  · rw [if_pos h1]; simp [h1]
  · rw [if_neg h1]
    by_cases h2 : f < t
    · rw [if_pos h2]
      by_cases h3 : h ≥ f
      · rw [if_pos h3]; congr 1; rw [decide_eq_decide]; omega
      · rw [if_neg h3]; congr 1; symm; rw [decide_eq_false_iff_not]; omega
    · rw [if_neg h2]
      by_cases h3 : h ≥ f
      · rw [if_pos h3]; congr 1; symm; rw [decide_eq_true_eq]; omega
      · rw [if_neg h3]; congr 1; rw [decide_eq_decide]; omega

theorem may_eq (n f t : Int) (h0 : 0 ≤ n) (h1 : n ≤ 4503599627370496) (f0 : 0 ≤ f) (f1 : f ≤ 24) (t0 : 0 ≤ t) (t1 : t ≤ 24) : hours_may.f n f t = some true := by
  unfold hours_may.f mn mx
  rw [if_pos (by omega), if_pos h1, if_pos (by split <;> omega)]
  congr 1; rw [decide_eq_true_eq]; split <;> omega

theorem Open_eq (n f t : Int) (h0 : 0 ≤ n) (h1 : n ≤ 4503599627370496) (f0 : 0 ≤ f) (f1 : f ≤ 24) (t0 : 0 ≤ t) (t1 : t ≤ 24) : hours_Open.f n f t = some (Op (n % 24) f t) := by
  unfold hours_Open.f
  rw [may_eq n f t h0 h1 f0 f1 t0 t1, open_eq, Int.tmod_eq_emod_of_nonneg h0]; rfl

/-- What a wait is: closed ahead of it, open then, or never open. -/
def Spec (n f t w : Int) : Prop := 0 ≤ w ∧ w ≤ 23 ∧ (∀ j, 0 ≤ j → j < w → Op ((n + j) % 24) f t = false) ∧
  (Op ((n + w) % 24) f t = true ∨ w = 0 ∧ ∀ j, 0 ≤ j → j < 24 → Op ((n + j) % 24) f t = false)

theorem Spec.unique {n n' f t w w' : Int} (h : Spec n f t w) (h' : Spec n' f t w') (e : ∀ j, (n + j) % 24 = (n' + j) % 24) : w = w' := by
  obtain ⟨a0, a1, a2, a3⟩ := h
  obtain ⟨b0, b1, b2, b3⟩ := h'
  by_cases c : w < w'
  · have x := b2 w a0 c
    rw [← e] at x
    rcases a3 with a3 | ⟨a3, a4⟩
    · rw [x] at a3; cases a3
    · rcases b3 with b3 | ⟨b3, _⟩
      · have y := a4 w' b0 (by omega)
        rw [e, b3] at y; cases y
      · omega
  · by_cases c' : w' < w
    · have x := a2 w' b0 c'
      rw [e] at x
      rcases b3 with b3 | ⟨b3, b4⟩
      · rw [x] at b3; cases b3
      · rcases a3 with a3 | ⟨a3, _⟩
        · have y := b4 w a0 (by omega)
          rw [← e, a3] at y; cases y
        · omega
    · omega

theorem wait_l (n f t : Int) (hn : 0 ≤ n) (hn2 : n ≤ 4503599627370496) (d : Nat) : ∀ (k : Nat) (i : Int), 0 ≤ i → i ≤ 24 → 24 - i = d → d < k →
    (∀ j, 0 ≤ j → j < i → Op ((n + j) % 24) f t = false) → ∃ w, hours_Wait.l0 k n f t i = some w ∧ Spec n f t w := by
  induction d with
  | zero =>
    intro k i h0 h1 hd hk hp
    obtain ⟨k, rfl⟩ : ∃ m, k = m + 1 := ⟨k - 1, by omega⟩
    have hi : i = 24 := by omega
    subst hi
    refine ⟨0, by simp only [hours_Wait.l0]; rw [if_neg (by omega)], by omega, by omega, fun j hj hj' => by omega, Or.inr ⟨rfl, fun j hj hj' => hp j hj hj'⟩⟩
  | succ d ih =>
    intro k i h0 h1 hd hk hp
    obtain ⟨k, rfl⟩ : ∃ m, k = m + 1 := ⟨k - 1, by omega⟩
    have e1 : wrap64 (n + i) = n + i := by unfold wrap64; omega
    have e2 : wrap64 (i + 1) = i + 1 := by unfold wrap64; omega
    have e3 : Int.tmod (n + i) 24 = (n + i) % 24 := Int.tmod_eq_emod_of_nonneg (by omega)
    simp only [hours_Wait.l0]
    rw [if_pos (by omega), e1, e2, e3, open_eq]
    simp only [Option.bind_some]
    cases hb : Op ((n + i) % 24) f t with
    | true =>
      refine ⟨i, by simp, h0, by omega, hp, Or.inl hb⟩
    | false =>
      obtain ⟨w, hw, hs⟩ := ih k (i + 1) (by omega) (by omega) (by omega) (by omega) (fun j hj hj' => by
        by_cases c : j < i
        · exact hp j hj c
        · have : j = i := by omega
          subst this; exact hb)
      exact ⟨w, by simpa using hw, hs⟩

theorem Wait_eq (n f t : Int) (h0 : 0 ≤ n) (h1 : n ≤ 4503599627370496) (f0 : 0 ≤ f) (f1 : f ≤ 24) (t0 : 0 ≤ t) (t1 : t ≤ 24) (k : Nat) (hk : 24 < k) : ∃ w, hours_Wait.f k n f t = some w ∧ Spec n f t w := by
  obtain ⟨w, hw, hs⟩ := wait_l n f t h0 h1 24 k 0 (by omega) (by omega) (by omega) hk (fun j hj hj' => by omega)
  refine ⟨w, ?_, hs⟩
  unfold hours_Wait.f
  rw [may_eq n f t h0 h1 f0 f1 t0 t1]
  simpa using hw

theorem awake_eq (k : Nat) (hk : 30 ≤ k) : brooklaw22_awake.f k = some true :=
  at_rounds (g := fun k => brooklaw22_awake.f k) brooklaw22_awake.mono hk (by decide +kernel)

theorem law_l (n f t w : Int) (o : Bool) (hn : 0 ≤ n) (hn2 : n ≤ 4503599627370000) (f0 : 0 ≤ f) (f1 : f ≤ 24) (t0 : 0 ≤ t) (t1 : t ≤ 24) (hs : Spec n f t w) (ho : o = Op (n % 24) f t) (d : Nat) :
    ∀ (k : Nat) (i : Int) (nev : Bool), 0 ≤ i → i ≤ 24 → 24 - i = d → d + 31 < k → (nev = true ↔ ∀ j, 0 ≤ j → j < i → Op ((n + j) % 24) f t = false) →
    brooklaw22_HoursDays.l0 k n f t o w nev i = some true := by
  obtain ⟨w0, w1, w2, w3⟩ := hs
  induction d with
  | zero =>
    intro k i nev h0 h1 hd hk hp
    obtain ⟨k, rfl⟩ : ∃ m, k = m + 1 := ⟨k - 1, by omega⟩
    have hi : i = 24 := by omega
    subst hi
    simp only [brooklaw22_HoursDays.l0]
    rw [if_neg (by omega), awake_eq k (by omega)]
    simp only [Option.bind_some]
    cases ho' : o with
    | true => simp
    | false =>
      by_cases hw : w > 0
      · simp [hw]
      · have hw0 : w = 0 := by omega
        subst hw0
        have : nev = true := by
          rcases w3 with w3 | ⟨_, w3⟩
          · rw [ho'] at ho; rw [Int.add_zero, ← ho] at w3; cases w3
          · exact hp.2 w3
        simp [this]
  | succ d ih =>
    intro k i nev h0 h1 hd hk hp
    obtain ⟨k, rfl⟩ : ∃ m, k = m + 1 := ⟨k - 1, by omega⟩
    have e1 : wrap64 (n + i) = n + i := by unfold wrap64; omega
    have e2 : wrap64 (i + 1) = i + 1 := by unfold wrap64; omega
    simp only [brooklaw22_HoursDays.l0]
    rw [if_pos (by omega), e1, e2, Open_eq (n + i) f t (by omega) (by omega) f0 f1 t0 t1]
    simp only [Option.bind_some]
    have next : ∀ nev' : Bool, (nev' = true ↔ nev = true ∧ Op ((n + i) % 24) f t = false) → brooklaw22_HoursDays.l0 k n f t o w nev' (i + 1) = some true := by
      intro nev' hnev
      refine ih k (i + 1) nev' (by omega) (by omega) (by omega) (by omega) ?_
      rw [hnev, hp]
      constructor
      · intro ⟨a, b⟩ j hj hj'
        by_cases c : j < i
        · exact a j hj c
        · have : j = i := by omega
          subst this; exact b
      · intro a
        exact ⟨fun j hj hj' => a j hj (by omega), a i h0 (by omega)⟩
    cases hb : Op ((n + i) % 24) f t with
    | true =>
      have hlt : ¬ i < w := fun c => by rw [w2 i h0 c] at hb; cases hb
      have nx := next false (by simp [hb])
      cases nev with
      | true => simp [hlt, nx]
      | false => simp [hlt, nx]
    | false =>
      have hgo : i = w → ¬ w > 0 := by
        intro e c
        subst e
        rcases w3 with w3 | ⟨w3, _⟩
        · rw [hb] at w3; cases w3
        · omega
      have nx := next nev (by simp [hb])
      cases nev with
      | true =>
        by_cases e : i = w
        · simp [e, hgo e]; simpa [e] using nx
        · simp [e, nx]
      | false =>
        by_cases e : i = w
        · simp [e, hgo e]; simpa [e] using nx
        · simp [e, nx]

theorem HoursDays : brooklaw22_HoursDays.Pure := by
  intro a0 a1 a2 a3 b0 b1 b2 b3
  have hb0 : 0 ≤ a0 ∧ a0 < 4294967296 := by have := b0; simp [Lit.wf, IntKind.min, IntKind.max, IntKind.bits, IntKind.signed] at this; omega
  have hb1 : 0 ≤ a1 ∧ a1 < 256 := by have := b1; simp [Lit.wf, IntKind.min, IntKind.max, IntKind.bits, IntKind.signed] at this; omega
  have hb2 : 0 ≤ a2 ∧ a2 < 256 := by have := b2; simp [Lit.wf, IntKind.min, IntKind.max, IntKind.bits, IntKind.signed] at this; omega
  have hb3 : 0 ≤ a3 ∧ a3 < 256 := by have := b3; simp [Lit.wf, IntKind.min, IntKind.max, IntKind.bits, IntKind.signed] at this; omega
  refine ⟨100, ?_⟩
  have e0 : wrap64 a0 = a0 := by unfold wrap64; omega
  have e1 : wrap64 a1 = a1 := by unfold wrap64; omega
  have e2 : wrap64 a2 = a2 := by unfold wrap64; omega
  have e3 : wrap64 a3 = a3 := by unfold wrap64; omega
  have e4 : wrap64 (24 * a1) = 24 * a1 := by unfold wrap64; omega
  have e5 : wrap64 (a0 + 24 * a1) = a0 + 24 * a1 := by unfold wrap64; omega
  have t2 : Int.tmod a2 25 = a2 % 25 := Int.tmod_eq_emod_of_nonneg (by omega)
  have t3 : Int.tmod a3 25 = a3 % 25 := Int.tmod_eq_emod_of_nonneg (by omega)
  unfold brooklaw22_HoursDays.f
  rw [e0, e1, e2, e3, e4, e5, t2, t3]
  have f0 : 0 ≤ a2 % 25 ∧ a2 % 25 ≤ 24 := by omega
  have f1 : 0 ≤ a3 % 25 ∧ a3 % 25 ≤ 24 := by omega
  generalize a2 % 25 = f at *
  generalize a3 % 25 = t at *
  obtain ⟨w, hw, hs⟩ := Wait_eq a0 f t (by omega) (by omega) f0.1 f0.2 f1.1 f1.2 100 (by omega)
  obtain ⟨w', hw', hs'⟩ := Wait_eq (a0 + 24 * a1) f t (by omega) (by omega) f0.1 f0.2 f1.1 f1.2 100 (by omega)
  have hww : w = w' := hs.unique hs' (fun j => by omega)
  subst hww
  have hoo : (a0 + 24 * a1) % 24 = a0 % 24 := by omega
  rw [hw, hw', Open_eq a0 f t (by omega) (by omega) f0.1 f0.2 f1.1 f1.2, Open_eq (a0 + 24 * a1) f t (by omega) (by omega) f0.1 f0.2 f1.1 f1.2, hoo]
  simp only [Option.bind_some, bne_self_eq_false, Bool.false_eq_true, if_false, if_true]
  have hs2 := hs
  obtain ⟨w0, w1, w2, w3⟩ := hs2
  rw [if_neg (by omega), if_neg (by omega)]
  have go : brooklaw22_HoursDays.j0 100 a0 f t (Op (a0 % 24) f t) w false = some true := by
    simp only [brooklaw22_HoursDays.j0, Bool.false_eq_true, if_false]
    exact law_l a0 f t w _ (by omega) (by omega) f0.1 f0.2 f1.1 f1.2 hs rfl 24 99 0 true (by omega) (by omega) (by omega) (by omega) (by simp; intro j hj hj'; omega)
  cases ho : Op (a0 % 24) f t with
  | false => rw [ho] at go; simpa using go
  | true =>
    rw [ho] at go
    have : w = 0 := by
      by_cases c : 0 < w
      · have := w2 0 (by omega) c
        rw [Int.add_zero, ho] at this; cases this
      · omega
    simp only [if_true, this, bne_self_eq_false]
    rw [this] at go
    exact go

end Go.Proofs.Ytllmcfdlhkhkdaa.Pure
