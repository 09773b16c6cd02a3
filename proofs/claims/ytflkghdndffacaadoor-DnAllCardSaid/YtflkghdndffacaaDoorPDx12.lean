/- Printed by a program of this session (print-patch.py over the kit's print): functions and their contracts. -/
-- POSTED
-- POSTED2
import Derived.Test.YtflkghdndffacaaDoorPDx0
import Derived.Test.YtflkghdndffacaaDoorPDx11
namespace Go.Proofs.YtflkghdndffacaaDoor.PD
open Go.RowKit Go.Proofs.YtflkghdndffacaaDoor.H Go.Proofs.YtflkghdndffacaaDoorW.PrintWords Go.Proofs.YtflkghdndffacaaDoorW.PrintLast Go.Proofs.YtflkghdndffacaaDoorW.PrintMore
attribute [local go_sem] max2_int min2_int max_two min_two max_three min_three max_four min_four   -- for this text's walks alone
set_option linter.unusedVariables false
set_option linter.unusedSimpArgs false

/-! ### brookref1_TextDn: function 19 -/
def brookref1_TextDn.l0 : Nat → List (S25) → ByteArray → Int → Option (ByteArray)
  | 0, _, _, _ => none
  | k + 1, x0, x3, x4 => if x4 < (x0.length : Int) then (if x4 > 0 then (if x3.size + 1 ≤ 9223372036854775807 then (if 0 ≤ x4 then (if (x3 ++ (⟨#[44]⟩ : ByteArray)).size + ((rd_T25 x0 x4).f0).size ≤ 9223372036854775807 then (if ((x3 ++ (⟨#[44]⟩ : ByteArray)) ++ ((rd_T25 x0 x4).f0)).size + 1 ≤ 9223372036854775807 then ((brookref1_escaped.f k ((rd_T25 x0 x4).f1)).bind fun t164 => (if (((x3 ++ (⟨#[44]⟩ : ByteArray)) ++ ((rd_T25 x0 x4).f0)) ++ (⟨#[61]⟩ : ByteArray)).size + t164.size ≤ 9223372036854775807 then (brookref1_TextDn.l0 k x0 ((((x3 ++ (⟨#[44]⟩ : ByteArray)) ++ ((rd_T25 x0 x4).f0)) ++ (⟨#[61]⟩ : ByteArray)) ++ t164) (wrap64 (x4 + 1))) else (none))) else (none)) else (none)) else (none)) else (none)) else (if 0 ≤ x4 then (if x3.size + ((rd_T25 x0 x4).f0).size ≤ 9223372036854775807 then (if (x3 ++ ((rd_T25 x0 x4).f0)).size + 1 ≤ 9223372036854775807 then ((brookref1_escaped.f k ((rd_T25 x0 x4).f1)).bind fun t167 => (if ((x3 ++ ((rd_T25 x0 x4).f0)) ++ (⟨#[61]⟩ : ByteArray)).size + t167.size ≤ 9223372036854775807 then (brookref1_TextDn.l0 k x0 (((x3 ++ ((rd_T25 x0 x4).f0)) ++ (⟨#[61]⟩ : ByteArray)) ++ t167) (wrap64 (x4 + 1))) else (none))) else (none)) else (none)) else (none))) else (some x3)
def brookref1_TextDn.f (k : Nat) (l0 : List (S25)) : Option (ByteArray) := brookref1_TextDn.l0 k l0 (⟨#[]⟩ : ByteArray) 0
theorem brookref1_TextDn.mono_l : ∀ k, (∀ y0 y1 y2, LeO (brookref1_TextDn.l0 k y0 y1 y2) (brookref1_TextDn.l0 (k + 1) y0 y1 y2))
  | 0 => fun _ _ _ r h => by simp [brookref1_TextDn.l0] at h
  | k + 1 => by
    have ih0 := brookref1_TextDn.mono_l k
    · intro y0 y1 y2
      unfold brookref1_TextDn.l0
      repeat' first
      | (with_reducible exact ih0 _ _ _)
      | (with_reducible exact brookref1_escaped.mono _ _)
      | (with_reducible exact LeO.refl _)
      | (with_reducible exact LeO.none _)
      | (with_reducible refine LeO.ite ?_ ?_)
      | (with_reducible refine LeO.bind ?_ (fun _ => ?_))
      | exact ih0 _ _ _
      | exact brookref1_escaped.mono _ _
      | exact LeO.none _
      | refine LeO.ite ?_ ?_
      | refine LeO.bind ?_ (fun _ => ?_)
theorem brookref1_TextDn.mono : ∀ a0 k, LeO (brookref1_TextDn.f k a0) (brookref1_TextDn.f (k + 1) a0) := by
  intro a0 k
  have ih0 := brookref1_TextDn.mono_l k
  unfold brookref1_TextDn.f
  repeat' first
      | (with_reducible exact ih0 _ _ _)
      | (with_reducible exact brookref1_escaped.mono _ _)
      | (with_reducible exact LeO.refl _)
      | (with_reducible exact LeO.none _)
      | (with_reducible refine LeO.ite ?_ ?_)
      | (with_reducible refine LeO.bind ?_ (fun _ => ?_))
      | exact ih0 _ _ _
      | exact brookref1_escaped.mono _ _
      | exact LeO.none _
      | refine LeO.ite ?_ ?_
      | refine LeO.bind ?_ (fun _ => ?_)
set_option maxHeartbeats 8000000 in
set_option maxRecDepth 100000 in
theorem brookref1_TextDn.calls (k : Nat) (A0 : Option Addr) (c0 : Nat) (l0 : List (S25)) (r : ByteArray) (w : World) (hr0 : Kd.C k25 w A0 l0.length l0) (hc0 : l0.length ≤ c0) (h : brookref1_TextDn.f k l0 = some r) :
    Calls Tryd.prog 19 #[.slice A0 l0.length c0] w fun e w' => e = .returned (.string r) ∧ Drawn0 w w' := by
  have HR0 := Aside0.mk hr0
  have HC0 := Aside0.mk hc0
  clear hr0 hc0
  have H : (brookref1_TextDn.l0 k l0 (⟨#[]⟩ : ByteArray) 0) = some r := h
  clear h
  have H' := Aside0.mk H
  clear H
  go_enter Tryd.func19, Tryd.ntmps19
  go_wp2
  repeat (go_quiet (fail); try go_wp2)
  go_loopg [3, 4] k (fun kq v3 v4 w' => ∃ (x3_1 : ByteArray) (x4_1 : Int), v3 = .string x3_1 ∧ v4 = .int .i64 x4_1 ∧ Aside0 (brookref1_TextDn.l0 kq l0 x3_1 x4_1 = some r) ∧ Aside0 (kq ≤ k) ∧ Drawn0 w w')
  case atStart => exact ⟨((⟨#[]⟩ : ByteArray)), (0), (by first | rfl | (simp; done) | (simp [*]; done) | (simp [u8_w, i64_w]; done) | (simp [isEmpty_bne]; done)), (by first | rfl | (simp; done) | (simp [*]; done) | (simp [u8_w, i64_w]; done) | (simp [isEmpty_bne]; done)), H', ⟨Nat.le_refl _⟩, by repeat (first | exact Drawn0.refl _ | apply Drawn0.step)⟩
  case round =>
    clear H'
    try clear c1
    obtain ⟨x3_1, x4_1, rfl, rfl, HA, HK1, ⟨m1, rfl⟩⟩ := hrel
    cases gk with
    | zero => exact absurd HA.out (by simp [brookref1_TextDn.l0])
    | succ k1 =>
      have H := HA.out
      clear HA
      simp only [brookref1_TextDn.l0] at H
      by_cases c2 : x4_1 < (l0.length : Int)
      · rw [if_pos c2] at H
        have c2b0 : decide (x4_1 < (l0.length : Int)) = true := decide_eq_true c2
        clear c2
        by_cases c3 : x4_1 > 0
        · rw [if_pos c3] at H
          have c3b0 : decide (0 < x4_1) = true := decide_eq_true c3
          clear c3
          by_cases c4 : x3_1.size + 1 ≤ 9223372036854775807
          · rw [if_pos c4] at H
            have c4b0 := eq_true c4
            have c4b1 : decide (x3_1.size + 1 ≤ 9223372036854775807) = true := decide_eq_true c4
            try have c4b2 : (9223372036854775807 < x3_1.size + 1) = False := eq_false (Nat.not_lt.2 c4)
            by_cases c5 : 0 ≤ x4_1
            · rw [if_pos c5] at H
              have c5b0 : decide (0 ≤ x4_1) = true := decide_eq_true c5
              clear c5
              by_cases c6 : (x3_1 ++ (⟨#[44]⟩ : ByteArray)).size + ((rd_T25 l0 x4_1).f0).size ≤ 9223372036854775807
              · rw [if_pos c6] at H
                have c6b0 := eq_true c6
                have c6b1 : decide ((x3_1 ++ (⟨#[44]⟩ : ByteArray)).size + ((rd_T25 l0 x4_1).f0).size ≤ 9223372036854775807) = true := decide_eq_true c6
                try have c6b2 : (9223372036854775807 < (x3_1 ++ (⟨#[44]⟩ : ByteArray)).size + ((rd_T25 l0 x4_1).f0).size) = False := eq_false (Nat.not_lt.2 c6)
                try have c6b4 : (9223372036854775807 < x3_1.size + 1 + ((rd_T25 l0 x4_1).f0).size) = False := eq_false (Nat.not_lt.2 (by have h_ := c6; (try simp only [ByteArray.size_append] at h_); exact h_))
                by_cases c7 : ((x3_1 ++ (⟨#[44]⟩ : ByteArray)) ++ ((rd_T25 l0 x4_1).f0)).size + 1 ≤ 9223372036854775807
                · rw [if_pos c7] at H
                  have c7b0 := eq_true c7
                  have c7b1 : decide (((x3_1 ++ (⟨#[44]⟩ : ByteArray)) ++ ((rd_T25 l0 x4_1).f0)).size + 1 ≤ 9223372036854775807) = true := decide_eq_true c7
                  try have c7b2 : (9223372036854775807 < ((x3_1 ++ (⟨#[44]⟩ : ByteArray)) ++ ((rd_T25 l0 x4_1).f0)).size + 1) = False := eq_false (Nat.not_lt.2 c7)
                  try have c7b4 : (9223372036854775807 < x3_1.size + 1 + ((rd_T25 l0 x4_1).f0).size + 1) = False := eq_false (Nat.not_lt.2 (by have h_ := c7; (try simp only [ByteArray.size_append] at h_); exact h_))
                  replace H := Option.bind_eq_some_iff.mp H
                  obtain ⟨t164, A80, H⟩ := H
                  replace H : (if (((x3_1 ++ (⟨#[44]⟩ : ByteArray)) ++ ((rd_T25 l0 x4_1).f0)) ++ (⟨#[61]⟩ : ByteArray)).size + t164.size ≤ 9223372036854775807 then (brookref1_TextDn.l0 k1 l0 ((((x3_1 ++ (⟨#[44]⟩ : ByteArray)) ++ ((rd_T25 l0 x4_1).f0)) ++ (⟨#[61]⟩ : ByteArray)) ++ t164) (wrap64 (x4_1 + 1))) else (none)) = some r := H
                  have A8 := Aside0.mk A80
                  clear A80
                  by_cases c9 : (((x3_1 ++ (⟨#[44]⟩ : ByteArray)) ++ ((rd_T25 l0 x4_1).f0)) ++ (⟨#[61]⟩ : ByteArray)).size + t164.size ≤ 9223372036854775807
                  · rw [if_pos c9] at H
                    have c9b0 := eq_true c9
                    have c9b1 : decide ((((x3_1 ++ (⟨#[44]⟩ : ByteArray)) ++ ((rd_T25 l0 x4_1).f0)) ++ (⟨#[61]⟩ : ByteArray)).size + t164.size ≤ 9223372036854775807) = true := decide_eq_true c9
                    try have c9b2 : (9223372036854775807 < (((x3_1 ++ (⟨#[44]⟩ : ByteArray)) ++ ((rd_T25 l0 x4_1).f0)) ++ (⟨#[61]⟩ : ByteArray)).size + t164.size) = False := eq_false (Nat.not_lt.2 c9)
                    try have c9b4 : (9223372036854775807 < x3_1.size + 1 + ((rd_T25 l0 x4_1).f0).size + 1 + t164.size) = False := eq_false (Nat.not_lt.2 (by have h_ := c9; (try simp only [ByteArray.size_append] at h_); exact h_))
                    have H' := Aside0.mk H
                    clear H
                    have p162 : 0 ≤ (x4_1 : Int) := of_decide_eq_true (by first | (with_reducible assumption) | assumption)
                    have q162 : x4_1 < (l0.length : Int) := of_decide_eq_true (by first | (with_reducible assumption) | assumption)
                    obtain ⟨ad162, e162, hx162_0, hx162_1⟩ := at_T25 HR0.out x4_1 p162 q162
                    cases e162
                    replace p162 := eq_true p162
                    replace q162 := eq_true q162
                    have p163 : 0 ≤ (x4_1 : Int) := of_decide_eq_true (by first | (with_reducible assumption) | assumption)
                    have q163 : x4_1 < (l0.length : Int) := of_decide_eq_true (by first | (with_reducible assumption) | assumption)
                    obtain ⟨ad163, e163, hx163_0, hx163_1⟩ := at_T25 HR0.out x4_1 p163 q163
                    obtain rfl : ad162 = ad163 := (by injection e163)
                    replace p163 := eq_true p163
                    replace q163 := eq_true q163
                    go_wp2_with (first | (go_at_call 54; (with_reducible refine (brookref1_escaped.calls k1 ((rd_T25 l0 x4_1).f1) t164 _ A8.out).mono ?_); rintro e w' ⟨rfl, ⟨nd, rfl⟩⟩; (try first | exact ⟨rfl, _, World.drewN_drewN _ _ _⟩ | exact ⟨rfl, _, Eq.trans (World.drewN_drewN _ _ _) (congrArg (World.drewN _) (Nat.add_assoc _ _ _))⟩)))
                    repeat (go_quiet (first | (go_at_call 54; (with_reducible refine (brookref1_escaped.calls k1 ((rd_T25 l0 x4_1).f1) t164 _ A8.out).mono ?_); rintro e w' ⟨rfl, ⟨nd, rfl⟩⟩; (try first | exact ⟨rfl, _, World.drewN_drewN _ _ _⟩ | exact ⟨rfl, _, Eq.trans (World.drewN_drewN _ _ _) (congrArg (World.drewN _) (Nat.add_assoc _ _ _))⟩))); try go_wp2_with (first | (go_at_call 54; (with_reducible refine (brookref1_escaped.calls k1 ((rd_T25 l0 x4_1).f1) t164 _ A8.out).mono ?_); rintro e w' ⟨rfl, ⟨nd, rfl⟩⟩; (try first | exact ⟨rfl, _, World.drewN_drewN _ _ _⟩ | exact ⟨rfl, _, Eq.trans (World.drewN_drewN _ _ _) (congrArg (World.drewN _) (Nat.add_assoc _ _ _))⟩))))
                    go_roundg k1
                    case measure => have := HK1.out; omega
                    case rel => exact ⟨((((x3_1 ++ (⟨#[44]⟩ : ByteArray)) ++ ((rd_T25 l0 x4_1).f0)) ++ (⟨#[61]⟩ : ByteArray)) ++ t164), (wrap64 (x4_1 + 1)), (by first | rfl | (simp; done) | (simp [*]; done) | (simp [u8_w, i64_w]; done) | (simp [isEmpty_bne]; done)), (by first | rfl | (simp; done) | (simp [*]; done) | (simp [u8_w, i64_w]; done) | (simp [isEmpty_bne]; done)), H', ⟨by have := HK1.out; omega⟩, by repeat (first | exact Drawn0.refl _ | apply Drawn0.step)⟩
                  · rw [if_neg c9] at H
                    exact absurd H (by simp)
                · rw [if_neg c7] at H
                  exact absurd H (by simp)
              · rw [if_neg c6] at H
                exact absurd H (by simp)
            · rw [if_neg c5] at H
              exact absurd H (by simp)
          · rw [if_neg c4] at H
            exact absurd H (by simp)
        · rw [if_neg c3] at H
          have c3b0 : decide (0 < x4_1) = false := decide_eq_false c3
          clear c3
          by_cases c10 : 0 ≤ x4_1
          · rw [if_pos c10] at H
            have c10b0 : decide (0 ≤ x4_1) = true := decide_eq_true c10
            clear c10
            by_cases c11 : x3_1.size + ((rd_T25 l0 x4_1).f0).size ≤ 9223372036854775807
            · rw [if_pos c11] at H
              have c11b0 := eq_true c11
              have c11b1 : decide (x3_1.size + ((rd_T25 l0 x4_1).f0).size ≤ 9223372036854775807) = true := decide_eq_true c11
              try have c11b2 : (9223372036854775807 < x3_1.size + ((rd_T25 l0 x4_1).f0).size) = False := eq_false (Nat.not_lt.2 c11)
              by_cases c12 : (x3_1 ++ ((rd_T25 l0 x4_1).f0)).size + 1 ≤ 9223372036854775807
              · rw [if_pos c12] at H
                have c12b0 := eq_true c12
                have c12b1 : decide ((x3_1 ++ ((rd_T25 l0 x4_1).f0)).size + 1 ≤ 9223372036854775807) = true := decide_eq_true c12
                try have c12b2 : (9223372036854775807 < (x3_1 ++ ((rd_T25 l0 x4_1).f0)).size + 1) = False := eq_false (Nat.not_lt.2 c12)
                try have c12b4 : (9223372036854775807 < x3_1.size + ((rd_T25 l0 x4_1).f0).size + 1) = False := eq_false (Nat.not_lt.2 (by have h_ := c12; (try simp only [ByteArray.size_append] at h_); exact h_))
                replace H := Option.bind_eq_some_iff.mp H
                obtain ⟨t167, A130, H⟩ := H
                replace H : (if ((x3_1 ++ ((rd_T25 l0 x4_1).f0)) ++ (⟨#[61]⟩ : ByteArray)).size + t167.size ≤ 9223372036854775807 then (brookref1_TextDn.l0 k1 l0 (((x3_1 ++ ((rd_T25 l0 x4_1).f0)) ++ (⟨#[61]⟩ : ByteArray)) ++ t167) (wrap64 (x4_1 + 1))) else (none)) = some r := H
                have A13 := Aside0.mk A130
                clear A130
                by_cases c14 : ((x3_1 ++ ((rd_T25 l0 x4_1).f0)) ++ (⟨#[61]⟩ : ByteArray)).size + t167.size ≤ 9223372036854775807
                · rw [if_pos c14] at H
                  have c14b0 := eq_true c14
                  have c14b1 : decide (((x3_1 ++ ((rd_T25 l0 x4_1).f0)) ++ (⟨#[61]⟩ : ByteArray)).size + t167.size ≤ 9223372036854775807) = true := decide_eq_true c14
                  try have c14b2 : (9223372036854775807 < ((x3_1 ++ ((rd_T25 l0 x4_1).f0)) ++ (⟨#[61]⟩ : ByteArray)).size + t167.size) = False := eq_false (Nat.not_lt.2 c14)
                  try have c14b4 : (9223372036854775807 < x3_1.size + ((rd_T25 l0 x4_1).f0).size + 1 + t167.size) = False := eq_false (Nat.not_lt.2 (by have h_ := c14; (try simp only [ByteArray.size_append] at h_); exact h_))
                  have H' := Aside0.mk H
                  clear H
                  have p165 : 0 ≤ (x4_1 : Int) := of_decide_eq_true (by first | (with_reducible assumption) | assumption)
                  have q165 : x4_1 < (l0.length : Int) := of_decide_eq_true (by first | (with_reducible assumption) | assumption)
                  obtain ⟨ad165, e165, hx165_0, hx165_1⟩ := at_T25 HR0.out x4_1 p165 q165
                  cases e165
                  replace p165 := eq_true p165
                  replace q165 := eq_true q165
                  have p166 : 0 ≤ (x4_1 : Int) := of_decide_eq_true (by first | (with_reducible assumption) | assumption)
                  have q166 : x4_1 < (l0.length : Int) := of_decide_eq_true (by first | (with_reducible assumption) | assumption)
                  obtain ⟨ad166, e166, hx166_0, hx166_1⟩ := at_T25 HR0.out x4_1 p166 q166
                  obtain rfl : ad165 = ad166 := (by injection e166)
                  replace p166 := eq_true p166
                  replace q166 := eq_true q166
                  go_wp2_with (first | (go_at_call 54; (with_reducible refine (brookref1_escaped.calls k1 ((rd_T25 l0 x4_1).f1) t167 _ A13.out).mono ?_); rintro e w' ⟨rfl, ⟨nd, rfl⟩⟩; (try first | exact ⟨rfl, _, World.drewN_drewN _ _ _⟩ | exact ⟨rfl, _, Eq.trans (World.drewN_drewN _ _ _) (congrArg (World.drewN _) (Nat.add_assoc _ _ _))⟩)))
                  repeat (go_quiet (first | (go_at_call 54; (with_reducible refine (brookref1_escaped.calls k1 ((rd_T25 l0 x4_1).f1) t167 _ A13.out).mono ?_); rintro e w' ⟨rfl, ⟨nd, rfl⟩⟩; (try first | exact ⟨rfl, _, World.drewN_drewN _ _ _⟩ | exact ⟨rfl, _, Eq.trans (World.drewN_drewN _ _ _) (congrArg (World.drewN _) (Nat.add_assoc _ _ _))⟩))); try go_wp2_with (first | (go_at_call 54; (with_reducible refine (brookref1_escaped.calls k1 ((rd_T25 l0 x4_1).f1) t167 _ A13.out).mono ?_); rintro e w' ⟨rfl, ⟨nd, rfl⟩⟩; (try first | exact ⟨rfl, _, World.drewN_drewN _ _ _⟩ | exact ⟨rfl, _, Eq.trans (World.drewN_drewN _ _ _) (congrArg (World.drewN _) (Nat.add_assoc _ _ _))⟩))))
                  go_roundg k1
                  case measure => have := HK1.out; omega
                  case rel => exact ⟨(((x3_1 ++ ((rd_T25 l0 x4_1).f0)) ++ (⟨#[61]⟩ : ByteArray)) ++ t167), (wrap64 (x4_1 + 1)), (by first | rfl | (simp; done) | (simp [*]; done) | (simp [u8_w, i64_w]; done) | (simp [isEmpty_bne]; done)), (by first | rfl | (simp; done) | (simp [*]; done) | (simp [u8_w, i64_w]; done) | (simp [isEmpty_bne]; done)), H', ⟨by have := HK1.out; omega⟩, by repeat (first | exact Drawn0.refl _ | apply Drawn0.step)⟩
                · rw [if_neg c14] at H
                  exact absurd H (by simp)
              · rw [if_neg c12] at H
                exact absurd H (by simp)
            · rw [if_neg c11] at H
              exact absurd H (by simp)
          · rw [if_neg c10] at H
            exact absurd H (by simp)
      · rw [if_neg c2] at H
        have c2b0 : decide (x4_1 < (l0.length : Int)) = false := decide_eq_false c2
        clear c2
        obtain rfl := Option.some.inj H
        go_wp2
        repeat (go_quiet (fail); try go_wp2)
        go_ret
        exact ⟨by first | rfl | (simp; done) | (simp [*]; done) | (simp [u8_w, i64_w]; done) | (simp [isEmpty_bne]; done), by repeat (first | exact Drawn0.refl _ | apply Drawn0.step)⟩

end Go.Proofs.YtflkghdndffacaaDoor.PD
