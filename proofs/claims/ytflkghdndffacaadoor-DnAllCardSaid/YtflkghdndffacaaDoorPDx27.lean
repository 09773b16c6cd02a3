/- Printed by a program of this session (print-patch.py over the kit's print): functions and their contracts. -/
-- POSTED
import Derived.Test.YtflkghdndffacaaDoorPDx0
import Derived.Test.YtflkghdndffacaaDoorPDx26
namespace Go.Proofs.YtflkghdndffacaaDoor.PD
open Go.RowKit Go.Proofs.YtflkghdndffacaaDoor.H Go.Proofs.YtflkghdndffacaaDoorW.PrintWords Go.Proofs.YtflkghdndffacaaDoorW.PrintLast Go.Proofs.YtflkghdndffacaaDoorW.PrintMore
attribute [local go_sem] max2_int min2_int max_two min_two max_three min_three max_four min_four   -- for this text's walks alone
set_option linter.unusedVariables false
set_option linter.unusedSimpArgs false

/-! ### dn_Under: function 31 -/
def dn_Under.l0 : Nat → ByteArray → ByteArray → Option (Bool)
  | 0, _, _ => none
  | k + 1, x0, x1 => if x0.toList = x1.toList then (some true) else (if x0.toList = ([] : List UInt8) then (some false) else ((dn_Up.f k x0).bind fun t302 => (dn_Under.l0 k t302 x1)))
def dn_Under.f (k : Nat) (a0 : ByteArray) (a1 : ByteArray) : Option (Bool) := dn_Under.l0 k a0 a1
theorem dn_Under.mono_l : ∀ k, (∀ y0 y1, LeO (dn_Under.l0 k y0 y1) (dn_Under.l0 (k + 1) y0 y1))
  | 0 => fun _ _ r h => by simp [dn_Under.l0] at h
  | k + 1 => by
    have ih0 := dn_Under.mono_l k
    · intro y0 y1
      unfold dn_Under.l0
      repeat' first
      | (with_reducible exact ih0 _ _)
      | (with_reducible exact dn_Up.mono _ _)
      | (with_reducible exact LeO.refl _)
      | (with_reducible exact LeO.none _)
      | (with_reducible refine LeO.ite ?_ ?_)
      | (with_reducible refine LeO.bind ?_ (fun _ => ?_))
      | exact ih0 _ _
      | exact dn_Up.mono _ _
      | exact LeO.none _
      | refine LeO.ite ?_ ?_
      | refine LeO.bind ?_ (fun _ => ?_)
theorem dn_Under.mono : ∀ a0 a1 k, LeO (dn_Under.f k a0 a1) (dn_Under.f (k + 1) a0 a1) := by
  intro a0 a1 k
  have ih0 := dn_Under.mono_l k
  unfold dn_Under.f
  repeat' first
      | (with_reducible exact ih0 _ _)
      | (with_reducible exact dn_Up.mono _ _)
      | (with_reducible exact LeO.refl _)
      | (with_reducible exact LeO.none _)
      | (with_reducible refine LeO.ite ?_ ?_)
      | (with_reducible refine LeO.bind ?_ (fun _ => ?_))
      | exact ih0 _ _
      | exact dn_Up.mono _ _
      | exact LeO.none _
      | refine LeO.ite ?_ ?_
      | refine LeO.bind ?_ (fun _ => ?_)
set_option maxHeartbeats 8000000 in
set_option maxRecDepth 100000 in
theorem dn_Under.calls (k : Nat) (a0 : ByteArray) (a1 : ByteArray) (r : Bool) (w : World) (h : dn_Under.f k a0 a1 = some r) :
    Calls Tryd.prog 31 #[.string a0, .string a1] w fun e w' => e = .returned (.bool r) ∧ Drawn0 w w' := by
  have H : (dn_Under.l0 k a0 a1) = some r := h
  clear h
  have H' := Aside0.mk H
  clear H
  go_enter Tryd.func31, Tryd.ntmps31
  go_wp2
  go_loopg [0] k (fun kq v0 w' => ∃ (x0_1 : ByteArray), v0 = .string x0_1 ∧ Aside0 (dn_Under.l0 kq x0_1 a1 = some r) ∧ Aside0 (kq ≤ k) ∧ Drawn0 w w')
  case atStart => exact ⟨(a0), (by first | rfl | (simp; done) | (simp [*]; done) | (simp [u8_w, i64_w]; done) | (simp [isEmpty_bne]; done)), H', ⟨Nat.le_refl _⟩, by repeat (first | exact Drawn0.refl _ | apply Drawn0.step)⟩
  case round =>
    clear H'
    try clear p2
    obtain ⟨x0_1, rfl, HA, HK1, ⟨m1, rfl⟩⟩ := hrel
    cases gk with
    | zero => exact absurd HA.out (by simp [dn_Under.l0])
    | succ k1 =>
      have H := HA.out
      clear HA
      simp only [dn_Under.l0] at H
      by_cases c3 : x0_1.toList = a1.toList
      · rw [if_pos c3] at H
        have c3b0 : (x0_1.toList == a1.toList) = true := beq_iff_eq.mpr c3
        have c3b1 : (x0_1.toList != a1.toList) = false := bne_eq_false_iff_eq.mpr c3
        clear c3
        obtain rfl := Option.some.inj H
        go_wp2
        go_ret
        exact ⟨by first | rfl | (simp; done) | (simp [*]; done) | (simp [u8_w, i64_w]; done) | (simp [isEmpty_bne]; done), by repeat (first | exact Drawn0.refl _ | apply Drawn0.step)⟩
      · rw [if_neg c3] at H
        have c3b0 : (x0_1.toList == a1.toList) = false := beq_eq_false_iff_ne.mpr c3
        have c3b1 : (x0_1.toList != a1.toList) = true := bne_iff_ne.mpr c3
        by_cases c4 : x0_1.toList = ([] : List UInt8)
        · rw [if_pos c4] at H
          have c4b0 : (x0_1.toList == ([] : List UInt8)) = true := beq_iff_eq.mpr c4
          have c4b1 : (x0_1.toList != ([] : List UInt8)) = false := bne_eq_false_iff_eq.mpr c4
          clear c4
          obtain rfl := Option.some.inj H
          go_wp2
          go_ret
          exact ⟨by first | rfl | (simp; done) | (simp [*]; done) | (simp [u8_w, i64_w]; done) | (simp [isEmpty_bne]; done), by repeat (first | exact Drawn0.refl _ | apply Drawn0.step)⟩
        · rw [if_neg c4] at H
          have c4b0 : (x0_1.toList == ([] : List UInt8)) = false := beq_eq_false_iff_ne.mpr c4
          have c4b1 : (x0_1.toList != ([] : List UInt8)) = true := bne_iff_ne.mpr c4
          replace H := Option.bind_eq_some_iff.mp H
          obtain ⟨t302, A50, H⟩ := H
          replace H : (dn_Under.l0 k1 t302 a1) = some r := H
          have A5 := Aside0.mk A50
          clear A50
          have H' := Aside0.mk H
          clear H
          go_wp2_with (first | ((with_reducible refine gate_callee (f := 29) rfl ?_); refine goesL_ (some 11) rfl rfl Tryd.func29 (by kernel_rfl) rfl #[.string x0_1] rfl (by (try simp only [List.map_toArray, List.map_cons, List.map_nil]); first | done | rfl | (simp only [List.length_drop, List.length_take]; rfl)) ?_; (with_reducible refine (dn_Up.calls k1 x0_1 t302 _ A5.out).mono ?_); rintro e w' ⟨rfl, ⟨nd, rfl⟩⟩; refine ⟨_, rfl, ?_⟩))
          go_roundg k1
          case measure => have := HK1.out; omega
          case rel => exact ⟨(t302), (by first | rfl | (simp; done) | (simp [*]; done) | (simp [u8_w, i64_w]; done) | (simp [isEmpty_bne]; done)), H', ⟨by have := HK1.out; omega⟩, by repeat (first | exact Drawn0.refl _ | apply Drawn0.step)⟩

/-! ### brookref1_Under: function 32 -/
def brookref1_Under.l0 : Nat → ByteArray → ByteArray → Option (Bool)
  | 0, _, _ => none
  | k + 1, x0, x1 => if x0.toList = x1.toList then (some true) else (if x0.toList = ([] : List UInt8) then (some false) else ((brookref1_Up.f k x0).bind fun t303 => (brookref1_Under.l0 k t303 x1)))
def brookref1_Under.f (k : Nat) (a0 : ByteArray) (a1 : ByteArray) : Option (Bool) := brookref1_Under.l0 k a0 a1
theorem brookref1_Under.mono_l : ∀ k, (∀ y0 y1, LeO (brookref1_Under.l0 k y0 y1) (brookref1_Under.l0 (k + 1) y0 y1))
  | 0 => fun _ _ r h => by simp [brookref1_Under.l0] at h
  | k + 1 => by
    have ih0 := brookref1_Under.mono_l k
    · intro y0 y1
      unfold brookref1_Under.l0
      repeat' first
      | (with_reducible exact ih0 _ _)
      | (with_reducible exact brookref1_Up.mono _ _)
      | (with_reducible exact LeO.refl _)
      | (with_reducible exact LeO.none _)
      | (with_reducible refine LeO.ite ?_ ?_)
      | (with_reducible refine LeO.bind ?_ (fun _ => ?_))
      | exact ih0 _ _
      | exact brookref1_Up.mono _ _
      | exact LeO.none _
      | refine LeO.ite ?_ ?_
      | refine LeO.bind ?_ (fun _ => ?_)
theorem brookref1_Under.mono : ∀ a0 a1 k, LeO (brookref1_Under.f k a0 a1) (brookref1_Under.f (k + 1) a0 a1) := by
  intro a0 a1 k
  have ih0 := brookref1_Under.mono_l k
  unfold brookref1_Under.f
  repeat' first
      | (with_reducible exact ih0 _ _)
      | (with_reducible exact brookref1_Up.mono _ _)
      | (with_reducible exact LeO.refl _)
      | (with_reducible exact LeO.none _)
      | (with_reducible refine LeO.ite ?_ ?_)
      | (with_reducible refine LeO.bind ?_ (fun _ => ?_))
      | exact ih0 _ _
      | exact brookref1_Up.mono _ _
      | exact LeO.none _
      | refine LeO.ite ?_ ?_
      | refine LeO.bind ?_ (fun _ => ?_)
set_option maxHeartbeats 8000000 in
set_option maxRecDepth 100000 in
theorem brookref1_Under.calls (k : Nat) (a0 : ByteArray) (a1 : ByteArray) (r : Bool) (w : World) (h : brookref1_Under.f k a0 a1 = some r) :
    Calls Tryd.prog 32 #[.string a0, .string a1] w fun e w' => e = .returned (.bool r) ∧ Drawn0 w w' := by
  have H : (brookref1_Under.l0 k a0 a1) = some r := h
  clear h
  have H' := Aside0.mk H
  clear H
  go_enter Tryd.func32, Tryd.ntmps32
  go_wp2
  go_loopg [0] k (fun kq v0 w' => ∃ (x0_1 : ByteArray), v0 = .string x0_1 ∧ Aside0 (brookref1_Under.l0 kq x0_1 a1 = some r) ∧ Aside0 (kq ≤ k) ∧ Drawn0 w w')
  case atStart => exact ⟨(a0), (by first | rfl | (simp; done) | (simp [*]; done) | (simp [u8_w, i64_w]; done) | (simp [isEmpty_bne]; done)), H', ⟨Nat.le_refl _⟩, by repeat (first | exact Drawn0.refl _ | apply Drawn0.step)⟩
  case round =>
    clear H'
    try clear p2
    obtain ⟨x0_1, rfl, HA, HK1, ⟨m1, rfl⟩⟩ := hrel
    cases gk with
    | zero => exact absurd HA.out (by simp [brookref1_Under.l0])
    | succ k1 =>
      have H := HA.out
      clear HA
      simp only [brookref1_Under.l0] at H
      by_cases c3 : x0_1.toList = a1.toList
      · rw [if_pos c3] at H
        have c3b0 : (x0_1.toList == a1.toList) = true := beq_iff_eq.mpr c3
        have c3b1 : (x0_1.toList != a1.toList) = false := bne_eq_false_iff_eq.mpr c3
        clear c3
        obtain rfl := Option.some.inj H
        go_wp2
        go_ret
        exact ⟨by first | rfl | (simp; done) | (simp [*]; done) | (simp [u8_w, i64_w]; done) | (simp [isEmpty_bne]; done), by repeat (first | exact Drawn0.refl _ | apply Drawn0.step)⟩
      · rw [if_neg c3] at H
        have c3b0 : (x0_1.toList == a1.toList) = false := beq_eq_false_iff_ne.mpr c3
        have c3b1 : (x0_1.toList != a1.toList) = true := bne_iff_ne.mpr c3
        by_cases c4 : x0_1.toList = ([] : List UInt8)
        · rw [if_pos c4] at H
          have c4b0 : (x0_1.toList == ([] : List UInt8)) = true := beq_iff_eq.mpr c4
          have c4b1 : (x0_1.toList != ([] : List UInt8)) = false := bne_eq_false_iff_eq.mpr c4
          clear c4
          obtain rfl := Option.some.inj H
          go_wp2
          go_ret
          exact ⟨by first | rfl | (simp; done) | (simp [*]; done) | (simp [u8_w, i64_w]; done) | (simp [isEmpty_bne]; done), by repeat (first | exact Drawn0.refl _ | apply Drawn0.step)⟩
        · rw [if_neg c4] at H
          have c4b0 : (x0_1.toList == ([] : List UInt8)) = false := beq_eq_false_iff_ne.mpr c4
          have c4b1 : (x0_1.toList != ([] : List UInt8)) = true := bne_iff_ne.mpr c4
          replace H := Option.bind_eq_some_iff.mp H
          obtain ⟨t303, A50, H⟩ := H
          replace H : (brookref1_Under.l0 k1 t303 a1) = some r := H
          have A5 := Aside0.mk A50
          clear A50
          have H' := Aside0.mk H
          clear H
          go_wp2_with (first | ((with_reducible refine gate_callee (f := 30) rfl ?_); refine goesL_ (some 11) rfl rfl Tryd.func30 (by kernel_rfl) rfl #[.string x0_1] rfl (by (try simp only [List.map_toArray, List.map_cons, List.map_nil]); first | done | rfl | (simp only [List.length_drop, List.length_take]; rfl)) ?_; (with_reducible refine (brookref1_Up.calls k1 x0_1 t303 _ A5.out).mono ?_); rintro e w' ⟨rfl, ⟨nd, rfl⟩⟩; refine ⟨_, rfl, ?_⟩))
          go_roundg k1
          case measure => have := HK1.out; omega
          case rel => exact ⟨(t303), (by first | rfl | (simp; done) | (simp [*]; done) | (simp [u8_w, i64_w]; done) | (simp [isEmpty_bne]; done)), H', ⟨by have := HK1.out; omega⟩, by repeat (first | exact Drawn0.refl _ | apply Drawn0.step)⟩

end Go.Proofs.YtflkghdndffacaaDoor.PD
