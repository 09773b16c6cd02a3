-- PRINTED BY print.sh 35421559b90ae4d0a3588c463048766b98c2df88dd9212a6774a882060cdf62d: not written by this session
import Derived.Test.YtllmcfdlhkhkdaaPHoursDaysx0
namespace Go.Proofs.Ytllmcfdlhkhkdaa.PHoursDays
open Go.RowKit Go.Proofs.YtllmcfdlhkhkdaaW.PrintWords Go.Proofs.YtllmcfdlhkhkdaaW.PrintLast Go.Proofs.YtllmcfdlhkhkdaaW.PrintMore
attribute [local go_sem] max2_int min2_int max_two min_two max_three min_three max_four min_four   -- for this text's walks alone
set_option linter.unusedVariables false
set_option linter.unusedSimpArgs false

/-! ### hours_may: function 8 -/
def hours_may.f (a0 : Int) (a1 : Int) (a2 : Int) : Option (Bool) := if a0 ≥ 0 then (if a0 ≤ 4503599627370496 then (if (mn a1 a2) ≥ 0 then (some (decide ((mx a1 a2) ≤ 24))) else (some false)) else (some false)) else (some false)
set_option maxHeartbeats 8000000 in
set_option maxRecDepth 100000 in
theorem hours_may.calls (a0 : Int) (a1 : Int) (a2 : Int) (r : Bool) (w : World) (h : hours_may.f a0 a1 a2 = some r) :
    Calls Try.prog 8 #[.int .i64 a0, .int .i64 a1, .int .i64 a2] w fun e w' => e = .returned (.bool r) ∧ Below w.heap.size w w' := by
  have HB := Aside0.mk (Below.refl w.heap.size w)
  have H : (if a0 ≥ 0 then (if a0 ≤ 4503599627370496 then (if (mn a1 a2) ≥ 0 then (some (decide ((mx a1 a2) ≤ 24))) else (some false)) else (some false)) else (some false)) = some r := h
  clear h
  by_cases c4 : a0 ≥ 0
  · rw [if_pos c4] at H
    have c4b0 : decide (0 ≤ a0) = true := decide_eq_true c4
    clear c4
    by_cases c5 : a0 ≤ 4503599627370496
    · rw [if_pos c5] at H
      have c5b0 : decide (a0 ≤ 4503599627370496) = true := decide_eq_true c5
      clear c5
      obtain ⟨ji6, hji6⟩ : ∃ j_ : Int, (mn a1 a2) = j_ := ⟨_, rfl⟩
      replace H : (if (ji6) ≥ 0 then (some (decide ((mx a1 a2) ≤ 24))) else (some false)) = some r := by first | (rw [hji6] at H; exact H) | (simp only [hji6] at H ⊢; exact H)
      have hji6_ : (if a2 < a1 then a2 else a1) = ji6 := hji6
      by_cases c7 : (ji6) ≥ 0
      · rw [if_pos c7] at H
        have c7b0 : decide (0 ≤ (ji6)) = true := decide_eq_true c7
        clear c7
        obtain ⟨ji8, hji8⟩ : ∃ j_ : Int, (mx a1 a2) = j_ := ⟨_, rfl⟩
        replace H : (some (decide ((ji8) ≤ 24))) = some r := by first | (rw [hji8] at H; exact H) | (simp only [hji8] at H ⊢; exact H)
        have hji8_ : (if a1 < a2 then a2 else a1) = ji8 := hji8
        obtain rfl := Option.some.inj H
        go_enter Try.func8, Try.ntmps8
        go_wp2
        go_ret
        exact ⟨by first | rfl | (simp [errW_none, errW_some] <;> rfl) | (simp only [← hji6, ← hji8]; first | rfl | (simp [errW_none, errW_some] <;> rfl)) | (simp [*, errW_none, errW_some] <;> rfl), by repeat (first | (with_reducible first | exact HB.out | apply below_alloc | apply pw_below_drewN | apply below_drew1) | exact HB.out)⟩
      · rw [if_neg c7] at H
        have c7b0 : decide (0 ≤ (ji6)) = false := decide_eq_false c7
        clear c7
        obtain rfl := Option.some.inj H
        go_enter Try.func8, Try.ntmps8
        go_wp2
        go_ret
        exact ⟨by first | rfl | (simp [errW_none, errW_some] <;> rfl) | (simp only [← hji6]; first | rfl | (simp [errW_none, errW_some] <;> rfl)) | (simp [*, errW_none, errW_some] <;> rfl), by repeat (first | (with_reducible first | exact HB.out | apply below_alloc | apply pw_below_drewN | apply below_drew1) | exact HB.out)⟩
    · rw [if_neg c5] at H
      have c5b0 : decide (a0 ≤ 4503599627370496) = false := decide_eq_false c5
      clear c5
      obtain rfl := Option.some.inj H
      go_enter Try.func8, Try.ntmps8
      go_wp2
      go_ret
      exact ⟨by first | rfl | (simp [errW_none, errW_some] <;> rfl) | (simp [*, errW_none, errW_some] <;> rfl), by repeat (first | (with_reducible first | exact HB.out | apply below_alloc | apply pw_below_drewN | apply below_drew1) | exact HB.out)⟩
  · rw [if_neg c4] at H
    have c4b0 : decide (0 ≤ a0) = false := decide_eq_false c4
    clear c4
    obtain rfl := Option.some.inj H
    go_enter Try.func8, Try.ntmps8
    go_wp2
    go_ret
    exact ⟨by first | rfl | (simp [errW_none, errW_some] <;> rfl) | (simp [*, errW_none, errW_some] <;> rfl), by repeat (first | (with_reducible first | exact HB.out | apply below_alloc | apply pw_below_drewN | apply below_drew1) | exact HB.out)⟩

/-! ### hours_open: function 9 -/
def hours_open.f (a0 : Int) (a1 : Int) (a2 : Int) : Option (Bool) := if a1 = a2 then (some true) else (if a1 < a2 then (if a0 ≥ a1 then (some (decide (a0 < a2))) else (some false)) else (if a0 ≥ a1 then (some true) else (some (decide (a0 < a2)))))
set_option maxHeartbeats 8000000 in
set_option maxRecDepth 100000 in
theorem hours_open.calls (a0 : Int) (a1 : Int) (a2 : Int) (r : Bool) (w : World) (h : hours_open.f a0 a1 a2 = some r) :
    Calls Try.prog 9 #[.int .i64 a0, .int .i64 a1, .int .i64 a2] w fun e w' => e = .returned (.bool r) ∧ Drawn0 w w' := by
  have H : (if a1 = a2 then (some true) else (if a1 < a2 then (if a0 ≥ a1 then (some (decide (a0 < a2))) else (some false)) else (if a0 ≥ a1 then (some true) else (some (decide (a0 < a2)))))) = some r := h
  clear h
  by_cases c4 : a1 = a2
  · rw [if_pos c4] at H
    have c4b0 : (a1 == a2) = true := beq_iff_eq.mpr c4
    have c4b1 : (a1 != a2) = false := bne_eq_false_iff_eq.mpr c4
    clear c4
    obtain rfl := Option.some.inj H
    go_enter Try.func9, Try.ntmps9
    go_wp2
    go_ret
    exact ⟨by first | rfl | (simp; done) | (simp [*]; done), by repeat (first | exact Drawn0.refl _ | apply Drawn0.step)⟩
  · rw [if_neg c4] at H
    have c4b0 : (a1 == a2) = false := beq_eq_false_iff_ne.mpr c4
    have c4b1 : (a1 != a2) = true := bne_iff_ne.mpr c4
    by_cases c5 : a1 < a2
    · rw [if_pos c5] at H
      have c5b0 : decide (a1 < a2) = true := decide_eq_true c5
      clear c5
      by_cases c6 : a0 ≥ a1
      · rw [if_pos c6] at H
        have c6b0 : decide (a1 ≤ a0) = true := decide_eq_true c6
        clear c6
        obtain rfl := Option.some.inj H
        go_enter Try.func9, Try.ntmps9
        go_wp2
        go_ret
        exact ⟨by first | rfl | (simp; done) | (simp [*]; done), by repeat (first | exact Drawn0.refl _ | apply Drawn0.step)⟩
      · rw [if_neg c6] at H
        have c6b0 : decide (a1 ≤ a0) = false := decide_eq_false c6
        clear c6
        obtain rfl := Option.some.inj H
        go_enter Try.func9, Try.ntmps9
        go_wp2
        go_ret
        exact ⟨by first | rfl | (simp; done) | (simp [*]; done), by repeat (first | exact Drawn0.refl _ | apply Drawn0.step)⟩
    · rw [if_neg c5] at H
      have c5b0 : decide (a1 < a2) = false := decide_eq_false c5
      clear c5
      by_cases c7 : a0 ≥ a1
      · rw [if_pos c7] at H
        have c7b0 : decide (a1 ≤ a0) = true := decide_eq_true c7
        clear c7
        obtain rfl := Option.some.inj H
        go_enter Try.func9, Try.ntmps9
        go_wp2
        go_ret
        exact ⟨by first | rfl | (simp; done) | (simp [*]; done), by repeat (first | exact Drawn0.refl _ | apply Drawn0.step)⟩
      · rw [if_neg c7] at H
        have c7b0 : decide (a1 ≤ a0) = false := decide_eq_false c7
        clear c7
        obtain rfl := Option.some.inj H
        go_enter Try.func9, Try.ntmps9
        go_wp2
        go_ret
        exact ⟨by first | rfl | (simp; done) | (simp [*]; done), by repeat (first | exact Drawn0.refl _ | apply Drawn0.step)⟩

/-! ### hours_Open: function 5 -/
def hours_Open.f (a0 : Int) (a1 : Int) (a2 : Int) : Option (Bool) := (hours_may.f a0 a1 a2).bind fun t101 => (if t101 = true then ((hours_open.f (Int.tmod a0 24) a1 a2).bind fun t102 => (some t102)) else (some false))
set_option maxHeartbeats 8000000 in
set_option maxRecDepth 100000 in
theorem hours_Open.calls (a0 : Int) (a1 : Int) (a2 : Int) (r : Bool) (w : World) (h : hours_Open.f a0 a1 a2 = some r) :
    Calls Try.prog 5 #[.int .i64 a0, .int .i64 a1, .int .i64 a2] w fun e w' => e = .returned (.bool r) ∧ Below w.heap.size w w' := by
  have HB := Aside0.mk (Below.refl w.heap.size w)
  have H : ((hours_may.f a0 a1 a2).bind fun t101 => (if t101 = true then ((hours_open.f (Int.tmod a0 24) a1 a2).bind fun t102 => (some t102)) else (some false))) = some r := h
  clear h
  replace H := Option.bind_eq_some_iff.mp H
  obtain ⟨t101, A40, H⟩ := H
  replace H : (if t101 = true then ((hours_open.f (Int.tmod a0 24) a1 a2).bind fun t102 => (some t102)) else (some false)) = some r := H
  have A4 := Aside0.mk A40
  clear A40
  by_cases c5 : t101 = true
  · subst c5
    have H1 : ((hours_open.f (Int.tmod a0 24) a1 a2).bind fun t102 => (some t102)) = some r := by rw [if_pos rfl] at H; exact H
    clear H
    have H := H1
    clear H1
    replace H := Option.bind_eq_some_iff.mp H
    obtain ⟨t102, A60, H⟩ := H
    replace H : (some t102) = some r := H
    have A6 := Aside0.mk A60
    clear A60
    obtain rfl := Option.some.inj H
    go_enter Try.func5, Try.ntmps5
    go_wp2_with (first | ((with_reducible refine gate_callee (f := 8) rfl ?_); refine goesL_ (some 10) rfl rfl Try.func8 (by kernel_rfl) rfl #[.int .i64 a0, .int .i64 a1, .int .i64 a2] rfl (by (try simp only [List.map_toArray, List.map_cons, List.map_nil]); first | done | rfl | (simp only [List.length_drop, List.length_take]; rfl)) ?_; (with_reducible refine (hours_may.calls a0 a1 a2 true _ A4.out).mono ?_); rintro e w7 ⟨rfl, hb⟩; refine ⟨_, rfl, ?_⟩; have n0_ := Aside0.mk (below_step (by repeat (first | (with_reducible first | exact HB.out | apply below_alloc | apply pw_below_drewN | apply below_drew1) | exact HB.out)) hb); clear HB; have HB := n0_; clear n0_; (try clear hb); (try clear hb2); (try clear hk); (try clear hi)) | ((with_reducible refine gate_callee (f := 9) rfl ?_); refine goesL_ (some 16) rfl rfl Try.func9 (by kernel_rfl) rfl #[.int .i64 (Int.tmod a0 24), .int .i64 a1, .int .i64 a2] rfl (by (try simp only [List.map_toArray, List.map_cons, List.map_nil]); first | done | rfl | (simp only [List.length_drop, List.length_take]; rfl)) ?_; (with_reducible refine (hours_open.calls (Int.tmod a0 24) a1 a2 t102 _ A6.out).mono ?_); rintro e w' ⟨rfl, ⟨nd, rfl⟩⟩; refine ⟨_, rfl, ?_⟩))
    go_ret
    exact ⟨by first | rfl | (simp [errW_none, errW_some] <;> rfl) | (simp [*, errW_none, errW_some] <;> rfl), by repeat (first | (with_reducible first | exact HB.out | apply below_alloc | apply pw_below_drewN | apply below_drew1) | exact HB.out)⟩
  · replace c5 := Bool.eq_false_iff.mpr c5
    subst c5
    have H1 : (some false) = some r := by rw [if_neg (show ¬ (false = true) by decide)] at H; exact H
    clear H
    have H := H1
    clear H1
    obtain rfl := Option.some.inj H
    go_enter Try.func5, Try.ntmps5
    go_wp2_with (first | ((with_reducible refine gate_callee (f := 8) rfl ?_); refine goesL_ (some 10) rfl rfl Try.func8 (by kernel_rfl) rfl #[.int .i64 a0, .int .i64 a1, .int .i64 a2] rfl (by (try simp only [List.map_toArray, List.map_cons, List.map_nil]); first | done | rfl | (simp only [List.length_drop, List.length_take]; rfl)) ?_; (with_reducible refine (hours_may.calls a0 a1 a2 false _ A4.out).mono ?_); rintro e w8 ⟨rfl, hb⟩; refine ⟨_, rfl, ?_⟩; have n0_ := Aside0.mk (below_step (by repeat (first | (with_reducible first | exact HB.out | apply below_alloc | apply pw_below_drewN | apply below_drew1) | exact HB.out)) hb); clear HB; have HB := n0_; clear n0_; (try clear hb); (try clear hb2); (try clear hk); (try clear hi)))
    go_ret
    exact ⟨by first | rfl | (simp [errW_none, errW_some] <;> rfl) | (simp [*, errW_none, errW_some] <;> rfl), by repeat (first | (with_reducible first | exact HB.out | apply below_alloc | apply pw_below_drewN | apply below_drew1) | exact HB.out)⟩

/-! ### hours_Wait: function 6 -/
def hours_Wait.l0 : Nat → Int → Int → Int → Int → Option (Int)
  | 0, _, _, _, _ => none
  | k + 1, x0, x1, x2, x13 => if x13 < 24 then ((hours_open.f (Int.tmod (wrap64 (x0 + x13)) 24) x1 x2).bind fun t104 => (if t104 = true then (some x13) else (hours_Wait.l0 k x0 x1 x2 (wrap64 (x13 + 1))))) else (some 0)
def hours_Wait.f (k : Nat) (a0 : Int) (a1 : Int) (a2 : Int) : Option (Int) := (hours_may.f a0 a1 a2).bind fun t103 => (if t103 = true then (hours_Wait.l0 k a0 a1 a2 0) else (some 0))
theorem hours_Wait.mono_l : ∀ k, (∀ y0 y1 y2 y3, LeO (hours_Wait.l0 k y0 y1 y2 y3) (hours_Wait.l0 (k + 1) y0 y1 y2 y3))
  | 0 => fun _ _ _ _ r h => by simp [hours_Wait.l0] at h
  | k + 1 => by
    have ih0 := hours_Wait.mono_l k
    · intro y0 y1 y2 y3
      unfold hours_Wait.l0
      repeat' first
      | (with_reducible exact ih0 _ _ _ _)
      | (with_reducible exact LeO.refl _)
      | (with_reducible exact LeO.none _)
      | (with_reducible refine LeO.ite ?_ ?_)
      | (with_reducible refine LeO.bind ?_ (fun _ => ?_))
      | exact ih0 _ _ _ _
      | exact LeO.none _
      | refine LeO.ite ?_ ?_
      | refine LeO.bind ?_ (fun _ => ?_)
theorem hours_Wait.mono : ∀ a0 a1 a2 k, LeO (hours_Wait.f k a0 a1 a2) (hours_Wait.f (k + 1) a0 a1 a2) := by
  intro a0 a1 a2 k
  have ih0 := hours_Wait.mono_l k
  unfold hours_Wait.f
  repeat' first
      | (with_reducible exact ih0 _ _ _ _)
      | (with_reducible exact LeO.refl _)
      | (with_reducible exact LeO.none _)
      | (with_reducible refine LeO.ite ?_ ?_)
      | (with_reducible refine LeO.bind ?_ (fun _ => ?_))
      | exact ih0 _ _ _ _
      | exact LeO.none _
      | refine LeO.ite ?_ ?_
      | refine LeO.bind ?_ (fun _ => ?_)
set_option maxHeartbeats 8000000 in
set_option maxRecDepth 100000 in
theorem hours_Wait.calls (k : Nat) (a0 : Int) (a1 : Int) (a2 : Int) (r : Int) (w : World) (h : hours_Wait.f k a0 a1 a2 = some r) :
    Calls Try.prog 6 #[.int .i64 a0, .int .i64 a1, .int .i64 a2] w fun e w' => e = .returned (.int .i64 r) ∧ Below w.heap.size w w' := by
  have HB := Aside0.mk (Below.refl w.heap.size w)
  have H : ((hours_may.f a0 a1 a2).bind fun t103 => (if t103 = true then (hours_Wait.l0 k a0 a1 a2 0) else (some 0))) = some r := h
  clear h
  replace H := Option.bind_eq_some_iff.mp H
  obtain ⟨t103, A40, H⟩ := H
  replace H : (if t103 = true then (hours_Wait.l0 k a0 a1 a2 0) else (some 0)) = some r := H
  have A4 := Aside0.mk A40
  clear A40
  by_cases c5 : t103 = true
  · subst c5
    have H1 : (hours_Wait.l0 k a0 a1 a2 0) = some r := by rw [if_pos rfl] at H; exact H
    clear H
    have H := H1
    clear H1
    have H' := Aside0.mk H
    clear H
    go_enter Try.func6, Try.ntmps6
    go_wp2_with (first | ((with_reducible refine gate_callee (f := 8) rfl ?_); refine goesL_ (some 11) rfl rfl Try.func8 (by kernel_rfl) rfl #[.int .i64 a0, .int .i64 a1, .int .i64 a2] rfl (by (try simp only [List.map_toArray, List.map_cons, List.map_nil]); first | done | rfl | (simp only [List.length_drop, List.length_take]; rfl)) ?_; (with_reducible refine (hours_may.calls a0 a1 a2 true _ A4.out).mono ?_); rintro e w6 ⟨rfl, hb⟩; refine ⟨_, rfl, ?_⟩; have n0_ := Aside0.mk (below_step (by repeat (first | (with_reducible first | exact HB.out | apply below_alloc | apply pw_below_drewN | apply below_drew1) | exact HB.out)) hb); clear HB; have HB := n0_; clear n0_; (try clear hb); (try clear hb2); (try clear hk); (try clear hi)))
    go_loopg [13] k (fun kq v13 w' => ∃ (x13_1 : Int), v13 = .int .i64 x13_1 ∧ Aside0 (hours_Wait.l0 kq a0 a1 a2 x13_1 = some r) ∧ Aside0 (kq ≤ k) ∧ Aside0 (Below w.heap.size w w'))
    case atStart => exact ⟨(0), (by first | rfl | (simp; done) | (simp [*]; done)), H', ⟨Nat.le_refl _⟩, ⟨by repeat (first | (with_reducible first | exact HB.out | apply below_alloc | apply pw_below_drewN | apply below_drew1) | exact HB.out)⟩⟩
    case round =>
      clear H'
      try clear p2
      try clear c5
      try clear c6
      obtain ⟨x13_1, rfl, HA, HK1, HB⟩ := hrel
      cases gk with
      | zero => exact absurd HA.out (by simp [hours_Wait.l0])
      | succ k1 =>
        have H := HA.out
        clear HA
        simp only [hours_Wait.l0] at H
        by_cases c7 : x13_1 < 24
        · rw [if_pos c7] at H
          have c7b0 : decide (x13_1 < 24) = true := decide_eq_true c7
          clear c7
          replace H := Option.bind_eq_some_iff.mp H
          obtain ⟨t104, A80, H⟩ := H
          replace H : (if t104 = true then (some x13_1) else (hours_Wait.l0 k1 a0 a1 a2 (wrap64 (x13_1 + 1)))) = some r := H
          have A8 := Aside0.mk A80
          clear A80
          by_cases c9 : t104 = true
          · subst c9
            have H1 : (some x13_1) = some r := by rw [if_pos rfl] at H; exact H
            clear H
            have H := H1
            clear H1
            obtain rfl := Option.some.inj H
            go_wp2_with (first | ((with_reducible refine gate_callee (f := 9) rfl ?_); refine goesL_ (some 22) rfl rfl Try.func9 (by kernel_rfl) rfl #[.int .i64 (Int.tmod (wrap64 (a0 + x13_1)) 24), .int .i64 a1, .int .i64 a2] rfl (by (try simp only [List.map_toArray, List.map_cons, List.map_nil]); first | done | rfl | (simp only [List.length_drop, List.length_take]; rfl)) ?_; (with_reducible refine (hours_open.calls (Int.tmod (wrap64 (a0 + x13_1)) 24) a1 a2 true _ A8.out).mono ?_); rintro e w' ⟨rfl, ⟨nd, rfl⟩⟩; refine ⟨_, rfl, ?_⟩))
            go_ret
            exact ⟨by first | rfl | (simp [errW_none, errW_some] <;> rfl) | (simp [*, errW_none, errW_some] <;> rfl), by repeat (first | (with_reducible first | exact HB.out | apply below_alloc | apply pw_below_drewN | apply below_drew1) | exact HB.out)⟩
          · replace c9 := Bool.eq_false_iff.mpr c9
            subst c9
            have H1 : (hours_Wait.l0 k1 a0 a1 a2 (wrap64 (x13_1 + 1))) = some r := by rw [if_neg (show ¬ (false = true) by decide)] at H; exact H
            clear H
            have H := H1
            clear H1
            have H' := Aside0.mk H
            clear H
            go_wp2_with (first | ((with_reducible refine gate_callee (f := 9) rfl ?_); refine goesL_ (some 22) rfl rfl Try.func9 (by kernel_rfl) rfl #[.int .i64 (Int.tmod (wrap64 (a0 + x13_1)) 24), .int .i64 a1, .int .i64 a2] rfl (by (try simp only [List.map_toArray, List.map_cons, List.map_nil]); first | done | rfl | (simp only [List.length_drop, List.length_take]; rfl)) ?_; (with_reducible refine (hours_open.calls (Int.tmod (wrap64 (a0 + x13_1)) 24) a1 a2 false _ A8.out).mono ?_); rintro e w' ⟨rfl, ⟨nd, rfl⟩⟩; refine ⟨_, rfl, ?_⟩))
            go_roundg k1
            case measure => have := HK1.out; omega
            case rel => exact ⟨(wrap64 (x13_1 + 1)), (by first | rfl | (simp; done) | (simp [*]; done)), H', ⟨by have := HK1.out; omega⟩, ⟨by repeat (first | (with_reducible first | exact HB.out | apply below_alloc | apply pw_below_drewN | apply below_drew1) | exact HB.out)⟩⟩
        · rw [if_neg c7] at H
          have c7b0 : decide (x13_1 < 24) = false := decide_eq_false c7
          clear c7
          obtain rfl := Option.some.inj H
          go_wp2
          go_ret
          exact ⟨by first | rfl | (simp [errW_none, errW_some] <;> rfl) | (simp [*, errW_none, errW_some] <;> rfl), by repeat (first | (with_reducible first | exact HB.out | apply below_alloc | apply pw_below_drewN | apply below_drew1) | exact HB.out)⟩
  · replace c5 := Bool.eq_false_iff.mpr c5
    subst c5
    have H1 : (some 0) = some r := by rw [if_neg (show ¬ (false = true) by decide)] at H; exact H
    clear H
    have H := H1
    clear H1
    obtain rfl := Option.some.inj H
    go_enter Try.func6, Try.ntmps6
    go_wp2_with (first | ((with_reducible refine gate_callee (f := 8) rfl ?_); refine goesL_ (some 11) rfl rfl Try.func8 (by kernel_rfl) rfl #[.int .i64 a0, .int .i64 a1, .int .i64 a2] rfl (by (try simp only [List.map_toArray, List.map_cons, List.map_nil]); first | done | rfl | (simp only [List.length_drop, List.length_take]; rfl)) ?_; (with_reducible refine (hours_may.calls a0 a1 a2 false _ A4.out).mono ?_); rintro e w10 ⟨rfl, hb⟩; refine ⟨_, rfl, ?_⟩; have n0_ := Aside0.mk (below_step (by repeat (first | (with_reducible first | exact HB.out | apply below_alloc | apply pw_below_drewN | apply below_drew1) | exact HB.out)) hb); clear HB; have HB := n0_; clear n0_; (try clear hb); (try clear hb2); (try clear hk); (try clear hi)))
    go_ret
    exact ⟨by first | rfl | (simp [errW_none, errW_some] <;> rfl) | (simp [*, errW_none, errW_some] <;> rfl), by repeat (first | (with_reducible first | exact HB.out | apply below_alloc | apply pw_below_drewN | apply below_drew1) | exact HB.out)⟩

/-! ### brooklaw22_awake: function 7 -/
def brooklaw22_awake.f (k : Nat)  : Option (Bool) := (hours_Open.f 23 22 4).bind fun t105 => (if t105 = true then ((hours_Open.f 5 22 4).bind fun t106 => (if t106 = true then (some false) else ((hours_Wait.f k 5 22 4).bind fun t107 => (some (t107 == 17))))) else (some false))
theorem brooklaw22_awake.mono : ∀ k, LeO (brooklaw22_awake.f k ) (brooklaw22_awake.f (k + 1) ) := by
  intro  k
  unfold brooklaw22_awake.f
  repeat' first
      | (with_reducible exact hours_Wait.mono _ _ _ _)
      | (with_reducible exact LeO.refl _)
      | (with_reducible exact LeO.none _)
      | (with_reducible refine LeO.ite ?_ ?_)
      | (with_reducible refine LeO.bind ?_ (fun _ => ?_))
      | exact hours_Wait.mono _ _ _ _
      | exact LeO.none _
      | refine LeO.ite ?_ ?_
      | refine LeO.bind ?_ (fun _ => ?_)
set_option maxHeartbeats 8000000 in
set_option maxRecDepth 100000 in
theorem brooklaw22_awake.calls (k : Nat)  (r : Bool) (w : World) (h : brooklaw22_awake.f k  = some r) :
    Calls Try.prog 7 #[] w fun e w' => e = .returned (.bool r) ∧ Below w.heap.size w w' := by
  have HB := Aside0.mk (Below.refl w.heap.size w)
  have H : ((hours_Open.f 23 22 4).bind fun t105 => (if t105 = true then ((hours_Open.f 5 22 4).bind fun t106 => (if t106 = true then (some false) else ((hours_Wait.f k 5 22 4).bind fun t107 => (some (t107 == 17))))) else (some false))) = some r := h
  clear h
  replace H := Option.bind_eq_some_iff.mp H
  obtain ⟨t105, A10, H⟩ := H
  replace H : (if t105 = true then ((hours_Open.f 5 22 4).bind fun t106 => (if t106 = true then (some false) else ((hours_Wait.f k 5 22 4).bind fun t107 => (some (t107 == 17))))) else (some false)) = some r := H
  have A1 := Aside0.mk A10
  clear A10
  by_cases c2 : t105 = true
  · subst c2
    have H1 : ((hours_Open.f 5 22 4).bind fun t106 => (if t106 = true then (some false) else ((hours_Wait.f k 5 22 4).bind fun t107 => (some (t107 == 17))))) = some r := by rw [if_pos rfl] at H; exact H
    clear H
    have H := H1
    clear H1
    replace H := Option.bind_eq_some_iff.mp H
    obtain ⟨t106, A30, H⟩ := H
    replace H : (if t106 = true then (some false) else ((hours_Wait.f k 5 22 4).bind fun t107 => (some (t107 == 17)))) = some r := H
    have A3 := Aside0.mk A30
    clear A30
    by_cases c4 : t106 = true
    · subst c4
      have H1 : (some false) = some r := by rw [if_pos rfl] at H; exact H
      clear H
      have H := H1
      clear H1
      obtain rfl := Option.some.inj H
      go_enter Try.func7, Try.ntmps7
      go_wp2_with (first | ((with_reducible refine gate_callee (f := 5) rfl ?_); refine goesL_ (some 1) rfl rfl Try.func5 (by kernel_rfl) rfl #[.int .i64 23, .int .i64 22, .int .i64 4] rfl (by (try simp only [List.map_toArray, List.map_cons, List.map_nil]); first | done | rfl | (simp only [List.length_drop, List.length_take]; rfl)) ?_; (with_reducible refine (hours_Open.calls 23 22 4 true _ A1.out).mono ?_); rintro e w5 ⟨rfl, hb⟩; refine ⟨_, rfl, ?_⟩; have n0_ := Aside0.mk (below_step (by repeat (first | (with_reducible first | exact HB.out | apply below_alloc | apply pw_below_drewN | apply below_drew1) | exact HB.out)) hb); clear HB; have HB := n0_; clear n0_; (try clear hb); (try clear hb2); (try clear hk); (try clear hi)) | (go_at_call 5; (with_reducible refine (hours_Open.calls 5 22 4 true _ A3.out).mono ?_); rintro e w6 ⟨rfl, hb⟩; have n0_ := Aside0.mk (below_step (by repeat (first | (with_reducible first | exact HB.out | apply below_alloc | apply pw_below_drewN | apply below_drew1) | exact HB.out)) hb); clear HB; have HB := n0_; clear n0_; (try clear hb); (try clear hb2); (try clear hk); (try clear hi)))
      go_ret
      exact ⟨by first | rfl | (simp [errW_none, errW_some] <;> rfl) | (simp [*, errW_none, errW_some] <;> rfl), by repeat (first | (with_reducible first | exact HB.out | apply below_alloc | apply pw_below_drewN | apply below_drew1) | exact HB.out)⟩
    · replace c4 := Bool.eq_false_iff.mpr c4
      subst c4
      have H1 : ((hours_Wait.f k 5 22 4).bind fun t107 => (some (t107 == 17))) = some r := by rw [if_neg (show ¬ (false = true) by decide)] at H; exact H
      clear H
      have H := H1
      clear H1
      replace H := Option.bind_eq_some_iff.mp H
      obtain ⟨t107, A70, H⟩ := H
      replace H : (some (t107 == 17)) = some r := H
      have A7 := Aside0.mk A70
      clear A70
      obtain rfl := Option.some.inj H
      go_enter Try.func7, Try.ntmps7
      go_wp2_with (first | ((with_reducible refine gate_callee (f := 5) rfl ?_); refine goesL_ (some 1) rfl rfl Try.func5 (by kernel_rfl) rfl #[.int .i64 23, .int .i64 22, .int .i64 4] rfl (by (try simp only [List.map_toArray, List.map_cons, List.map_nil]); first | done | rfl | (simp only [List.length_drop, List.length_take]; rfl)) ?_; (with_reducible refine (hours_Open.calls 23 22 4 true _ A1.out).mono ?_); rintro e w8 ⟨rfl, hb⟩; refine ⟨_, rfl, ?_⟩; have n0_ := Aside0.mk (below_step (by repeat (first | (with_reducible first | exact HB.out | apply below_alloc | apply pw_below_drewN | apply below_drew1) | exact HB.out)) hb); clear HB; have HB := n0_; clear n0_; (try clear hb); (try clear hb2); (try clear hk); (try clear hi)) | (go_at_call 5; (with_reducible refine (hours_Open.calls 5 22 4 false _ A3.out).mono ?_); rintro e w9 ⟨rfl, hb⟩; have n0_ := Aside0.mk (below_step (by repeat (first | (with_reducible first | exact HB.out | apply below_alloc | apply pw_below_drewN | apply below_drew1) | exact HB.out)) hb); clear HB; have HB := n0_; clear n0_; (try clear hb); (try clear hb2); (try clear hk); (try clear hi)) | (go_at_call 6; (with_reducible refine (hours_Wait.calls k 5 22 4 t107 _ A7.out).mono ?_); rintro e w10 ⟨rfl, hb⟩; have n0_ := Aside0.mk (below_step (by repeat (first | (with_reducible first | exact HB.out | apply below_alloc | apply pw_below_drewN | apply below_drew1) | exact HB.out)) hb); clear HB; have HB := n0_; clear n0_; (try clear hb); (try clear hb2); (try clear hk); (try clear hi)))
      go_ret
      exact ⟨by first | rfl | (simp [errW_none, errW_some] <;> rfl) | (simp [*, errW_none, errW_some] <;> rfl), by repeat (first | (with_reducible first | exact HB.out | apply below_alloc | apply pw_below_drewN | apply below_drew1) | exact HB.out)⟩
  · replace c2 := Bool.eq_false_iff.mpr c2
    subst c2
    have H1 : (some false) = some r := by rw [if_neg (show ¬ (false = true) by decide)] at H; exact H
    clear H
    have H := H1
    clear H1
    obtain rfl := Option.some.inj H
    go_enter Try.func7, Try.ntmps7
    go_wp2_with (first | ((with_reducible refine gate_callee (f := 5) rfl ?_); refine goesL_ (some 1) rfl rfl Try.func5 (by kernel_rfl) rfl #[.int .i64 23, .int .i64 22, .int .i64 4] rfl (by (try simp only [List.map_toArray, List.map_cons, List.map_nil]); first | done | rfl | (simp only [List.length_drop, List.length_take]; rfl)) ?_; (with_reducible refine (hours_Open.calls 23 22 4 false _ A1.out).mono ?_); rintro e w11 ⟨rfl, hb⟩; refine ⟨_, rfl, ?_⟩; have n0_ := Aside0.mk (below_step (by repeat (first | (with_reducible first | exact HB.out | apply below_alloc | apply pw_below_drewN | apply below_drew1) | exact HB.out)) hb); clear HB; have HB := n0_; clear n0_; (try clear hb); (try clear hb2); (try clear hk); (try clear hi)))
    go_ret
    exact ⟨by first | rfl | (simp [errW_none, errW_some] <;> rfl) | (simp [*, errW_none, errW_some] <;> rfl), by repeat (first | (with_reducible first | exact HB.out | apply below_alloc | apply pw_below_drewN | apply below_drew1) | exact HB.out)⟩

/-! ### brooklaw22_HoursDays: function 3 -/
mutual
def brooklaw22_HoursDays.j0 : Nat → Int → Int → Int → Bool → Int → Bool → Option (Bool)
  | 0, _, _, _, _, _, _ => none
  | k + 1, x9, x10, x11, x12, x13, x69 => if x69 = true then (some false) else (brooklaw22_HoursDays.l0 k x9 x10 x11 x12 x13 true 0)
def brooklaw22_HoursDays.l0 : Nat → Int → Int → Int → Bool → Int → Bool → Int → Option (Bool)
  | 0, _, _, _, _, _, _, _ => none
  | k + 1, x9, x10, x11, x12, x13, x14, x15 => if x15 < 24 then ((hours_Open.f (wrap64 (x9 + x15)) x10 x11).bind fun t112 => (if x14 = true then (if t112 = true then (if x15 < x13 then (some false) else (if x15 = x13 then (if x13 > 0 then (brooklaw22_HoursDays.l0 k x9 x10 x11 x12 x13 (!t112) (wrap64 (x15 + 1))) else (brooklaw22_HoursDays.l0 k x9 x10 x11 x12 x13 (!t112) (wrap64 (x15 + 1)))) else (brooklaw22_HoursDays.l0 k x9 x10 x11 x12 x13 (!t112) (wrap64 (x15 + 1))))) else (if x15 = x13 then (if x13 > 0 then (some false) else (brooklaw22_HoursDays.l0 k x9 x10 x11 x12 x13 (!t112) (wrap64 (x15 + 1)))) else (brooklaw22_HoursDays.l0 k x9 x10 x11 x12 x13 (!t112) (wrap64 (x15 + 1))))) else (if t112 = true then (if x15 < x13 then (some false) else (if x15 = x13 then (if x13 > 0 then (brooklaw22_HoursDays.l0 k x9 x10 x11 x12 x13 false (wrap64 (x15 + 1))) else (brooklaw22_HoursDays.l0 k x9 x10 x11 x12 x13 false (wrap64 (x15 + 1)))) else (brooklaw22_HoursDays.l0 k x9 x10 x11 x12 x13 false (wrap64 (x15 + 1))))) else (if x15 = x13 then (if x13 > 0 then (some false) else (brooklaw22_HoursDays.l0 k x9 x10 x11 x12 x13 false (wrap64 (x15 + 1)))) else (brooklaw22_HoursDays.l0 k x9 x10 x11 x12 x13 false (wrap64 (x15 + 1))))))) else (if x12 = true then ((brooklaw22_awake.f k).bind fun t113 => (some t113)) else (if x13 > 0 then ((brooklaw22_awake.f k).bind fun t114 => (some t114)) else (if x14 = true then ((brooklaw22_awake.f k).bind fun t115 => (some t115)) else (some false))))
end
def brooklaw22_HoursDays.f (k : Nat) (a0 : Int) (a1 : Int) (a2 : Int) (a3 : Int) : Option (Bool) := (hours_Open.f (wrap64 (a0)) (Int.tmod (wrap64 (a2)) 25) (Int.tmod (wrap64 (a3)) 25)).bind fun t108 => ((hours_Wait.f k (wrap64 (a0)) (Int.tmod (wrap64 (a2)) 25) (Int.tmod (wrap64 (a3)) 25)).bind fun t109 => ((hours_Open.f (wrap64 ((wrap64 (a0)) + (wrap64 (24 * (wrap64 (a1)))))) (Int.tmod (wrap64 (a2)) 25) (Int.tmod (wrap64 (a3)) 25)).bind fun t110 => (if (t108 != t110) = true then (brooklaw22_HoursDays.j0 k (wrap64 (a0)) (Int.tmod (wrap64 (a2)) 25) (Int.tmod (wrap64 (a3)) 25) t108 t109 true) else ((hours_Wait.f k (wrap64 ((wrap64 (a0)) + (wrap64 (24 * (wrap64 (a1)))))) (Int.tmod (wrap64 (a2)) 25) (Int.tmod (wrap64 (a3)) 25)).bind fun t111 => (if t109 = t111 then (if t109 < 0 then (brooklaw22_HoursDays.j0 k (wrap64 (a0)) (Int.tmod (wrap64 (a2)) 25) (Int.tmod (wrap64 (a3)) 25) t108 t109 true) else (if t109 > 23 then (brooklaw22_HoursDays.j0 k (wrap64 (a0)) (Int.tmod (wrap64 (a2)) 25) (Int.tmod (wrap64 (a3)) 25) t108 t109 true) else (if t108 = true then (brooklaw22_HoursDays.j0 k (wrap64 (a0)) (Int.tmod (wrap64 (a2)) 25) (Int.tmod (wrap64 (a3)) 25) t108 t109 (t109 != 0)) else (brooklaw22_HoursDays.j0 k (wrap64 (a0)) (Int.tmod (wrap64 (a2)) 25) (Int.tmod (wrap64 (a3)) 25) t108 t109 false)))) else (brooklaw22_HoursDays.j0 k (wrap64 (a0)) (Int.tmod (wrap64 (a2)) 25) (Int.tmod (wrap64 (a3)) 25) t108 t109 true))))))
theorem brooklaw22_HoursDays.mono_l : ∀ k, (∀ y0 y1 y2 y3 y4 y5, LeO (brooklaw22_HoursDays.j0 k y0 y1 y2 y3 y4 y5) (brooklaw22_HoursDays.j0 (k + 1) y0 y1 y2 y3 y4 y5)) ∧ (∀ y0 y1 y2 y3 y4 y5 y6, LeO (brooklaw22_HoursDays.l0 k y0 y1 y2 y3 y4 y5 y6) (brooklaw22_HoursDays.l0 (k + 1) y0 y1 y2 y3 y4 y5 y6))
  | 0 => ⟨fun _ _ _ _ _ _ r h => by simp [brooklaw22_HoursDays.j0] at h, fun _ _ _ _ _ _ _ r h => by simp [brooklaw22_HoursDays.l0] at h⟩
  | k + 1 => by
    obtain ⟨ih0, ih1⟩ := brooklaw22_HoursDays.mono_l k
    refine ⟨?_, ?_⟩
    · intro y0 y1 y2 y3 y4 y5
      unfold brooklaw22_HoursDays.j0
      repeat' first
      | (with_reducible exact ih0 _ _ _ _ _ _)
      | (with_reducible exact ih1 _ _ _ _ _ _ _)
      | (with_reducible exact brooklaw22_awake.mono _)
      | (with_reducible exact hours_Wait.mono _ _ _ _)
      | (with_reducible exact LeO.refl _)
      | (with_reducible exact LeO.none _)
      | (with_reducible refine LeO.ite ?_ ?_)
      | (with_reducible refine LeO.bind ?_ (fun _ => ?_))
      | exact ih0 _ _ _ _ _ _
      | exact ih1 _ _ _ _ _ _ _
      | exact brooklaw22_awake.mono _
      | exact hours_Wait.mono _ _ _ _
      | exact LeO.none _
      | refine LeO.ite ?_ ?_
      | refine LeO.bind ?_ (fun _ => ?_)
    · intro y0 y1 y2 y3 y4 y5 y6
      unfold brooklaw22_HoursDays.l0
      repeat' first
      | (with_reducible exact ih0 _ _ _ _ _ _)
      | (with_reducible exact ih1 _ _ _ _ _ _ _)
      | (with_reducible exact brooklaw22_awake.mono _)
      | (with_reducible exact hours_Wait.mono _ _ _ _)
      | (with_reducible exact LeO.refl _)
      | (with_reducible exact LeO.none _)
      | (with_reducible refine LeO.ite ?_ ?_)
      | (with_reducible refine LeO.bind ?_ (fun _ => ?_))
      | exact ih0 _ _ _ _ _ _
      | exact ih1 _ _ _ _ _ _ _
      | exact brooklaw22_awake.mono _
      | exact hours_Wait.mono _ _ _ _
      | exact LeO.none _
      | refine LeO.ite ?_ ?_
      | refine LeO.bind ?_ (fun _ => ?_)
theorem brooklaw22_HoursDays.mono : ∀ a0 a1 a2 a3 k, LeO (brooklaw22_HoursDays.f k a0 a1 a2 a3) (brooklaw22_HoursDays.f (k + 1) a0 a1 a2 a3) := by
  intro a0 a1 a2 a3 k
  obtain ⟨ih0, ih1⟩ := brooklaw22_HoursDays.mono_l k
  unfold brooklaw22_HoursDays.f
  repeat' first
      | (with_reducible exact ih0 _ _ _ _ _ _)
      | (with_reducible exact ih1 _ _ _ _ _ _ _)
      | (with_reducible exact brooklaw22_awake.mono _)
      | (with_reducible exact hours_Wait.mono _ _ _ _)
      | (with_reducible exact LeO.refl _)
      | (with_reducible exact LeO.none _)
      | (with_reducible refine LeO.ite ?_ ?_)
      | (with_reducible refine LeO.bind ?_ (fun _ => ?_))
      | exact ih0 _ _ _ _ _ _
      | exact ih1 _ _ _ _ _ _ _
      | exact brooklaw22_awake.mono _
      | exact hours_Wait.mono _ _ _ _
      | exact LeO.none _
      | refine LeO.ite ?_ ?_
      | refine LeO.bind ?_ (fun _ => ?_)
set_option maxHeartbeats 8000000 in
set_option maxRecDepth 100000 in
theorem brooklaw22_HoursDays.calls (k : Nat) (a0 : Int) (a1 : Int) (a2 : Int) (a3 : Int) (r : Bool) (w : World) (h : brooklaw22_HoursDays.f k a0 a1 a2 a3 = some r) :
    Calls Try.prog 3 #[.int .u32 a0, .int .u8 a1, .int .u8 a2, .int .u8 a3] w fun e w' => e = .returned (.bool r) ∧ Below w.heap.size w w' := by
  have HB := Aside0.mk (Below.refl w.heap.size w)
  have H : ((hours_Open.f (wrap64 (a0)) (Int.tmod (wrap64 (a2)) 25) (Int.tmod (wrap64 (a3)) 25)).bind fun t108 => ((hours_Wait.f k (wrap64 (a0)) (Int.tmod (wrap64 (a2)) 25) (Int.tmod (wrap64 (a3)) 25)).bind fun t109 => ((hours_Open.f (wrap64 ((wrap64 (a0)) + (wrap64 (24 * (wrap64 (a1)))))) (Int.tmod (wrap64 (a2)) 25) (Int.tmod (wrap64 (a3)) 25)).bind fun t110 => (if (t108 != t110) = true then (brooklaw22_HoursDays.j0 k (wrap64 (a0)) (Int.tmod (wrap64 (a2)) 25) (Int.tmod (wrap64 (a3)) 25) t108 t109 true) else ((hours_Wait.f k (wrap64 ((wrap64 (a0)) + (wrap64 (24 * (wrap64 (a1)))))) (Int.tmod (wrap64 (a2)) 25) (Int.tmod (wrap64 (a3)) 25)).bind fun t111 => (if t109 = t111 then (if t109 < 0 then (brooklaw22_HoursDays.j0 k (wrap64 (a0)) (Int.tmod (wrap64 (a2)) 25) (Int.tmod (wrap64 (a3)) 25) t108 t109 true) else (if t109 > 23 then (brooklaw22_HoursDays.j0 k (wrap64 (a0)) (Int.tmod (wrap64 (a2)) 25) (Int.tmod (wrap64 (a3)) 25) t108 t109 true) else (if t108 = true then (brooklaw22_HoursDays.j0 k (wrap64 (a0)) (Int.tmod (wrap64 (a2)) 25) (Int.tmod (wrap64 (a3)) 25) t108 t109 (t109 != 0)) else (brooklaw22_HoursDays.j0 k (wrap64 (a0)) (Int.tmod (wrap64 (a2)) 25) (Int.tmod (wrap64 (a3)) 25) t108 t109 false)))) else (brooklaw22_HoursDays.j0 k (wrap64 (a0)) (Int.tmod (wrap64 (a2)) 25) (Int.tmod (wrap64 (a3)) 25) t108 t109 true))))))) = some r := h
  clear h
  replace H := Option.bind_eq_some_iff.mp H
  obtain ⟨t108, A50, H⟩ := H
  replace H : ((hours_Wait.f k (wrap64 (a0)) (Int.tmod (wrap64 (a2)) 25) (Int.tmod (wrap64 (a3)) 25)).bind fun t109 => ((hours_Open.f (wrap64 ((wrap64 (a0)) + (wrap64 (24 * (wrap64 (a1)))))) (Int.tmod (wrap64 (a2)) 25) (Int.tmod (wrap64 (a3)) 25)).bind fun t110 => (if (t108 != t110) = true then (brooklaw22_HoursDays.j0 k (wrap64 (a0)) (Int.tmod (wrap64 (a2)) 25) (Int.tmod (wrap64 (a3)) 25) t108 t109 true) else ((hours_Wait.f k (wrap64 ((wrap64 (a0)) + (wrap64 (24 * (wrap64 (a1)))))) (Int.tmod (wrap64 (a2)) 25) (Int.tmod (wrap64 (a3)) 25)).bind fun t111 => (if t109 = t111 then (if t109 < 0 then (brooklaw22_HoursDays.j0 k (wrap64 (a0)) (Int.tmod (wrap64 (a2)) 25) (Int.tmod (wrap64 (a3)) 25) t108 t109 true) else (if t109 > 23 then (brooklaw22_HoursDays.j0 k (wrap64 (a0)) (Int.tmod (wrap64 (a2)) 25) (Int.tmod (wrap64 (a3)) 25) t108 t109 true) else (if t108 = true then (brooklaw22_HoursDays.j0 k (wrap64 (a0)) (Int.tmod (wrap64 (a2)) 25) (Int.tmod (wrap64 (a3)) 25) t108 t109 (t109 != 0)) else (brooklaw22_HoursDays.j0 k (wrap64 (a0)) (Int.tmod (wrap64 (a2)) 25) (Int.tmod (wrap64 (a3)) 25) t108 t109 false)))) else (brooklaw22_HoursDays.j0 k (wrap64 (a0)) (Int.tmod (wrap64 (a2)) 25) (Int.tmod (wrap64 (a3)) 25) t108 t109 true)))))) = some r := H
  have A5 := Aside0.mk A50
  clear A50
  replace H := Option.bind_eq_some_iff.mp H
  obtain ⟨t109, A60, H⟩ := H
  replace H : ((hours_Open.f (wrap64 ((wrap64 (a0)) + (wrap64 (24 * (wrap64 (a1)))))) (Int.tmod (wrap64 (a2)) 25) (Int.tmod (wrap64 (a3)) 25)).bind fun t110 => (if (t108 != t110) = true then (brooklaw22_HoursDays.j0 k (wrap64 (a0)) (Int.tmod (wrap64 (a2)) 25) (Int.tmod (wrap64 (a3)) 25) t108 t109 true) else ((hours_Wait.f k (wrap64 ((wrap64 (a0)) + (wrap64 (24 * (wrap64 (a1)))))) (Int.tmod (wrap64 (a2)) 25) (Int.tmod (wrap64 (a3)) 25)).bind fun t111 => (if t109 = t111 then (if t109 < 0 then (brooklaw22_HoursDays.j0 k (wrap64 (a0)) (Int.tmod (wrap64 (a2)) 25) (Int.tmod (wrap64 (a3)) 25) t108 t109 true) else (if t109 > 23 then (brooklaw22_HoursDays.j0 k (wrap64 (a0)) (Int.tmod (wrap64 (a2)) 25) (Int.tmod (wrap64 (a3)) 25) t108 t109 true) else (if t108 = true then (brooklaw22_HoursDays.j0 k (wrap64 (a0)) (Int.tmod (wrap64 (a2)) 25) (Int.tmod (wrap64 (a3)) 25) t108 t109 (t109 != 0)) else (brooklaw22_HoursDays.j0 k (wrap64 (a0)) (Int.tmod (wrap64 (a2)) 25) (Int.tmod (wrap64 (a3)) 25) t108 t109 false)))) else (brooklaw22_HoursDays.j0 k (wrap64 (a0)) (Int.tmod (wrap64 (a2)) 25) (Int.tmod (wrap64 (a3)) 25) t108 t109 true))))) = some r := H
  have A6 := Aside0.mk A60
  clear A60
  have HC7 := Aside0.mk H
  clear H
  go_enter Try.func3, Try.ntmps3
  go_upto_region 3 with (first | ((with_reducible refine gate_callee (f := 5) rfl ?_); refine goesL_ (some 28) rfl rfl Try.func5 (by kernel_rfl) rfl #[.int .i64 (wrap64 (a0)), .int .i64 (Int.tmod (wrap64 (a2)) 25), .int .i64 (Int.tmod (wrap64 (a3)) 25)] rfl (by (try simp only [List.map_toArray, List.map_cons, List.map_nil]); first | done | rfl | (simp only [List.length_drop, List.length_take]; rfl)) ?_; (with_reducible refine (hours_Open.calls (wrap64 (a0)) (Int.tmod (wrap64 (a2)) 25) (Int.tmod (wrap64 (a3)) 25) t108 _ A5.out).mono ?_); rintro e w8 ⟨rfl, hb⟩; refine ⟨_, rfl, ?_⟩; have n0_ := Aside0.mk (below_step (by repeat (first | (with_reducible first | exact HB.out | apply below_alloc | apply pw_below_drewN | apply below_drew1) | exact HB.out)) hb); clear HB; have HB := n0_; clear n0_; (try clear hb); (try clear hb2); (try clear hk); (try clear hi)) | ((with_reducible refine gate_callee (f := 6) rfl ?_); refine goesL_ (some 32) rfl rfl Try.func6 (by kernel_rfl) rfl #[.int .i64 (wrap64 (a0)), .int .i64 (Int.tmod (wrap64 (a2)) 25), .int .i64 (Int.tmod (wrap64 (a3)) 25)] rfl (by (try simp only [List.map_toArray, List.map_cons, List.map_nil]); first | done | rfl | (simp only [List.length_drop, List.length_take]; rfl)) ?_; (with_reducible refine (hours_Wait.calls k (wrap64 (a0)) (Int.tmod (wrap64 (a2)) 25) (Int.tmod (wrap64 (a3)) 25) t109 _ A6.out).mono ?_); rintro e w9 ⟨rfl, hb⟩; refine ⟨_, rfl, ?_⟩; have n0_ := Aside0.mk (below_step (by repeat (first | (with_reducible first | exact HB.out | apply below_alloc | apply pw_below_drewN | apply below_drew1) | exact HB.out)) hb); clear HB; have HB := n0_; clear n0_; (try clear hb); (try clear hb2); (try clear hk); (try clear hi)))
  (try simp only [Act.put, List.setIfInBounds_toArray, List.set_cons_zero, List.set_cons_succ])
  go_cut [69] (fun v69 wc => ∃ (kq : Nat) (x69_6 : Bool), v69 = .bool x69_6 ∧ Aside0 (brooklaw22_HoursDays.j0 kq (wrap64 (a0)) (Int.tmod (wrap64 (a2)) 25) (Int.tmod (wrap64 (a3)) 25) t108 t109 x69_6 = some r) ∧ Aside0 (kq ≤ k) ∧ Aside0 (Below w.heap.size w wc))
  case first =>
    have H := HC7.out
    clear HC7
    replace H := Option.bind_eq_some_iff.mp H
    obtain ⟨t110, A100, H⟩ := H
    replace H : (if (t108 != t110) = true then (brooklaw22_HoursDays.j0 k (wrap64 (a0)) (Int.tmod (wrap64 (a2)) 25) (Int.tmod (wrap64 (a3)) 25) t108 t109 true) else ((hours_Wait.f k (wrap64 ((wrap64 (a0)) + (wrap64 (24 * (wrap64 (a1)))))) (Int.tmod (wrap64 (a2)) 25) (Int.tmod (wrap64 (a3)) 25)).bind fun t111 => (if t109 = t111 then (if t109 < 0 then (brooklaw22_HoursDays.j0 k (wrap64 (a0)) (Int.tmod (wrap64 (a2)) 25) (Int.tmod (wrap64 (a3)) 25) t108 t109 true) else (if t109 > 23 then (brooklaw22_HoursDays.j0 k (wrap64 (a0)) (Int.tmod (wrap64 (a2)) 25) (Int.tmod (wrap64 (a3)) 25) t108 t109 true) else (if t108 = true then (brooklaw22_HoursDays.j0 k (wrap64 (a0)) (Int.tmod (wrap64 (a2)) 25) (Int.tmod (wrap64 (a3)) 25) t108 t109 (t109 != 0)) else (brooklaw22_HoursDays.j0 k (wrap64 (a0)) (Int.tmod (wrap64 (a2)) 25) (Int.tmod (wrap64 (a3)) 25) t108 t109 false)))) else (brooklaw22_HoursDays.j0 k (wrap64 (a0)) (Int.tmod (wrap64 (a2)) 25) (Int.tmod (wrap64 (a3)) 25) t108 t109 true)))) = some r := H
    have A10 := Aside0.mk A100
    clear A100
    by_cases c11 : (t108 != t110) = true
    · rw [if_pos c11] at H
      have c11b0 : (t108 != t110) = true := c11
      (try (have c11b1 : decide (t108 = t110) = false := by simpa using c11))
      (try (have c11b2 : (t108 == t110) = false := by simpa using c11))
      (try (have c11b3 : ¬ (t108 = t110) := by simpa using c11))
      clear c11
      (first | rw [c11b0] | (simp only [i64_w, i32_w]; rw [c11b0]) | skip)
      have H' := Aside0.mk H
      clear H
      go_wp2_with (first | ((with_reducible refine gate_callee (f := 5) rfl ?_); refine goesL_ (some 41) rfl rfl Try.func5 (by kernel_rfl) rfl #[.int .i64 (wrap64 ((wrap64 (a0)) + (wrap64 (24 * (wrap64 (a1)))))), .int .i64 (Int.tmod (wrap64 (a2)) 25), .int .i64 (Int.tmod (wrap64 (a3)) 25)] rfl (by (try simp only [List.map_toArray, List.map_cons, List.map_nil]); first | done | rfl | (simp only [List.length_drop, List.length_take]; rfl)) ?_; (with_reducible refine (hours_Open.calls (wrap64 ((wrap64 (a0)) + (wrap64 (24 * (wrap64 (a1)))))) (Int.tmod (wrap64 (a2)) 25) (Int.tmod (wrap64 (a3)) 25) t110 _ A10.out).mono ?_); rintro e w12 ⟨rfl, hb⟩; refine ⟨_, rfl, ?_⟩; have n0_ := Aside0.mk (below_step (by repeat (first | (with_reducible first | exact HB.out | apply below_alloc | apply pw_below_drewN | apply below_drew1) | exact HB.out)) hb); clear HB; have HB := n0_; clear n0_; (try clear hb); (try clear hb2); (try clear hk); (try clear hi)))
      go_meet
      case rel => exact ⟨_, (true), (by first | rfl | (simp; done) | (simp [*]; done)), H', ⟨by first | omega | exact Nat.le_refl _⟩, ⟨by repeat (first | (with_reducible first | exact HB.out | apply below_alloc | apply pw_below_drewN | apply below_drew1) | exact HB.out)⟩⟩
    · rw [if_neg c11] at H
      have c11b0 : (t108 != t110) = false := by simpa using c11
      (try (have c11b1 : decide (t108 = t110) = true := by simpa using c11))
      (try (have c11b2 : (t108 == t110) = true := by simpa using c11))
      clear c11
      (first | rw [c11b0] | (simp only [i64_w, i32_w]; rw [c11b0]) | skip)
      replace H := Option.bind_eq_some_iff.mp H
      obtain ⟨t111, A130, H⟩ := H
      replace H : (if t109 = t111 then (if t109 < 0 then (brooklaw22_HoursDays.j0 k (wrap64 (a0)) (Int.tmod (wrap64 (a2)) 25) (Int.tmod (wrap64 (a3)) 25) t108 t109 true) else (if t109 > 23 then (brooklaw22_HoursDays.j0 k (wrap64 (a0)) (Int.tmod (wrap64 (a2)) 25) (Int.tmod (wrap64 (a3)) 25) t108 t109 true) else (if t108 = true then (brooklaw22_HoursDays.j0 k (wrap64 (a0)) (Int.tmod (wrap64 (a2)) 25) (Int.tmod (wrap64 (a3)) 25) t108 t109 (t109 != 0)) else (brooklaw22_HoursDays.j0 k (wrap64 (a0)) (Int.tmod (wrap64 (a2)) 25) (Int.tmod (wrap64 (a3)) 25) t108 t109 false)))) else (brooklaw22_HoursDays.j0 k (wrap64 (a0)) (Int.tmod (wrap64 (a2)) 25) (Int.tmod (wrap64 (a3)) 25) t108 t109 true)) = some r := H
      have A13 := Aside0.mk A130
      clear A130
      by_cases c14 : t109 = t111
      · rw [if_pos c14] at H
        have c14b0 : (t109 == t111) = true := beq_iff_eq.mpr c14
        have c14b1 : (t109 != t111) = false := bne_eq_false_iff_eq.mpr c14
        clear c14
        by_cases c15 : t109 < 0
        · rw [if_pos c15] at H
          have c15b0 : decide (t109 < 0) = true := decide_eq_true c15
          clear c15
          have H' := Aside0.mk H
          clear H
          go_wp2_with (first | ((with_reducible refine gate_callee (f := 5) rfl ?_); refine goesL_ (some 41) rfl rfl Try.func5 (by kernel_rfl) rfl #[.int .i64 (wrap64 ((wrap64 (a0)) + (wrap64 (24 * (wrap64 (a1)))))), .int .i64 (Int.tmod (wrap64 (a2)) 25), .int .i64 (Int.tmod (wrap64 (a3)) 25)] rfl (by (try simp only [List.map_toArray, List.map_cons, List.map_nil]); first | done | rfl | (simp only [List.length_drop, List.length_take]; rfl)) ?_; (with_reducible refine (hours_Open.calls (wrap64 ((wrap64 (a0)) + (wrap64 (24 * (wrap64 (a1)))))) (Int.tmod (wrap64 (a2)) 25) (Int.tmod (wrap64 (a3)) 25) t110 _ A10.out).mono ?_); rintro e w16 ⟨rfl, hb⟩; refine ⟨_, rfl, ?_⟩; have n0_ := Aside0.mk (below_step (by repeat (first | (with_reducible first | exact HB.out | apply below_alloc | apply pw_below_drewN | apply below_drew1) | exact HB.out)) hb); clear HB; have HB := n0_; clear n0_; (try clear hb); (try clear hb2); (try clear hk); (try clear hi)) | (go_at_call 6; (with_reducible refine (hours_Wait.calls k (wrap64 ((wrap64 (a0)) + (wrap64 (24 * (wrap64 (a1)))))) (Int.tmod (wrap64 (a2)) 25) (Int.tmod (wrap64 (a3)) 25) t111 _ A13.out).mono ?_); rintro e w17 ⟨rfl, hb⟩; have n0_ := Aside0.mk (below_step (by repeat (first | (with_reducible first | exact HB.out | apply below_alloc | apply pw_below_drewN | apply below_drew1) | exact HB.out)) hb); clear HB; have HB := n0_; clear n0_; (try clear hb); (try clear hb2); (try clear hk); (try clear hi)))
          go_meet
          case rel => exact ⟨_, (true), (by first | rfl | (simp; done) | (simp [*]; done)), H', ⟨by first | omega | exact Nat.le_refl _⟩, ⟨by repeat (first | (with_reducible first | exact HB.out | apply below_alloc | apply pw_below_drewN | apply below_drew1) | exact HB.out)⟩⟩
        · rw [if_neg c15] at H
          have c15b0 : decide (t109 < 0) = false := decide_eq_false c15
          clear c15
          by_cases c18 : t109 > 23
          · rw [if_pos c18] at H
            have c18b0 : decide (23 < t109) = true := decide_eq_true c18
            clear c18
            have H' := Aside0.mk H
            clear H
            go_wp2_with (first | ((with_reducible refine gate_callee (f := 5) rfl ?_); refine goesL_ (some 41) rfl rfl Try.func5 (by kernel_rfl) rfl #[.int .i64 (wrap64 ((wrap64 (a0)) + (wrap64 (24 * (wrap64 (a1)))))), .int .i64 (Int.tmod (wrap64 (a2)) 25), .int .i64 (Int.tmod (wrap64 (a3)) 25)] rfl (by (try simp only [List.map_toArray, List.map_cons, List.map_nil]); first | done | rfl | (simp only [List.length_drop, List.length_take]; rfl)) ?_; (with_reducible refine (hours_Open.calls (wrap64 ((wrap64 (a0)) + (wrap64 (24 * (wrap64 (a1)))))) (Int.tmod (wrap64 (a2)) 25) (Int.tmod (wrap64 (a3)) 25) t110 _ A10.out).mono ?_); rintro e w19 ⟨rfl, hb⟩; refine ⟨_, rfl, ?_⟩; have n0_ := Aside0.mk (below_step (by repeat (first | (with_reducible first | exact HB.out | apply below_alloc | apply pw_below_drewN | apply below_drew1) | exact HB.out)) hb); clear HB; have HB := n0_; clear n0_; (try clear hb); (try clear hb2); (try clear hk); (try clear hi)) | (go_at_call 6; (with_reducible refine (hours_Wait.calls k (wrap64 ((wrap64 (a0)) + (wrap64 (24 * (wrap64 (a1)))))) (Int.tmod (wrap64 (a2)) 25) (Int.tmod (wrap64 (a3)) 25) t111 _ A13.out).mono ?_); rintro e w20 ⟨rfl, hb⟩; have n0_ := Aside0.mk (below_step (by repeat (first | (with_reducible first | exact HB.out | apply below_alloc | apply pw_below_drewN | apply below_drew1) | exact HB.out)) hb); clear HB; have HB := n0_; clear n0_; (try clear hb); (try clear hb2); (try clear hk); (try clear hi)))
            go_meet
            case rel => exact ⟨_, (true), (by first | rfl | (simp; done) | (simp [*]; done)), H', ⟨by first | omega | exact Nat.le_refl _⟩, ⟨by repeat (first | (with_reducible first | exact HB.out | apply below_alloc | apply pw_below_drewN | apply below_drew1) | exact HB.out)⟩⟩
          · rw [if_neg c18] at H
            have c18b0 : decide (23 < t109) = false := decide_eq_false c18
            clear c18
            by_cases c21 : t108 = true
            · subst c21
              have H1 : (brooklaw22_HoursDays.j0 k (wrap64 (a0)) (Int.tmod (wrap64 (a2)) 25) (Int.tmod (wrap64 (a3)) 25) true t109 (t109 != 0)) = some r := by rw [if_pos rfl] at H; exact H
              clear H
              have H := H1
              clear H1
              have H' := Aside0.mk H
              clear H
              go_wp2_with (first | ((with_reducible refine gate_callee (f := 5) rfl ?_); refine goesL_ (some 41) rfl rfl Try.func5 (by kernel_rfl) rfl #[.int .i64 (wrap64 ((wrap64 (a0)) + (wrap64 (24 * (wrap64 (a1)))))), .int .i64 (Int.tmod (wrap64 (a2)) 25), .int .i64 (Int.tmod (wrap64 (a3)) 25)] rfl (by (try simp only [List.map_toArray, List.map_cons, List.map_nil]); first | done | rfl | (simp only [List.length_drop, List.length_take]; rfl)) ?_; (with_reducible refine (hours_Open.calls (wrap64 ((wrap64 (a0)) + (wrap64 (24 * (wrap64 (a1)))))) (Int.tmod (wrap64 (a2)) 25) (Int.tmod (wrap64 (a3)) 25) t110 _ A10.out).mono ?_); rintro e w22 ⟨rfl, hb⟩; refine ⟨_, rfl, ?_⟩; have n0_ := Aside0.mk (below_step (by repeat (first | (with_reducible first | exact HB.out | apply below_alloc | apply pw_below_drewN | apply below_drew1) | exact HB.out)) hb); clear HB; have HB := n0_; clear n0_; (try clear hb); (try clear hb2); (try clear hk); (try clear hi)) | (go_at_call 6; (with_reducible refine (hours_Wait.calls k (wrap64 ((wrap64 (a0)) + (wrap64 (24 * (wrap64 (a1)))))) (Int.tmod (wrap64 (a2)) 25) (Int.tmod (wrap64 (a3)) 25) t111 _ A13.out).mono ?_); rintro e w23 ⟨rfl, hb⟩; have n0_ := Aside0.mk (below_step (by repeat (first | (with_reducible first | exact HB.out | apply below_alloc | apply pw_below_drewN | apply below_drew1) | exact HB.out)) hb); clear HB; have HB := n0_; clear n0_; (try clear hb); (try clear hb2); (try clear hk); (try clear hi)))
              go_meet
              case rel => exact ⟨_, ((t109 != 0)), (by first | rfl | (simp; done) | (simp [*]; done)), H', ⟨by first | omega | exact Nat.le_refl _⟩, ⟨by repeat (first | (with_reducible first | exact HB.out | apply below_alloc | apply pw_below_drewN | apply below_drew1) | exact HB.out)⟩⟩
            · replace c21 := Bool.eq_false_iff.mpr c21
              subst c21
              have H1 : (brooklaw22_HoursDays.j0 k (wrap64 (a0)) (Int.tmod (wrap64 (a2)) 25) (Int.tmod (wrap64 (a3)) 25) false t109 false) = some r := by rw [if_neg (show ¬ (false = true) by decide)] at H; exact H
              clear H
              have H := H1
              clear H1
              have H' := Aside0.mk H
              clear H
              go_wp2_with (first | ((with_reducible refine gate_callee (f := 5) rfl ?_); refine goesL_ (some 41) rfl rfl Try.func5 (by kernel_rfl) rfl #[.int .i64 (wrap64 ((wrap64 (a0)) + (wrap64 (24 * (wrap64 (a1)))))), .int .i64 (Int.tmod (wrap64 (a2)) 25), .int .i64 (Int.tmod (wrap64 (a3)) 25)] rfl (by (try simp only [List.map_toArray, List.map_cons, List.map_nil]); first | done | rfl | (simp only [List.length_drop, List.length_take]; rfl)) ?_; (with_reducible refine (hours_Open.calls (wrap64 ((wrap64 (a0)) + (wrap64 (24 * (wrap64 (a1)))))) (Int.tmod (wrap64 (a2)) 25) (Int.tmod (wrap64 (a3)) 25) t110 _ A10.out).mono ?_); rintro e w24 ⟨rfl, hb⟩; refine ⟨_, rfl, ?_⟩; have n0_ := Aside0.mk (below_step (by repeat (first | (with_reducible first | exact HB.out | apply below_alloc | apply pw_below_drewN | apply below_drew1) | exact HB.out)) hb); clear HB; have HB := n0_; clear n0_; (try clear hb); (try clear hb2); (try clear hk); (try clear hi)) | (go_at_call 6; (with_reducible refine (hours_Wait.calls k (wrap64 ((wrap64 (a0)) + (wrap64 (24 * (wrap64 (a1)))))) (Int.tmod (wrap64 (a2)) 25) (Int.tmod (wrap64 (a3)) 25) t111 _ A13.out).mono ?_); rintro e w25 ⟨rfl, hb⟩; have n0_ := Aside0.mk (below_step (by repeat (first | (with_reducible first | exact HB.out | apply below_alloc | apply pw_below_drewN | apply below_drew1) | exact HB.out)) hb); clear HB; have HB := n0_; clear n0_; (try clear hb); (try clear hb2); (try clear hk); (try clear hi)))
              go_meet
              case rel => exact ⟨_, (false), (by first | rfl | (simp; done) | (simp [*]; done)), H', ⟨by first | omega | exact Nat.le_refl _⟩, ⟨by repeat (first | (with_reducible first | exact HB.out | apply below_alloc | apply pw_below_drewN | apply below_drew1) | exact HB.out)⟩⟩
      · rw [if_neg c14] at H
        have c14b0 : (t109 == t111) = false := beq_eq_false_iff_ne.mpr c14
        have c14b1 : (t109 != t111) = true := bne_iff_ne.mpr c14
        have H' := Aside0.mk H
        clear H
        go_wp2_with (first | ((with_reducible refine gate_callee (f := 5) rfl ?_); refine goesL_ (some 41) rfl rfl Try.func5 (by kernel_rfl) rfl #[.int .i64 (wrap64 ((wrap64 (a0)) + (wrap64 (24 * (wrap64 (a1)))))), .int .i64 (Int.tmod (wrap64 (a2)) 25), .int .i64 (Int.tmod (wrap64 (a3)) 25)] rfl (by (try simp only [List.map_toArray, List.map_cons, List.map_nil]); first | done | rfl | (simp only [List.length_drop, List.length_take]; rfl)) ?_; (with_reducible refine (hours_Open.calls (wrap64 ((wrap64 (a0)) + (wrap64 (24 * (wrap64 (a1)))))) (Int.tmod (wrap64 (a2)) 25) (Int.tmod (wrap64 (a3)) 25) t110 _ A10.out).mono ?_); rintro e w26 ⟨rfl, hb⟩; refine ⟨_, rfl, ?_⟩; have n0_ := Aside0.mk (below_step (by repeat (first | (with_reducible first | exact HB.out | apply below_alloc | apply pw_below_drewN | apply below_drew1) | exact HB.out)) hb); clear HB; have HB := n0_; clear n0_; (try clear hb); (try clear hb2); (try clear hk); (try clear hi)) | (go_at_call 6; (with_reducible refine (hours_Wait.calls k (wrap64 ((wrap64 (a0)) + (wrap64 (24 * (wrap64 (a1)))))) (Int.tmod (wrap64 (a2)) 25) (Int.tmod (wrap64 (a3)) 25) t111 _ A13.out).mono ?_); rintro e w27 ⟨rfl, hb⟩; have n0_ := Aside0.mk (below_step (by repeat (first | (with_reducible first | exact HB.out | apply below_alloc | apply pw_below_drewN | apply below_drew1) | exact HB.out)) hb); clear HB; have HB := n0_; clear n0_; (try clear hb); (try clear hb2); (try clear hk); (try clear hi)))
        go_meet
        case rel => exact ⟨_, (true), (by first | rfl | (simp; done) | (simp [*]; done)), H', ⟨by first | omega | exact Nat.le_refl _⟩, ⟨by repeat (first | (with_reducible first | exact HB.out | apply below_alloc | apply pw_below_drewN | apply below_drew1) | exact HB.out)⟩⟩
  case rest =>
    clear HC7
    try clear c1
    try clear c2
    try clear p2
    try clear c3
    try clear c5
    try clear c6
    try clear p6
    try clear c11
    try clear c11b0
    try clear c11b1
    try clear c11b2
    try clear c14
    try clear c14b0
    try clear c14b1
    try clear c15
    try clear c15b0
    try clear c18
    try clear c18b0
    try clear c21
    obtain ⟨kq, x69_6, rfl, HA, HJ6, HB⟩ := hcut
    cases kq with
    | zero => exact absurd HA.out (by simp [brooklaw22_HoursDays.j0])
    | succ kj6 =>
      have H := HA.out
      clear HA
      simp only [brooklaw22_HoursDays.j0] at H
      by_cases c28 : x69_6 = true
      · subst c28
        have H1 : (some false) = some r := by rw [if_pos rfl] at H; exact H
        clear H
        have H := H1
        clear H1
        obtain rfl := Option.some.inj H
        go_wp2
        go_ret
        exact ⟨by first | rfl | (simp [errW_none, errW_some] <;> rfl) | (simp [*, errW_none, errW_some] <;> rfl), by repeat (first | (with_reducible first | exact HB.out | apply below_alloc | apply pw_below_drewN | apply below_drew1) | exact HB.out)⟩
      · replace c28 := Bool.eq_false_iff.mpr c28
        subst c28
        have H1 : (brooklaw22_HoursDays.l0 kj6 (wrap64 (a0)) (Int.tmod (wrap64 (a2)) 25) (Int.tmod (wrap64 (a3)) 25) t108 t109 true 0) = some r := by rw [if_neg (show ¬ (false = true) by decide)] at H; exact H
        clear H
        have H := H1
        clear H1
        have H' := Aside0.mk H
        clear H
        go_wp2
        go_loopg [14, 15] kj6 (fun kq v14 v15 w' => ∃ (x14_2 : Bool) (x15_2 : Int), v14 = .bool x14_2 ∧ v15 = .int .i64 x15_2 ∧ Aside0 (brooklaw22_HoursDays.l0 kq (wrap64 (a0)) (Int.tmod (wrap64 (a2)) 25) (Int.tmod (wrap64 (a3)) 25) t108 t109 x14_2 x15_2 = some r) ∧ Aside0 (kq ≤ kj6) ∧ Aside0 (Below w.heap.size w w'))
        case atStart => exact ⟨(true), (0), (by first | rfl | (simp; done) | (simp [*]; done)), (by first | rfl | (simp; done) | (simp [*]; done)), H', ⟨Nat.le_refl _⟩, ⟨by repeat (first | (with_reducible first | exact HB.out | apply below_alloc | apply pw_below_drewN | apply below_drew1) | exact HB.out)⟩⟩
        case round =>
          clear H'
          try clear c1
          try clear c2
          try clear p2
          try clear c3
          try clear c5
          try clear c6
          try clear p6
          try clear c11
          try clear c11b0
          try clear c11b1
          try clear c11b2
          try clear c14
          try clear c14b0
          try clear c14b1
          try clear c15
          try clear c15b0
          try clear c18
          try clear c18b0
          try clear c21
          try clear c28
          try clear p2
          try clear p6
          obtain ⟨x14_2, x15_2, rfl, rfl, HA, HK2, HB⟩ := hrel
          cases gk with
          | zero => exact absurd HA.out (by simp [brooklaw22_HoursDays.l0])
          | succ k2 =>
            have H := HA.out
            clear HA
            simp only [brooklaw22_HoursDays.l0] at H
            by_cases c29 : x15_2 < 24
            · rw [if_pos c29] at H
              have c29b0 : decide (x15_2 < 24) = true := decide_eq_true c29
              clear c29
              replace H := Option.bind_eq_some_iff.mp H
              obtain ⟨t112, A300, H⟩ := H
              replace H : (if x14_2 = true then (if t112 = true then (if x15_2 < t109 then (some false) else (if x15_2 = t109 then (if t109 > 0 then (brooklaw22_HoursDays.l0 k2 (wrap64 (a0)) (Int.tmod (wrap64 (a2)) 25) (Int.tmod (wrap64 (a3)) 25) t108 t109 (!t112) (wrap64 (x15_2 + 1))) else (brooklaw22_HoursDays.l0 k2 (wrap64 (a0)) (Int.tmod (wrap64 (a2)) 25) (Int.tmod (wrap64 (a3)) 25) t108 t109 (!t112) (wrap64 (x15_2 + 1)))) else (brooklaw22_HoursDays.l0 k2 (wrap64 (a0)) (Int.tmod (wrap64 (a2)) 25) (Int.tmod (wrap64 (a3)) 25) t108 t109 (!t112) (wrap64 (x15_2 + 1))))) else (if x15_2 = t109 then (if t109 > 0 then (some false) else (brooklaw22_HoursDays.l0 k2 (wrap64 (a0)) (Int.tmod (wrap64 (a2)) 25) (Int.tmod (wrap64 (a3)) 25) t108 t109 (!t112) (wrap64 (x15_2 + 1)))) else (brooklaw22_HoursDays.l0 k2 (wrap64 (a0)) (Int.tmod (wrap64 (a2)) 25) (Int.tmod (wrap64 (a3)) 25) t108 t109 (!t112) (wrap64 (x15_2 + 1))))) else (if t112 = true then (if x15_2 < t109 then (some false) else (if x15_2 = t109 then (if t109 > 0 then (brooklaw22_HoursDays.l0 k2 (wrap64 (a0)) (Int.tmod (wrap64 (a2)) 25) (Int.tmod (wrap64 (a3)) 25) t108 t109 false (wrap64 (x15_2 + 1))) else (brooklaw22_HoursDays.l0 k2 (wrap64 (a0)) (Int.tmod (wrap64 (a2)) 25) (Int.tmod (wrap64 (a3)) 25) t108 t109 false (wrap64 (x15_2 + 1)))) else (brooklaw22_HoursDays.l0 k2 (wrap64 (a0)) (Int.tmod (wrap64 (a2)) 25) (Int.tmod (wrap64 (a3)) 25) t108 t109 false (wrap64 (x15_2 + 1))))) else (if x15_2 = t109 then (if t109 > 0 then (some false) else (brooklaw22_HoursDays.l0 k2 (wrap64 (a0)) (Int.tmod (wrap64 (a2)) 25) (Int.tmod (wrap64 (a3)) 25) t108 t109 false (wrap64 (x15_2 + 1)))) else (brooklaw22_HoursDays.l0 k2 (wrap64 (a0)) (Int.tmod (wrap64 (a2)) 25) (Int.tmod (wrap64 (a3)) 25) t108 t109 false (wrap64 (x15_2 + 1)))))) = some r := H
              have A30 := Aside0.mk A300
              clear A300
              by_cases c31 : x14_2 = true
              · subst c31
                have H1 : (if t112 = true then (if x15_2 < t109 then (some false) else (if x15_2 = t109 then (if t109 > 0 then (brooklaw22_HoursDays.l0 k2 (wrap64 (a0)) (Int.tmod (wrap64 (a2)) 25) (Int.tmod (wrap64 (a3)) 25) t108 t109 (!t112) (wrap64 (x15_2 + 1))) else (brooklaw22_HoursDays.l0 k2 (wrap64 (a0)) (Int.tmod (wrap64 (a2)) 25) (Int.tmod (wrap64 (a3)) 25) t108 t109 (!t112) (wrap64 (x15_2 + 1)))) else (brooklaw22_HoursDays.l0 k2 (wrap64 (a0)) (Int.tmod (wrap64 (a2)) 25) (Int.tmod (wrap64 (a3)) 25) t108 t109 (!t112) (wrap64 (x15_2 + 1))))) else (if x15_2 = t109 then (if t109 > 0 then (some false) else (brooklaw22_HoursDays.l0 k2 (wrap64 (a0)) (Int.tmod (wrap64 (a2)) 25) (Int.tmod (wrap64 (a3)) 25) t108 t109 (!t112) (wrap64 (x15_2 + 1)))) else (brooklaw22_HoursDays.l0 k2 (wrap64 (a0)) (Int.tmod (wrap64 (a2)) 25) (Int.tmod (wrap64 (a3)) 25) t108 t109 (!t112) (wrap64 (x15_2 + 1))))) = some r := by rw [if_pos rfl] at H; exact H
                clear H
                have H := H1
                clear H1
                by_cases c32 : t112 = true
                · subst c32
                  have H1 : (if x15_2 < t109 then (some false) else (if x15_2 = t109 then (if t109 > 0 then (brooklaw22_HoursDays.l0 k2 (wrap64 (a0)) (Int.tmod (wrap64 (a2)) 25) (Int.tmod (wrap64 (a3)) 25) t108 t109 (!true) (wrap64 (x15_2 + 1))) else (brooklaw22_HoursDays.l0 k2 (wrap64 (a0)) (Int.tmod (wrap64 (a2)) 25) (Int.tmod (wrap64 (a3)) 25) t108 t109 (!true) (wrap64 (x15_2 + 1)))) else (brooklaw22_HoursDays.l0 k2 (wrap64 (a0)) (Int.tmod (wrap64 (a2)) 25) (Int.tmod (wrap64 (a3)) 25) t108 t109 (!true) (wrap64 (x15_2 + 1))))) = some r := by rw [if_pos rfl] at H; exact H
                  clear H
                  have H := H1
                  clear H1
                  by_cases c33 : x15_2 < t109
                  · rw [if_pos c33] at H
                    have c33b0 : decide (x15_2 < t109) = true := decide_eq_true c33
                    clear c33
                    obtain rfl := Option.some.inj H
                    go_wp2_with (first | ((with_reducible refine gate_callee (f := 5) rfl ?_); refine goesL_ (some 79) rfl rfl Try.func5 (by kernel_rfl) rfl #[.int .i64 (wrap64 ((wrap64 (a0)) + x15_2)), .int .i64 (Int.tmod (wrap64 (a2)) 25), .int .i64 (Int.tmod (wrap64 (a3)) 25)] rfl (by (try simp only [List.map_toArray, List.map_cons, List.map_nil]); first | done | rfl | (simp only [List.length_drop, List.length_take]; rfl)) ?_; (with_reducible refine (hours_Open.calls (wrap64 ((wrap64 (a0)) + x15_2)) (Int.tmod (wrap64 (a2)) 25) (Int.tmod (wrap64 (a3)) 25) true _ A30.out).mono ?_); rintro e w34 ⟨rfl, hb⟩; refine ⟨_, rfl, ?_⟩; have n0_ := Aside0.mk (below_step (by repeat (first | (with_reducible first | exact HB.out | apply below_alloc | apply pw_below_drewN | apply below_drew1) | exact HB.out)) hb); clear HB; have HB := n0_; clear n0_; (try clear hb); (try clear hb2); (try clear hk); (try clear hi)))
                    go_ret
                    exact ⟨by first | rfl | (simp [errW_none, errW_some] <;> rfl) | (simp [*, errW_none, errW_some] <;> rfl), by repeat (first | (with_reducible first | exact HB.out | apply below_alloc | apply pw_below_drewN | apply below_drew1) | exact HB.out)⟩
                  · rw [if_neg c33] at H
                    have c33b0 : decide (x15_2 < t109) = false := decide_eq_false c33
                    clear c33
                    by_cases c35 : x15_2 = t109
                    · rw [if_pos c35] at H
                      have c35b0 : (x15_2 == t109) = true := beq_iff_eq.mpr c35
                      have c35b1 : (x15_2 != t109) = false := bne_eq_false_iff_eq.mpr c35
                      clear c35
                      by_cases c36 : t109 > 0
                      · rw [if_pos c36] at H
                        have c36b0 : decide (0 < t109) = true := decide_eq_true c36
                        clear c36
                        have H' := Aside0.mk H
                        clear H
                        go_wp2_with (first | ((with_reducible refine gate_callee (f := 5) rfl ?_); refine goesL_ (some 79) rfl rfl Try.func5 (by kernel_rfl) rfl #[.int .i64 (wrap64 ((wrap64 (a0)) + x15_2)), .int .i64 (Int.tmod (wrap64 (a2)) 25), .int .i64 (Int.tmod (wrap64 (a3)) 25)] rfl (by (try simp only [List.map_toArray, List.map_cons, List.map_nil]); first | done | rfl | (simp only [List.length_drop, List.length_take]; rfl)) ?_; (with_reducible refine (hours_Open.calls (wrap64 ((wrap64 (a0)) + x15_2)) (Int.tmod (wrap64 (a2)) 25) (Int.tmod (wrap64 (a3)) 25) true _ A30.out).mono ?_); rintro e w37 ⟨rfl, hb⟩; refine ⟨_, rfl, ?_⟩; have n0_ := Aside0.mk (below_step (by repeat (first | (with_reducible first | exact HB.out | apply below_alloc | apply pw_below_drewN | apply below_drew1) | exact HB.out)) hb); clear HB; have HB := n0_; clear n0_; (try clear hb); (try clear hb2); (try clear hk); (try clear hi)))
                        go_roundg k2
                        case measure => have := HJ6.out; have := HK2.out; omega
                        case rel => exact ⟨(!true), (wrap64 (x15_2 + 1)), (by first | rfl | (simp; done) | (simp [*]; done)), (by first | rfl | (simp; done) | (simp [*]; done)), H', ⟨by have := HJ6.out; have := HK2.out; omega⟩, ⟨by repeat (first | (with_reducible first | exact HB.out | apply below_alloc | apply pw_below_drewN | apply below_drew1) | exact HB.out)⟩⟩
                      · rw [if_neg c36] at H
                        have c36b0 : decide (0 < t109) = false := decide_eq_false c36
                        clear c36
                        have H' := Aside0.mk H
                        clear H
                        go_wp2_with (first | ((with_reducible refine gate_callee (f := 5) rfl ?_); refine goesL_ (some 79) rfl rfl Try.func5 (by kernel_rfl) rfl #[.int .i64 (wrap64 ((wrap64 (a0)) + x15_2)), .int .i64 (Int.tmod (wrap64 (a2)) 25), .int .i64 (Int.tmod (wrap64 (a3)) 25)] rfl (by (try simp only [List.map_toArray, List.map_cons, List.map_nil]); first | done | rfl | (simp only [List.length_drop, List.length_take]; rfl)) ?_; (with_reducible refine (hours_Open.calls (wrap64 ((wrap64 (a0)) + x15_2)) (Int.tmod (wrap64 (a2)) 25) (Int.tmod (wrap64 (a3)) 25) true _ A30.out).mono ?_); rintro e w38 ⟨rfl, hb⟩; refine ⟨_, rfl, ?_⟩; have n0_ := Aside0.mk (below_step (by repeat (first | (with_reducible first | exact HB.out | apply below_alloc | apply pw_below_drewN | apply below_drew1) | exact HB.out)) hb); clear HB; have HB := n0_; clear n0_; (try clear hb); (try clear hb2); (try clear hk); (try clear hi)))
                        go_roundg k2
                        case measure => have := HJ6.out; have := HK2.out; omega
                        case rel => exact ⟨(!true), (wrap64 (x15_2 + 1)), (by first | rfl | (simp; done) | (simp [*]; done)), (by first | rfl | (simp; done) | (simp [*]; done)), H', ⟨by have := HJ6.out; have := HK2.out; omega⟩, ⟨by repeat (first | (with_reducible first | exact HB.out | apply below_alloc | apply pw_below_drewN | apply below_drew1) | exact HB.out)⟩⟩
                    · rw [if_neg c35] at H
                      have c35b0 : (x15_2 == t109) = false := beq_eq_false_iff_ne.mpr c35
                      have c35b1 : (x15_2 != t109) = true := bne_iff_ne.mpr c35
                      have H' := Aside0.mk H
                      clear H
                      go_wp2_with (first | ((with_reducible refine gate_callee (f := 5) rfl ?_); refine goesL_ (some 79) rfl rfl Try.func5 (by kernel_rfl) rfl #[.int .i64 (wrap64 ((wrap64 (a0)) + x15_2)), .int .i64 (Int.tmod (wrap64 (a2)) 25), .int .i64 (Int.tmod (wrap64 (a3)) 25)] rfl (by (try simp only [List.map_toArray, List.map_cons, List.map_nil]); first | done | rfl | (simp only [List.length_drop, List.length_take]; rfl)) ?_; (with_reducible refine (hours_Open.calls (wrap64 ((wrap64 (a0)) + x15_2)) (Int.tmod (wrap64 (a2)) 25) (Int.tmod (wrap64 (a3)) 25) true _ A30.out).mono ?_); rintro e w39 ⟨rfl, hb⟩; refine ⟨_, rfl, ?_⟩; have n0_ := Aside0.mk (below_step (by repeat (first | (with_reducible first | exact HB.out | apply below_alloc | apply pw_below_drewN | apply below_drew1) | exact HB.out)) hb); clear HB; have HB := n0_; clear n0_; (try clear hb); (try clear hb2); (try clear hk); (try clear hi)))
                      go_roundg k2
                      case measure => have := HJ6.out; have := HK2.out; omega
                      case rel => exact ⟨(!true), (wrap64 (x15_2 + 1)), (by first | rfl | (simp; done) | (simp [*]; done)), (by first | rfl | (simp; done) | (simp [*]; done)), H', ⟨by have := HJ6.out; have := HK2.out; omega⟩, ⟨by repeat (first | (with_reducible first | exact HB.out | apply below_alloc | apply pw_below_drewN | apply below_drew1) | exact HB.out)⟩⟩
                · replace c32 := Bool.eq_false_iff.mpr c32
                  subst c32
                  have H1 : (if x15_2 = t109 then (if t109 > 0 then (some false) else (brooklaw22_HoursDays.l0 k2 (wrap64 (a0)) (Int.tmod (wrap64 (a2)) 25) (Int.tmod (wrap64 (a3)) 25) t108 t109 (!false) (wrap64 (x15_2 + 1)))) else (brooklaw22_HoursDays.l0 k2 (wrap64 (a0)) (Int.tmod (wrap64 (a2)) 25) (Int.tmod (wrap64 (a3)) 25) t108 t109 (!false) (wrap64 (x15_2 + 1)))) = some r := by rw [if_neg (show ¬ (false = true) by decide)] at H; exact H
                  clear H
                  have H := H1
                  clear H1
                  by_cases c40 : x15_2 = t109
                  · rw [if_pos c40] at H
                    have c40b0 : (x15_2 == t109) = true := beq_iff_eq.mpr c40
                    have c40b1 : (x15_2 != t109) = false := bne_eq_false_iff_eq.mpr c40
                    clear c40
                    by_cases c41 : t109 > 0
                    · rw [if_pos c41] at H
                      have c41b0 : decide (0 < t109) = true := decide_eq_true c41
                      clear c41
                      obtain rfl := Option.some.inj H
                      go_wp2_with (first | ((with_reducible refine gate_callee (f := 5) rfl ?_); refine goesL_ (some 79) rfl rfl Try.func5 (by kernel_rfl) rfl #[.int .i64 (wrap64 ((wrap64 (a0)) + x15_2)), .int .i64 (Int.tmod (wrap64 (a2)) 25), .int .i64 (Int.tmod (wrap64 (a3)) 25)] rfl (by (try simp only [List.map_toArray, List.map_cons, List.map_nil]); first | done | rfl | (simp only [List.length_drop, List.length_take]; rfl)) ?_; (with_reducible refine (hours_Open.calls (wrap64 ((wrap64 (a0)) + x15_2)) (Int.tmod (wrap64 (a2)) 25) (Int.tmod (wrap64 (a3)) 25) false _ A30.out).mono ?_); rintro e w42 ⟨rfl, hb⟩; refine ⟨_, rfl, ?_⟩; have n0_ := Aside0.mk (below_step (by repeat (first | (with_reducible first | exact HB.out | apply below_alloc | apply pw_below_drewN | apply below_drew1) | exact HB.out)) hb); clear HB; have HB := n0_; clear n0_; (try clear hb); (try clear hb2); (try clear hk); (try clear hi)))
                      go_ret
                      exact ⟨by first | rfl | (simp [errW_none, errW_some] <;> rfl) | (simp [*, errW_none, errW_some] <;> rfl), by repeat (first | (with_reducible first | exact HB.out | apply below_alloc | apply pw_below_drewN | apply below_drew1) | exact HB.out)⟩
                    · rw [if_neg c41] at H
                      have c41b0 : decide (0 < t109) = false := decide_eq_false c41
                      clear c41
                      have H' := Aside0.mk H
                      clear H
                      go_wp2_with (first | ((with_reducible refine gate_callee (f := 5) rfl ?_); refine goesL_ (some 79) rfl rfl Try.func5 (by kernel_rfl) rfl #[.int .i64 (wrap64 ((wrap64 (a0)) + x15_2)), .int .i64 (Int.tmod (wrap64 (a2)) 25), .int .i64 (Int.tmod (wrap64 (a3)) 25)] rfl (by (try simp only [List.map_toArray, List.map_cons, List.map_nil]); first | done | rfl | (simp only [List.length_drop, List.length_take]; rfl)) ?_; (with_reducible refine (hours_Open.calls (wrap64 ((wrap64 (a0)) + x15_2)) (Int.tmod (wrap64 (a2)) 25) (Int.tmod (wrap64 (a3)) 25) false _ A30.out).mono ?_); rintro e w43 ⟨rfl, hb⟩; refine ⟨_, rfl, ?_⟩; have n0_ := Aside0.mk (below_step (by repeat (first | (with_reducible first | exact HB.out | apply below_alloc | apply pw_below_drewN | apply below_drew1) | exact HB.out)) hb); clear HB; have HB := n0_; clear n0_; (try clear hb); (try clear hb2); (try clear hk); (try clear hi)))
                      go_roundg k2
                      case measure => have := HJ6.out; have := HK2.out; omega
                      case rel => exact ⟨(!false), (wrap64 (x15_2 + 1)), (by first | rfl | (simp; done) | (simp [*]; done)), (by first | rfl | (simp; done) | (simp [*]; done)), H', ⟨by have := HJ6.out; have := HK2.out; omega⟩, ⟨by repeat (first | (with_reducible first | exact HB.out | apply below_alloc | apply pw_below_drewN | apply below_drew1) | exact HB.out)⟩⟩
                  · rw [if_neg c40] at H
                    have c40b0 : (x15_2 == t109) = false := beq_eq_false_iff_ne.mpr c40
                    have c40b1 : (x15_2 != t109) = true := bne_iff_ne.mpr c40
                    have H' := Aside0.mk H
                    clear H
                    go_wp2_with (first | ((with_reducible refine gate_callee (f := 5) rfl ?_); refine goesL_ (some 79) rfl rfl Try.func5 (by kernel_rfl) rfl #[.int .i64 (wrap64 ((wrap64 (a0)) + x15_2)), .int .i64 (Int.tmod (wrap64 (a2)) 25), .int .i64 (Int.tmod (wrap64 (a3)) 25)] rfl (by (try simp only [List.map_toArray, List.map_cons, List.map_nil]); first | done | rfl | (simp only [List.length_drop, List.length_take]; rfl)) ?_; (with_reducible refine (hours_Open.calls (wrap64 ((wrap64 (a0)) + x15_2)) (Int.tmod (wrap64 (a2)) 25) (Int.tmod (wrap64 (a3)) 25) false _ A30.out).mono ?_); rintro e w44 ⟨rfl, hb⟩; refine ⟨_, rfl, ?_⟩; have n0_ := Aside0.mk (below_step (by repeat (first | (with_reducible first | exact HB.out | apply below_alloc | apply pw_below_drewN | apply below_drew1) | exact HB.out)) hb); clear HB; have HB := n0_; clear n0_; (try clear hb); (try clear hb2); (try clear hk); (try clear hi)))
                    go_roundg k2
                    case measure => have := HJ6.out; have := HK2.out; omega
                    case rel => exact ⟨(!false), (wrap64 (x15_2 + 1)), (by first | rfl | (simp; done) | (simp [*]; done)), (by first | rfl | (simp; done) | (simp [*]; done)), H', ⟨by have := HJ6.out; have := HK2.out; omega⟩, ⟨by repeat (first | (with_reducible first | exact HB.out | apply below_alloc | apply pw_below_drewN | apply below_drew1) | exact HB.out)⟩⟩
              · replace c31 := Bool.eq_false_iff.mpr c31
                subst c31
                have H1 : (if t112 = true then (if x15_2 < t109 then (some false) else (if x15_2 = t109 then (if t109 > 0 then (brooklaw22_HoursDays.l0 k2 (wrap64 (a0)) (Int.tmod (wrap64 (a2)) 25) (Int.tmod (wrap64 (a3)) 25) t108 t109 false (wrap64 (x15_2 + 1))) else (brooklaw22_HoursDays.l0 k2 (wrap64 (a0)) (Int.tmod (wrap64 (a2)) 25) (Int.tmod (wrap64 (a3)) 25) t108 t109 false (wrap64 (x15_2 + 1)))) else (brooklaw22_HoursDays.l0 k2 (wrap64 (a0)) (Int.tmod (wrap64 (a2)) 25) (Int.tmod (wrap64 (a3)) 25) t108 t109 false (wrap64 (x15_2 + 1))))) else (if x15_2 = t109 then (if t109 > 0 then (some false) else (brooklaw22_HoursDays.l0 k2 (wrap64 (a0)) (Int.tmod (wrap64 (a2)) 25) (Int.tmod (wrap64 (a3)) 25) t108 t109 false (wrap64 (x15_2 + 1)))) else (brooklaw22_HoursDays.l0 k2 (wrap64 (a0)) (Int.tmod (wrap64 (a2)) 25) (Int.tmod (wrap64 (a3)) 25) t108 t109 false (wrap64 (x15_2 + 1))))) = some r := by rw [if_neg (show ¬ (false = true) by decide)] at H; exact H
                clear H
                have H := H1
                clear H1
                by_cases c45 : t112 = true
                · subst c45
                  have H1 : (if x15_2 < t109 then (some false) else (if x15_2 = t109 then (if t109 > 0 then (brooklaw22_HoursDays.l0 k2 (wrap64 (a0)) (Int.tmod (wrap64 (a2)) 25) (Int.tmod (wrap64 (a3)) 25) t108 t109 false (wrap64 (x15_2 + 1))) else (brooklaw22_HoursDays.l0 k2 (wrap64 (a0)) (Int.tmod (wrap64 (a2)) 25) (Int.tmod (wrap64 (a3)) 25) t108 t109 false (wrap64 (x15_2 + 1)))) else (brooklaw22_HoursDays.l0 k2 (wrap64 (a0)) (Int.tmod (wrap64 (a2)) 25) (Int.tmod (wrap64 (a3)) 25) t108 t109 false (wrap64 (x15_2 + 1))))) = some r := by rw [if_pos rfl] at H; exact H
                  clear H
                  have H := H1
                  clear H1
                  by_cases c46 : x15_2 < t109
                  · rw [if_pos c46] at H
                    have c46b0 : decide (x15_2 < t109) = true := decide_eq_true c46
                    clear c46
                    obtain rfl := Option.some.inj H
                    go_wp2_with (first | ((with_reducible refine gate_callee (f := 5) rfl ?_); refine goesL_ (some 79) rfl rfl Try.func5 (by kernel_rfl) rfl #[.int .i64 (wrap64 ((wrap64 (a0)) + x15_2)), .int .i64 (Int.tmod (wrap64 (a2)) 25), .int .i64 (Int.tmod (wrap64 (a3)) 25)] rfl (by (try simp only [List.map_toArray, List.map_cons, List.map_nil]); first | done | rfl | (simp only [List.length_drop, List.length_take]; rfl)) ?_; (with_reducible refine (hours_Open.calls (wrap64 ((wrap64 (a0)) + x15_2)) (Int.tmod (wrap64 (a2)) 25) (Int.tmod (wrap64 (a3)) 25) true _ A30.out).mono ?_); rintro e w47 ⟨rfl, hb⟩; refine ⟨_, rfl, ?_⟩; have n0_ := Aside0.mk (below_step (by repeat (first | (with_reducible first | exact HB.out | apply below_alloc | apply pw_below_drewN | apply below_drew1) | exact HB.out)) hb); clear HB; have HB := n0_; clear n0_; (try clear hb); (try clear hb2); (try clear hk); (try clear hi)))
                    go_ret
                    exact ⟨by first | rfl | (simp [errW_none, errW_some] <;> rfl) | (simp [*, errW_none, errW_some] <;> rfl), by repeat (first | (with_reducible first | exact HB.out | apply below_alloc | apply pw_below_drewN | apply below_drew1) | exact HB.out)⟩
                  · rw [if_neg c46] at H
                    have c46b0 : decide (x15_2 < t109) = false := decide_eq_false c46
                    clear c46
                    by_cases c48 : x15_2 = t109
                    · rw [if_pos c48] at H
                      have c48b0 : (x15_2 == t109) = true := beq_iff_eq.mpr c48
                      have c48b1 : (x15_2 != t109) = false := bne_eq_false_iff_eq.mpr c48
                      clear c48
                      by_cases c49 : t109 > 0
                      · rw [if_pos c49] at H
                        have c49b0 : decide (0 < t109) = true := decide_eq_true c49
                        clear c49
                        have H' := Aside0.mk H
                        clear H
                        go_wp2_with (first | ((with_reducible refine gate_callee (f := 5) rfl ?_); refine goesL_ (some 79) rfl rfl Try.func5 (by kernel_rfl) rfl #[.int .i64 (wrap64 ((wrap64 (a0)) + x15_2)), .int .i64 (Int.tmod (wrap64 (a2)) 25), .int .i64 (Int.tmod (wrap64 (a3)) 25)] rfl (by (try simp only [List.map_toArray, List.map_cons, List.map_nil]); first | done | rfl | (simp only [List.length_drop, List.length_take]; rfl)) ?_; (with_reducible refine (hours_Open.calls (wrap64 ((wrap64 (a0)) + x15_2)) (Int.tmod (wrap64 (a2)) 25) (Int.tmod (wrap64 (a3)) 25) true _ A30.out).mono ?_); rintro e w50 ⟨rfl, hb⟩; refine ⟨_, rfl, ?_⟩; have n0_ := Aside0.mk (below_step (by repeat (first | (with_reducible first | exact HB.out | apply below_alloc | apply pw_below_drewN | apply below_drew1) | exact HB.out)) hb); clear HB; have HB := n0_; clear n0_; (try clear hb); (try clear hb2); (try clear hk); (try clear hi)))
                        go_roundg k2
                        case measure => have := HJ6.out; have := HK2.out; omega
                        case rel => exact ⟨(false), (wrap64 (x15_2 + 1)), (by first | rfl | (simp; done) | (simp [*]; done)), (by first | rfl | (simp; done) | (simp [*]; done)), H', ⟨by have := HJ6.out; have := HK2.out; omega⟩, ⟨by repeat (first | (with_reducible first | exact HB.out | apply below_alloc | apply pw_below_drewN | apply below_drew1) | exact HB.out)⟩⟩
                      · rw [if_neg c49] at H
                        have c49b0 : decide (0 < t109) = false := decide_eq_false c49
                        clear c49
                        have H' := Aside0.mk H
                        clear H
                        go_wp2_with (first | ((with_reducible refine gate_callee (f := 5) rfl ?_); refine goesL_ (some 79) rfl rfl Try.func5 (by kernel_rfl) rfl #[.int .i64 (wrap64 ((wrap64 (a0)) + x15_2)), .int .i64 (Int.tmod (wrap64 (a2)) 25), .int .i64 (Int.tmod (wrap64 (a3)) 25)] rfl (by (try simp only [List.map_toArray, List.map_cons, List.map_nil]); first | done | rfl | (simp only [List.length_drop, List.length_take]; rfl)) ?_; (with_reducible refine (hours_Open.calls (wrap64 ((wrap64 (a0)) + x15_2)) (Int.tmod (wrap64 (a2)) 25) (Int.tmod (wrap64 (a3)) 25) true _ A30.out).mono ?_); rintro e w51 ⟨rfl, hb⟩; refine ⟨_, rfl, ?_⟩; have n0_ := Aside0.mk (below_step (by repeat (first | (with_reducible first | exact HB.out | apply below_alloc | apply pw_below_drewN | apply below_drew1) | exact HB.out)) hb); clear HB; have HB := n0_; clear n0_; (try clear hb); (try clear hb2); (try clear hk); (try clear hi)))
                        go_roundg k2
                        case measure => have := HJ6.out; have := HK2.out; omega
                        case rel => exact ⟨(false), (wrap64 (x15_2 + 1)), (by first | rfl | (simp; done) | (simp [*]; done)), (by first | rfl | (simp; done) | (simp [*]; done)), H', ⟨by have := HJ6.out; have := HK2.out; omega⟩, ⟨by repeat (first | (with_reducible first | exact HB.out | apply below_alloc | apply pw_below_drewN | apply below_drew1) | exact HB.out)⟩⟩
                    · rw [if_neg c48] at H
                      have c48b0 : (x15_2 == t109) = false := beq_eq_false_iff_ne.mpr c48
                      have c48b1 : (x15_2 != t109) = true := bne_iff_ne.mpr c48
                      have H' := Aside0.mk H
                      clear H
                      go_wp2_with (first | ((with_reducible refine gate_callee (f := 5) rfl ?_); refine goesL_ (some 79) rfl rfl Try.func5 (by kernel_rfl) rfl #[.int .i64 (wrap64 ((wrap64 (a0)) + x15_2)), .int .i64 (Int.tmod (wrap64 (a2)) 25), .int .i64 (Int.tmod (wrap64 (a3)) 25)] rfl (by (try simp only [List.map_toArray, List.map_cons, List.map_nil]); first | done | rfl | (simp only [List.length_drop, List.length_take]; rfl)) ?_; (with_reducible refine (hours_Open.calls (wrap64 ((wrap64 (a0)) + x15_2)) (Int.tmod (wrap64 (a2)) 25) (Int.tmod (wrap64 (a3)) 25) true _ A30.out).mono ?_); rintro e w52 ⟨rfl, hb⟩; refine ⟨_, rfl, ?_⟩; have n0_ := Aside0.mk (below_step (by repeat (first | (with_reducible first | exact HB.out | apply below_alloc | apply pw_below_drewN | apply below_drew1) | exact HB.out)) hb); clear HB; have HB := n0_; clear n0_; (try clear hb); (try clear hb2); (try clear hk); (try clear hi)))
                      go_roundg k2
                      case measure => have := HJ6.out; have := HK2.out; omega
                      case rel => exact ⟨(false), (wrap64 (x15_2 + 1)), (by first | rfl | (simp; done) | (simp [*]; done)), (by first | rfl | (simp; done) | (simp [*]; done)), H', ⟨by have := HJ6.out; have := HK2.out; omega⟩, ⟨by repeat (first | (with_reducible first | exact HB.out | apply below_alloc | apply pw_below_drewN | apply below_drew1) | exact HB.out)⟩⟩
                · replace c45 := Bool.eq_false_iff.mpr c45
                  subst c45
                  have H1 : (if x15_2 = t109 then (if t109 > 0 then (some false) else (brooklaw22_HoursDays.l0 k2 (wrap64 (a0)) (Int.tmod (wrap64 (a2)) 25) (Int.tmod (wrap64 (a3)) 25) t108 t109 false (wrap64 (x15_2 + 1)))) else (brooklaw22_HoursDays.l0 k2 (wrap64 (a0)) (Int.tmod (wrap64 (a2)) 25) (Int.tmod (wrap64 (a3)) 25) t108 t109 false (wrap64 (x15_2 + 1)))) = some r := by rw [if_neg (show ¬ (false = true) by decide)] at H; exact H
                  clear H
                  have H := H1
                  clear H1
                  by_cases c53 : x15_2 = t109
                  · rw [if_pos c53] at H
                    have c53b0 : (x15_2 == t109) = true := beq_iff_eq.mpr c53
                    have c53b1 : (x15_2 != t109) = false := bne_eq_false_iff_eq.mpr c53
                    clear c53
                    by_cases c54 : t109 > 0
                    · rw [if_pos c54] at H
                      have c54b0 : decide (0 < t109) = true := decide_eq_true c54
                      clear c54
                      obtain rfl := Option.some.inj H
                      go_wp2_with (first | ((with_reducible refine gate_callee (f := 5) rfl ?_); refine goesL_ (some 79) rfl rfl Try.func5 (by kernel_rfl) rfl #[.int .i64 (wrap64 ((wrap64 (a0)) + x15_2)), .int .i64 (Int.tmod (wrap64 (a2)) 25), .int .i64 (Int.tmod (wrap64 (a3)) 25)] rfl (by (try simp only [List.map_toArray, List.map_cons, List.map_nil]); first | done | rfl | (simp only [List.length_drop, List.length_take]; rfl)) ?_; (with_reducible refine (hours_Open.calls (wrap64 ((wrap64 (a0)) + x15_2)) (Int.tmod (wrap64 (a2)) 25) (Int.tmod (wrap64 (a3)) 25) false _ A30.out).mono ?_); rintro e w55 ⟨rfl, hb⟩; refine ⟨_, rfl, ?_⟩; have n0_ := Aside0.mk (below_step (by repeat (first | (with_reducible first | exact HB.out | apply below_alloc | apply pw_below_drewN | apply below_drew1) | exact HB.out)) hb); clear HB; have HB := n0_; clear n0_; (try clear hb); (try clear hb2); (try clear hk); (try clear hi)))
                      go_ret
                      exact ⟨by first | rfl | (simp [errW_none, errW_some] <;> rfl) | (simp [*, errW_none, errW_some] <;> rfl), by repeat (first | (with_reducible first | exact HB.out | apply below_alloc | apply pw_below_drewN | apply below_drew1) | exact HB.out)⟩
                    · rw [if_neg c54] at H
                      have c54b0 : decide (0 < t109) = false := decide_eq_false c54
                      clear c54
                      have H' := Aside0.mk H
                      clear H
                      go_wp2_with (first | ((with_reducible refine gate_callee (f := 5) rfl ?_); refine goesL_ (some 79) rfl rfl Try.func5 (by kernel_rfl) rfl #[.int .i64 (wrap64 ((wrap64 (a0)) + x15_2)), .int .i64 (Int.tmod (wrap64 (a2)) 25), .int .i64 (Int.tmod (wrap64 (a3)) 25)] rfl (by (try simp only [List.map_toArray, List.map_cons, List.map_nil]); first | done | rfl | (simp only [List.length_drop, List.length_take]; rfl)) ?_; (with_reducible refine (hours_Open.calls (wrap64 ((wrap64 (a0)) + x15_2)) (Int.tmod (wrap64 (a2)) 25) (Int.tmod (wrap64 (a3)) 25) false _ A30.out).mono ?_); rintro e w56 ⟨rfl, hb⟩; refine ⟨_, rfl, ?_⟩; have n0_ := Aside0.mk (below_step (by repeat (first | (with_reducible first | exact HB.out | apply below_alloc | apply pw_below_drewN | apply below_drew1) | exact HB.out)) hb); clear HB; have HB := n0_; clear n0_; (try clear hb); (try clear hb2); (try clear hk); (try clear hi)))
                      go_roundg k2
                      case measure => have := HJ6.out; have := HK2.out; omega
                      case rel => exact ⟨(false), (wrap64 (x15_2 + 1)), (by first | rfl | (simp; done) | (simp [*]; done)), (by first | rfl | (simp; done) | (simp [*]; done)), H', ⟨by have := HJ6.out; have := HK2.out; omega⟩, ⟨by repeat (first | (with_reducible first | exact HB.out | apply below_alloc | apply pw_below_drewN | apply below_drew1) | exact HB.out)⟩⟩
                  · rw [if_neg c53] at H
                    have c53b0 : (x15_2 == t109) = false := beq_eq_false_iff_ne.mpr c53
                    have c53b1 : (x15_2 != t109) = true := bne_iff_ne.mpr c53
                    have H' := Aside0.mk H
                    clear H
                    go_wp2_with (first | ((with_reducible refine gate_callee (f := 5) rfl ?_); refine goesL_ (some 79) rfl rfl Try.func5 (by kernel_rfl) rfl #[.int .i64 (wrap64 ((wrap64 (a0)) + x15_2)), .int .i64 (Int.tmod (wrap64 (a2)) 25), .int .i64 (Int.tmod (wrap64 (a3)) 25)] rfl (by (try simp only [List.map_toArray, List.map_cons, List.map_nil]); first | done | rfl | (simp only [List.length_drop, List.length_take]; rfl)) ?_; (with_reducible refine (hours_Open.calls (wrap64 ((wrap64 (a0)) + x15_2)) (Int.tmod (wrap64 (a2)) 25) (Int.tmod (wrap64 (a3)) 25) false _ A30.out).mono ?_); rintro e w57 ⟨rfl, hb⟩; refine ⟨_, rfl, ?_⟩; have n0_ := Aside0.mk (below_step (by repeat (first | (with_reducible first | exact HB.out | apply below_alloc | apply pw_below_drewN | apply below_drew1) | exact HB.out)) hb); clear HB; have HB := n0_; clear n0_; (try clear hb); (try clear hb2); (try clear hk); (try clear hi)))
                    go_roundg k2
                    case measure => have := HJ6.out; have := HK2.out; omega
                    case rel => exact ⟨(false), (wrap64 (x15_2 + 1)), (by first | rfl | (simp; done) | (simp [*]; done)), (by first | rfl | (simp; done) | (simp [*]; done)), H', ⟨by have := HJ6.out; have := HK2.out; omega⟩, ⟨by repeat (first | (with_reducible first | exact HB.out | apply below_alloc | apply pw_below_drewN | apply below_drew1) | exact HB.out)⟩⟩
            · rw [if_neg c29] at H
              have c29b0 : decide (x15_2 < 24) = false := decide_eq_false c29
              clear c29
              by_cases c58 : t108 = true
              · subst c58
                have H1 : ((brooklaw22_awake.f k2).bind fun t113 => (some t113)) = some r := by rw [if_pos rfl] at H; exact H
                clear H
                have H := H1
                clear H1
                replace H := Option.bind_eq_some_iff.mp H
                obtain ⟨t113, A590, H⟩ := H
                replace H : (some t113) = some r := H
                have A59 := Aside0.mk A590
                clear A590
                obtain rfl := Option.some.inj H
                go_wp2_with (first | (go_at_call 7; (with_reducible refine (brooklaw22_awake.calls k2  t113 _ A59.out).mono ?_); rintro e w60 ⟨rfl, hb⟩; have n0_ := Aside0.mk (below_step (by repeat (first | (with_reducible first | exact HB.out | apply below_alloc | apply pw_below_drewN | apply below_drew1) | exact HB.out)) hb); clear HB; have HB := n0_; clear n0_; (try clear hb); (try clear hb2); (try clear hk); (try clear hi)))
                go_ret
                exact ⟨by first | rfl | (simp [errW_none, errW_some] <;> rfl) | (simp [*, errW_none, errW_some] <;> rfl), by repeat (first | (with_reducible first | exact HB.out | apply below_alloc | apply pw_below_drewN | apply below_drew1) | exact HB.out)⟩
              · replace c58 := Bool.eq_false_iff.mpr c58
                subst c58
                have H1 : (if t109 > 0 then ((brooklaw22_awake.f k2).bind fun t114 => (some t114)) else (if x14_2 = true then ((brooklaw22_awake.f k2).bind fun t115 => (some t115)) else (some false))) = some r := by rw [if_neg (show ¬ (false = true) by decide)] at H; exact H
                clear H
                have H := H1
                clear H1
                by_cases c61 : t109 > 0
                · rw [if_pos c61] at H
                  have c61b0 : decide (0 < t109) = true := decide_eq_true c61
                  clear c61
                  replace H := Option.bind_eq_some_iff.mp H
                  obtain ⟨t114, A620, H⟩ := H
                  replace H : (some t114) = some r := H
                  have A62 := Aside0.mk A620
                  clear A620
                  obtain rfl := Option.some.inj H
                  go_wp2_with (first | (go_at_call 7; (with_reducible refine (brooklaw22_awake.calls k2  t114 _ A62.out).mono ?_); rintro e w63 ⟨rfl, hb⟩; have n0_ := Aside0.mk (below_step (by repeat (first | (with_reducible first | exact HB.out | apply below_alloc | apply pw_below_drewN | apply below_drew1) | exact HB.out)) hb); clear HB; have HB := n0_; clear n0_; (try clear hb); (try clear hb2); (try clear hk); (try clear hi)))
                  go_ret
                  exact ⟨by first | rfl | (simp [errW_none, errW_some] <;> rfl) | (simp [*, errW_none, errW_some] <;> rfl), by repeat (first | (with_reducible first | exact HB.out | apply below_alloc | apply pw_below_drewN | apply below_drew1) | exact HB.out)⟩
                · rw [if_neg c61] at H
                  have c61b0 : decide (0 < t109) = false := decide_eq_false c61
                  clear c61
                  by_cases c64 : x14_2 = true
                  · subst c64
                    have H1 : ((brooklaw22_awake.f k2).bind fun t115 => (some t115)) = some r := by rw [if_pos rfl] at H; exact H
                    clear H
                    have H := H1
                    clear H1
                    replace H := Option.bind_eq_some_iff.mp H
                    obtain ⟨t115, A650, H⟩ := H
                    replace H : (some t115) = some r := H
                    have A65 := Aside0.mk A650
                    clear A650
                    obtain rfl := Option.some.inj H
                    go_wp2_with (first | (go_at_call 7; (with_reducible refine (brooklaw22_awake.calls k2  t115 _ A65.out).mono ?_); rintro e w66 ⟨rfl, hb⟩; have n0_ := Aside0.mk (below_step (by repeat (first | (with_reducible first | exact HB.out | apply below_alloc | apply pw_below_drewN | apply below_drew1) | exact HB.out)) hb); clear HB; have HB := n0_; clear n0_; (try clear hb); (try clear hb2); (try clear hk); (try clear hi)))
                    go_ret
                    exact ⟨by first | rfl | (simp [errW_none, errW_some] <;> rfl) | (simp [*, errW_none, errW_some] <;> rfl), by repeat (first | (with_reducible first | exact HB.out | apply below_alloc | apply pw_below_drewN | apply below_drew1) | exact HB.out)⟩
                  · replace c64 := Bool.eq_false_iff.mpr c64
                    subst c64
                    have H1 : (some false) = some r := by rw [if_neg (show ¬ (false = true) by decide)] at H; exact H
                    clear H
                    have H := H1
                    clear H1
                    obtain rfl := Option.some.inj H
                    go_wp2
                    go_ret
                    exact ⟨by first | rfl | (simp [errW_none, errW_some] <;> rfl) | (simp [*, errW_none, errW_some] <;> rfl), by repeat (first | (with_reducible first | exact HB.out | apply below_alloc | apply pw_below_drewN | apply below_drew1) | exact HB.out)⟩

/-- THE ONE PURE STATEMENT of brooklaw22_HoursDays: yours. -/
def brooklaw22_HoursDays.Pure : Prop := ∀ (a0 : Int) (a1 : Int) (a2 : Int) (a3 : Int), (Lit.int .u32 a0).wf = true → (Lit.int .u8 a1).wf = true → (Lit.int .u8 a2).wf = true → (Lit.int .u8 a3).wf = true → ∃ k, brooklaw22_HoursDays.f k a0 a1 a2 a3 = some true
theorem brooklaw22_HoursDays.walk (P : brooklaw22_HoursDays.Pure) (a0 : Int) (a1 : Int) (a2 : Int) (a3 : Int) (w : World) (w0 : (Lit.int .u32 a0).wf = true) (w1 : (Lit.int .u8 a1).wf = true) (w2 : (Lit.int .u8 a2).wf = true) (w3 : (Lit.int .u8 a3).wf = true) :
    Calls Try.prog 3 #[.int .u32 a0, .int .u8 a1, .int .u8 a2, .int .u8 a3] w fun e w' => e = .returned (.bool true) ∧ Below w.heap.size w w' := by
  obtain ⟨k, h⟩ := P a0 a1 a2 a3 w0 w1 w2 w3
  refine (brooklaw22_HoursDays.calls k a0 a1 a2 a3 true w h).mono ?_
  rintro e w' ⟨rfl, hd⟩
  exact ⟨rfl, hd⟩

end Go.Proofs.Ytllmcfdlhkhkdaa.PHoursDays
