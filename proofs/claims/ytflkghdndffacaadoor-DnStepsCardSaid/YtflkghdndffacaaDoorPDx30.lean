/- Printed by a program of this session (print-patch.py over the kit's print): functions and their contracts. -/
-- POSTED
import Derived.Test.YtflkghdndffacaaDoorPDx0
import Derived.Test.YtflkghdndffacaaDoorPDx7
import Derived.Test.YtflkghdndffacaaDoorPDx8
import Derived.Test.YtflkghdndffacaaDoorPDx14
import Derived.Test.YtflkghdndffacaaDoorPDx26
import Derived.Test.YtflkghdndffacaaDoorPDx27
import Derived.Test.YtflkghdndffacaaDoorH3
namespace Go.Proofs.YtflkghdndffacaaDoor.PD
open Go.RowKit Go.Proofs.YtflkghdndffacaaDoor.H Go.Proofs.YtflkghdndffacaaDoorW.PrintWords Go.Proofs.YtflkghdndffacaaDoorW.PrintLast Go.Proofs.YtflkghdndffacaaDoorW.PrintMore
attribute [local go_sem] max2_int min2_int max_two min_two max_three min_three max_four min_four   -- for this text's walks alone
set_option linter.unusedVariables false
set_option linter.unusedSimpArgs false

/-! ### brooklaw2_DnSteps: function 10 -/
mutual
def brooklaw2_DnSteps.l0 : Nat → List (S25) → ByteArray → Int → Option (Bool)
  | 0, _, _, _ => none
  | k + 1, x5, x6, x8 => if x8 < (x5.length : Int) then (if 0 ≤ x8 then (if x8 ≤ (wrap64 (x8 + 1)) then (if (wrap64 (x8 + 1)) ≤ (x5.length : Int) then ((dn_Text.f ((x5.take ((wrap64 (x8 + 1)) : Int).toNat).drop (x8 : Int).toNat)).bind fun t362 => ((dn_Key.f k t362).bind fun bt363 => ((dn_Up.f k x6).bind fun t365 => (if x8 < (wrap64 ((x5.length : Int) - 1)) then (if bt363.1.size + 1 ≤ 9223372036854775807 then (if (bt363.1 ++ (⟨#[44]⟩ : ByteArray)).size + t365.size ≤ 9223372036854775807 then (brooklaw2_DnSteps.j1 k x5 x6 x8 bt363.1 bt363.2 t365 ((bt363.1 ++ (⟨#[44]⟩ : ByteArray)) ++ t365)) else (none)) else (none)) else (brooklaw2_DnSteps.j1 k x5 x6 x8 bt363.1 bt363.2 t365 bt363.1))))) else (none)) else (none)) else (none)) else (if x6.toList = ([] : List UInt8) then ((brooklaw2_awake.f k).bind fun t357 => (some t357)) else (some false))
def brooklaw2_DnSteps.j1 : Nat → List (S25) → ByteArray → Int → ByteArray → Bool → ByteArray → ByteArray → Option (Bool)
  | 0, _, _, _, _, _, _, _ => none
  | k + 1, x5, x6, x8, x9, x10, x11, x12 => if x10 = true then (if x6.toList = x12.toList then ((dn_Up.f k x9).bind fun t366 => (if t366.toList = ([] : List UInt8) then ((dn_Under.f k x6 x11).bind fun t367 => (if t367 = true then (if (x6.size : Int) > 0 then ((dn_Under.f k x11 x6).bind fun t368 => (if t368 = true then (some false) else (brooklaw2_DnSteps.l0 k x5 x11 (wrap64 (x8 + 1))))) else (brooklaw2_DnSteps.l0 k x5 x11 (wrap64 (x8 + 1)))) else (some false))) else (some false))) else (some false)) else (some false)
end
def brooklaw2_DnSteps.f (k : Nat) (l0 : List ByteArray) (l1 : List Int) : Option (Bool) := (brooklaw2_Make.f k l0 l1).bind fun t351 => ((dn_Text.f t351).bind fun t354 => ((dn_Key.f k t354).bind fun bt355 => (if bt355.2 = true then (brooklaw2_DnSteps.l0 k t351 bt355.1 0) else (some false))))
theorem brooklaw2_DnSteps.mono_l : ∀ k, (∀ y0 y1 y2, LeO (brooklaw2_DnSteps.l0 k y0 y1 y2) (brooklaw2_DnSteps.l0 (k + 1) y0 y1 y2)) ∧ (∀ y0 y1 y2 y3 y4 y5 y6, LeO (brooklaw2_DnSteps.j1 k y0 y1 y2 y3 y4 y5 y6) (brooklaw2_DnSteps.j1 (k + 1) y0 y1 y2 y3 y4 y5 y6))
  | 0 => ⟨fun _ _ _ r h => by simp [brooklaw2_DnSteps.l0] at h, fun _ _ _ _ _ _ _ r h => by simp [brooklaw2_DnSteps.j1] at h⟩
  | k + 1 => by
    obtain ⟨ih0, ih1⟩ := brooklaw2_DnSteps.mono_l k
    refine ⟨?_, ?_⟩
    · intro y0 y1 y2
      unfold brooklaw2_DnSteps.l0
      repeat' first
      | (with_reducible exact ih0 _ _ _)
      | (with_reducible exact ih1 _ _ _ _ _ _ _)
      | (with_reducible exact brooklaw2_Make.mono _ _ _)
      | (with_reducible exact brooklaw2_awake.mono _)
      | (with_reducible exact dn_Key.mono _ _)
      | (with_reducible exact dn_Under.mono _ _ _)
      | (with_reducible exact dn_Up.mono _ _)
      | (with_reducible exact LeO.refl _)
      | (with_reducible exact LeO.none _)
      | (with_reducible refine LeO.ite ?_ ?_)
      | (with_reducible refine LeO.bind ?_ (fun _ => ?_))
      | exact ih0 _ _ _
      | exact ih1 _ _ _ _ _ _ _
      | exact brooklaw2_Make.mono _ _ _
      | exact brooklaw2_awake.mono _
      | exact dn_Key.mono _ _
      | exact dn_Under.mono _ _ _
      | exact dn_Up.mono _ _
      | exact LeO.none _
      | refine LeO.ite ?_ ?_
      | refine LeO.bind ?_ (fun _ => ?_)
    · intro y0 y1 y2 y3 y4 y5 y6
      unfold brooklaw2_DnSteps.j1
      repeat' first
      | (with_reducible exact ih0 _ _ _)
      | (with_reducible exact ih1 _ _ _ _ _ _ _)
      | (with_reducible exact brooklaw2_Make.mono _ _ _)
      | (with_reducible exact brooklaw2_awake.mono _)
      | (with_reducible exact dn_Key.mono _ _)
      | (with_reducible exact dn_Under.mono _ _ _)
      | (with_reducible exact dn_Up.mono _ _)
      | (with_reducible exact LeO.refl _)
      | (with_reducible exact LeO.none _)
      | (with_reducible refine LeO.ite ?_ ?_)
      | (with_reducible refine LeO.bind ?_ (fun _ => ?_))
      | exact ih0 _ _ _
      | exact ih1 _ _ _ _ _ _ _
      | exact brooklaw2_Make.mono _ _ _
      | exact brooklaw2_awake.mono _
      | exact dn_Key.mono _ _
      | exact dn_Under.mono _ _ _
      | exact dn_Up.mono _ _
      | exact LeO.none _
      | refine LeO.ite ?_ ?_
      | refine LeO.bind ?_ (fun _ => ?_)
theorem brooklaw2_DnSteps.mono : ∀ a0 a1 k, LeO (brooklaw2_DnSteps.f k a0 a1) (brooklaw2_DnSteps.f (k + 1) a0 a1) := by
  intro a0 a1 k
  obtain ⟨ih0, ih1⟩ := brooklaw2_DnSteps.mono_l k
  unfold brooklaw2_DnSteps.f
  repeat' first
      | (with_reducible exact ih0 _ _ _)
      | (with_reducible exact ih1 _ _ _ _ _ _ _)
      | (with_reducible exact brooklaw2_Make.mono _ _ _)
      | (with_reducible exact brooklaw2_awake.mono _)
      | (with_reducible exact dn_Key.mono _ _)
      | (with_reducible exact dn_Under.mono _ _ _)
      | (with_reducible exact dn_Up.mono _ _)
      | (with_reducible exact LeO.refl _)
      | (with_reducible exact LeO.none _)
      | (with_reducible refine LeO.ite ?_ ?_)
      | (with_reducible refine LeO.bind ?_ (fun _ => ?_))
      | exact ih0 _ _ _
      | exact ih1 _ _ _ _ _ _ _
      | exact brooklaw2_Make.mono _ _ _
      | exact brooklaw2_awake.mono _
      | exact dn_Key.mono _ _
      | exact dn_Under.mono _ _ _
      | exact dn_Up.mono _ _
      | exact LeO.none _
      | refine LeO.ite ?_ ?_
      | refine LeO.bind ?_ (fun _ => ?_)
set_option maxHeartbeats 8000000 in
set_option maxRecDepth 100000 in
theorem brooklaw2_DnSteps.calls (k : Nat) (A0 : Option Addr) (c0 : Nat) (l0 : List ByteArray) (A1 : Option Addr) (c1 : Nat) (l1 : List Int) (r : Bool) (w : World) (hr0 : Kd.C Kd.string w A0 l0.length l0) (hc0 : l0.length ≤ c0) (hr1 : Kd.C (Kd.int .u8) w A1 l1.length l1) (hc1 : l1.length ≤ c1) (h : brooklaw2_DnSteps.f k l0 l1 = some r) :
    Calls Tryd.prog 10 #[.slice A0 l0.length c0, .slice A1 l1.length c1] w fun e w' => e = .returned (.bool r) ∧ Below w.heap.size w w' := by
  have HR0 := Aside0.mk hr0
  have HC0 := Aside0.mk hc0
  clear hr0 hc0
  have HR1 := Aside0.mk hr1
  have HC1 := Aside0.mk hc1
  clear hr1 hc1
  have HB := Aside0.mk (Below.refl w.heap.size w)
  have H : ((brooklaw2_Make.f k l0 l1).bind fun t351 => ((dn_Text.f t351).bind fun t354 => ((dn_Key.f k t354).bind fun bt355 => (if bt355.2 = true then (brooklaw2_DnSteps.l0 k t351 bt355.1 0) else (some false))))) = some r := h
  clear h
  replace H := Option.bind_eq_some_iff.mp H
  obtain ⟨t351, A30, H⟩ := H
  replace H : ((dn_Text.f t351).bind fun t354 => ((dn_Key.f k t354).bind fun bt355 => (if bt355.2 = true then (brooklaw2_DnSteps.l0 k t351 bt355.1 0) else (some false)))) = some r := H
  have A3 := Aside0.mk A30
  clear A30
  replace H := Option.bind_eq_some_iff.mp H
  obtain ⟨t354, A40, H⟩ := H
  replace H : ((dn_Key.f k t354).bind fun bt355 => (if bt355.2 = true then (brooklaw2_DnSteps.l0 k t351 bt355.1 0) else (some false))) = some r := H
  have A4 := Aside0.mk A40
  clear A40
  replace H := Option.bind_eq_some_iff.mp H
  obtain ⟨⟨t355, t356⟩, A50, H⟩ := H
  replace H : (if t356 = true then (brooklaw2_DnSteps.l0 k t351 t355 0) else (some false)) = some r := H
  have A5 := Aside0.mk A50
  clear A50
  by_cases c6 : t356 = true
  · subst c6
    have H1 : (brooklaw2_DnSteps.l0 k t351 t355 0) = some r := by rw [if_pos rfl] at H; exact H
    clear H
    have H := H1
    clear H1
    have H' := Aside0.mk H
    clear H
    go_enter Tryd.func10, Tryd.ntmps10
    go_wp2_with (first | ((with_reducible refine gate_callee (f := 20) rfl ?_); refine goesL_ (some 15) rfl rfl Tryd.func20 (by kernel_rfl) rfl #[.slice A0 l0.length c0, .slice A1 l1.length c1] rfl (by (try simp only [List.map_toArray, List.map_cons, List.map_nil]); first | done | rfl | (simp only [List.length_drop, List.length_take]; rfl)) ?_; (with_reducible refine (brooklaw2_Make.calls k _ _ l0 _ _ l1 t351 _ ?side1 ?side2 ?side3 ?side4 A3.out).mono ?_); (case side1 => repeat (first | exact HR0.out | (with_reducible refine Kd.C_alloc ?_ _) | (with_reducible refine Kd.C_drewN ?_ _) | (with_reducible refine Kd.C_drew ?_))); (case side2 => exact HC0.out); (case side3 => repeat (first | exact HR1.out | (with_reducible refine Kd.C_alloc ?_ _) | (with_reducible refine Kd.C_drewN ?_ _) | (with_reducible refine Kd.C_drew ?_))); (case side4 => exact HC1.out); rintro e w7 ⟨v352, rfl, ho0, hb⟩; refine ⟨_, rfl, ?_⟩; have n0_ := Aside0.mk (Kd.R_lower ho0 (below_size (by repeat (first | (with_reducible first | exact HB.out | apply below_alloc | apply pw_below_drewN | apply below_drew1) | exact HB.out)))); have n1_ := Aside0.mk (below_step (by repeat (first | (with_reducible first | exact HB.out | apply below_alloc | apply pw_below_drewN | apply below_drew1) | exact HB.out)) hb); clear HB; have HO353 := n0_; have HB := n1_; clear n0_ n1_; (try clear hb); (try clear hb2); (try clear hk); (try clear hi); (try clear ho0); obtain ⟨Ao8, co8, eo8⟩ := Kd.R_slice HO353.out; subst eo8) | ((with_reducible refine gate_callee (f := 18) rfl ?_); refine goesL_ (some 18) rfl rfl Tryd.func18 (by kernel_rfl) rfl #[.slice Ao8 t351.length co8] rfl (by (try simp only [List.map_toArray, List.map_cons, List.map_nil]); first | done | rfl | (simp only [List.length_drop, List.length_take]; rfl)) ?_; (with_reducible refine (dn_Text.calls _ _ t351 t354 _ ?side1 ?side2 A4.out).mono ?_); (case side1 => repeat (first | exact (Kd.R_reads' HO353.out).2.2 | (with_reducible refine Kd.C_alloc ?_ _) | (with_reducible refine Kd.C_drewN ?_ _) | (with_reducible refine Kd.C_drew ?_))); (case side2 => exact (Kd.R_reads' HO353.out).2.1); rintro e w9 ⟨rfl, hb⟩; refine ⟨_, rfl, ?_⟩; have n0_ := Aside0.mk (Kd.R_below (by (with_reducible repeat (first | apply Kd.R_alloc | apply Kd.R_drewN | apply Kd.R_drew)); exact HO353.out) hb); have n1_ := Aside0.mk (below_step (by repeat (first | (with_reducible first | exact HB.out | apply below_alloc | apply pw_below_drewN | apply below_drew1) | exact HB.out)) hb); clear HO353; clear HB; have HO353 := n0_; have HB := n1_; clear n0_ n1_; (try clear hb); (try clear hb2); (try clear hk); (try clear hi)) | ((with_reducible refine gate_callee (f := 23) rfl ?_); refine goesL_ (some 19) rfl rfl Tryd.func23 (by kernel_rfl) rfl #[.string t354] rfl (by (try simp only [List.map_toArray, List.map_cons, List.map_nil]); first | done | rfl | (simp only [List.length_drop, List.length_take]; rfl)) ?_; (with_reducible refine (dn_Key.calls k t354 t355 true _ A5.out).mono ?_); rintro e w10 ⟨rfl, hb⟩; refine ⟨_, rfl, ?_⟩; have n0_ := Aside0.mk (Kd.R_below (by (with_reducible repeat (first | apply Kd.R_alloc | apply Kd.R_drewN | apply Kd.R_drew)); exact HO353.out) hb); have n1_ := Aside0.mk (below_step (by repeat (first | (with_reducible first | exact HB.out | apply below_alloc | apply pw_below_drewN | apply below_drew1) | exact HB.out)) hb); clear HO353; clear HB; have HO353 := n0_; have HB := n1_; clear n0_ n1_; (try clear hb); (try clear hb2); (try clear hk); (try clear hi)))
    go_loopg [6, 8] k (fun kq v6 v8 w' => ∃ (x6_1 : ByteArray) (x8_1 : Int), v6 = .string x6_1 ∧ v8 = .int .i64 x8_1 ∧ Aside0 (brooklaw2_DnSteps.l0 kq t351 x6_1 x8_1 = some r) ∧ Aside0 (kq ≤ k) ∧ Aside0 (Kd.R k25 25 w' w.heap.size (fun _ => True) (.slice Ao8 t351.length co8) t351) ∧ Aside0 (Below w.heap.size w w'))
    case atStart => exact ⟨(t355), (0), (by first | rfl | (simp; done) | (simp [*]; done) | (simp [u8_w, i64_w]; done) | (simp [isEmpty_bne]; done)), (by first | rfl | (simp; done) | (simp [*]; done) | (simp [u8_w, i64_w]; done) | (simp [isEmpty_bne]; done)), H', ⟨Nat.le_refl _⟩, ⟨by (with_reducible repeat (first | apply Kd.R_alloc | apply Kd.R_drewN | apply Kd.R_drew)); exact HO353.out⟩, ⟨by repeat (first | (with_reducible first | exact HB.out | apply below_alloc | apply pw_below_drewN | apply below_drew1) | exact HB.out)⟩⟩
    case round =>
      clear H'
      try clear c1
      try clear c2
      try clear p2
      try clear c6
      try clear c10
      obtain ⟨x6_1, x8_1, rfl, rfl, HA, HK1, HO_5, HB⟩ := hrel
      cases gk with
      | zero => exact absurd HA.out (by simp [brooklaw2_DnSteps.l0])
      | succ k1 =>
        have H := HA.out
        clear HA
        simp only [brooklaw2_DnSteps.l0] at H
        by_cases c11 : x8_1 < (t351.length : Int)
        · rw [if_pos c11] at H
          have c11b0 : decide (x8_1 < (t351.length : Int)) = true := decide_eq_true c11
          clear c11
          by_cases c12 : 0 ≤ x8_1
          · rw [if_pos c12] at H
            have c12b0 := eq_true c12
            have c12b1 : decide (0 ≤ x8_1) = true := decide_eq_true c12
            clear c12
            by_cases c13 : x8_1 ≤ (wrap64 (x8_1 + 1))
            · rw [if_pos c13] at H
              have c13b0 := eq_true c13
              have c13b1 : decide (x8_1 ≤ (wrap64 (x8_1 + 1))) = true := decide_eq_true c13
              by_cases c14 : (wrap64 (x8_1 + 1)) ≤ (t351.length : Int)
              · rw [if_pos c14] at H
                have c14b0 := eq_true c14
                have c14b1 : decide ((wrap64 (x8_1 + 1)) ≤ (t351.length : Int)) = true := decide_eq_true c14
                obtain ⟨y358, hy358⟩ : ∃ y_ : List (S25), y_ = ((t351.take ((wrap64 (x8_1 + 1)) : Int).toNat).drop (x8_1 : Int).toNat) := ⟨_, rfl⟩
                replace H : ((dn_Text.f y358).bind fun t362 => ((dn_Key.f k1 t362).bind fun bt363 => ((dn_Up.f k1 x6_1).bind fun t365 => (if x8_1 < (wrap64 ((t351.length : Int) - 1)) then (if bt363.1.size + 1 ≤ 9223372036854775807 then (if (bt363.1 ++ (⟨#[44]⟩ : ByteArray)).size + t365.size ≤ 9223372036854775807 then (brooklaw2_DnSteps.j1 k1 t351 x6_1 x8_1 bt363.1 bt363.2 t365 ((bt363.1 ++ (⟨#[44]⟩ : ByteArray)) ++ t365)) else (none)) else (none)) else (brooklaw2_DnSteps.j1 k1 t351 x6_1 x8_1 bt363.1 bt363.2 t365 bt363.1))))) = some r := by first | (rw [hy358]; with_reducible exact H) | (have H2_ := (Option.bind_some _ _).symm.trans H; rw [hy358]; with_reducible exact H2_) | (have H2_ := (Option.bind_some _ _).symm.trans H; with_reducible exact H2_) | with_reducible exact H | (rw [hy358]; exact H) | exact H
                have Ny358 := Aside0.mk hy358
                clear hy358
                replace H := Option.bind_eq_some_iff.mp H
                obtain ⟨t362, A150, H⟩ := H
                replace H : ((dn_Key.f k1 t362).bind fun bt363 => ((dn_Up.f k1 x6_1).bind fun t365 => (if x8_1 < (wrap64 ((t351.length : Int) - 1)) then (if bt363.1.size + 1 ≤ 9223372036854775807 then (if (bt363.1 ++ (⟨#[44]⟩ : ByteArray)).size + t365.size ≤ 9223372036854775807 then (brooklaw2_DnSteps.j1 k1 t351 x6_1 x8_1 bt363.1 bt363.2 t365 ((bt363.1 ++ (⟨#[44]⟩ : ByteArray)) ++ t365)) else (none)) else (none)) else (brooklaw2_DnSteps.j1 k1 t351 x6_1 x8_1 bt363.1 bt363.2 t365 bt363.1)))) = some r := H
                have A15 := Aside0.mk A150
                clear A150
                replace H := Option.bind_eq_some_iff.mp H
                obtain ⟨⟨t363, t364⟩, A160, H⟩ := H
                replace H : ((dn_Up.f k1 x6_1).bind fun t365 => (if x8_1 < (wrap64 ((t351.length : Int) - 1)) then (if t363.size + 1 ≤ 9223372036854775807 then (if (t363 ++ (⟨#[44]⟩ : ByteArray)).size + t365.size ≤ 9223372036854775807 then (brooklaw2_DnSteps.j1 k1 t351 x6_1 x8_1 t363 t364 t365 ((t363 ++ (⟨#[44]⟩ : ByteArray)) ++ t365)) else (none)) else (none)) else (brooklaw2_DnSteps.j1 k1 t351 x6_1 x8_1 t363 t364 t365 t363))) = some r := H
                have A16 := Aside0.mk A160
                clear A160
                replace H := Option.bind_eq_some_iff.mp H
                obtain ⟨t365, A170, H⟩ := H
                replace H : (if x8_1 < (wrap64 ((t351.length : Int) - 1)) then (if t363.size + 1 ≤ 9223372036854775807 then (if (t363 ++ (⟨#[44]⟩ : ByteArray)).size + t365.size ≤ 9223372036854775807 then (brooklaw2_DnSteps.j1 k1 t351 x6_1 x8_1 t363 t364 t365 ((t363 ++ (⟨#[44]⟩ : ByteArray)) ++ t365)) else (none)) else (none)) else (brooklaw2_DnSteps.j1 k1 t351 x6_1 x8_1 t363 t364 t365 t363)) = some r := H
                have A17 := Aside0.mk A170
                clear A170
                have HC18 := Aside0.mk H
                clear H
                have q19 : ((wrap64 (x8_1 + 1)) : Int) ≤ ((t351.length : Int) : Int) := of_decide_eq_true (by first | (with_reducible assumption) | assumption)
                obtain ⟨i019, hi019, _, hsz19, _⟩ := info_parts info25
                have hroom19 : t351.length ≤ co8 := (Kd.R_reads' HO_5.out).2.1
                have hC19 : Kd.C k25 _ Ao8 t351.length t351 := (Kd.R_reads' HO_5.out).2.2
                have ql19 : (x8_1 : Int) ≤ ((wrap64 (x8_1 + 1)) : Int) := of_decide_eq_true (by first | (with_reducible assumption) | assumption)
                have q019 : (0 : Int) ≤ (x8_1 : Int) := of_decide_eq_true (by first | (with_reducible assumption) | assumption)
                have hcut19 := cut_mid (P := Tryd.prog) 22 25 .i64 .i64 Tryd.underlying22 hi019 2 hsz19 Ao8 t351.length co8 x8_1 (wrap64 (x8_1 + 1)) q019 ql19 q19 hroom19
                have hr19 := Kd.C_mid (lo := (x8_1 : Int).toNat) (hi := ((wrap64 (x8_1 + 1)) : Int).toNat) (c := co8) hC19 (by omega) (by omega) hroom19
                obtain ⟨A19, hA19⟩ : ∃ A1, A1 = (if co8 = (x8_1 : Int).toNat then Ao8 else (Ao8 : Option Addr).map (·.add ((x8_1 : Int).toNat * 2))) := ⟨_, rfl⟩
                obtain ⟨c19, hc19⟩ : ∃ c1, c1 = co8 - (x8_1 : Int).toNat := ⟨_, rfl⟩
                have hy19 : y358.length = ((wrap64 (x8_1 + 1)) : Int).toNat - (x8_1 : Int).toNat := (by rw [Ny358.out, List.length_drop, List.length_take] <;> omega)
                rw [show ((t351).take ((wrap64 (x8_1 + 1)) : Int).toNat).drop (x8_1 : Int).toNat = y358 from Ny358.out.symm] at hr19
                replace hr19 : Kd.C k25 _ A19 y358.length y358 := (by rw [hA19]; exact hr19)
                rw [← hy19, ← hA19, ← hc19] at hcut19
                have HR361 := Aside0.mk hr19
                have HC361 := Aside0.mk (show y358.length ≤ c19 from by rw [hy19, hc19]; exact Nat.sub_le_sub_right (Nat.le_trans (by omega) hroom19) _)
                clear hr19 hC19 hroom19 hi019 hsz19 hc19
                have KY19 := Aside0.mk hy19
                have KA19 := Aside0.mk hA19
                clear hy19 hA19
                have KL19 := Aside0.mk (show ((wrap64 (x8_1 + 1)) : Int).toNat ≤ t351.length from by omega)
                have KM19 := Aside0.mk (show (x8_1 : Int).toNat ≤ ((wrap64 (x8_1 + 1)) : Int).toNat from by omega)
                replace q19 := eq_true q19
                go_upto_if 47 with (first | ((with_reducible refine gate_callee (f := 18) rfl ?_); refine goesL_ (some 36) rfl rfl Tryd.func18 (by kernel_rfl) rfl #[.slice A19 y358.length c19] rfl (by (try simp only [List.map_toArray, List.map_cons, List.map_nil]); first | done | rfl | (simp only [List.length_drop, List.length_take]; rfl)) ?_; (with_reducible refine (dn_Text.calls _ _ y358 t362 _ ?side1 ?side2 A15.out).mono ?_); (case side1 => repeat (first | exact (by repeat (first | (with_reducible exact HR361.out) | (with_reducible refine Kd.C_alloc ?_ _) | (with_reducible refine Kd.C_drewN ?_ _) | (with_reducible refine Kd.C_drew ?_) | exact HR361.out)) | (with_reducible refine Kd.C_alloc ?_ _) | (with_reducible refine Kd.C_drewN ?_ _) | (with_reducible refine Kd.C_drew ?_))); (case side2 => exact HC361.out); rintro e w20 ⟨rfl, hb⟩; refine ⟨_, rfl, ?_⟩; have n0_ := Aside0.mk (Kd.R_below (by (with_reducible repeat (first | apply Kd.R_alloc | apply Kd.R_drewN | apply Kd.R_drew)); exact HO_5.out) hb); have n1_ := Aside0.mk (Kd.C_below (by repeat (first | (with_reducible exact HR361.out) | (with_reducible refine Kd.C_alloc ?_ _) | (with_reducible refine Kd.C_drewN ?_ _) | (with_reducible refine Kd.C_drew ?_) | exact HR361.out)) hb); have n2_ := Aside0.mk (below_step (by repeat (first | (with_reducible first | exact HB.out | apply below_alloc | apply pw_below_drewN | apply below_drew1) | exact HB.out)) hb); clear HO_5; clear HR361; clear HB; have HO_5 := n0_; have HR361 := n1_; have HB := n2_; clear n0_ n1_ n2_; (try clear hb); (try clear hb2); (try clear hk); (try clear hi)) | ((with_reducible refine gate_callee (f := 23) rfl ?_); refine goesL_ (some 37) rfl rfl Tryd.func23 (by kernel_rfl) rfl #[.string t362] rfl (by (try simp only [List.map_toArray, List.map_cons, List.map_nil]); first | done | rfl | (simp only [List.length_drop, List.length_take]; rfl)) ?_; (with_reducible refine (dn_Key.calls k1 t362 t363 t364 _ A16.out).mono ?_); rintro e w21 ⟨rfl, hb⟩; refine ⟨_, rfl, ?_⟩; have n0_ := Aside0.mk (Kd.R_below (by (with_reducible repeat (first | apply Kd.R_alloc | apply Kd.R_drewN | apply Kd.R_drew)); exact HO_5.out) hb); have n1_ := Aside0.mk (Kd.C_below (by repeat (first | (with_reducible exact HR361.out) | (with_reducible refine Kd.C_alloc ?_ _) | (with_reducible refine Kd.C_drewN ?_ _) | (with_reducible refine Kd.C_drew ?_) | exact HR361.out)) hb); have n2_ := Aside0.mk (below_step (by repeat (first | (with_reducible first | exact HB.out | apply below_alloc | apply pw_below_drewN | apply below_drew1) | exact HB.out)) hb); clear HO_5; clear HR361; clear HB; have HO_5 := n0_; have HR361 := n1_; have HB := n2_; clear n0_ n1_ n2_; (try clear hb); (try clear hb2); (try clear hk); (try clear hi)) | ((with_reducible refine gate_callee (f := 29) rfl ?_); refine goesL_ (some 41) rfl rfl Tryd.func29 (by kernel_rfl) rfl #[.string x6_1] rfl (by (try simp only [List.map_toArray, List.map_cons, List.map_nil]); first | done | rfl | (simp only [List.length_drop, List.length_take]; rfl)) ?_; (with_reducible refine (dn_Up.calls k1 x6_1 t365 _ A17.out).mono ?_); rintro e w' ⟨rfl, ⟨nd, rfl⟩⟩; refine ⟨_, rfl, ?_⟩))
                (try simp only [Act.put, List.setIfInBounds_toArray, List.set_cons_zero, List.set_cons_succ])
                go_cut [12] (fun v12 wc => ∃ (kq : Nat) (x12_17 : ByteArray), v12 = .string x12_17 ∧ Aside0 (brooklaw2_DnSteps.j1 kq t351 x6_1 x8_1 t363 t364 t365 x12_17 = some r) ∧ Aside0 (kq ≤ k1) ∧ Aside0 (Kd.R k25 25 wc w.heap.size (fun _ => True) (.slice Ao8 t351.length co8) t351) ∧ Aside0 (Below w.heap.size w wc))
                case first =>
                  have H := HC18.out
                  clear HC18
                  by_cases c22 : x8_1 < (wrap64 ((t351.length : Int) - 1))
                  · rw [if_pos c22] at H
                    have c22b0 : decide (x8_1 < (wrap64 ((t351.length : Int) - 1))) = true := decide_eq_true c22
                    clear c22
                    (first | rw [c22b0] | (simp only [i64_w, i32_w]; rw [c22b0]) | skip)
                    by_cases c23 : t363.size + 1 ≤ 9223372036854775807
                    · rw [if_pos c23] at H
                      have c23b0 := eq_true c23
                      have c23b1 : decide (t363.size + 1 ≤ 9223372036854775807) = true := decide_eq_true c23
                      try have c23b2 : (9223372036854775807 < t363.size + 1) = False := eq_false (Nat.not_lt.2 c23)
                      by_cases c24 : (t363 ++ (⟨#[44]⟩ : ByteArray)).size + t365.size ≤ 9223372036854775807
                      · rw [if_pos c24] at H
                        have c24b0 := eq_true c24
                        have c24b1 : decide ((t363 ++ (⟨#[44]⟩ : ByteArray)).size + t365.size ≤ 9223372036854775807) = true := decide_eq_true c24
                        try have c24b2 : (9223372036854775807 < (t363 ++ (⟨#[44]⟩ : ByteArray)).size + t365.size) = False := eq_false (Nat.not_lt.2 c24)
                        have H' := Aside0.mk H
                        clear H
                        go_wp2
                        go_meet
                        case rel => exact ⟨_, ((t363 ++ (⟨#[44]⟩ : ByteArray)) ++ t365), (by first | rfl | (simp; done) | (simp [*]; done) | (simp [u8_w, i64_w]; done) | (simp [isEmpty_bne]; done)), H', ⟨by have := HK1.out; first | omega | exact Nat.le_refl _⟩, ⟨by (with_reducible repeat (first | apply Kd.R_alloc | apply Kd.R_drewN | apply Kd.R_drew)); exact HO_5.out⟩, ⟨by repeat (first | (with_reducible first | exact HB.out | apply below_alloc | apply pw_below_drewN | apply below_drew1) | exact HB.out)⟩⟩
                      · rw [if_neg c24] at H
                        exact absurd H (by simp)
                    · rw [if_neg c23] at H
                      exact absurd H (by simp)
                  · rw [if_neg c22] at H
                    have c22b0 : decide (x8_1 < (wrap64 ((t351.length : Int) - 1))) = false := decide_eq_false c22
                    clear c22
                    (first | rw [c22b0] | (simp only [i64_w, i32_w]; rw [c22b0]) | skip)
                    have H' := Aside0.mk H
                    clear H
                    go_wp2
                    go_meet
                    case rel => exact ⟨_, (t363), (by first | rfl | (simp; done) | (simp [*]; done) | (simp [u8_w, i64_w]; done) | (simp [isEmpty_bne]; done)), H', ⟨by have := HK1.out; first | omega | exact Nat.le_refl _⟩, ⟨by (with_reducible repeat (first | apply Kd.R_alloc | apply Kd.R_drewN | apply Kd.R_drew)); exact HO_5.out⟩, ⟨by repeat (first | (with_reducible first | exact HB.out | apply below_alloc | apply pw_below_drewN | apply below_drew1) | exact HB.out)⟩⟩
                case rest =>
                  clear HC18
                  try clear c1
                  try clear q1
                  try clear c2
                  try clear p2
                  try clear c6
                  try clear p6
                  try clear c10
                  try clear c11
                  try clear c11b0
                  try clear c12
                  try clear c12b0
                  try clear c12b1
                  try clear c13
                  try clear c13b0
                  try clear c13b1
                  try clear c14
                  try clear c14b0
                  try clear c14b1
                  try clear c18
                  try clear c19
                  try clear q19
                  try clear c20
                  try clear c22
                  try clear c22b0
                  try clear c23
                  try clear c23b0
                  try clear c23b1
                  try clear c23b2
                  try clear c24
                  try clear c24b0
                  try clear c24b1
                  try clear c24b2
                  try clear p2
                  try clear q019
                  try clear q19
                  obtain ⟨kq, x12_17, rfl, HA, HJ17, HO_5, HB⟩ := hcut
                  cases kq with
                  | zero => exact absurd HA.out (by simp [brooklaw2_DnSteps.j1])
                  | succ kj17 =>
                    have H := HA.out
                    clear HA
                    simp only [brooklaw2_DnSteps.j1] at H
                    by_cases c25 : t364 = true
                    · subst c25
                      have H1 : (if x6_1.toList = x12_17.toList then ((dn_Up.f kj17 t363).bind fun t366 => (if t366.toList = ([] : List UInt8) then ((dn_Under.f kj17 x6_1 t365).bind fun t367 => (if t367 = true then (if (x6_1.size : Int) > 0 then ((dn_Under.f kj17 t365 x6_1).bind fun t368 => (if t368 = true then (some false) else (brooklaw2_DnSteps.l0 kj17 t351 t365 (wrap64 (x8_1 + 1))))) else (brooklaw2_DnSteps.l0 kj17 t351 t365 (wrap64 (x8_1 + 1)))) else (some false))) else (some false))) else (some false)) = some r := by rw [if_pos rfl] at H; exact H
                      clear H
                      have H := H1
                      clear H1
                      by_cases c26 : x6_1.toList = x12_17.toList
                      · rw [if_pos c26] at H
                        have c26b0 : (x6_1.toList == x12_17.toList) = true := beq_iff_eq.mpr c26
                        have c26b1 : (x6_1.toList != x12_17.toList) = false := bne_eq_false_iff_eq.mpr c26
                        clear c26
                        replace H := Option.bind_eq_some_iff.mp H
                        obtain ⟨t366, A270, H⟩ := H
                        replace H : (if t366.toList = ([] : List UInt8) then ((dn_Under.f kj17 x6_1 t365).bind fun t367 => (if t367 = true then (if (x6_1.size : Int) > 0 then ((dn_Under.f kj17 t365 x6_1).bind fun t368 => (if t368 = true then (some false) else (brooklaw2_DnSteps.l0 kj17 t351 t365 (wrap64 (x8_1 + 1))))) else (brooklaw2_DnSteps.l0 kj17 t351 t365 (wrap64 (x8_1 + 1)))) else (some false))) else (some false)) = some r := H
                        have A27 := Aside0.mk A270
                        clear A270
                        by_cases c28 : t366.toList = ([] : List UInt8)
                        · rw [if_pos c28] at H
                          have c28b0 : (t366.toList == ([] : List UInt8)) = true := beq_iff_eq.mpr c28
                          have c28b1 : (t366.toList != ([] : List UInt8)) = false := bne_eq_false_iff_eq.mpr c28
                          clear c28
                          replace H := Option.bind_eq_some_iff.mp H
                          obtain ⟨t367, A290, H⟩ := H
                          replace H : (if t367 = true then (if (x6_1.size : Int) > 0 then ((dn_Under.f kj17 t365 x6_1).bind fun t368 => (if t368 = true then (some false) else (brooklaw2_DnSteps.l0 kj17 t351 t365 (wrap64 (x8_1 + 1))))) else (brooklaw2_DnSteps.l0 kj17 t351 t365 (wrap64 (x8_1 + 1)))) else (some false)) = some r := H
                          have A29 := Aside0.mk A290
                          clear A290
                          by_cases c30 : t367 = true
                          · subst c30
                            have H1 : (if (x6_1.size : Int) > 0 then ((dn_Under.f kj17 t365 x6_1).bind fun t368 => (if t368 = true then (some false) else (brooklaw2_DnSteps.l0 kj17 t351 t365 (wrap64 (x8_1 + 1))))) else (brooklaw2_DnSteps.l0 kj17 t351 t365 (wrap64 (x8_1 + 1)))) = some r := by rw [if_pos rfl] at H; exact H
                            clear H
                            have H := H1
                            clear H1
                            by_cases c31 : (x6_1.size : Int) > 0
                            · rw [if_pos c31] at H
                              have c31b0 : decide (0 < (x6_1.size : Int)) = true := decide_eq_true c31
                              have c31b1 : decide (0 < x6_1.size) = true := decide_eq_true (by omega)
                              clear c31
                              replace H := Option.bind_eq_some_iff.mp H
                              obtain ⟨t368, A320, H⟩ := H
                              replace H : (if t368 = true then (some false) else (brooklaw2_DnSteps.l0 kj17 t351 t365 (wrap64 (x8_1 + 1)))) = some r := H
                              have A32 := Aside0.mk A320
                              clear A320
                              by_cases c33 : t368 = true
                              · subst c33
                                have H1 : (some false) = some r := by rw [if_pos rfl] at H; exact H
                                clear H
                                have H := H1
                                clear H1
                                obtain rfl := Option.some.inj H
                                go_wp2_with (first | (go_at_call 29; (with_reducible refine (dn_Up.calls kj17 t363 t366 _ A27.out).mono ?_); rintro e w' ⟨rfl, ⟨nd, rfl⟩⟩) | (go_at_call 31; (with_reducible refine (dn_Under.calls kj17 x6_1 t365 true _ A29.out).mono ?_); rintro e w' ⟨rfl, ⟨nd, rfl⟩⟩) | (go_at_call 31; (with_reducible refine (dn_Under.calls kj17 t365 x6_1 true _ A32.out).mono ?_); rintro e w' ⟨rfl, ⟨nd, rfl⟩⟩))
                                go_ret
                                exact ⟨by first | rfl | (simp [errW_none, errW_some] <;> rfl) | (simp [*, errW_none, errW_some] <;> rfl), by repeat (first | (with_reducible first | exact HB.out | apply below_alloc | apply pw_below_drewN | apply below_drew1) | exact HB.out)⟩
                              · replace c33 := Bool.eq_false_iff.mpr c33
                                subst c33
                                have H1 : (brooklaw2_DnSteps.l0 kj17 t351 t365 (wrap64 (x8_1 + 1))) = some r := by rw [if_neg (show ¬ (false = true) by decide)] at H; exact H
                                clear H
                                have H := H1
                                clear H1
                                have H' := Aside0.mk H
                                clear H
                                go_wp2_with (first | (go_at_call 29; (with_reducible refine (dn_Up.calls kj17 t363 t366 _ A27.out).mono ?_); rintro e w' ⟨rfl, ⟨nd, rfl⟩⟩) | (go_at_call 31; (with_reducible refine (dn_Under.calls kj17 x6_1 t365 true _ A29.out).mono ?_); rintro e w' ⟨rfl, ⟨nd, rfl⟩⟩) | (go_at_call 31; (with_reducible refine (dn_Under.calls kj17 t365 x6_1 false _ A32.out).mono ?_); rintro e w' ⟨rfl, ⟨nd, rfl⟩⟩))
                                go_roundg kj17
                                case measure => have := HK1.out; have := HJ17.out; omega
                                case rel => exact ⟨(t365), (wrap64 (x8_1 + 1)), (by first | rfl | (simp; done) | (simp [*]; done) | (simp [u8_w, i64_w]; done) | (simp [isEmpty_bne]; done)), (by first | rfl | (simp; done) | (simp [*]; done) | (simp [u8_w, i64_w]; done) | (simp [isEmpty_bne]; done)), H', ⟨by have := HK1.out; have := HJ17.out; omega⟩, ⟨by (with_reducible repeat (first | apply Kd.R_alloc | apply Kd.R_drewN | apply Kd.R_drew)); exact HO_5.out⟩, ⟨by repeat (first | (with_reducible first | exact HB.out | apply below_alloc | apply pw_below_drewN | apply below_drew1) | exact HB.out)⟩⟩
                            · rw [if_neg c31] at H
                              have c31b0 : decide (0 < (x6_1.size : Int)) = false := decide_eq_false c31
                              have c31b1 : decide (0 < x6_1.size) = false := decide_eq_false (by omega)
                              clear c31
                              have H' := Aside0.mk H
                              clear H
                              go_wp2_with (first | (go_at_call 29; (with_reducible refine (dn_Up.calls kj17 t363 t366 _ A27.out).mono ?_); rintro e w' ⟨rfl, ⟨nd, rfl⟩⟩) | (go_at_call 31; (with_reducible refine (dn_Under.calls kj17 x6_1 t365 true _ A29.out).mono ?_); rintro e w' ⟨rfl, ⟨nd, rfl⟩⟩))
                              go_roundg kj17
                              case measure => have := HK1.out; have := HJ17.out; omega
                              case rel => exact ⟨(t365), (wrap64 (x8_1 + 1)), (by first | rfl | (simp; done) | (simp [*]; done) | (simp [u8_w, i64_w]; done) | (simp [isEmpty_bne]; done)), (by first | rfl | (simp; done) | (simp [*]; done) | (simp [u8_w, i64_w]; done) | (simp [isEmpty_bne]; done)), H', ⟨by have := HK1.out; have := HJ17.out; omega⟩, ⟨by (with_reducible repeat (first | apply Kd.R_alloc | apply Kd.R_drewN | apply Kd.R_drew)); exact HO_5.out⟩, ⟨by repeat (first | (with_reducible first | exact HB.out | apply below_alloc | apply pw_below_drewN | apply below_drew1) | exact HB.out)⟩⟩
                          · replace c30 := Bool.eq_false_iff.mpr c30
                            subst c30
                            have H1 : (some false) = some r := by rw [if_neg (show ¬ (false = true) by decide)] at H; exact H
                            clear H
                            have H := H1
                            clear H1
                            obtain rfl := Option.some.inj H
                            go_wp2_with (first | (go_at_call 29; (with_reducible refine (dn_Up.calls kj17 t363 t366 _ A27.out).mono ?_); rintro e w' ⟨rfl, ⟨nd, rfl⟩⟩) | (go_at_call 31; (with_reducible refine (dn_Under.calls kj17 x6_1 t365 false _ A29.out).mono ?_); rintro e w' ⟨rfl, ⟨nd, rfl⟩⟩))
                            go_ret
                            exact ⟨by first | rfl | (simp [errW_none, errW_some] <;> rfl) | (simp [*, errW_none, errW_some] <;> rfl), by repeat (first | (with_reducible first | exact HB.out | apply below_alloc | apply pw_below_drewN | apply below_drew1) | exact HB.out)⟩
                        · rw [if_neg c28] at H
                          have c28b0 : (t366.toList == ([] : List UInt8)) = false := beq_eq_false_iff_ne.mpr c28
                          have c28b1 : (t366.toList != ([] : List UInt8)) = true := bne_iff_ne.mpr c28
                          obtain rfl := Option.some.inj H
                          go_wp2_with (first | (go_at_call 29; (with_reducible refine (dn_Up.calls kj17 t363 t366 _ A27.out).mono ?_); rintro e w' ⟨rfl, ⟨nd, rfl⟩⟩))
                          go_ret
                          exact ⟨by first | rfl | (simp [errW_none, errW_some] <;> rfl) | (simp [*, errW_none, errW_some] <;> rfl), by repeat (first | (with_reducible first | exact HB.out | apply below_alloc | apply pw_below_drewN | apply below_drew1) | exact HB.out)⟩
                      · rw [if_neg c26] at H
                        have c26b0 : (x6_1.toList == x12_17.toList) = false := beq_eq_false_iff_ne.mpr c26
                        have c26b1 : (x6_1.toList != x12_17.toList) = true := bne_iff_ne.mpr c26
                        obtain rfl := Option.some.inj H
                        go_wp2
                        go_ret
                        exact ⟨by first | rfl | (simp [errW_none, errW_some] <;> rfl) | (simp [*, errW_none, errW_some] <;> rfl), by repeat (first | (with_reducible first | exact HB.out | apply below_alloc | apply pw_below_drewN | apply below_drew1) | exact HB.out)⟩
                    · replace c25 := Bool.eq_false_iff.mpr c25
                      subst c25
                      have H1 : (some false) = some r := by rw [if_neg (show ¬ (false = true) by decide)] at H; exact H
                      clear H
                      have H := H1
                      clear H1
                      obtain rfl := Option.some.inj H
                      go_wp2
                      go_ret
                      exact ⟨by first | rfl | (simp [errW_none, errW_some] <;> rfl) | (simp [*, errW_none, errW_some] <;> rfl), by repeat (first | (with_reducible first | exact HB.out | apply below_alloc | apply pw_below_drewN | apply below_drew1) | exact HB.out)⟩
              · rw [if_neg c14] at H
                exact absurd H (by simp)
            · rw [if_neg c13] at H
              exact absurd H (by simp)
          · rw [if_neg c12] at H
            exact absurd H (by simp)
        · rw [if_neg c11] at H
          have c11b0 : decide (x8_1 < (t351.length : Int)) = false := decide_eq_false c11
          clear c11
          by_cases c34 : x6_1.toList = ([] : List UInt8)
          · rw [if_pos c34] at H
            have c34b0 : (x6_1.toList == ([] : List UInt8)) = true := beq_iff_eq.mpr c34
            have c34b1 : (x6_1.toList != ([] : List UInt8)) = false := bne_eq_false_iff_eq.mpr c34
            clear c34
            replace H := Option.bind_eq_some_iff.mp H
            obtain ⟨t357, A350, H⟩ := H
            replace H : (some t357) = some r := H
            have A35 := Aside0.mk A350
            clear A350
            obtain rfl := Option.some.inj H
            go_wp2_with (first | (go_at_call 15; (with_reducible refine (brooklaw2_awake.calls k1  t357 _ A35.out).mono ?_); rintro e w36 ⟨rfl, hb⟩; have n0_ := Aside0.mk (Kd.R_below (by (with_reducible repeat (first | apply Kd.R_alloc | apply Kd.R_drewN | apply Kd.R_drew)); exact HO_5.out) hb); have n1_ := Aside0.mk (below_step (by repeat (first | (with_reducible first | exact HB.out | apply below_alloc | apply pw_below_drewN | apply below_drew1) | exact HB.out)) hb); clear HO_5; clear HB; have HO_5 := n0_; have HB := n1_; clear n0_ n1_; (try clear hb); (try clear hb2); (try clear hk); (try clear hi)))
            go_ret
            exact ⟨by first | rfl | (simp [errW_none, errW_some] <;> rfl) | (simp [*, errW_none, errW_some] <;> rfl), by repeat (first | (with_reducible first | exact HB.out | apply below_alloc | apply pw_below_drewN | apply below_drew1) | exact HB.out)⟩
          · rw [if_neg c34] at H
            have c34b0 : (x6_1.toList == ([] : List UInt8)) = false := beq_eq_false_iff_ne.mpr c34
            have c34b1 : (x6_1.toList != ([] : List UInt8)) = true := bne_iff_ne.mpr c34
            obtain rfl := Option.some.inj H
            go_wp2
            go_ret
            exact ⟨by first | rfl | (simp [errW_none, errW_some] <;> rfl) | (simp [*, errW_none, errW_some] <;> rfl), by repeat (first | (with_reducible first | exact HB.out | apply below_alloc | apply pw_below_drewN | apply below_drew1) | exact HB.out)⟩
  · replace c6 := Bool.eq_false_iff.mpr c6
    subst c6
    have H1 : (some false) = some r := by rw [if_neg (show ¬ (false = true) by decide)] at H; exact H
    clear H
    have H := H1
    clear H1
    obtain rfl := Option.some.inj H
    go_enter Tryd.func10, Tryd.ntmps10
    go_wp2_with (first | ((with_reducible refine gate_callee (f := 20) rfl ?_); refine goesL_ (some 15) rfl rfl Tryd.func20 (by kernel_rfl) rfl #[.slice A0 l0.length c0, .slice A1 l1.length c1] rfl (by (try simp only [List.map_toArray, List.map_cons, List.map_nil]); first | done | rfl | (simp only [List.length_drop, List.length_take]; rfl)) ?_; (with_reducible refine (brooklaw2_Make.calls k _ _ l0 _ _ l1 t351 _ ?side1 ?side2 ?side3 ?side4 A3.out).mono ?_); (case side1 => repeat (first | exact HR0.out | (with_reducible refine Kd.C_alloc ?_ _) | (with_reducible refine Kd.C_drewN ?_ _) | (with_reducible refine Kd.C_drew ?_))); (case side2 => exact HC0.out); (case side3 => repeat (first | exact HR1.out | (with_reducible refine Kd.C_alloc ?_ _) | (with_reducible refine Kd.C_drewN ?_ _) | (with_reducible refine Kd.C_drew ?_))); (case side4 => exact HC1.out); rintro e w37 ⟨v352, rfl, ho0, hb⟩; refine ⟨_, rfl, ?_⟩; have n0_ := Aside0.mk (Kd.R_lower ho0 (below_size (by repeat (first | (with_reducible first | exact HB.out | apply below_alloc | apply pw_below_drewN | apply below_drew1) | exact HB.out)))); have n1_ := Aside0.mk (below_step (by repeat (first | (with_reducible first | exact HB.out | apply below_alloc | apply pw_below_drewN | apply below_drew1) | exact HB.out)) hb); clear HB; have HO353 := n0_; have HB := n1_; clear n0_ n1_; (try clear hb); (try clear hb2); (try clear hk); (try clear hi); (try clear ho0); obtain ⟨Ao38, co38, eo38⟩ := Kd.R_slice HO353.out; subst eo38) | ((with_reducible refine gate_callee (f := 18) rfl ?_); refine goesL_ (some 18) rfl rfl Tryd.func18 (by kernel_rfl) rfl #[.slice Ao38 t351.length co38] rfl (by (try simp only [List.map_toArray, List.map_cons, List.map_nil]); first | done | rfl | (simp only [List.length_drop, List.length_take]; rfl)) ?_; (with_reducible refine (dn_Text.calls _ _ t351 t354 _ ?side1 ?side2 A4.out).mono ?_); (case side1 => repeat (first | exact (Kd.R_reads' HO353.out).2.2 | (with_reducible refine Kd.C_alloc ?_ _) | (with_reducible refine Kd.C_drewN ?_ _) | (with_reducible refine Kd.C_drew ?_))); (case side2 => exact (Kd.R_reads' HO353.out).2.1); rintro e w39 ⟨rfl, hb⟩; refine ⟨_, rfl, ?_⟩; have n0_ := Aside0.mk (Kd.R_below (by (with_reducible repeat (first | apply Kd.R_alloc | apply Kd.R_drewN | apply Kd.R_drew)); exact HO353.out) hb); have n1_ := Aside0.mk (below_step (by repeat (first | (with_reducible first | exact HB.out | apply below_alloc | apply pw_below_drewN | apply below_drew1) | exact HB.out)) hb); clear HO353; clear HB; have HO353 := n0_; have HB := n1_; clear n0_ n1_; (try clear hb); (try clear hb2); (try clear hk); (try clear hi)) | ((with_reducible refine gate_callee (f := 23) rfl ?_); refine goesL_ (some 19) rfl rfl Tryd.func23 (by kernel_rfl) rfl #[.string t354] rfl (by (try simp only [List.map_toArray, List.map_cons, List.map_nil]); first | done | rfl | (simp only [List.length_drop, List.length_take]; rfl)) ?_; (with_reducible refine (dn_Key.calls k t354 t355 false _ A5.out).mono ?_); rintro e w40 ⟨rfl, hb⟩; refine ⟨_, rfl, ?_⟩; have n0_ := Aside0.mk (Kd.R_below (by (with_reducible repeat (first | apply Kd.R_alloc | apply Kd.R_drewN | apply Kd.R_drew)); exact HO353.out) hb); have n1_ := Aside0.mk (below_step (by repeat (first | (with_reducible first | exact HB.out | apply below_alloc | apply pw_below_drewN | apply below_drew1) | exact HB.out)) hb); clear HO353; clear HB; have HO353 := n0_; have HB := n1_; clear n0_ n1_; (try clear hb); (try clear hb2); (try clear hk); (try clear hi)))
    go_ret
    exact ⟨by first | rfl | (simp [errW_none, errW_some] <;> rfl) | (simp [*, errW_none, errW_some] <;> rfl), by repeat (first | (with_reducible first | exact HB.out | apply below_alloc | apply pw_below_drewN | apply below_drew1) | exact HB.out)⟩

end Go.Proofs.YtflkghdndffacaaDoor.PD
