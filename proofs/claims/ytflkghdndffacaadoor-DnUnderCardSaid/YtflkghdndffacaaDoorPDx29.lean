/- Printed by a program of this session (print-patch.py over the kit's print): functions and their contracts. -/
-- POSTED
import Derived.Test.YtflkghdndffacaaDoorPDx0
import Derived.Test.YtflkghdndffacaaDoorPDx7
import Derived.Test.YtflkghdndffacaaDoorPDx8
import Derived.Test.YtflkghdndffacaaDoorPDx14
import Derived.Test.YtflkghdndffacaaDoorPDx26
import Derived.Test.YtflkghdndffacaaDoorPDx27
import Derived.Test.YtflkghdndffacaaDoorH3
namespace Go.Proofs.YtflkghdndffacaaDoor.PD
open Go.RowKit Go.Proofs.YtflkghdndffacaaDoor.H Go.Proofs.YtflkghdndffacaaDoorW.PrintWords Go.Proofs.YtflkghdndffacaaDoorW.PrintLast Go.Proofs.YtflkghdndffacaaDoorW.PrintMore
attribute [local go_sem] max2_int min2_int max_two min_two max_three min_three max_four min_four   -- for this text's walks alone
set_option linter.unusedVariables false
set_option linter.unusedSimpArgs false

/-! ### brooklaw2_DnUnder: function 9 -/
mutual
def brooklaw2_DnUnder.l0 : Nat → List (S25) → Int → ByteArray → Bool → ByteArray → Bool → ByteArray → Int → Option (Bool)
  | 0, _, _, _, _, _, _, _, _ => none
  | k + 1, x7, x8, x9, x10, x11, x12, x13, x14 => if x14 < x8 then ((dn_Up.f k x13).bind fun t341 => (brooklaw2_DnUnder.l0 k x7 x8 x9 x10 x11 x12 t341 (wrap64 (x14 + 1)))) else (brooklaw2_DnUnder.l1 k x7 x8 x9 x10 x11 x12 x13 x9 0)
def brooklaw2_DnUnder.l1 : Nat → List (S25) → Int → ByteArray → Bool → ByteArray → Bool → ByteArray → ByteArray → Int → Option (Bool)
  | 0, _, _, _, _, _, _, _, _, _ => none
  | k + 1, x7, x8, x9, x10, x11, x12, x13, x15, x16 => if x16 < (x7.length : Int) then ((dn_Up.f k x15).bind fun t342 => (brooklaw2_DnUnder.l1 k x7 x8 x9 x10 x11 x12 x13 t342 (wrap64 (x16 + 1)))) else (if x10 = true then (if x12 = true then (if x13.toList = x11.toList then (if x15.toList = ([] : List UInt8) then ((dn_Under.f k x9 x11).bind fun t343 => (if t343 = true then ((dn_Under.f k x9 (⟨#[]⟩ : ByteArray)).bind fun t344 => (if t344 = true then ((dn_Under.f k x9 x9).bind fun t345 => (if t345 = true then (if x8 = 0 then ((dn_Under.f k (⟨#[]⟩ : ByteArray) x9).bind fun t346 => (if t346 = true then (some false) else ((brooklaw2_awake.f k).bind fun t347 => (some t347)))) else ((dn_Under.f k x11 x9).bind fun t348 => (if t348 = true then (some false) else ((dn_Under.f k (⟨#[]⟩ : ByteArray) x9).bind fun t349 => (if t349 = true then (some false) else ((brooklaw2_awake.f k).bind fun t350 => (some t350))))))) else (some false))) else (some false))) else (some false))) else (some false)) else (some false)) else (some false)) else (some false))
end
def brooklaw2_DnUnder.f (k : Nat) (l0 : List ByteArray) (l1 : List Int) (a2 : Int) : Option (Bool) := (brooklaw2_Make.f k l0 l1).bind fun t327 => (if (t327.length : Int) = 0 then ((brooklaw2_awake.f k).bind fun t330 => (some t330)) else ((dn_Text.f t327).bind fun t331 => ((dn_Key.f k t331).bind fun bt332 => (if 0 ≤ (Int.tmod (wrap64 (a2)) (t327.length : Int)) then (if (Int.tmod (wrap64 (a2)) (t327.length : Int)) ≤ (t327.length : Int) then ((dn_Text.f (t327.drop ((Int.tmod (wrap64 (a2)) (t327.length : Int)) : Int).toNat)).bind fun t338 => ((dn_Key.f k t338).bind fun bt339 => (brooklaw2_DnUnder.l0 k t327 (Int.tmod (wrap64 (a2)) (t327.length : Int)) bt332.1 bt332.2 bt339.1 bt339.2 bt332.1 0))) else (none)) else (none)))))
theorem brooklaw2_DnUnder.mono_l : ∀ k, (∀ y0 y1 y2 y3 y4 y5 y6 y7, LeO (brooklaw2_DnUnder.l0 k y0 y1 y2 y3 y4 y5 y6 y7) (brooklaw2_DnUnder.l0 (k + 1) y0 y1 y2 y3 y4 y5 y6 y7)) ∧ (∀ y0 y1 y2 y3 y4 y5 y6 y7 y8, LeO (brooklaw2_DnUnder.l1 k y0 y1 y2 y3 y4 y5 y6 y7 y8) (brooklaw2_DnUnder.l1 (k + 1) y0 y1 y2 y3 y4 y5 y6 y7 y8))
  | 0 => ⟨fun _ _ _ _ _ _ _ _ r h => by simp [brooklaw2_DnUnder.l0] at h, fun _ _ _ _ _ _ _ _ _ r h => by simp [brooklaw2_DnUnder.l1] at h⟩
  | k + 1 => by
    obtain ⟨ih0, ih1⟩ := brooklaw2_DnUnder.mono_l k
    refine ⟨?_, ?_⟩
    · intro y0 y1 y2 y3 y4 y5 y6 y7
      unfold brooklaw2_DnUnder.l0
      repeat' first
      | (with_reducible exact ih0 _ _ _ _ _ _ _ _)
      | (with_reducible exact ih1 _ _ _ _ _ _ _ _ _)
      | (with_reducible exact brooklaw2_Make.mono _ _ _)
      | (with_reducible exact brooklaw2_awake.mono _)
      | (with_reducible exact dn_Key.mono _ _)
      | (with_reducible exact dn_Under.mono _ _ _)
      | (with_reducible exact dn_Up.mono _ _)
      | (with_reducible exact LeO.refl _)
      | (with_reducible exact LeO.none _)
      | (with_reducible refine LeO.ite ?_ ?_)
      | (with_reducible refine LeO.bind ?_ (fun _ => ?_))
      | exact ih0 _ _ _ _ _ _ _ _
      | exact ih1 _ _ _ _ _ _ _ _ _
      | exact brooklaw2_Make.mono _ _ _
      | exact brooklaw2_awake.mono _
      | exact dn_Key.mono _ _
      | exact dn_Under.mono _ _ _
      | exact dn_Up.mono _ _
      | exact LeO.none _
      | refine LeO.ite ?_ ?_
      | refine LeO.bind ?_ (fun _ => ?_)
    · intro y0 y1 y2 y3 y4 y5 y6 y7 y8
      unfold brooklaw2_DnUnder.l1
      repeat' first
      | (with_reducible exact ih0 _ _ _ _ _ _ _ _)
      | (with_reducible exact ih1 _ _ _ _ _ _ _ _ _)
      | (with_reducible exact brooklaw2_Make.mono _ _ _)
      | (with_reducible exact brooklaw2_awake.mono _)
      | (with_reducible exact dn_Key.mono _ _)
      | (with_reducible exact dn_Under.mono _ _ _)
      | (with_reducible exact dn_Up.mono _ _)
      | (with_reducible exact LeO.refl _)
      | (with_reducible exact LeO.none _)
      | (with_reducible refine LeO.ite ?_ ?_)
      | (with_reducible refine LeO.bind ?_ (fun _ => ?_))
      | exact ih0 _ _ _ _ _ _ _ _
      | exact ih1 _ _ _ _ _ _ _ _ _
      | exact brooklaw2_Make.mono _ _ _
      | exact brooklaw2_awake.mono _
      | exact dn_Key.mono _ _
      | exact dn_Under.mono _ _ _
      | exact dn_Up.mono _ _
      | exact LeO.none _
      | refine LeO.ite ?_ ?_
      | refine LeO.bind ?_ (fun _ => ?_)
theorem brooklaw2_DnUnder.mono : ∀ a0 a1 a2 k, LeO (brooklaw2_DnUnder.f k a0 a1 a2) (brooklaw2_DnUnder.f (k + 1) a0 a1 a2) := by
  intro a0 a1 a2 k
  obtain ⟨ih0, ih1⟩ := brooklaw2_DnUnder.mono_l k
  unfold brooklaw2_DnUnder.f
  repeat' first
      | (with_reducible exact ih0 _ _ _ _ _ _ _ _)
      | (with_reducible exact ih1 _ _ _ _ _ _ _ _ _)
      | (with_reducible exact brooklaw2_Make.mono _ _ _)
      | (with_reducible exact brooklaw2_awake.mono _)
      | (with_reducible exact dn_Key.mono _ _)
      | (with_reducible exact dn_Under.mono _ _ _)
      | (with_reducible exact dn_Up.mono _ _)
      | (with_reducible exact LeO.refl _)
      | (with_reducible exact LeO.none _)
      | (with_reducible refine LeO.ite ?_ ?_)
      | (with_reducible refine LeO.bind ?_ (fun _ => ?_))
      | exact ih0 _ _ _ _ _ _ _ _
      | exact ih1 _ _ _ _ _ _ _ _ _
      | exact brooklaw2_Make.mono _ _ _
      | exact brooklaw2_awake.mono _
      | exact dn_Key.mono _ _
      | exact dn_Under.mono _ _ _
      | exact dn_Up.mono _ _
      | exact LeO.none _
      | refine LeO.ite ?_ ?_
      | refine LeO.bind ?_ (fun _ => ?_)
set_option maxHeartbeats 8000000 in
set_option maxRecDepth 100000 in
theorem brooklaw2_DnUnder.calls (k : Nat) (A0 : Option Addr) (c0 : Nat) (l0 : List ByteArray) (A1 : Option Addr) (c1 : Nat) (l1 : List Int) (a2 : Int) (r : Bool) (w : World) (hr0 : Kd.C Kd.string w A0 l0.length l0) (hc0 : l0.length ≤ c0) (hr1 : Kd.C (Kd.int .u8) w A1 l1.length l1) (hc1 : l1.length ≤ c1) (h : brooklaw2_DnUnder.f k l0 l1 a2 = some r) :
    Calls Tryd.prog 9 #[.slice A0 l0.length c0, .slice A1 l1.length c1, .int .u8 a2] w fun e w' => e = .returned (.bool r) ∧ Below w.heap.size w w' := by
  have HR0 := Aside0.mk hr0
  have HC0 := Aside0.mk hc0
  clear hr0 hc0
  have HR1 := Aside0.mk hr1
  have HC1 := Aside0.mk hc1
  clear hr1 hc1
  have HB := Aside0.mk (Below.refl w.heap.size w)
  have H : ((brooklaw2_Make.f k l0 l1).bind fun t327 => (if (t327.length : Int) = 0 then ((brooklaw2_awake.f k).bind fun t330 => (some t330)) else ((dn_Text.f t327).bind fun t331 => ((dn_Key.f k t331).bind fun bt332 => (if 0 ≤ (Int.tmod (wrap64 (a2)) (t327.length : Int)) then (if (Int.tmod (wrap64 (a2)) (t327.length : Int)) ≤ (t327.length : Int) then ((dn_Text.f (t327.drop ((Int.tmod (wrap64 (a2)) (t327.length : Int)) : Int).toNat)).bind fun t338 => ((dn_Key.f k t338).bind fun bt339 => (brooklaw2_DnUnder.l0 k t327 (Int.tmod (wrap64 (a2)) (t327.length : Int)) bt332.1 bt332.2 bt339.1 bt339.2 bt332.1 0))) else (none)) else (none)))))) = some r := h
  clear h
  replace H := Option.bind_eq_some_iff.mp H
  obtain ⟨t327, A40, H⟩ := H
  replace H : (if (t327.length : Int) = 0 then ((brooklaw2_awake.f k).bind fun t330 => (some t330)) else ((dn_Text.f t327).bind fun t331 => ((dn_Key.f k t331).bind fun bt332 => (if 0 ≤ (Int.tmod (wrap64 (a2)) (t327.length : Int)) then (if (Int.tmod (wrap64 (a2)) (t327.length : Int)) ≤ (t327.length : Int) then ((dn_Text.f (t327.drop ((Int.tmod (wrap64 (a2)) (t327.length : Int)) : Int).toNat)).bind fun t338 => ((dn_Key.f k t338).bind fun bt339 => (brooklaw2_DnUnder.l0 k t327 (Int.tmod (wrap64 (a2)) (t327.length : Int)) bt332.1 bt332.2 bt339.1 bt339.2 bt332.1 0))) else (none)) else (none))))) = some r := H
  have A4 := Aside0.mk A40
  clear A40
  by_cases c5 : (t327.length : Int) = 0
  · rw [if_pos c5] at H
    have c5b0 : ((t327.length : Int) == 0) = true := beq_iff_eq.mpr c5
    have c5b1 : ((t327.length : Int) != 0) = false := bne_eq_false_iff_eq.mpr c5
    clear c5
    replace H := Option.bind_eq_some_iff.mp H
    obtain ⟨t330, A60, H⟩ := H
    replace H : (some t330) = some r := H
    have A6 := Aside0.mk A60
    clear A60
    obtain rfl := Option.some.inj H
    go_enter Tryd.func9, Tryd.ntmps9
    go_wp2_with (first | ((with_reducible refine gate_callee (f := 20) rfl ?_); refine goesL_ (some 19) rfl rfl Tryd.func20 (by kernel_rfl) rfl #[.slice A0 l0.length c0, .slice A1 l1.length c1] rfl (by (try simp only [List.map_toArray, List.map_cons, List.map_nil]); first | done | rfl | (simp only [List.length_drop, List.length_take]; rfl)) ?_; (with_reducible refine (brooklaw2_Make.calls k _ _ l0 _ _ l1 t327 _ ?side1 ?side2 ?side3 ?side4 A4.out).mono ?_); (case side1 => repeat (first | exact HR0.out | (with_reducible refine Kd.C_alloc ?_ _) | (with_reducible refine Kd.C_drewN ?_ _) | (with_reducible refine Kd.C_drew ?_))); (case side2 => exact HC0.out); (case side3 => repeat (first | exact HR1.out | (with_reducible refine Kd.C_alloc ?_ _) | (with_reducible refine Kd.C_drewN ?_ _) | (with_reducible refine Kd.C_drew ?_))); (case side4 => exact HC1.out); rintro e w7 ⟨v328, rfl, ho0, hb⟩; refine ⟨_, rfl, ?_⟩; have n0_ := Aside0.mk (Kd.R_lower ho0 (below_size (by repeat (first | (with_reducible first | exact HB.out | apply below_alloc | apply pw_below_drewN | apply below_drew1) | exact HB.out)))); have n1_ := Aside0.mk (below_step (by repeat (first | (with_reducible first | exact HB.out | apply below_alloc | apply pw_below_drewN | apply below_drew1) | exact HB.out)) hb); clear HB; have HO329 := n0_; have HB := n1_; clear n0_ n1_; (try clear hb); (try clear hb2); (try clear hk); (try clear hi); (try clear ho0); obtain ⟨Ao8, co8, eo8⟩ := Kd.R_slice HO329.out; subst eo8) | ((with_reducible refine gate_callee (f := 15) rfl ?_); refine goesL_ (some 23) rfl rfl Tryd.func15 (by kernel_rfl) rfl #[] rfl (by (try simp only [List.map_toArray, List.map_cons, List.map_nil]); first | done | rfl | (simp only [List.length_drop, List.length_take]; rfl)) ?_; (with_reducible refine (brooklaw2_awake.calls k  t330 _ A6.out).mono ?_); rintro e w9 ⟨rfl, hb⟩; refine ⟨_, rfl, ?_⟩; have n0_ := Aside0.mk (Kd.R_below (by (with_reducible repeat (first | apply Kd.R_alloc | apply Kd.R_drewN | apply Kd.R_drew)); exact HO329.out) hb); have n1_ := Aside0.mk (below_step (by repeat (first | (with_reducible first | exact HB.out | apply below_alloc | apply pw_below_drewN | apply below_drew1) | exact HB.out)) hb); clear HO329; clear HB; have HO329 := n0_; have HB := n1_; clear n0_ n1_; (try clear hb); (try clear hb2); (try clear hk); (try clear hi)))
    go_ret
    exact ⟨by first | rfl | (simp [errW_none, errW_some] <;> rfl) | (simp [*, errW_none, errW_some] <;> rfl), by repeat (first | (with_reducible first | exact HB.out | apply below_alloc | apply pw_below_drewN | apply below_drew1) | exact HB.out)⟩
  · rw [if_neg c5] at H
    have c5b0 : ((t327.length : Int) == 0) = false := beq_eq_false_iff_ne.mpr c5
    have c5b1 : ((t327.length : Int) != 0) = true := bne_iff_ne.mpr c5
    have c5b2 : ¬ (t327 = []) := fun h_ => c5 (by rw [h_]; rfl)
    replace H := Option.bind_eq_some_iff.mp H
    obtain ⟨t331, A100, H⟩ := H
    replace H : ((dn_Key.f k t331).bind fun bt332 => (if 0 ≤ (Int.tmod (wrap64 (a2)) (t327.length : Int)) then (if (Int.tmod (wrap64 (a2)) (t327.length : Int)) ≤ (t327.length : Int) then ((dn_Text.f (t327.drop ((Int.tmod (wrap64 (a2)) (t327.length : Int)) : Int).toNat)).bind fun t338 => ((dn_Key.f k t338).bind fun bt339 => (brooklaw2_DnUnder.l0 k t327 (Int.tmod (wrap64 (a2)) (t327.length : Int)) bt332.1 bt332.2 bt339.1 bt339.2 bt332.1 0))) else (none)) else (none))) = some r := H
    have A10 := Aside0.mk A100
    clear A100
    replace H := Option.bind_eq_some_iff.mp H
    obtain ⟨⟨t332, t333⟩, A110, H⟩ := H
    replace H : (if 0 ≤ (Int.tmod (wrap64 (a2)) (t327.length : Int)) then (if (Int.tmod (wrap64 (a2)) (t327.length : Int)) ≤ (t327.length : Int) then ((dn_Text.f (t327.drop ((Int.tmod (wrap64 (a2)) (t327.length : Int)) : Int).toNat)).bind fun t338 => ((dn_Key.f k t338).bind fun bt339 => (brooklaw2_DnUnder.l0 k t327 (Int.tmod (wrap64 (a2)) (t327.length : Int)) t332 t333 bt339.1 bt339.2 t332 0))) else (none)) else (none)) = some r := H
    have A11 := Aside0.mk A110
    clear A110
    obtain ⟨ji12, hji12⟩ : ∃ j_ : Int, (Int.tmod (wrap64 (a2)) (t327.length : Int)) = j_ := ⟨_, rfl⟩
    replace H : (if 0 ≤ (ji12) then (if (ji12) ≤ (t327.length : Int) then ((dn_Text.f (t327.drop ((ji12) : Int).toNat)).bind fun t338 => ((dn_Key.f k t338).bind fun bt339 => (brooklaw2_DnUnder.l0 k t327 ji12 t332 t333 bt339.1 bt339.2 t332 0))) else (none)) else (none)) = some r := by first | (rw [hji12] at H; exact H) | (simp only [hji12] at H ⊢; exact H)
    (try rw [hji12] at A4)
    (try rw [hji12] at A10)
    (try rw [hji12] at A11)
    by_cases c13 : 0 ≤ (ji12)
    · rw [if_pos c13] at H
      have c13b0 := eq_true c13
      have c13b1 : decide (0 ≤ (ji12)) = true := decide_eq_true c13
      clear c13
      by_cases c14 : (ji12) ≤ (t327.length : Int)
      · rw [if_pos c14] at H
        have c14b0 := eq_true c14
        have c14b1 : decide ((ji12) ≤ (t327.length : Int)) = true := decide_eq_true c14
        clear c14
        obtain ⟨y334, hy334⟩ : ∃ y_ : List (S25), y_ = (t327.drop ((ji12) : Int).toNat) := ⟨_, rfl⟩
        replace H : ((dn_Text.f y334).bind fun t338 => ((dn_Key.f k t338).bind fun bt339 => (brooklaw2_DnUnder.l0 k t327 ji12 t332 t333 bt339.1 bt339.2 t332 0))) = some r := by first | (rw [hy334]; with_reducible exact H) | (have H2_ := (Option.bind_some _ _).symm.trans H; rw [hy334]; with_reducible exact H2_) | (have H2_ := (Option.bind_some _ _).symm.trans H; with_reducible exact H2_) | with_reducible exact H | (rw [hy334]; exact H) | exact H
        have Ny334 := Aside0.mk hy334
        clear hy334
        replace H := Option.bind_eq_some_iff.mp H
        obtain ⟨t338, A150, H⟩ := H
        replace H : ((dn_Key.f k t338).bind fun bt339 => (brooklaw2_DnUnder.l0 k t327 ji12 t332 t333 bt339.1 bt339.2 t332 0)) = some r := H
        have A15 := Aside0.mk A150
        clear A150
        replace H := Option.bind_eq_some_iff.mp H
        obtain ⟨⟨t339, t340⟩, A160, H⟩ := H
        replace H : (brooklaw2_DnUnder.l0 k t327 ji12 t332 t333 t339 t340 t332 0) = some r := H
        have A16 := Aside0.mk A160
        clear A160
        have H' := Aside0.mk H
        clear H
        go_enter Tryd.func9, Tryd.ntmps9
        go_wp2_with (first | ((with_reducible refine gate_callee (f := 20) rfl ?_); refine goesL_ (some 19) rfl rfl Tryd.func20 (by kernel_rfl) rfl #[.slice A0 l0.length c0, .slice A1 l1.length c1] rfl (by (try simp only [List.map_toArray, List.map_cons, List.map_nil]); first | done | rfl | (simp only [List.length_drop, List.length_take]; rfl)) ?_; (with_reducible refine (brooklaw2_Make.calls k _ _ l0 _ _ l1 t327 _ ?side1 ?side2 ?side3 ?side4 A4.out).mono ?_); (case side1 => repeat (first | exact HR0.out | (with_reducible refine Kd.C_alloc ?_ _) | (with_reducible refine Kd.C_drewN ?_ _) | (with_reducible refine Kd.C_drew ?_))); (case side2 => exact HC0.out); (case side3 => repeat (first | exact HR1.out | (with_reducible refine Kd.C_alloc ?_ _) | (with_reducible refine Kd.C_drewN ?_ _) | (with_reducible refine Kd.C_drew ?_))); (case side4 => exact HC1.out); rintro e w17 ⟨v328, rfl, ho0, hb⟩; refine ⟨_, rfl, ?_⟩; have n0_ := Aside0.mk (Kd.R_lower ho0 (below_size (by repeat (first | (with_reducible first | exact HB.out | apply below_alloc | apply pw_below_drewN | apply below_drew1) | exact HB.out)))); have n1_ := Aside0.mk (below_step (by repeat (first | (with_reducible first | exact HB.out | apply below_alloc | apply pw_below_drewN | apply below_drew1) | exact HB.out)) hb); clear HB; have HO329 := n0_; have HB := n1_; clear n0_ n1_; (try clear hb); (try clear hb2); (try clear hk); (try clear hi); (try clear ho0); obtain ⟨Ao18, co18, eo18⟩ := Kd.R_slice HO329.out; subst eo18) | ((with_reducible refine gate_callee (f := 18) rfl ?_); refine goesL_ (some 31) rfl rfl Tryd.func18 (by kernel_rfl) rfl #[.slice Ao18 t327.length co18] rfl (by (try simp only [List.map_toArray, List.map_cons, List.map_nil]); first | done | rfl | (simp only [List.length_drop, List.length_take]; rfl)) ?_; (with_reducible refine (dn_Text.calls _ _ t327 t331 _ ?side1 ?side2 A10.out).mono ?_); (case side1 => repeat (first | exact (Kd.R_reads' HO329.out).2.2 | (with_reducible refine Kd.C_alloc ?_ _) | (with_reducible refine Kd.C_drewN ?_ _) | (with_reducible refine Kd.C_drew ?_))); (case side2 => exact (Kd.R_reads' HO329.out).2.1); rintro e w19 ⟨rfl, hb⟩; refine ⟨_, rfl, ?_⟩; have n0_ := Aside0.mk (Kd.R_below (by (with_reducible repeat (first | apply Kd.R_alloc | apply Kd.R_drewN | apply Kd.R_drew)); exact HO329.out) hb); have n1_ := Aside0.mk (below_step (by repeat (first | (with_reducible first | exact HB.out | apply below_alloc | apply pw_below_drewN | apply below_drew1) | exact HB.out)) hb); clear HO329; clear HB; have HO329 := n0_; have HB := n1_; clear n0_ n1_; (try clear hb); (try clear hb2); (try clear hk); (try clear hi)) | ((with_reducible refine gate_callee (f := 23) rfl ?_); refine goesL_ (some 32) rfl rfl Tryd.func23 (by kernel_rfl) rfl #[.string t331] rfl (by (try simp only [List.map_toArray, List.map_cons, List.map_nil]); first | done | rfl | (simp only [List.length_drop, List.length_take]; rfl)) ?_; (with_reducible refine (dn_Key.calls k t331 t332 t333 _ A11.out).mono ?_); rintro e w20 ⟨rfl, hb⟩; refine ⟨_, rfl, ?_⟩; have n0_ := Aside0.mk (Kd.R_below (by (with_reducible repeat (first | apply Kd.R_alloc | apply Kd.R_drewN | apply Kd.R_drew)); exact HO329.out) hb); have n1_ := Aside0.mk (below_step (by repeat (first | (with_reducible first | exact HB.out | apply below_alloc | apply pw_below_drewN | apply below_drew1) | exact HB.out)) hb); clear HO329; clear HB; have HO329 := n0_; have HB := n1_; clear n0_ n1_; (try clear hb); (try clear hb2); (try clear hk); (try clear hi); have q21 : ((ji12) : Int) ≤ ((t327.length : Int) : Int) := of_decide_eq_true (by first | (with_reducible assumption) | assumption); obtain ⟨i021, hi021, _, hsz21, _⟩ := info_parts info25; have hroom21 : t327.length ≤ co18 := (Kd.R_reads' HO329.out).2.1; have hC21 : Kd.C k25 _ Ao18 t327.length t327 := (Kd.R_reads' HO329.out).2.2; have q021 : (0 : Int) ≤ ((ji12) : Int) := of_decide_eq_true (by first | (with_reducible assumption) | assumption); have hcut21 := cut_from (P := Tryd.prog) 22 25 .i64 Tryd.underlying22 hi021 2 hsz21 Ao18 t327.length co18 (ji12) q021 q21; have hr21 := Kd.C_drop (m := ((ji12) : Int).toNat) (c := co18) hC21 (by omega) hroom21; obtain ⟨A21, hA21⟩ : ∃ A1, A1 = (if co18 = ((ji12) : Int).toNat then Ao18 else (Ao18 : Option Addr).map (·.add (((ji12) : Int).toNat * 2))) := ⟨_, rfl⟩; obtain ⟨c21, hc21⟩ : ∃ c1, c1 = co18 - ((ji12) : Int).toNat := ⟨_, rfl⟩; have hy21 : y334.length = t327.length - ((ji12) : Int).toNat := (by rw [Ny334.out, List.length_drop] <;> omega); rw [show (t327).drop ((ji12) : Int).toNat = y334 from Ny334.out.symm] at hr21; replace hr21 : Kd.C k25 _ A21 y334.length y334 := (by rw [hA21]; exact hr21); rw [← hy21, ← hA21, ← hc21] at hcut21; have HR337 := Aside0.mk hr21; have HC337 := Aside0.mk (show y334.length ≤ c21 from by rw [hy21, hc21]; exact Nat.sub_le_sub_right hroom21 _); clear hr21 hC21 hroom21 hi021 hsz21 hc21; have KY21 := Aside0.mk hy21; have KA21 := Aside0.mk hA21; clear hy21 hA21; have KL21 := Aside0.mk (show ((ji12) : Int).toNat ≤ t327.length from by omega); replace q21 := eq_true q21) | ((with_reducible refine gate_callee (f := 18) rfl ?_); refine goesL_ (some 39) rfl rfl Tryd.func18 (by kernel_rfl) rfl #[.slice A21 y334.length c21] rfl (by (try simp only [List.map_toArray, List.map_cons, List.map_nil]); first | done | rfl | (simp only [List.length_drop, List.length_take]; rfl)) ?_; (with_reducible refine (dn_Text.calls _ _ y334 t338 _ ?side1 ?side2 A15.out).mono ?_); (case side1 => repeat (first | exact (by repeat (first | (with_reducible exact HR337.out) | (with_reducible refine Kd.C_alloc ?_ _) | (with_reducible refine Kd.C_drewN ?_ _) | (with_reducible refine Kd.C_drew ?_) | exact HR337.out)) | (with_reducible refine Kd.C_alloc ?_ _) | (with_reducible refine Kd.C_drewN ?_ _) | (with_reducible refine Kd.C_drew ?_))); (case side2 => exact HC337.out); rintro e w22 ⟨rfl, hb⟩; refine ⟨_, rfl, ?_⟩; have n0_ := Aside0.mk (Kd.R_below (by (with_reducible repeat (first | apply Kd.R_alloc | apply Kd.R_drewN | apply Kd.R_drew)); exact HO329.out) hb); have n1_ := Aside0.mk (Kd.C_below (by repeat (first | (with_reducible exact HR337.out) | (with_reducible refine Kd.C_alloc ?_ _) | (with_reducible refine Kd.C_drewN ?_ _) | (with_reducible refine Kd.C_drew ?_) | exact HR337.out)) hb); have n2_ := Aside0.mk (below_step (by repeat (first | (with_reducible first | exact HB.out | apply below_alloc | apply pw_below_drewN | apply below_drew1) | exact HB.out)) hb); clear HO329; clear HR337; clear HB; have HO329 := n0_; have HR337 := n1_; have HB := n2_; clear n0_ n1_ n2_; (try clear hb); (try clear hb2); (try clear hk); (try clear hi)) | ((with_reducible refine gate_callee (f := 23) rfl ?_); refine goesL_ (some 40) rfl rfl Tryd.func23 (by kernel_rfl) rfl #[.string t338] rfl (by (try simp only [List.map_toArray, List.map_cons, List.map_nil]); first | done | rfl | (simp only [List.length_drop, List.length_take]; rfl)) ?_; (with_reducible refine (dn_Key.calls k t338 t339 t340 _ A16.out).mono ?_); rintro e w23 ⟨rfl, hb⟩; refine ⟨_, rfl, ?_⟩; have n0_ := Aside0.mk (Kd.R_below (by (with_reducible repeat (first | apply Kd.R_alloc | apply Kd.R_drewN | apply Kd.R_drew)); exact HO329.out) hb); have n1_ := Aside0.mk (Kd.C_below (by repeat (first | (with_reducible exact HR337.out) | (with_reducible refine Kd.C_alloc ?_ _) | (with_reducible refine Kd.C_drewN ?_ _) | (with_reducible refine Kd.C_drew ?_) | exact HR337.out)) hb); have n2_ := Aside0.mk (below_step (by repeat (first | (with_reducible first | exact HB.out | apply below_alloc | apply pw_below_drewN | apply below_drew1) | exact HB.out)) hb); clear HO329; clear HR337; clear HB; have HO329 := n0_; have HR337 := n1_; have HB := n2_; clear n0_ n1_ n2_; (try clear hb); (try clear hb2); (try clear hk); (try clear hi)))
        go_loopg [13, 14] k (fun kq v13 v14 w' => ∃ (x13_1 : ByteArray) (x14_1 : Int), v13 = .string x13_1 ∧ v14 = .int .i64 x14_1 ∧ Aside0 (brooklaw2_DnUnder.l0 kq t327 ji12 t332 t333 t339 t340 x13_1 x14_1 = some r) ∧ Aside0 (kq ≤ k) ∧ Aside0 (Kd.R k25 25 w' w.heap.size (fun _ => True) (.slice Ao18 t327.length co18) t327) ∧ Aside0 (Below w.heap.size w w'))
        case atStart => exact ⟨(t332), (0), (by first | rfl | (simp; done) | (simp [*]; done) | (simp [u8_w, i64_w]; done) | (simp [isEmpty_bne]; done)), (by first | rfl | (simp; done) | (simp [*]; done) | (simp [u8_w, i64_w]; done) | (simp [isEmpty_bne]; done)), H', ⟨Nat.le_refl _⟩, ⟨by (with_reducible repeat (first | apply Kd.R_alloc | apply Kd.R_drewN | apply Kd.R_drew)); exact HO329.out⟩, ⟨by repeat (first | (with_reducible first | exact HB.out | apply below_alloc | apply pw_below_drewN | apply below_drew1) | exact HB.out)⟩⟩
        case round =>
          clear H'
          try clear c1
          try clear c2
          try clear p2
          try clear q2
          try clear c5
          try clear c5b0
          try clear c5b1
          try clear c5b2
          try clear p6
          try clear c9
          try clear c13
          try clear c13b0
          try clear c13b1
          try clear c14
          try clear c14b0
          try clear c14b1
          try clear c15
          try clear c18
          try clear c20
          try clear c21
          try clear q21
          try clear c23
          try clear q021
          try clear q21
          obtain ⟨x13_1, x14_1, rfl, rfl, HA, HK1, HO_7, HB⟩ := hrel
          cases gk with
          | zero => exact absurd HA.out (by simp [brooklaw2_DnUnder.l0])
          | succ k1 =>
            have H := HA.out
            clear HA
            simp only [brooklaw2_DnUnder.l0] at H
            by_cases c24 : x14_1 < ji12
            · rw [if_pos c24] at H
              have c24b0 : decide (x14_1 < ji12) = true := decide_eq_true c24
              clear c24
              replace H := Option.bind_eq_some_iff.mp H
              obtain ⟨t341, A250, H⟩ := H
              replace H : (brooklaw2_DnUnder.l0 k1 t327 ji12 t332 t333 t339 t340 t341 (wrap64 (x14_1 + 1))) = some r := H
              have A25 := Aside0.mk A250
              clear A250
              have H' := Aside0.mk H
              clear H
              go_wp2_with (first | ((with_reducible refine gate_callee (f := 29) rfl ?_); refine goesL_ (some 50) rfl rfl Tryd.func29 (by kernel_rfl) rfl #[.string x13_1] rfl (by (try simp only [List.map_toArray, List.map_cons, List.map_nil]); first | done | rfl | (simp only [List.length_drop, List.length_take]; rfl)) ?_; (with_reducible refine (dn_Up.calls k1 x13_1 t341 _ A25.out).mono ?_); rintro e w' ⟨rfl, ⟨nd, rfl⟩⟩; refine ⟨_, rfl, ?_⟩))
              go_roundg k1
              case measure => have := HK1.out; omega
              case rel => exact ⟨(t341), (wrap64 (x14_1 + 1)), (by first | rfl | (simp; done) | (simp [*]; done) | (simp [u8_w, i64_w]; done) | (simp [isEmpty_bne]; done)), (by first | rfl | (simp; done) | (simp [*]; done) | (simp [u8_w, i64_w]; done) | (simp [isEmpty_bne]; done)), H', ⟨by have := HK1.out; omega⟩, ⟨by (with_reducible repeat (first | apply Kd.R_alloc | apply Kd.R_drewN | apply Kd.R_drew)); exact HO_7.out⟩, ⟨by repeat (first | (with_reducible first | exact HB.out | apply below_alloc | apply pw_below_drewN | apply below_drew1) | exact HB.out)⟩⟩
            · rw [if_neg c24] at H
              have c24b0 : decide (x14_1 < ji12) = false := decide_eq_false c24
              clear c24
              have H' := Aside0.mk H
              clear H
              go_wp2
              go_loopg [15, 16] k1 (fun kq v15 v16 w' => ∃ (x15_2 : ByteArray) (x16_2 : Int), v15 = .string x15_2 ∧ v16 = .int .i64 x16_2 ∧ Aside0 (brooklaw2_DnUnder.l1 kq t327 ji12 t332 t333 t339 t340 x13_1 x15_2 x16_2 = some r) ∧ Aside0 (kq ≤ k1) ∧ Aside0 (Kd.R k25 25 w' w.heap.size (fun _ => True) (.slice Ao18 t327.length co18) t327) ∧ Aside0 (Below w.heap.size w w'))
              case atStart => exact ⟨(t332), (0), (by first | rfl | (simp; done) | (simp [*]; done) | (simp [u8_w, i64_w]; done) | (simp [isEmpty_bne]; done)), (by first | rfl | (simp; done) | (simp [*]; done) | (simp [u8_w, i64_w]; done) | (simp [isEmpty_bne]; done)), H', ⟨Nat.le_refl _⟩, ⟨by (with_reducible repeat (first | apply Kd.R_alloc | apply Kd.R_drewN | apply Kd.R_drew)); exact HO_7.out⟩, ⟨by repeat (first | (with_reducible first | exact HB.out | apply below_alloc | apply pw_below_drewN | apply below_drew1) | exact HB.out)⟩⟩
              case round =>
                clear H'
                try clear c1
                try clear c2
                try clear p2
                try clear q2
                try clear c5
                try clear c5b0
                try clear c5b1
                try clear c5b2
                try clear p6
                try clear c9
                try clear c13
                try clear c13b0
                try clear c13b1
                try clear c14
                try clear c14b0
                try clear c14b1
                try clear c15
                try clear c18
                try clear c20
                try clear c21
                try clear q21
                try clear c23
                try clear c24
                try clear c24b0
                try clear p2
                try clear p6
                try clear q021
                try clear q2
                try clear q21
                obtain ⟨x15_2, x16_2, rfl, rfl, HA, HK2, HO_7, HB⟩ := hrel
                cases gk with
                | zero => exact absurd HA.out (by simp [brooklaw2_DnUnder.l1])
                | succ k2 =>
                  have H := HA.out
                  clear HA
                  simp only [brooklaw2_DnUnder.l1] at H
                  by_cases c26 : x16_2 < (t327.length : Int)
                  · rw [if_pos c26] at H
                    have c26b0 : decide (x16_2 < (t327.length : Int)) = true := decide_eq_true c26
                    clear c26
                    replace H := Option.bind_eq_some_iff.mp H
                    obtain ⟨t342, A270, H⟩ := H
                    replace H : (brooklaw2_DnUnder.l1 k2 t327 ji12 t332 t333 t339 t340 x13_1 t342 (wrap64 (x16_2 + 1))) = some r := H
                    have A27 := Aside0.mk A270
                    clear A270
                    have H' := Aside0.mk H
                    clear H
                    go_wp2_with (first | ((with_reducible refine gate_callee (f := 29) rfl ?_); refine goesL_ (some 59) rfl rfl Tryd.func29 (by kernel_rfl) rfl #[.string x15_2] rfl (by (try simp only [List.map_toArray, List.map_cons, List.map_nil]); first | done | rfl | (simp only [List.length_drop, List.length_take]; rfl)) ?_; (with_reducible refine (dn_Up.calls k2 x15_2 t342 _ A27.out).mono ?_); rintro e w' ⟨rfl, ⟨nd, rfl⟩⟩; refine ⟨_, rfl, ?_⟩))
                    go_roundg k2
                    case measure => have := HK1.out; have := HK2.out; omega
                    case rel => exact ⟨(t342), (wrap64 (x16_2 + 1)), (by first | rfl | (simp; done) | (simp [*]; done) | (simp [u8_w, i64_w]; done) | (simp [isEmpty_bne]; done)), (by first | rfl | (simp; done) | (simp [*]; done) | (simp [u8_w, i64_w]; done) | (simp [isEmpty_bne]; done)), H', ⟨by have := HK1.out; have := HK2.out; omega⟩, ⟨by (with_reducible repeat (first | apply Kd.R_alloc | apply Kd.R_drewN | apply Kd.R_drew)); exact HO_7.out⟩, ⟨by repeat (first | (with_reducible first | exact HB.out | apply below_alloc | apply pw_below_drewN | apply below_drew1) | exact HB.out)⟩⟩
                  · rw [if_neg c26] at H
                    have c26b0 : decide (x16_2 < (t327.length : Int)) = false := decide_eq_false c26
                    clear c26
                    by_cases c28 : t333 = true
                    · subst c28
                      have H1 : (if t340 = true then (if x13_1.toList = t339.toList then (if x15_2.toList = ([] : List UInt8) then ((dn_Under.f k2 t332 t339).bind fun t343 => (if t343 = true then ((dn_Under.f k2 t332 (⟨#[]⟩ : ByteArray)).bind fun t344 => (if t344 = true then ((dn_Under.f k2 t332 t332).bind fun t345 => (if t345 = true then (if ji12 = 0 then ((dn_Under.f k2 (⟨#[]⟩ : ByteArray) t332).bind fun t346 => (if t346 = true then (some false) else ((brooklaw2_awake.f k2).bind fun t347 => (some t347)))) else ((dn_Under.f k2 t339 t332).bind fun t348 => (if t348 = true then (some false) else ((dn_Under.f k2 (⟨#[]⟩ : ByteArray) t332).bind fun t349 => (if t349 = true then (some false) else ((brooklaw2_awake.f k2).bind fun t350 => (some t350))))))) else (some false))) else (some false))) else (some false))) else (some false)) else (some false)) else (some false)) = some r := by rw [if_pos rfl] at H; exact H
                      clear H
                      have H := H1
                      clear H1
                      by_cases c29 : t340 = true
                      · subst c29
                        have H1 : (if x13_1.toList = t339.toList then (if x15_2.toList = ([] : List UInt8) then ((dn_Under.f k2 t332 t339).bind fun t343 => (if t343 = true then ((dn_Under.f k2 t332 (⟨#[]⟩ : ByteArray)).bind fun t344 => (if t344 = true then ((dn_Under.f k2 t332 t332).bind fun t345 => (if t345 = true then (if ji12 = 0 then ((dn_Under.f k2 (⟨#[]⟩ : ByteArray) t332).bind fun t346 => (if t346 = true then (some false) else ((brooklaw2_awake.f k2).bind fun t347 => (some t347)))) else ((dn_Under.f k2 t339 t332).bind fun t348 => (if t348 = true then (some false) else ((dn_Under.f k2 (⟨#[]⟩ : ByteArray) t332).bind fun t349 => (if t349 = true then (some false) else ((brooklaw2_awake.f k2).bind fun t350 => (some t350))))))) else (some false))) else (some false))) else (some false))) else (some false)) else (some false)) = some r := by rw [if_pos rfl] at H; exact H
                        clear H
                        have H := H1
                        clear H1
                        by_cases c30 : x13_1.toList = t339.toList
                        · rw [if_pos c30] at H
                          have c30b0 : (x13_1.toList == t339.toList) = true := beq_iff_eq.mpr c30
                          have c30b1 : (x13_1.toList != t339.toList) = false := bne_eq_false_iff_eq.mpr c30
                          clear c30
                          by_cases c31 : x15_2.toList = ([] : List UInt8)
                          · rw [if_pos c31] at H
                            have c31b0 : (x15_2.toList == ([] : List UInt8)) = true := beq_iff_eq.mpr c31
                            have c31b1 : (x15_2.toList != ([] : List UInt8)) = false := bne_eq_false_iff_eq.mpr c31
                            clear c31
                            replace H := Option.bind_eq_some_iff.mp H
                            obtain ⟨t343, A320, H⟩ := H
                            replace H : (if t343 = true then ((dn_Under.f k2 t332 (⟨#[]⟩ : ByteArray)).bind fun t344 => (if t344 = true then ((dn_Under.f k2 t332 t332).bind fun t345 => (if t345 = true then (if ji12 = 0 then ((dn_Under.f k2 (⟨#[]⟩ : ByteArray) t332).bind fun t346 => (if t346 = true then (some false) else ((brooklaw2_awake.f k2).bind fun t347 => (some t347)))) else ((dn_Under.f k2 t339 t332).bind fun t348 => (if t348 = true then (some false) else ((dn_Under.f k2 (⟨#[]⟩ : ByteArray) t332).bind fun t349 => (if t349 = true then (some false) else ((brooklaw2_awake.f k2).bind fun t350 => (some t350))))))) else (some false))) else (some false))) else (some false)) = some r := H
                            have A32 := Aside0.mk A320
                            clear A320
                            by_cases c33 : t343 = true
                            · subst c33
                              have H1 : ((dn_Under.f k2 t332 (⟨#[]⟩ : ByteArray)).bind fun t344 => (if t344 = true then ((dn_Under.f k2 t332 t332).bind fun t345 => (if t345 = true then (if ji12 = 0 then ((dn_Under.f k2 (⟨#[]⟩ : ByteArray) t332).bind fun t346 => (if t346 = true then (some false) else ((brooklaw2_awake.f k2).bind fun t347 => (some t347)))) else ((dn_Under.f k2 t339 t332).bind fun t348 => (if t348 = true then (some false) else ((dn_Under.f k2 (⟨#[]⟩ : ByteArray) t332).bind fun t349 => (if t349 = true then (some false) else ((brooklaw2_awake.f k2).bind fun t350 => (some t350))))))) else (some false))) else (some false))) = some r := by rw [if_pos rfl] at H; exact H
                              clear H
                              have H := H1
                              clear H1
                              replace H := Option.bind_eq_some_iff.mp H
                              obtain ⟨t344, A340, H⟩ := H
                              replace H : (if t344 = true then ((dn_Under.f k2 t332 t332).bind fun t345 => (if t345 = true then (if ji12 = 0 then ((dn_Under.f k2 (⟨#[]⟩ : ByteArray) t332).bind fun t346 => (if t346 = true then (some false) else ((brooklaw2_awake.f k2).bind fun t347 => (some t347)))) else ((dn_Under.f k2 t339 t332).bind fun t348 => (if t348 = true then (some false) else ((dn_Under.f k2 (⟨#[]⟩ : ByteArray) t332).bind fun t349 => (if t349 = true then (some false) else ((brooklaw2_awake.f k2).bind fun t350 => (some t350))))))) else (some false))) else (some false)) = some r := H
                              have A34 := Aside0.mk A340
                              clear A340
                              by_cases c35 : t344 = true
                              · subst c35
                                have H1 : ((dn_Under.f k2 t332 t332).bind fun t345 => (if t345 = true then (if ji12 = 0 then ((dn_Under.f k2 (⟨#[]⟩ : ByteArray) t332).bind fun t346 => (if t346 = true then (some false) else ((brooklaw2_awake.f k2).bind fun t347 => (some t347)))) else ((dn_Under.f k2 t339 t332).bind fun t348 => (if t348 = true then (some false) else ((dn_Under.f k2 (⟨#[]⟩ : ByteArray) t332).bind fun t349 => (if t349 = true then (some false) else ((brooklaw2_awake.f k2).bind fun t350 => (some t350))))))) else (some false))) = some r := by rw [if_pos rfl] at H; exact H
                                clear H
                                have H := H1
                                clear H1
                                replace H := Option.bind_eq_some_iff.mp H
                                obtain ⟨t345, A360, H⟩ := H
                                replace H : (if t345 = true then (if ji12 = 0 then ((dn_Under.f k2 (⟨#[]⟩ : ByteArray) t332).bind fun t346 => (if t346 = true then (some false) else ((brooklaw2_awake.f k2).bind fun t347 => (some t347)))) else ((dn_Under.f k2 t339 t332).bind fun t348 => (if t348 = true then (some false) else ((dn_Under.f k2 (⟨#[]⟩ : ByteArray) t332).bind fun t349 => (if t349 = true then (some false) else ((brooklaw2_awake.f k2).bind fun t350 => (some t350))))))) else (some false)) = some r := H
                                have A36 := Aside0.mk A360
                                clear A360
                                by_cases c37 : t345 = true
                                · subst c37
                                  have H1 : (if ji12 = 0 then ((dn_Under.f k2 (⟨#[]⟩ : ByteArray) t332).bind fun t346 => (if t346 = true then (some false) else ((brooklaw2_awake.f k2).bind fun t347 => (some t347)))) else ((dn_Under.f k2 t339 t332).bind fun t348 => (if t348 = true then (some false) else ((dn_Under.f k2 (⟨#[]⟩ : ByteArray) t332).bind fun t349 => (if t349 = true then (some false) else ((brooklaw2_awake.f k2).bind fun t350 => (some t350))))))) = some r := by rw [if_pos rfl] at H; exact H
                                  clear H
                                  have H := H1
                                  clear H1
                                  by_cases c38 : ji12 = 0
                                  · rw [if_pos c38] at H
                                    have c38b0 : (ji12 == 0) = true := beq_iff_eq.mpr c38
                                    have c38b1 : (ji12 != 0) = false := bne_eq_false_iff_eq.mpr c38
                                    clear c38
                                    replace H := Option.bind_eq_some_iff.mp H
                                    obtain ⟨t346, A390, H⟩ := H
                                    replace H : (if t346 = true then (some false) else ((brooklaw2_awake.f k2).bind fun t347 => (some t347))) = some r := H
                                    have A39 := Aside0.mk A390
                                    clear A390
                                    by_cases c40 : t346 = true
                                    · subst c40
                                      have H1 : (some false) = some r := by rw [if_pos rfl] at H; exact H
                                      clear H
                                      have H := H1
                                      clear H1
                                      obtain rfl := Option.some.inj H
                                      go_wp2_with (first | (go_at_call 31; (with_reducible refine (dn_Under.calls k2 t332 t339 true _ A32.out).mono ?_); rintro e w' ⟨rfl, ⟨nd, rfl⟩⟩) | (go_at_call 31; (with_reducible refine (dn_Under.calls k2 t332 (⟨#[]⟩ : ByteArray) true _ A34.out).mono ?_); rintro e w' ⟨rfl, ⟨nd, rfl⟩⟩) | (go_at_call 31; (with_reducible refine (dn_Under.calls k2 t332 t332 true _ A36.out).mono ?_); rintro e w' ⟨rfl, ⟨nd, rfl⟩⟩) | (go_at_call 31; (with_reducible refine (dn_Under.calls k2 (⟨#[]⟩ : ByteArray) t332 true _ A39.out).mono ?_); rintro e w' ⟨rfl, ⟨nd, rfl⟩⟩))
                                      go_ret
                                      exact ⟨by first | rfl | (simp [errW_none, errW_some] <;> rfl) | (simp only [← hji12]; first | rfl | (simp [errW_none, errW_some] <;> rfl)) | (simp [*, errW_none, errW_some] <;> rfl), by repeat (first | (with_reducible first | exact HB.out | apply below_alloc | apply pw_below_drewN | apply below_drew1) | exact HB.out)⟩
                                    · replace c40 := Bool.eq_false_iff.mpr c40
                                      subst c40
                                      have H1 : ((brooklaw2_awake.f k2).bind fun t347 => (some t347)) = some r := by rw [if_neg (show ¬ (false = true) by decide)] at H; exact H
                                      clear H
                                      have H := H1
                                      clear H1
                                      replace H := Option.bind_eq_some_iff.mp H
                                      obtain ⟨t347, A410, H⟩ := H
                                      replace H : (some t347) = some r := H
                                      have A41 := Aside0.mk A410
                                      clear A410
                                      obtain rfl := Option.some.inj H
                                      go_wp2_with (first | (go_at_call 31; (with_reducible refine (dn_Under.calls k2 t332 t339 true _ A32.out).mono ?_); rintro e w' ⟨rfl, ⟨nd, rfl⟩⟩) | (go_at_call 31; (with_reducible refine (dn_Under.calls k2 t332 (⟨#[]⟩ : ByteArray) true _ A34.out).mono ?_); rintro e w' ⟨rfl, ⟨nd, rfl⟩⟩) | (go_at_call 31; (with_reducible refine (dn_Under.calls k2 t332 t332 true _ A36.out).mono ?_); rintro e w' ⟨rfl, ⟨nd, rfl⟩⟩) | (go_at_call 31; (with_reducible refine (dn_Under.calls k2 (⟨#[]⟩ : ByteArray) t332 false _ A39.out).mono ?_); rintro e w' ⟨rfl, ⟨nd, rfl⟩⟩) | (go_at_call 15; (with_reducible refine (brooklaw2_awake.calls k2  t347 _ A41.out).mono ?_); rintro e w42 ⟨rfl, hb⟩; have n0_ := Aside0.mk (Kd.R_below (by (with_reducible repeat (first | apply Kd.R_alloc | apply Kd.R_drewN | apply Kd.R_drew)); exact HO_7.out) hb); have n1_ := Aside0.mk (below_step (by repeat (first | (with_reducible first | exact HB.out | apply below_alloc | apply pw_below_drewN | apply below_drew1) | exact HB.out)) hb); clear HO_7; clear HB; have HO_7 := n0_; have HB := n1_; clear n0_ n1_; (try clear hb); (try clear hb2); (try clear hk); (try clear hi)))
                                      go_ret
                                      exact ⟨by first | rfl | (simp [errW_none, errW_some] <;> rfl) | (simp only [← hji12]; first | rfl | (simp [errW_none, errW_some] <;> rfl)) | (simp [*, errW_none, errW_some] <;> rfl), by repeat (first | (with_reducible first | exact HB.out | apply below_alloc | apply pw_below_drewN | apply below_drew1) | exact HB.out)⟩
                                  · rw [if_neg c38] at H
                                    have c38b0 : (ji12 == 0) = false := beq_eq_false_iff_ne.mpr c38
                                    have c38b1 : (ji12 != 0) = true := bne_iff_ne.mpr c38
                                    replace H := Option.bind_eq_some_iff.mp H
                                    obtain ⟨t348, A430, H⟩ := H
                                    replace H : (if t348 = true then (some false) else ((dn_Under.f k2 (⟨#[]⟩ : ByteArray) t332).bind fun t349 => (if t349 = true then (some false) else ((brooklaw2_awake.f k2).bind fun t350 => (some t350))))) = some r := H
                                    have A43 := Aside0.mk A430
                                    clear A430
                                    by_cases c44 : t348 = true
                                    · subst c44
                                      have H1 : (some false) = some r := by rw [if_pos rfl] at H; exact H
                                      clear H
                                      have H := H1
                                      clear H1
                                      obtain rfl := Option.some.inj H
                                      go_wp2_with (first | (go_at_call 31; (with_reducible refine (dn_Under.calls k2 t332 t339 true _ A32.out).mono ?_); rintro e w' ⟨rfl, ⟨nd, rfl⟩⟩) | (go_at_call 31; (with_reducible refine (dn_Under.calls k2 t332 (⟨#[]⟩ : ByteArray) true _ A34.out).mono ?_); rintro e w' ⟨rfl, ⟨nd, rfl⟩⟩) | (go_at_call 31; (with_reducible refine (dn_Under.calls k2 t332 t332 true _ A36.out).mono ?_); rintro e w' ⟨rfl, ⟨nd, rfl⟩⟩) | (go_at_call 31; (with_reducible refine (dn_Under.calls k2 t339 t332 true _ A43.out).mono ?_); rintro e w' ⟨rfl, ⟨nd, rfl⟩⟩))
                                      go_ret
                                      exact ⟨by first | rfl | (simp [errW_none, errW_some] <;> rfl) | (simp only [← hji12]; first | rfl | (simp [errW_none, errW_some] <;> rfl)) | (simp [*, errW_none, errW_some] <;> rfl), by repeat (first | (with_reducible first | exact HB.out | apply below_alloc | apply pw_below_drewN | apply below_drew1) | exact HB.out)⟩
                                    · replace c44 := Bool.eq_false_iff.mpr c44
                                      subst c44
                                      have H1 : ((dn_Under.f k2 (⟨#[]⟩ : ByteArray) t332).bind fun t349 => (if t349 = true then (some false) else ((brooklaw2_awake.f k2).bind fun t350 => (some t350)))) = some r := by rw [if_neg (show ¬ (false = true) by decide)] at H; exact H
                                      clear H
                                      have H := H1
                                      clear H1
                                      replace H := Option.bind_eq_some_iff.mp H
                                      obtain ⟨t349, A450, H⟩ := H
                                      replace H : (if t349 = true then (some false) else ((brooklaw2_awake.f k2).bind fun t350 => (some t350))) = some r := H
                                      have A45 := Aside0.mk A450
                                      clear A450
                                      by_cases c46 : t349 = true
                                      · subst c46
                                        have H1 : (some false) = some r := by rw [if_pos rfl] at H; exact H
                                        clear H
                                        have H := H1
                                        clear H1
                                        obtain rfl := Option.some.inj H
                                        go_wp2_with (first | (go_at_call 31; (with_reducible refine (dn_Under.calls k2 t332 t339 true _ A32.out).mono ?_); rintro e w' ⟨rfl, ⟨nd, rfl⟩⟩) | (go_at_call 31; (with_reducible refine (dn_Under.calls k2 t332 (⟨#[]⟩ : ByteArray) true _ A34.out).mono ?_); rintro e w' ⟨rfl, ⟨nd, rfl⟩⟩) | (go_at_call 31; (with_reducible refine (dn_Under.calls k2 t332 t332 true _ A36.out).mono ?_); rintro e w' ⟨rfl, ⟨nd, rfl⟩⟩) | (go_at_call 31; (with_reducible refine (dn_Under.calls k2 t339 t332 false _ A43.out).mono ?_); rintro e w' ⟨rfl, ⟨nd, rfl⟩⟩) | (go_at_call 31; (with_reducible refine (dn_Under.calls k2 (⟨#[]⟩ : ByteArray) t332 true _ A45.out).mono ?_); rintro e w' ⟨rfl, ⟨nd, rfl⟩⟩))
                                        go_ret
                                        exact ⟨by first | rfl | (simp [errW_none, errW_some] <;> rfl) | (simp only [← hji12]; first | rfl | (simp [errW_none, errW_some] <;> rfl)) | (simp [*, errW_none, errW_some] <;> rfl), by repeat (first | (with_reducible first | exact HB.out | apply below_alloc | apply pw_below_drewN | apply below_drew1) | exact HB.out)⟩
                                      · replace c46 := Bool.eq_false_iff.mpr c46
                                        subst c46
                                        have H1 : ((brooklaw2_awake.f k2).bind fun t350 => (some t350)) = some r := by rw [if_neg (show ¬ (false = true) by decide)] at H; exact H
                                        clear H
                                        have H := H1
                                        clear H1
                                        replace H := Option.bind_eq_some_iff.mp H
                                        obtain ⟨t350, A470, H⟩ := H
                                        replace H : (some t350) = some r := H
                                        have A47 := Aside0.mk A470
                                        clear A470
                                        obtain rfl := Option.some.inj H
                                        go_wp2_with (first | (go_at_call 31; (with_reducible refine (dn_Under.calls k2 t332 t339 true _ A32.out).mono ?_); rintro e w' ⟨rfl, ⟨nd, rfl⟩⟩) | (go_at_call 31; (with_reducible refine (dn_Under.calls k2 t332 (⟨#[]⟩ : ByteArray) true _ A34.out).mono ?_); rintro e w' ⟨rfl, ⟨nd, rfl⟩⟩) | (go_at_call 31; (with_reducible refine (dn_Under.calls k2 t332 t332 true _ A36.out).mono ?_); rintro e w' ⟨rfl, ⟨nd, rfl⟩⟩) | (go_at_call 31; (with_reducible refine (dn_Under.calls k2 t339 t332 false _ A43.out).mono ?_); rintro e w' ⟨rfl, ⟨nd, rfl⟩⟩) | (go_at_call 31; (with_reducible refine (dn_Under.calls k2 (⟨#[]⟩ : ByteArray) t332 false _ A45.out).mono ?_); rintro e w' ⟨rfl, ⟨nd, rfl⟩⟩) | (go_at_call 15; (with_reducible refine (brooklaw2_awake.calls k2  t350 _ A47.out).mono ?_); rintro e w48 ⟨rfl, hb⟩; have n0_ := Aside0.mk (Kd.R_below (by (with_reducible repeat (first | apply Kd.R_alloc | apply Kd.R_drewN | apply Kd.R_drew)); exact HO_7.out) hb); have n1_ := Aside0.mk (below_step (by repeat (first | (with_reducible first | exact HB.out | apply below_alloc | apply pw_below_drewN | apply below_drew1) | exact HB.out)) hb); clear HO_7; clear HB; have HO_7 := n0_; have HB := n1_; clear n0_ n1_; (try clear hb); (try clear hb2); (try clear hk); (try clear hi)))
                                        go_ret
                                        exact ⟨by first | rfl | (simp [errW_none, errW_some] <;> rfl) | (simp only [← hji12]; first | rfl | (simp [errW_none, errW_some] <;> rfl)) | (simp [*, errW_none, errW_some] <;> rfl), by repeat (first | (with_reducible first | exact HB.out | apply below_alloc | apply pw_below_drewN | apply below_drew1) | exact HB.out)⟩
                                · replace c37 := Bool.eq_false_iff.mpr c37
                                  subst c37
                                  have H1 : (some false) = some r := by rw [if_neg (show ¬ (false = true) by decide)] at H; exact H
                                  clear H
                                  have H := H1
                                  clear H1
                                  obtain rfl := Option.some.inj H
                                  go_wp2_with (first | (go_at_call 31; (with_reducible refine (dn_Under.calls k2 t332 t339 true _ A32.out).mono ?_); rintro e w' ⟨rfl, ⟨nd, rfl⟩⟩) | (go_at_call 31; (with_reducible refine (dn_Under.calls k2 t332 (⟨#[]⟩ : ByteArray) true _ A34.out).mono ?_); rintro e w' ⟨rfl, ⟨nd, rfl⟩⟩) | (go_at_call 31; (with_reducible refine (dn_Under.calls k2 t332 t332 false _ A36.out).mono ?_); rintro e w' ⟨rfl, ⟨nd, rfl⟩⟩))
                                  go_ret
                                  exact ⟨by first | rfl | (simp [errW_none, errW_some] <;> rfl) | (simp only [← hji12]; first | rfl | (simp [errW_none, errW_some] <;> rfl)) | (simp [*, errW_none, errW_some] <;> rfl), by repeat (first | (with_reducible first | exact HB.out | apply below_alloc | apply pw_below_drewN | apply below_drew1) | exact HB.out)⟩
                              · replace c35 := Bool.eq_false_iff.mpr c35
                                subst c35
                                have H1 : (some false) = some r := by rw [if_neg (show ¬ (false = true) by decide)] at H; exact H
                                clear H
                                have H := H1
                                clear H1
                                obtain rfl := Option.some.inj H
                                go_wp2_with (first | (go_at_call 31; (with_reducible refine (dn_Under.calls k2 t332 t339 true _ A32.out).mono ?_); rintro e w' ⟨rfl, ⟨nd, rfl⟩⟩) | (go_at_call 31; (with_reducible refine (dn_Under.calls k2 t332 (⟨#[]⟩ : ByteArray) false _ A34.out).mono ?_); rintro e w' ⟨rfl, ⟨nd, rfl⟩⟩))
                                go_ret
                                exact ⟨by first | rfl | (simp [errW_none, errW_some] <;> rfl) | (simp only [← hji12]; first | rfl | (simp [errW_none, errW_some] <;> rfl)) | (simp [*, errW_none, errW_some] <;> rfl), by repeat (first | (with_reducible first | exact HB.out | apply below_alloc | apply pw_below_drewN | apply below_drew1) | exact HB.out)⟩
                            · replace c33 := Bool.eq_false_iff.mpr c33
                              subst c33
                              have H1 : (some false) = some r := by rw [if_neg (show ¬ (false = true) by decide)] at H; exact H
                              clear H
                              have H := H1
                              clear H1
                              obtain rfl := Option.some.inj H
                              go_wp2_with (first | (go_at_call 31; (with_reducible refine (dn_Under.calls k2 t332 t339 false _ A32.out).mono ?_); rintro e w' ⟨rfl, ⟨nd, rfl⟩⟩))
                              go_ret
                              exact ⟨by first | rfl | (simp [errW_none, errW_some] <;> rfl) | (simp only [← hji12]; first | rfl | (simp [errW_none, errW_some] <;> rfl)) | (simp [*, errW_none, errW_some] <;> rfl), by repeat (first | (with_reducible first | exact HB.out | apply below_alloc | apply pw_below_drewN | apply below_drew1) | exact HB.out)⟩
                          · rw [if_neg c31] at H
                            have c31b0 : (x15_2.toList == ([] : List UInt8)) = false := beq_eq_false_iff_ne.mpr c31
                            have c31b1 : (x15_2.toList != ([] : List UInt8)) = true := bne_iff_ne.mpr c31
                            obtain rfl := Option.some.inj H
                            go_wp2
                            go_ret
                            exact ⟨by first | rfl | (simp [errW_none, errW_some] <;> rfl) | (simp only [← hji12]; first | rfl | (simp [errW_none, errW_some] <;> rfl)) | (simp [*, errW_none, errW_some] <;> rfl), by repeat (first | (with_reducible first | exact HB.out | apply below_alloc | apply pw_below_drewN | apply below_drew1) | exact HB.out)⟩
                        · rw [if_neg c30] at H
                          have c30b0 : (x13_1.toList == t339.toList) = false := beq_eq_false_iff_ne.mpr c30
                          have c30b1 : (x13_1.toList != t339.toList) = true := bne_iff_ne.mpr c30
                          obtain rfl := Option.some.inj H
                          go_wp2
                          go_ret
                          exact ⟨by first | rfl | (simp [errW_none, errW_some] <;> rfl) | (simp only [← hji12]; first | rfl | (simp [errW_none, errW_some] <;> rfl)) | (simp [*, errW_none, errW_some] <;> rfl), by repeat (first | (with_reducible first | exact HB.out | apply below_alloc | apply pw_below_drewN | apply below_drew1) | exact HB.out)⟩
                      · replace c29 := Bool.eq_false_iff.mpr c29
                        subst c29
                        have H1 : (some false) = some r := by rw [if_neg (show ¬ (false = true) by decide)] at H; exact H
                        clear H
                        have H := H1
                        clear H1
                        obtain rfl := Option.some.inj H
                        go_wp2
                        go_ret
                        exact ⟨by first | rfl | (simp [errW_none, errW_some] <;> rfl) | (simp only [← hji12]; first | rfl | (simp [errW_none, errW_some] <;> rfl)) | (simp [*, errW_none, errW_some] <;> rfl), by repeat (first | (with_reducible first | exact HB.out | apply below_alloc | apply pw_below_drewN | apply below_drew1) | exact HB.out)⟩
                    · replace c28 := Bool.eq_false_iff.mpr c28
                      subst c28
                      have H1 : (some false) = some r := by rw [if_neg (show ¬ (false = true) by decide)] at H; exact H
                      clear H
                      have H := H1
                      clear H1
                      obtain rfl := Option.some.inj H
                      go_wp2
                      go_ret
                      exact ⟨by first | rfl | (simp [errW_none, errW_some] <;> rfl) | (simp only [← hji12]; first | rfl | (simp [errW_none, errW_some] <;> rfl)) | (simp [*, errW_none, errW_some] <;> rfl), by repeat (first | (with_reducible first | exact HB.out | apply below_alloc | apply pw_below_drewN | apply below_drew1) | exact HB.out)⟩
      · rw [if_neg c14] at H
        exact absurd H (by simp)
    · rw [if_neg c13] at H
      exact absurd H (by simp)

end Go.Proofs.YtflkghdndffacaaDoor.PD
