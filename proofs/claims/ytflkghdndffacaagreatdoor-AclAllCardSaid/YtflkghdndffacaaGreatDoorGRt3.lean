/- Words, functions' contracts and plain laws for the row of Root, part 3: cut out of this session's texts by a program of its own. No condition. -/
import Derived.Test.YtflkghdndffacaaGreatDoorGRt2
namespace Go.Proofs.YtflkghdndffacaaGreatDoor.PD
open Go.RowKit Go.Proofs.YtflkghdndffacaaGreatDoor.H Go.Proofs.YtflkghdndffacaaGreatDoorW.PrintWords Go.Proofs.YtflkghdndffacaaGreatDoorW.PrintLast Go.Proofs.YtflkghdndffacaaGreatDoorW.PrintMore
attribute [local go_sem] max2_int min2_int max_two min_two max_three min_three max_four min_four
set_option linter.unusedVariables false
set_option linter.unusedSimpArgs false
def dn_Key.l0 : Nat → List (S25) → Int → Int → Option (ByteArray × Bool)
 | 0, _, _, _ => none
 | k + 1, x4, x15, x16 => if x16 < x15 then (if 0 ≤ x16 then (if x16 < (x4.length : Int) then ((dn_lowered.f ((rd_T25 x4 x16).f0)).bind fun t146 => ((dn_Fold.f ((rd_T25 x4 x16).f1)).bind fun t148 => ((some (x4.set (x16 : Int).toNat (⟨t146, (rd_T25 x4 x16).f1⟩ : S25) : List (S25))).bind fun y149 => (if t148.toList = ([] : List UInt8) then (some ((⟨#[]⟩ : ByteArray), false)) else (dn_Key.l0 k (y149.set (x16 : Int).toNat (⟨(rd_T25 y149 x16).f0, t148⟩ : S25)) x15 (wrap64 (x16 + 1))))))) else (none)) else (none)) else ((dn_Text.f x4).bind fun t144 => (some (t144, true)))
def dn_Key.f (k : Nat) (a0 : ByteArray) : Option (ByteArray × Bool) := (dn_Parse.f k a0).bind fun bt140 => (if bt140.2 = true then (dn_Key.l0 k bt140.1 (bt140.1.length : Int) 0) else (some ((⟨#[]⟩ : ByteArray), false)))
def dn_Key.T7 : Bool × List (List Nat × List Nat) := (true, [([], []), ([], []), ([], []), ([], []), ([], []), ([], []), ([4, 5], [4, 5]), ([6], [6]), ([7], [7]), ([8], [8]), ([], []), ([], []), ([10, 11], [10, 11]), ([12], [12]), ([13], [13]), ([14, 9], [14]), ([0, 1, 0, 1, 4, 5, 6, 7, 8, 9, 14, 15], [0, 1]), ([16, 0, 1, 4, 5, 6, 7, 8, 9, 14, 15], [16]), ([17, 9, 15, 0, 1, 4, 5, 6, 7, 8, 9, 14, 15], [9, 17]), ([2, 3, 0, 1, 2, 3, 4, 5, 6, 7, 8, 9, 10, 11, 12, 13, 14, 15, 16, 17, 18], [2, 3]), ([19, 0, 1, 2, 3, 4, 5, 6, 7, 8, 9, 10, 11, 12, 13, 14, 15, 16, 17, 18], [19]), ([20, 15, 18, 0, 1, 2, 3, 4, 5, 6, 7, 8, 9, 10, 11, 12, 13, 14, 15, 16, 17, 18], [15, 20])])
def dn_Key.B7 : List Nat := [0, 0, 0, 0, 0, 0, 48, 112, 240, 496, 0, 0, 3072, 7168, 15360, 32752, 65523, 131059, 262131, 524287, 1048575, 2097151]
theorem dn_Key.tab7 : rtab .any (opsOf Tryz.f26 7) = dn_Key.T7 := by kernel_rfl
theorem dn_Key.bits7 : waitsOk dn_Key.T7.2 dn_Key.B7 = true := by kernel_rfl
set_option maxHeartbeats 8000000 in
set_option maxRecDepth 100000 in
theorem dn_Key.calls (k : Nat) (a0 : ByteArray) (r1 : ByteArray) (r2 : Bool) (w : World) (h : dn_Key.f k a0 = some (r1, r2)) :
  Calls Tryz.prog 26 #[.string a0] w fun e w' => e = .returned (.tuple #[.string r1, .bool r2]) ∧ Below w.heap.size w w' := by
 have HB := Aside0.mk (Below.refl w.heap.size w)
 have H : ((dn_Parse.f k a0).bind fun bt140 => (if bt140.2 = true then (dn_Key.l0 k bt140.1 (bt140.1.length : Int) 0) else (some ((⟨#[]⟩ : ByteArray), false)))) = some (r1, r2) := h
 clear h
 replace H := Option.bind_eq_some_iff.mp H
 obtain ⟨⟨t140, t141⟩, A20, H⟩ := H
 replace H : (if t141 = true then (dn_Key.l0 k t140 (t140.length : Int) 0) else (some ((⟨#[]⟩ : ByteArray), false))) = some (r1, r2) := H
 have A2 := Aside0.mk A20
 clear A20
 by_cases c3 : t141 = true
 ·subst c3
  have H1 : (dn_Key.l0 k t140 (t140.length : Int) 0) = some (r1, r2) := by rw [if_pos rfl] at H; exact H
  clear H
  have H := H1
  clear H1
  have H' := Aside0.mk H
  clear H
  go_enter Tryz.func26, Tryz.ntmps26
  go_wp2_with (first | ((with_reducible refine gate_callee (f := 45) rfl ?_); refine goesL_ (some 9) rfl rfl Tryz.func45 (by kernel_rfl) rfl #[.string a0] rfl (by (try simp only [List.map_toArray, List.map_cons, List.map_nil]); first | done | rfl | (simp only [List.length_drop, List.length_take]; rfl)) ?_; (with_reducible refine (dn_Parse.calls k a0 t140 true _ A2.out).mono ?_); rintro e w4 ⟨v142, rfl, ho0, hb⟩; refine ⟨_, rfl, ?_⟩; have n0_ := Aside0.mk (Kd.R_lower ho0 (below_size (by repeat (first | (with_reducible first | exact HB.out | apply below_alloc | apply pw_below_drewN | apply below_drew1) | exact HB.out)))); have n1_ := Aside0.mk (below_step (by repeat (first | (with_reducible first | exact HB.out | apply below_alloc | apply pw_below_drewN | apply below_drew1) | exact HB.out)) hb); clear HB; have HO143 := n0_; have HB := n1_; clear n0_ n1_; (try clear hb); (try clear hb2); (try clear hk); (try clear hi); (try clear ho0); obtain ⟨Ao5, co5, eo5⟩ := Kd.R_slice HO143.out; subst eo5))
  go_loopg [16] k (fun kq v16 w' => ∃ (x4_1 : List (S25)) (x16_1 : Int), v16 = .int .i64 x16_1 ∧ Aside0 (dn_Key.l0 kq x4_1 (t140.length : Int) x16_1 = some (r1, r2)) ∧ Aside0 (kq ≤ k) ∧ Aside0 (Kd.R k25 53 w' w.heap.size (fun _ => True) (.slice Ao5 t140.length co5) x4_1) ∧ Aside0 (Below w.heap.size w w'))
  case atStart => exact ⟨(t140), (0), (by first | rfl | (simp; done) | (simp [*]; done) | (simp [u8_w, i64_w]; done) | (simp [isEmpty_bne]; done)), H', ⟨Nat.le_refl _⟩, ⟨by (with_reducible repeat (first | apply Kd.R_alloc | apply Kd.R_drewN | apply Kd.R_drew)); exact HO143.out⟩, ⟨by repeat (first | (with_reducible first | exact HB.out | apply below_alloc | apply pw_below_drewN | apply below_drew1) | exact HB.out)⟩⟩
  case round =>
   clear H'
   try clear c2
   try clear p2
   try clear c3
   obtain ⟨x4_1, x16_1, rfl, HA, HK1, HO_4, HB⟩ := hrel
   have hl4_1 := (Kd.R_reads' HO_4.out).1
   rw [hl4_1] at HO_4
   (try simp only [hl4_1])
   cases gk with
   | zero => exact absurd HA.out (by simp [dn_Key.l0])
   | succ k1 =>
    have H := HA.out
    clear HA
    simp only [dn_Key.l0] at H
    by_cases c6 : x16_1 < (t140.length : Int)
    ·rw [if_pos c6] at H
     have c6b0 : decide (x16_1 < (t140.length : Int)) = true := decide_eq_true c6
     (try (have c6b9 := c6b0; rw [hl4_1] at c6b9))
     clear c6
     by_cases c7 : 0 ≤ x16_1
     ·rw [if_pos c7] at H
      have c7b0 : decide (0 ≤ x16_1) = true := decide_eq_true c7
      clear c7
      by_cases c8 : x16_1 < (x4_1.length : Int)
      ·rw [if_pos c8] at H
       have c8b0 : decide (x16_1 < (x4_1.length : Int)) = true := decide_eq_true c8
       clear c8
       replace H := Option.bind_eq_some_iff.mp H
       obtain ⟨t146, A90, H⟩ := H
       replace H : ((dn_Fold.f ((rd_T25 x4_1 x16_1).f1)).bind fun t148 => ((some (x4_1.set (x16_1 : Int).toNat (⟨t146, (rd_T25 x4_1 x16_1).f1⟩ : S25) : List (S25))).bind fun y149 => (if t148.toList = ([] : List UInt8) then (some ((⟨#[]⟩ : ByteArray), false)) else (dn_Key.l0 k1 (y149.set (x16_1 : Int).toNat (⟨(rd_T25 y149 x16_1).f0, t148⟩ : S25)) (t140.length : Int) (wrap64 (x16_1 + 1)))))) = some (r1, r2) := H
       have A9 := Aside0.mk A90
       clear A90
       replace H := Option.bind_eq_some_iff.mp H
       obtain ⟨t148, A100, H⟩ := H
       replace H : ((some (x4_1.set (x16_1 : Int).toNat (⟨t146, (rd_T25 x4_1 x16_1).f1⟩ : S25) : List (S25))).bind fun y149 => (if t148.toList = ([] : List UInt8) then (some ((⟨#[]⟩ : ByteArray), false)) else (dn_Key.l0 k1 (y149.set (x16_1 : Int).toNat (⟨(rd_T25 y149 x16_1).f0, t148⟩ : S25)) (t140.length : Int) (wrap64 (x16_1 + 1))))) = some (r1, r2) := H
       have A10 := Aside0.mk A100
       clear A100
       obtain ⟨y149, hy149⟩ : ∃ y_ : List (S25), y_ = (x4_1.set (x16_1 : Int).toNat (⟨t146, (rd_T25 x4_1 x16_1).f1⟩ : S25)) := ⟨_, rfl⟩
       replace H : (if t148.toList = ([] : List UInt8) then (some ((⟨#[]⟩ : ByteArray), false)) else (dn_Key.l0 k1 (y149.set (x16_1 : Int).toNat (⟨(rd_T25 y149 x16_1).f0, t148⟩ : S25)) (t140.length : Int) (wrap64 (x16_1 + 1)))) = some (r1, r2) := by first | (rw [hy149]; with_reducible exact H) | (have H2_ := (Option.bind_some _ _).symm.trans H; rw [hy149]; with_reducible exact H2_) | (have H2_ := (Option.bind_some _ _).symm.trans H; with_reducible exact H2_) | with_reducible exact H | (rw [hy149]; exact H) | exact H
       have Ny149 := Aside0.mk hy149
       clear hy149
       obtain ⟨y150, hy150⟩ : ∃ y_ : List (S25), y_ = (y149.set (x16_1 : Int).toNat (⟨(rd_T25 y149 x16_1).f0, t148⟩ : S25)) := ⟨_, rfl⟩
       replace H : (if t148.toList = ([] : List UInt8) then (some ((⟨#[]⟩ : ByteArray), false)) else (dn_Key.l0 k1 y150 (t140.length : Int) (wrap64 (x16_1 + 1)))) = some (r1, r2) := by first | (rw [hy150]; with_reducible exact H) | (have H2_ := (Option.bind_some _ _).symm.trans H; rw [hy150]; with_reducible exact H2_) | (have H2_ := (Option.bind_some _ _).symm.trans H; with_reducible exact H2_) | with_reducible exact H | (rw [hy150]; exact H) | exact H
       have Ny150 := Aside0.mk hy150
       clear hy150
       by_cases c14 : t148.toList = ([] : List UInt8)
       ·rw [if_pos c14] at H
        have c14b0 : (t148.toList == ([] : List UInt8)) = true := beq_iff_eq.mpr c14
        have c14b1 : (t148.toList != ([] : List UInt8)) = false := bne_eq_false_iff_eq.mpr c14
        clear c14
        simp only [Option.some.injEq, Prod.mk.injEq] at H
        obtain ⟨rfl, rfl⟩ := H
        try go_wp2
        have n0_ := Aside0.mk (Kd.R_drew HO_4.out)
        have n1_ := Aside0.mk (below_drew1 HB.out)
        clear HO_4
        clear HB
        have HO_4 := n0_
        have HB := n1_
        clear n0_ n1_
        have p145 : 0 ≤ (x16_1 : Int) := of_decide_eq_true (by first | (with_reducible assumption) | assumption)
        have q145 : x16_1 < (x4_1.length : Int) := of_decide_eq_true (by first | (with_reducible assumption) | assumption)
        obtain ⟨ad145, e145, hx145_0, hx145_1⟩ := at_T25 (Kd.R_reads' HO_4.out).2.2 x16_1 p145 q145
        cases e145
        replace p145 := eq_true p145
        replace q145 := eq_true q145
        have p147 : 0 ≤ (x16_1 : Int) := of_decide_eq_true (by first | (with_reducible assumption) | assumption)
        have q147 : x16_1 < (x4_1.length : Int) := of_decide_eq_true (by first | (with_reducible assumption) | assumption)
        obtain ⟨ad147, e147, hx147_0, hx147_1⟩ := at_T25 (Kd.R_reads' HO_4.out).2.2 x16_1 p147 q147
        obtain rfl : ad145 = ad147 := (by injection e147)
        replace p147 := eq_true p147
        replace q147 := eq_true q147
        refine start_ (n := 22) (S := fun w' => w'.cell? (ad145.add ((x16_1).toNat * 2)) = some (.string ((rd_T25 x4_1 x16_1).f0)) ∧ w'.cell? ⟨(ad145.add ((x16_1).toNat * 2)).block, (ad145.add ((x16_1).toNat * 2)).off + 1, none⟩ = some (.string ((rd_T25 x4_1 x16_1).f1)) ∧ w'.cell? (ad145.add ((x16_1).toNat * 2)) = some (.string ((rd_T25 x4_1 x16_1).f0)) ∧ w'.cell? ⟨(ad145.add ((x16_1).toNat * 2)).block, (ad145.add ((x16_1).toNat * 2)).off + 1, none⟩ = some (.string ((rd_T25 x4_1 x16_1).f1))) (ds := [18, 21]) #[false, false, false, false, false, false, false, false, false, false, false, false, false, false, false, false, false, false, false, false, false, false] (by kernel_rfl) rfl rfl ⟨hx145_0, hx145_1, hx147_0, hx147_1⟩ (fun hHeld => ?_); refine with_tabW dn_Key.tab7 dn_Key.bits7 (fun HT_ HW_ => ?_)
        generalize wr.drew = w15 at HO_4 HB hx145_0 hx145_1 hx147_0 hx147_1 hHeld ⊢
        refine pure_ (i := 0) (N := some 19) (v := ?_) (a' := ?_) #[true, false, false, false, false, false, false, false, false, false, false, false, false, false, false, false, false, false, false, false, false, false] rfl rfl (any_of HT_.out (by kernel_rfl)) (fun _ _ _ h => h) (Or.inl ⟨by rfl, ?_⟩) ?_ ?_
        rotate_left
        ·intro w'
         go_simp
         with_reducible rfl
        rotate_left
        ·simp only [Act.put, List.setIfInBounds_toArray, List.set_cons_zero, List.set_cons_succ, i64_w, i32_w]
         rfl
        refine pure_ (i := 1) (N := some 20) (v := ?_) (a' := ?_) #[true, true, false, false, false, false, false, false, false, false, false, false, false, false, false, false, false, false, false, false, false, false] rfl rfl (any_of HT_.out (by kernel_rfl)) (fun _ _ _ h => h) (Or.inl ⟨by rfl, ?_⟩) ?_ ?_
        rotate_left
        ·intro w'
         go_simp
         with_reducible rfl
        rotate_left
        ·simp only [Act.put, List.setIfInBounds_toArray, List.set_cons_zero, List.set_cons_succ, i64_w, i32_w]
         rfl
        refine pure_ (i := 2) (N := some 21) (v := ?_) (a' := ?_) #[true, true, true, false, false, false, false, false, false, false, false, false, false, false, false, false, false, false, false, false, false, false] rfl rfl (any_of HT_.out (by kernel_rfl)) (fun _ _ _ h => h) (Or.inl ⟨by rfl, ?_⟩) ?_ ?_
        rotate_left
        ·intro w'
         go_simp
         with_reducible rfl
        rotate_left
        ·simp only [Act.put, List.setIfInBounds_toArray, List.set_cons_zero, List.set_cons_succ, i64_w, i32_w]
         rfl
        refine pure_ (i := 3) (N := some 22) (v := ?_) (a' := ?_) #[true, true, true, true, false, false, false, false, false, false, false, false, false, false, false, false, false, false, false, false, false, false] rfl rfl (any_of HT_.out (by kernel_rfl)) (fun _ _ _ h => h) (Or.inl ⟨by rfl, ?_⟩) ?_ ?_
        rotate_left
        ·intro w'
         go_simp
         with_reducible rfl
        rotate_left
        ·simp only [Act.put, List.setIfInBounds_toArray, List.set_cons_zero, List.set_cons_succ, i64_w, i32_w]
         rfl
        refine pure_ (i := 4) (N := some 23) (v := ?_) (a' := ?_) #[true, true, true, true, true, false, false, false, false, false, false, false, false, false, false, false, false, false, false, false, false, false] rfl rfl (any_of HT_.out (by kernel_rfl)) (fun _ _ _ h => h) (Or.inl ⟨by rfl, ?_⟩) ?_ ?_
        rotate_left
        ·intro w'
         go_simp
         with_reducible rfl
        rotate_left
        ·simp only [Act.put, List.setIfInBounds_toArray, List.set_cons_zero, List.set_cons_succ, i64_w, i32_w]
         rfl
        refine pure_ (i := 5) (N := some 24) (v := ?_) (a' := ?_) #[true, true, true, true, true, true, false, false, false, false, false, false, false, false, false, false, false, false, false, false, false, false] rfl rfl (any_of HT_.out (by kernel_rfl)) (fun _ _ _ h => h) (Or.inl ⟨by rfl, ?_⟩) ?_ ?_
        rotate_left
        ·intro w'
         go_simp
         with_reducible rfl
        rotate_left
        ·simp only [Act.put, List.setIfInBounds_toArray, List.set_cons_zero, List.set_cons_succ, i64_w, i32_w]
         rfl
        refine pure_ (i := 6) (N := some 25) (v := ?_) (a' := ?_) #[true, true, true, true, true, true, true, false, false, false, false, false, false, false, false, false, false, false, false, false, false, false] rfl rfl (any_of HT_.out (by kernel_rfl)) (fun _ _ _ h => h) (Or.inl ⟨by rfl, ?_⟩) ?_ ?_
        rotate_left
        ·intro w'
         go_simp
         with_reducible rfl
        rotate_left
        ·simp only [Act.put, List.setIfInBounds_toArray, List.set_cons_zero, List.set_cons_succ, i64_w, i32_w]
         rfl
        refine pure_ (i := 7) (N := some 26) (v := ?_) (a' := ?_) #[true, true, true, true, true, true, true, true, false, false, false, false, false, false, false, false, false, false, false, false, false, false] rfl rfl (any_of HT_.out (by kernel_rfl)) (fun _ _ _ h => h) (Or.inl ⟨by rfl, ?_⟩) ?_ ?_
        rotate_left
        ·intro w'
         go_simp
         with_reducible rfl
        rotate_left
        ·simp only [Act.put, List.setIfInBounds_toArray, List.set_cons_zero, List.set_cons_succ, i64_w, i32_w]
         rfl
        refine pure_ (i := 10) (N := some 29) (v := ?_) (a' := ?_) #[true, true, true, true, true, true, true, true, false, false, true, false, false, false, false, false, false, false, false, false, false, false] rfl rfl (any_of HT_.out (by kernel_rfl)) (fun _ _ _ h => h) (Or.inl ⟨by rfl, ?_⟩) ?_ ?_
        rotate_left
        ·intro w'
         go_simp
         with_reducible rfl
        rotate_left
        ·simp only [Act.put, List.setIfInBounds_toArray, List.set_cons_zero, List.set_cons_succ, i64_w, i32_w]
         rfl
        refine pure_ (i := 11) (N := some 30) (v := ?_) (a' := ?_) #[true, true, true, true, true, true, true, true, false, false, true, true, false, false, false, false, false, false, false, false, false, false] rfl rfl (any_of HT_.out (by kernel_rfl)) (fun _ _ _ h => h) (Or.inl ⟨by rfl, ?_⟩) ?_ ?_
        rotate_left
        ·intro w'
         go_simp
         with_reducible rfl
        rotate_left
        ·simp only [Act.put, List.setIfInBounds_toArray, List.set_cons_zero, List.set_cons_succ, i64_w, i32_w]
         rfl
        refine pure_ (i := 12) (N := some 31) (v := ?_) (a' := ?_) #[true, true, true, true, true, true, true, true, false, false, true, true, true, false, false, false, false, false, false, false, false, false] rfl rfl (any_of HT_.out (by kernel_rfl)) (fun _ _ _ h => h) (Or.inl ⟨by rfl, ?_⟩) ?_ ?_
        rotate_left
        ·intro w'
         go_simp
         with_reducible rfl
        rotate_left
        ·simp only [Act.put, List.setIfInBounds_toArray, List.set_cons_zero, List.set_cons_succ, i64_w, i32_w]
         rfl
        refine pure_ (i := 13) (N := some 32) (v := ?_) (a' := ?_) #[true, true, true, true, true, true, true, true, false, false, true, true, true, true, false, false, false, false, false, false, false, false] rfl rfl (any_of HT_.out (by kernel_rfl)) (fun _ _ _ h => h) (Or.inl ⟨by rfl, ?_⟩) ?_ ?_
        rotate_left
        ·intro w'
         go_simp
         with_reducible rfl
        rotate_left
        ·simp only [Act.put, List.setIfInBounds_toArray, List.set_cons_zero, List.set_cons_succ, i64_w, i32_w]
         rfl
        refine take_ (i := 8) (N := some 27) (v := ?_) (a' := ?_) #[true, true, true, true, true, true, true, true, true, false, true, true, true, true, false, false, false, false, false, false, false, false] rfl rfl (take_ofW HT_.out HW_.out (by kernel_rfl)) (fun _ _ _ h => h) (Or.inl ⟨by rfl, ?_⟩) hHeld ?_ ?_
        rotate_left
        ·rintro w' ⟨s0, s1, s2, s3⟩
         go_simp
         with_reducible rfl
        rotate_left
        ·simp only [Act.put, List.setIfInBounds_toArray, List.set_cons_zero, List.set_cons_succ, i64_w, i32_w]
         rfl
        refine take_ (i := 14) (N := some 33) (v := ?_) (a' := ?_) #[true, true, true, true, true, true, true, true, true, false, true, true, true, true, true, false, false, false, false, false, false, false] rfl rfl (take_ofW HT_.out HW_.out (by kernel_rfl)) (fun _ _ _ h => h) (Or.inl ⟨by rfl, ?_⟩) hHeld ?_ ?_
        rotate_left
        ·rintro w' ⟨s0, s1, s2, s3⟩
         go_simp
         with_reducible rfl
        rotate_left
        ·simp only [Act.put, List.setIfInBounds_toArray, List.set_cons_zero, List.set_cons_succ, i64_w, i32_w]
         rfl
        refine one_ (i := 9) (N := some 28) #[true, true, true, true, true, true, true, true, true, true, true, true, true, true, true, false, false, false, false, false, false, false] rfl rfl (one_of HT_.out (by kernel_rfl)) (by decide) (fun K hK => ?_)
        refine goes_ Tryz.func46 (by kernel_rfl) rfl #[.string ((rd_T25 x4_1 x16_1).f0)] (by rfl) rfl rfl (by (try simp only [List.map_toArray, List.map_cons, List.map_nil]); first | done | rfl | (simp only [List.length_drop, List.length_take]; rfl)) ?_
        with_reducible refine (dn_lowered.calls ((rd_T25 x4_1 x16_1).f0) t146 _ A9.out).mono ?_
        rintro e w16 ⟨rfl, hb⟩
        have HS0_ := (hb.cell (World.block_lt_of_cell? _ _ (hHeld.1))).trans (hHeld.1)
        have HS1_ := (hb.cell (World.block_lt_of_cell? _ _ (hHeld.2.1))).trans (hHeld.2.1)
        have HS2_ := (hb.cell (World.block_lt_of_cell? _ _ (hHeld.2.2.1))).trans (hHeld.2.2.1)
        have HS3_ := (hb.cell (World.block_lt_of_cell? _ _ (hHeld.2.2.2))).trans (hHeld.2.2.2)
        refine ⟨_, rfl, ?_⟩
        have n0_ := Aside0.mk (Kd.R_below (by (with_reducible repeat (first | apply Kd.R_alloc | apply Kd.R_drewN | apply Kd.R_drew)); exact HO_4.out) hb)
        have n1_ := Aside0.mk (below_step (by repeat (first | (with_reducible first | exact HB.out | apply below_alloc | apply pw_below_drewN | apply below_drew1) | exact HB.out)) hb)
        clear HO_4
        clear HB
        have HO_4 := n0_
        have HB := n1_
        clear n0_ n1_
        (try clear hb)
        (try clear hb2)
        (try clear hk)
        (try clear hi)
        refine hK.out _ _ ⟨HS0_, HS1_, HS2_, HS3_⟩ (fun hHeld => ?_)
        clear hK K
        refine norm_ (a' := ?_) ?_ ?_
        rotate_left
        ·show Act.put _ (some 28) _ = _
         simp only [Act.put, List.setIfInBounds_toArray, List.set_cons_zero, List.set_cons_succ, i64_w, i32_w]
         rfl
        refine one_ (i := 15) (N := some 34) #[true, true, true, true, true, true, true, true, true, true, true, true, true, true, true, true, false, false, false, false, false, false] rfl rfl (one_of HT_.out (by kernel_rfl)) (by decide) (fun K hK => ?_)
        refine goes_ Tryz.func47 (by kernel_rfl) rfl #[.string ((rd_T25 x4_1 x16_1).f1)] (by rfl) rfl rfl (by (try simp only [List.map_toArray, List.map_cons, List.map_nil]); first | done | rfl | (simp only [List.length_drop, List.length_take]; rfl)) ?_
        with_reducible refine (dn_Fold.calls ((rd_T25 x4_1 x16_1).f1) t148 _ A10.out).mono ?_
        rintro e w17 ⟨rfl, hb⟩
        have HS0_ := (hb.cell (World.block_lt_of_cell? _ _ (hHeld.1))).trans (hHeld.1)
        have HS1_ := (hb.cell (World.block_lt_of_cell? _ _ (hHeld.2.1))).trans (hHeld.2.1)
        have HS2_ := (hb.cell (World.block_lt_of_cell? _ _ (hHeld.2.2.1))).trans (hHeld.2.2.1)
        have HS3_ := (hb.cell (World.block_lt_of_cell? _ _ (hHeld.2.2.2))).trans (hHeld.2.2.2)
        refine ⟨_, rfl, ?_⟩
        have n0_ := Aside0.mk (Kd.R_below (by (with_reducible repeat (first | apply Kd.R_alloc | apply Kd.R_drewN | apply Kd.R_drew)); exact HO_4.out) hb)
        have n1_ := Aside0.mk (below_step (by repeat (first | (with_reducible first | exact HB.out | apply below_alloc | apply pw_below_drewN | apply below_drew1) | exact HB.out)) hb)
        clear HO_4
        clear HB
        have HO_4 := n0_
        have HB := n1_
        clear n0_ n1_
        (try clear hb)
        (try clear hb2)
        (try clear hk)
        (try clear hi)
        have p11 : 0 ≤ (x16_1 : Int) := of_decide_eq_true (by first | (with_reducible assumption) | assumption)
        have q11 : (x16_1 : Int) < ((x4_1.length : Int) : Int) := of_decide_eq_true (by first | (with_reducible assumption) | assumption)
        obtain ⟨go11, co11, eo11, gb11, gl11, cl11, HG11⟩ := Kd.R_form HO_4.out (by omega)
        (first | cases eo11 | (injection eo11 with ea_ en_ ec_; (first | subst ea_ | (injection ea_ with ea_; subst ea_)); subst ec_; clear en_))
        have GB11 := Aside0.mk gb11
        have GG11 := Aside0.mk HG11
        clear gb11 gl11 HG11
        (first | simp only [add_plain] at hx145_0 | skip)
        (first | simp only [add_plain] at hx145_1 | skip)
        (first | simp only [add_plain] at hx147_0 | skip)
        (first | simp only [add_plain] at hx147_1 | skip)
        obtain ⟨ce11, hcl11, hM11, hcc11, hfr11⟩ := Kd.R_elem HO_4.out z25 (x16_1 : Int) p11 q11
        obtain rfl := k25_openM hM11
        have hx11_0 : World.cell? _ ⟨go11, (x16_1 : Int).toNat * 2, none⟩ = some (.string ((rd_T25 x4_1 x16_1).f0)) := hcc11 0 _ rfl
        have hx11_1 : World.cell? _ ⟨go11, (x16_1 : Int).toNat * 2 + 1, none⟩ = some (.string ((rd_T25 x4_1 x16_1).f1)) := hcc11 1 _ rfl
        have hf11_0 : World.frozen? _ ⟨go11, (x16_1 : Int).toNat * 2, none⟩ = false := hfr11 0
        have hf11_1 : World.frozen? _ ⟨go11, (x16_1 : Int).toNat * 2 + 1, none⟩ = false := hfr11 1
        clear hcl11 hcc11 hfr11 hM11
        replace p11 := eq_true p11
        replace q11 := eq_true q11
        obtain ⟨ce18, hcl18, hM18, hcc18, hfr18⟩ := Kd.R_elem HO_4.out z25 (x16_1 : Int) (of_decide_eq_true (by first | (with_reducible assumption) | assumption)) (by have h_ : (x16_1 : Int) < ((x4_1.length : Int) : Int) := of_decide_eq_true (by first | (with_reducible assumption) | assumption); first | exact h_ | (have e_ := (Kd.R_reads' HO_4.out).1; omega) | simpa using h_)
        obtain rfl := k25_openM hM18
        have HP18 := (Kd.R_seg HO_4.out (x16_1 : Int) (of_decide_eq_true (by first | (with_reducible assumption) | assumption)) (by have h_ : (x16_1 : Int) < ((x4_1.length : Int) : Int) := of_decide_eq_true (by first | (with_reducible assumption) | assumption); first | exact h_ | (have e_ := (Kd.R_reads' HO_4.out).1; omega) | simpa using h_) (seg := [.string t146]) (j := 0) hcl18 hcc18 (show 1 ≤ 2 from by decide) (x' := (⟨t146, (rd_T25 x4_1 x16_1).f1⟩ : S25)) (k25_mkM _ _ _ (⟨t146, (rd_T25 x4_1 x16_1).f1⟩ : S25) ) (fun _ hk => hk)).1
        rw [← Ny149.out] at HP18
        have HQ18 := Aside0.mk HP18
        clear hcl18 hcc18 hfr18 hM18 HP18
        have p12 : 0 ≤ (x16_1 : Int) := of_decide_eq_true (by first | (with_reducible assumption) | assumption)
        have q12 : (x16_1 : Int) < ((x4_1.length : Int) : Int) := of_decide_eq_true (by first | (with_reducible assumption) | assumption)
        replace p12 := eq_true p12
        replace q12 := eq_true q12
        obtain ⟨ce19, hcl19, hM19, hcc19, hfr19⟩ := Kd.R_elem HQ18.out z25 (x16_1 : Int) (of_decide_eq_true (by first | (with_reducible assumption) | assumption)) (by have h_ : (x16_1 : Int) < ((x4_1.length : Int) : Int) := of_decide_eq_true (by first | (with_reducible assumption) | assumption); first | exact h_ | (have e_ := (Kd.R_reads' HO_4.out).1; omega) | simpa using h_)
        obtain rfl := k25_openM hM19
        have HP19 := (Kd.R_seg HQ18.out (x16_1 : Int) (of_decide_eq_true (by first | (with_reducible assumption) | assumption)) (by have h_ : (x16_1 : Int) < ((x4_1.length : Int) : Int) := of_decide_eq_true (by first | (with_reducible assumption) | assumption); first | exact h_ | (have e_ := (Kd.R_reads' HO_4.out).1; omega) | simpa using h_) (seg := [.string t148]) (j := 1) hcl19 hcc19 (show 2 ≤ 2 from by decide) (x' := (⟨(rd_T25 y149 x16_1).f0, t148⟩ : S25)) (k25_mkM _ _ _ (⟨(rd_T25 y149 x16_1).f0, t148⟩ : S25) ) (fun _ hk => hk)).1
        rw [← Ny150.out] at HP19
        have HQ19 := Aside0.mk HP19
        clear hcl19 hcc19 hfr19 hM19 HP19
        refine hK.out _ _ ⟨HS0_, HS1_, HS2_, HS3_⟩ (fun hHeld => ?_)
        clear hK K
        refine norm_ (a' := ?_) ?_ ?_
        rotate_left
        ·show Act.put _ (some 34) _ = _
         simp only [Act.put, List.setIfInBounds_toArray, List.set_cons_zero, List.set_cons_succ, i64_w, i32_w]
         rfl
        refine pure_ (i := 16) (N := some 35) (v := ?_) (a' := ?_) #[true, true, true, true, true, true, true, true, true, true, true, true, true, true, true, true, true, false, false, false, false, false] rfl rfl (any_of HT_.out (by kernel_rfl)) (fun _ _ _ h => h) (Or.inl ⟨by rfl, ?_⟩) ?_ ?_
        rotate_left
        ·intro w'
         go_simp
         with_reducible rfl
        rotate_left
        ·simp only [Act.put, List.setIfInBounds_toArray, List.set_cons_zero, List.set_cons_succ, i64_w, i32_w]
         rfl
        refine pure_ (i := 17) (N := some 36) (v := ?_) (a' := ?_) #[true, true, true, true, true, true, true, true, true, true, true, true, true, true, true, true, true, true, false, false, false, false] rfl rfl (any_of HT_.out (by kernel_rfl)) (fun _ _ _ h => h) (Or.inl ⟨by rfl, ?_⟩) ?_ ?_
        rotate_left
        ·intro w'
         go_simp
         with_reducible rfl
        rotate_left
        ·simp only [Act.put, List.setIfInBounds_toArray, List.set_cons_zero, List.set_cons_succ, i64_w, i32_w]
         rfl
        refine last_ (i := 18) (N := none) #[true, true, true, true, true, true, true, true, true, true, true, true, true, true, true, true, true, true, true, false, false, false] rfl rfl (one_of HT_.out (by kernel_rfl)) (by decide) (fun K hK => ?_)
        refine skip_ (w1 := ?_) (by rfl) rfl ?_ ?_
        rotate_left
        ·go_simp
         rfl
        refine hK.out _ _ ?_
        clear hK K
        refine pure_ (i := 19) (N := some 37) (v := ?_) (a' := ?_) #[true, true, true, true, true, true, true, true, true, true, true, true, true, true, true, true, true, true, true, true, false, false] rfl rfl (any_of HT_.out (by kernel_rfl)) (fun _ _ _ h => h) (Or.inl ⟨by rfl, ?_⟩) ?_ ?_
        rotate_left
        ·intro w'
         go_simp
         with_reducible rfl
        rotate_left
        ·simp only [Act.put, List.setIfInBounds_toArray, List.set_cons_zero, List.set_cons_succ, i64_w, i32_w]
         rfl
        refine pure_ (i := 20) (N := some 38) (v := ?_) (a' := ?_) #[true, true, true, true, true, true, true, true, true, true, true, true, true, true, true, true, true, true, true, true, true, false] rfl rfl (any_of HT_.out (by kernel_rfl)) (fun _ _ _ h => h) (Or.inl ⟨by rfl, ?_⟩) ?_ ?_
        rotate_left
        ·intro w'
         go_simp
         with_reducible rfl
        rotate_left
        ·simp only [Act.put, List.setIfInBounds_toArray, List.set_cons_zero, List.set_cons_succ, i64_w, i32_w]
         rfl
        refine last_ (i := 21) (N := none) #[true, true, true, true, true, true, true, true, true, true, true, true, true, true, true, true, true, true, true, true, true, true] rfl rfl (one_of HT_.out (by kernel_rfl)) (by decide) (fun K hK => ?_)
        refine skip_ (w1 := ?_) (by rfl) rfl ?_ ?_
        rotate_left
        ·go_simp
         rfl
        refine hK.out _ _ ?_
        clear hK K
        refine done_ (done_of HT_.out (by kernel_rfl)) ?_
        have p13 : 0 ≤ (x16_1 : Int) := of_decide_eq_true (by first | (with_reducible assumption) | assumption)
        have q13 : (x16_1 : Int) < ((x4_1.length : Int) : Int) := of_decide_eq_true (by first | (with_reducible assumption) | assumption)
        replace p13 := eq_true p13
        replace q13 := eq_true q13
        try go_wp2
        go_ret2
        exact ⟨by first | rfl | (simp [errW_none, errW_some] <;> rfl) | (simp [*, errW_none, errW_some] <;> rfl), by repeat (first | (with_reducible first | exact HB.out | apply below_alloc | apply pw_below_drewN | apply below_drew1 | refine below_set ?_ GB11.out | refine below_set ?_ GB11.out) | exact HB.out)⟩
       ·rw [if_neg c14] at H
        have c14b0 : (t148.toList == ([] : List UInt8)) = false := beq_eq_false_iff_ne.mpr c14
        have c14b1 : (t148.toList != ([] : List UInt8)) = true := bne_iff_ne.mpr c14
        have H' := Aside0.mk H
        clear H
        try go_wp2
        have n0_ := Aside0.mk (Kd.R_drew HO_4.out)
        have n1_ := Aside0.mk (below_drew1 HB.out)
        clear HO_4
        clear HB
        have HO_4 := n0_
        have HB := n1_
        clear n0_ n1_
        have p145 : 0 ≤ (x16_1 : Int) := of_decide_eq_true (by first | (with_reducible assumption) | assumption)
        have q145 : x16_1 < (x4_1.length : Int) := of_decide_eq_true (by first | (with_reducible assumption) | assumption)
        obtain ⟨ad145, e145, hx145_0, hx145_1⟩ := at_T25 (Kd.R_reads' HO_4.out).2.2 x16_1 p145 q145
        cases e145
        replace p145 := eq_true p145
        replace q145 := eq_true q145
        have p147 : 0 ≤ (x16_1 : Int) := of_decide_eq_true (by first | (with_reducible assumption) | assumption)
        have q147 : x16_1 < (x4_1.length : Int) := of_decide_eq_true (by first | (with_reducible assumption) | assumption)
        obtain ⟨ad147, e147, hx147_0, hx147_1⟩ := at_T25 (Kd.R_reads' HO_4.out).2.2 x16_1 p147 q147
        obtain rfl : ad145 = ad147 := (by injection e147)
        replace p147 := eq_true p147
        replace q147 := eq_true q147
        refine start_ (n := 22) (S := fun w' => w'.cell? (ad145.add ((x16_1).toNat * 2)) = some (.string ((rd_T25 x4_1 x16_1).f0)) ∧ w'.cell? ⟨(ad145.add ((x16_1).toNat * 2)).block, (ad145.add ((x16_1).toNat * 2)).off + 1, none⟩ = some (.string ((rd_T25 x4_1 x16_1).f1)) ∧ w'.cell? (ad145.add ((x16_1).toNat * 2)) = some (.string ((rd_T25 x4_1 x16_1).f0)) ∧ w'.cell? ⟨(ad145.add ((x16_1).toNat * 2)).block, (ad145.add ((x16_1).toNat * 2)).off + 1, none⟩ = some (.string ((rd_T25 x4_1 x16_1).f1))) (ds := [18, 21]) #[false, false, false, false, false, false, false, false, false, false, false, false, false, false, false, false, false, false, false, false, false, false] (by kernel_rfl) rfl rfl ⟨hx145_0, hx145_1, hx147_0, hx147_1⟩ (fun hHeld => ?_); refine with_tabW dn_Key.tab7 dn_Key.bits7 (fun HT_ HW_ => ?_)
        generalize wr.drew = w20 at HO_4 HB hx145_0 hx145_1 hx147_0 hx147_1 hHeld ⊢
        refine pure_ (i := 0) (N := some 19) (v := ?_) (a' := ?_) #[true, false, false, false, false, false, false, false, false, false, false, false, false, false, false, false, false, false, false, false, false, false] rfl rfl (any_of HT_.out (by kernel_rfl)) (fun _ _ _ h => h) (Or.inl ⟨by rfl, ?_⟩) ?_ ?_
        rotate_left
        ·intro w'
         go_simp
         with_reducible rfl
        rotate_left
        ·simp only [Act.put, List.setIfInBounds_toArray, List.set_cons_zero, List.set_cons_succ, i64_w, i32_w]
         rfl
        refine pure_ (i := 1) (N := some 20) (v := ?_) (a' := ?_) #[true, true, false, false, false, false, false, false, false, false, false, false, false, false, false, false, false, false, false, false, false, false] rfl rfl (any_of HT_.out (by kernel_rfl)) (fun _ _ _ h => h) (Or.inl ⟨by rfl, ?_⟩) ?_ ?_
        rotate_left
        ·intro w'
         go_simp
         with_reducible rfl
        rotate_left
        ·simp only [Act.put, List.setIfInBounds_toArray, List.set_cons_zero, List.set_cons_succ, i64_w, i32_w]
         rfl
        refine pure_ (i := 2) (N := some 21) (v := ?_) (a' := ?_) #[true, true, true, false, false, false, false, false, false, false, false, false, false, false, false, false, false, false, false, false, false, false] rfl rfl (any_of HT_.out (by kernel_rfl)) (fun _ _ _ h => h) (Or.inl ⟨by rfl, ?_⟩) ?_ ?_
        rotate_left
        ·intro w'
         go_simp
         with_reducible rfl
        rotate_left
        ·simp only [Act.put, List.setIfInBounds_toArray, List.set_cons_zero, List.set_cons_succ, i64_w, i32_w]
         rfl
        refine pure_ (i := 3) (N := some 22) (v := ?_) (a' := ?_) #[true, true, true, true, false, false, false, false, false, false, false, false, false, false, false, false, false, false, false, false, false, false] rfl rfl (any_of HT_.out (by kernel_rfl)) (fun _ _ _ h => h) (Or.inl ⟨by rfl, ?_⟩) ?_ ?_
        rotate_left
        ·intro w'
         go_simp
         with_reducible rfl
        rotate_left
        ·simp only [Act.put, List.setIfInBounds_toArray, List.set_cons_zero, List.set_cons_succ, i64_w, i32_w]
         rfl
        refine pure_ (i := 4) (N := some 23) (v := ?_) (a' := ?_) #[true, true, true, true, true, false, false, false, false, false, false, false, false, false, false, false, false, false, false, false, false, false] rfl rfl (any_of HT_.out (by kernel_rfl)) (fun _ _ _ h => h) (Or.inl ⟨by rfl, ?_⟩) ?_ ?_
        rotate_left
        ·intro w'
         go_simp
         with_reducible rfl
        rotate_left
        ·simp only [Act.put, List.setIfInBounds_toArray, List.set_cons_zero, List.set_cons_succ, i64_w, i32_w]
         rfl
        refine pure_ (i := 5) (N := some 24) (v := ?_) (a' := ?_) #[true, true, true, true, true, true, false, false, false, false, false, false, false, false, false, false, false, false, false, false, false, false] rfl rfl (any_of HT_.out (by kernel_rfl)) (fun _ _ _ h => h) (Or.inl ⟨by rfl, ?_⟩) ?_ ?_
        rotate_left
        ·intro w'
         go_simp
         with_reducible rfl
        rotate_left
        ·simp only [Act.put, List.setIfInBounds_toArray, List.set_cons_zero, List.set_cons_succ, i64_w, i32_w]
         rfl
        refine pure_ (i := 6) (N := some 25) (v := ?_) (a' := ?_) #[true, true, true, true, true, true, true, false, false, false, false, false, false, false, false, false, false, false, false, false, false, false] rfl rfl (any_of HT_.out (by kernel_rfl)) (fun _ _ _ h => h) (Or.inl ⟨by rfl, ?_⟩) ?_ ?_
        rotate_left
        ·intro w'
         go_simp
         with_reducible rfl
        rotate_left
        ·simp only [Act.put, List.setIfInBounds_toArray, List.set_cons_zero, List.set_cons_succ, i64_w, i32_w]
         rfl
        refine pure_ (i := 7) (N := some 26) (v := ?_) (a' := ?_) #[true, true, true, true, true, true, true, true, false, false, false, false, false, false, false, false, false, false, false, false, false, false] rfl rfl (any_of HT_.out (by kernel_rfl)) (fun _ _ _ h => h) (Or.inl ⟨by rfl, ?_⟩) ?_ ?_
        rotate_left
        ·intro w'
         go_simp
         with_reducible rfl
        rotate_left
        ·simp only [Act.put, List.setIfInBounds_toArray, List.set_cons_zero, List.set_cons_succ, i64_w, i32_w]
         rfl
        refine pure_ (i := 10) (N := some 29) (v := ?_) (a' := ?_) #[true, true, true, true, true, true, true, true, false, false, true, false, false, false, false, false, false, false, false, false, false, false] rfl rfl (any_of HT_.out (by kernel_rfl)) (fun _ _ _ h => h) (Or.inl ⟨by rfl, ?_⟩) ?_ ?_
        rotate_left
        ·intro w'
         go_simp
         with_reducible rfl
        rotate_left
        ·simp only [Act.put, List.setIfInBounds_toArray, List.set_cons_zero, List.set_cons_succ, i64_w, i32_w]
         rfl
        refine pure_ (i := 11) (N := some 30) (v := ?_) (a' := ?_) #[true, true, true, true, true, true, true, true, false, false, true, true, false, false, false, false, false, false, false, false, false, false] rfl rfl (any_of HT_.out (by kernel_rfl)) (fun _ _ _ h => h) (Or.inl ⟨by rfl, ?_⟩) ?_ ?_
        rotate_left
        ·intro w'
         go_simp
         with_reducible rfl
        rotate_left
        ·simp only [Act.put, List.setIfInBounds_toArray, List.set_cons_zero, List.set_cons_succ, i64_w, i32_w]
         rfl
        refine pure_ (i := 12) (N := some 31) (v := ?_) (a' := ?_) #[true, true, true, true, true, true, true, true, false, false, true, true, true, false, false, false, false, false, false, false, false, false] rfl rfl (any_of HT_.out (by kernel_rfl)) (fun _ _ _ h => h) (Or.inl ⟨by rfl, ?_⟩) ?_ ?_
        rotate_left
        ·intro w'
         go_simp
         with_reducible rfl
        rotate_left
        ·simp only [Act.put, List.setIfInBounds_toArray, List.set_cons_zero, List.set_cons_succ, i64_w, i32_w]
         rfl
        refine pure_ (i := 13) (N := some 32) (v := ?_) (a' := ?_) #[true, true, true, true, true, true, true, true, false, false, true, true, true, true, false, false, false, false, false, false, false, false] rfl rfl (any_of HT_.out (by kernel_rfl)) (fun _ _ _ h => h) (Or.inl ⟨by rfl, ?_⟩) ?_ ?_
        rotate_left
        ·intro w'
         go_simp
         with_reducible rfl
        rotate_left
        ·simp only [Act.put, List.setIfInBounds_toArray, List.set_cons_zero, List.set_cons_succ, i64_w, i32_w]
         rfl
        refine take_ (i := 8) (N := some 27) (v := ?_) (a' := ?_) #[true, true, true, true, true, true, true, true, true, false, true, true, true, true, false, false, false, false, false, false, false, false] rfl rfl (take_ofW HT_.out HW_.out (by kernel_rfl)) (fun _ _ _ h => h) (Or.inl ⟨by rfl, ?_⟩) hHeld ?_ ?_
        rotate_left
        ·rintro w' ⟨s0, s1, s2, s3⟩
         go_simp
         with_reducible rfl
        rotate_left
        ·simp only [Act.put, List.setIfInBounds_toArray, List.set_cons_zero, List.set_cons_succ, i64_w, i32_w]
         rfl
        refine take_ (i := 14) (N := some 33) (v := ?_) (a' := ?_) #[true, true, true, true, true, true, true, true, true, false, true, true, true, true, true, false, false, false, false, false, false, false] rfl rfl (take_ofW HT_.out HW_.out (by kernel_rfl)) (fun _ _ _ h => h) (Or.inl ⟨by rfl, ?_⟩) hHeld ?_ ?_
        rotate_left
        ·rintro w' ⟨s0, s1, s2, s3⟩
         go_simp
         with_reducible rfl
        rotate_left
        ·simp only [Act.put, List.setIfInBounds_toArray, List.set_cons_zero, List.set_cons_succ, i64_w, i32_w]
         rfl
        refine one_ (i := 9) (N := some 28) #[true, true, true, true, true, true, true, true, true, true, true, true, true, true, true, false, false, false, false, false, false, false] rfl rfl (one_of HT_.out (by kernel_rfl)) (by decide) (fun K hK => ?_)
        refine goes_ Tryz.func46 (by kernel_rfl) rfl #[.string ((rd_T25 x4_1 x16_1).f0)] (by rfl) rfl rfl (by (try simp only [List.map_toArray, List.map_cons, List.map_nil]); first | done | rfl | (simp only [List.length_drop, List.length_take]; rfl)) ?_
        with_reducible refine (dn_lowered.calls ((rd_T25 x4_1 x16_1).f0) t146 _ A9.out).mono ?_
        rintro e w21 ⟨rfl, hb⟩
        have HS0_ := (hb.cell (World.block_lt_of_cell? _ _ (hHeld.1))).trans (hHeld.1)
        have HS1_ := (hb.cell (World.block_lt_of_cell? _ _ (hHeld.2.1))).trans (hHeld.2.1)
        have HS2_ := (hb.cell (World.block_lt_of_cell? _ _ (hHeld.2.2.1))).trans (hHeld.2.2.1)
        have HS3_ := (hb.cell (World.block_lt_of_cell? _ _ (hHeld.2.2.2))).trans (hHeld.2.2.2)
        refine ⟨_, rfl, ?_⟩
        have n0_ := Aside0.mk (Kd.R_below (by (with_reducible repeat (first | apply Kd.R_alloc | apply Kd.R_drewN | apply Kd.R_drew)); exact HO_4.out) hb)
        have n1_ := Aside0.mk (below_step (by repeat (first | (with_reducible first | exact HB.out | apply below_alloc | apply pw_below_drewN | apply below_drew1) | exact HB.out)) hb)
        clear HO_4
        clear HB
        have HO_4 := n0_
        have HB := n1_
        clear n0_ n1_
        (try clear hb)
        (try clear hb2)
        (try clear hk)
        (try clear hi)
        refine hK.out _ _ ⟨HS0_, HS1_, HS2_, HS3_⟩ (fun hHeld => ?_)
        clear hK K
        refine norm_ (a' := ?_) ?_ ?_
        rotate_left
        ·show Act.put _ (some 28) _ = _
         simp only [Act.put, List.setIfInBounds_toArray, List.set_cons_zero, List.set_cons_succ, i64_w, i32_w]
         rfl
        refine one_ (i := 15) (N := some 34) #[true, true, true, true, true, true, true, true, true, true, true, true, true, true, true, true, false, false, false, false, false, false] rfl rfl (one_of HT_.out (by kernel_rfl)) (by decide) (fun K hK => ?_)
        refine goes_ Tryz.func47 (by kernel_rfl) rfl #[.string ((rd_T25 x4_1 x16_1).f1)] (by rfl) rfl rfl (by (try simp only [List.map_toArray, List.map_cons, List.map_nil]); first | done | rfl | (simp only [List.length_drop, List.length_take]; rfl)) ?_
        with_reducible refine (dn_Fold.calls ((rd_T25 x4_1 x16_1).f1) t148 _ A10.out).mono ?_
        rintro e w22 ⟨rfl, hb⟩
        have HS0_ := (hb.cell (World.block_lt_of_cell? _ _ (hHeld.1))).trans (hHeld.1)
        have HS1_ := (hb.cell (World.block_lt_of_cell? _ _ (hHeld.2.1))).trans (hHeld.2.1)
        have HS2_ := (hb.cell (World.block_lt_of_cell? _ _ (hHeld.2.2.1))).trans (hHeld.2.2.1)
        have HS3_ := (hb.cell (World.block_lt_of_cell? _ _ (hHeld.2.2.2))).trans (hHeld.2.2.2)
        refine ⟨_, rfl, ?_⟩
        have n0_ := Aside0.mk (Kd.R_below (by (with_reducible repeat (first | apply Kd.R_alloc | apply Kd.R_drewN | apply Kd.R_drew)); exact HO_4.out) hb)
        have n1_ := Aside0.mk (below_step (by repeat (first | (with_reducible first | exact HB.out | apply below_alloc | apply pw_below_drewN | apply below_drew1) | exact HB.out)) hb)
        clear HO_4
        clear HB
        have HO_4 := n0_
        have HB := n1_
        clear n0_ n1_
        (try clear hb)
        (try clear hb2)
        (try clear hk)
        (try clear hi)
        have p11 : 0 ≤ (x16_1 : Int) := of_decide_eq_true (by first | (with_reducible assumption) | assumption)
        have q11 : (x16_1 : Int) < ((x4_1.length : Int) : Int) := of_decide_eq_true (by first | (with_reducible assumption) | assumption)
        obtain ⟨go11, co11, eo11, gb11, gl11, cl11, HG11⟩ := Kd.R_form HO_4.out (by omega)
        (first | cases eo11 | (injection eo11 with ea_ en_ ec_; (first | subst ea_ | (injection ea_ with ea_; subst ea_)); subst ec_; clear en_))
        have GB11 := Aside0.mk gb11
        have GG11 := Aside0.mk HG11
        clear gb11 gl11 HG11
        (first | simp only [add_plain] at hx145_0 | skip)
        (first | simp only [add_plain] at hx145_1 | skip)
        (first | simp only [add_plain] at hx147_0 | skip)
        (first | simp only [add_plain] at hx147_1 | skip)
        obtain ⟨ce11, hcl11, hM11, hcc11, hfr11⟩ := Kd.R_elem HO_4.out z25 (x16_1 : Int) p11 q11
        obtain rfl := k25_openM hM11
        have hx11_0 : World.cell? _ ⟨go11, (x16_1 : Int).toNat * 2, none⟩ = some (.string ((rd_T25 x4_1 x16_1).f0)) := hcc11 0 _ rfl
        have hx11_1 : World.cell? _ ⟨go11, (x16_1 : Int).toNat * 2 + 1, none⟩ = some (.string ((rd_T25 x4_1 x16_1).f1)) := hcc11 1 _ rfl
        have hf11_0 : World.frozen? _ ⟨go11, (x16_1 : Int).toNat * 2, none⟩ = false := hfr11 0
        have hf11_1 : World.frozen? _ ⟨go11, (x16_1 : Int).toNat * 2 + 1, none⟩ = false := hfr11 1
        clear hcl11 hcc11 hfr11 hM11
        replace p11 := eq_true p11
        replace q11 := eq_true q11
        obtain ⟨ce23, hcl23, hM23, hcc23, hfr23⟩ := Kd.R_elem HO_4.out z25 (x16_1 : Int) (of_decide_eq_true (by first | (with_reducible assumption) | assumption)) (by have h_ : (x16_1 : Int) < ((x4_1.length : Int) : Int) := of_decide_eq_true (by first | (with_reducible assumption) | assumption); first | exact h_ | (have e_ := (Kd.R_reads' HO_4.out).1; omega) | simpa using h_)
        obtain rfl := k25_openM hM23
        have HP23 := (Kd.R_seg HO_4.out (x16_1 : Int) (of_decide_eq_true (by first | (with_reducible assumption) | assumption)) (by have h_ : (x16_1 : Int) < ((x4_1.length : Int) : Int) := of_decide_eq_true (by first | (with_reducible assumption) | assumption); first | exact h_ | (have e_ := (Kd.R_reads' HO_4.out).1; omega) | simpa using h_) (seg := [.string t146]) (j := 0) hcl23 hcc23 (show 1 ≤ 2 from by decide) (x' := (⟨t146, (rd_T25 x4_1 x16_1).f1⟩ : S25)) (k25_mkM _ _ _ (⟨t146, (rd_T25 x4_1 x16_1).f1⟩ : S25) ) (fun _ hk => hk)).1
        rw [← Ny149.out] at HP23
        have HQ23 := Aside0.mk HP23
        clear hcl23 hcc23 hfr23 hM23 HP23
        have p12 : 0 ≤ (x16_1 : Int) := of_decide_eq_true (by first | (with_reducible assumption) | assumption)
        have q12 : (x16_1 : Int) < ((x4_1.length : Int) : Int) := of_decide_eq_true (by first | (with_reducible assumption) | assumption)
        replace p12 := eq_true p12
        replace q12 := eq_true q12
        obtain ⟨ce24, hcl24, hM24, hcc24, hfr24⟩ := Kd.R_elem HQ23.out z25 (x16_1 : Int) (of_decide_eq_true (by first | (with_reducible assumption) | assumption)) (by have h_ : (x16_1 : Int) < ((x4_1.length : Int) : Int) := of_decide_eq_true (by first | (with_reducible assumption) | assumption); first | exact h_ | (have e_ := (Kd.R_reads' HO_4.out).1; omega) | simpa using h_)
        obtain rfl := k25_openM hM24
        have HP24 := (Kd.R_seg HQ23.out (x16_1 : Int) (of_decide_eq_true (by first | (with_reducible assumption) | assumption)) (by have h_ : (x16_1 : Int) < ((x4_1.length : Int) : Int) := of_decide_eq_true (by first | (with_reducible assumption) | assumption); first | exact h_ | (have e_ := (Kd.R_reads' HO_4.out).1; omega) | simpa using h_) (seg := [.string t148]) (j := 1) hcl24 hcc24 (show 2 ≤ 2 from by decide) (x' := (⟨(rd_T25 y149 x16_1).f0, t148⟩ : S25)) (k25_mkM _ _ _ (⟨(rd_T25 y149 x16_1).f0, t148⟩ : S25) ) (fun _ hk => hk)).1
        rw [← Ny150.out] at HP24
        have HQ24 := Aside0.mk HP24
        clear hcl24 hcc24 hfr24 hM24 HP24
        refine hK.out _ _ ⟨HS0_, HS1_, HS2_, HS3_⟩ (fun hHeld => ?_)
        clear hK K
        refine norm_ (a' := ?_) ?_ ?_
        rotate_left
        ·show Act.put _ (some 34) _ = _
         simp only [Act.put, List.setIfInBounds_toArray, List.set_cons_zero, List.set_cons_succ, i64_w, i32_w]
         rfl
        refine pure_ (i := 16) (N := some 35) (v := ?_) (a' := ?_) #[true, true, true, true, true, true, true, true, true, true, true, true, true, true, true, true, true, false, false, false, false, false] rfl rfl (any_of HT_.out (by kernel_rfl)) (fun _ _ _ h => h) (Or.inl ⟨by rfl, ?_⟩) ?_ ?_
        rotate_left
        ·intro w'
         go_simp
         with_reducible rfl
        rotate_left
        ·simp only [Act.put, List.setIfInBounds_toArray, List.set_cons_zero, List.set_cons_succ, i64_w, i32_w]
         rfl
        refine pure_ (i := 17) (N := some 36) (v := ?_) (a' := ?_) #[true, true, true, true, true, true, true, true, true, true, true, true, true, true, true, true, true, true, false, false, false, false] rfl rfl (any_of HT_.out (by kernel_rfl)) (fun _ _ _ h => h) (Or.inl ⟨by rfl, ?_⟩) ?_ ?_
        rotate_left
        ·intro w'
         go_simp
         with_reducible rfl
        rotate_left
        ·simp only [Act.put, List.setIfInBounds_toArray, List.set_cons_zero, List.set_cons_succ, i64_w, i32_w]
         rfl
        refine last_ (i := 18) (N := none) #[true, true, true, true, true, true, true, true, true, true, true, true, true, true, true, true, true, true, true, false, false, false] rfl rfl (one_of HT_.out (by kernel_rfl)) (by decide) (fun K hK => ?_)
        refine skip_ (w1 := ?_) (by rfl) rfl ?_ ?_
        rotate_left
        ·go_simp
         rfl
        refine hK.out _ _ ?_
        clear hK K
        refine pure_ (i := 19) (N := some 37) (v := ?_) (a' := ?_) #[true, true, true, true, true, true, true, true, true, true, true, true, true, true, true, true, true, true, true, true, false, false] rfl rfl (any_of HT_.out (by kernel_rfl)) (fun _ _ _ h => h) (Or.inl ⟨by rfl, ?_⟩) ?_ ?_
        rotate_left
        ·intro w'
         go_simp
         with_reducible rfl
        rotate_left
        ·simp only [Act.put, List.setIfInBounds_toArray, List.set_cons_zero, List.set_cons_succ, i64_w, i32_w]
         rfl
        refine pure_ (i := 20) (N := some 38) (v := ?_) (a' := ?_) #[true, true, true, true, true, true, true, true, true, true, true, true, true, true, true, true, true, true, true, true, true, false] rfl rfl (any_of HT_.out (by kernel_rfl)) (fun _ _ _ h => h) (Or.inl ⟨by rfl, ?_⟩) ?_ ?_
        rotate_left
        ·intro w'
         go_simp
         with_reducible rfl
        rotate_left
        ·simp only [Act.put, List.setIfInBounds_toArray, List.set_cons_zero, List.set_cons_succ, i64_w, i32_w]
         rfl
        refine last_ (i := 21) (N := none) #[true, true, true, true, true, true, true, true, true, true, true, true, true, true, true, true, true, true, true, true, true, true] rfl rfl (one_of HT_.out (by kernel_rfl)) (by decide) (fun K hK => ?_)
        refine skip_ (w1 := ?_) (by rfl) rfl ?_ ?_
        rotate_left
        ·go_simp
         rfl
        refine hK.out _ _ ?_
        clear hK K
        refine done_ (done_of HT_.out (by kernel_rfl)) ?_
        have p13 : 0 ≤ (x16_1 : Int) := of_decide_eq_true (by first | (with_reducible assumption) | assumption)
        have q13 : (x16_1 : Int) < ((x4_1.length : Int) : Int) := of_decide_eq_true (by first | (with_reducible assumption) | assumption)
        replace p13 := eq_true p13
        replace q13 := eq_true q13
        try go_wp2
        (try simp only [← hl4_1])
        go_roundg k1
        case measure => have := HK1.out; omega
        case rel => exact ⟨(y150), (wrap64 (x16_1 + 1)), (by first | rfl | (simp; done) | (simp [*]; done) | (simp [u8_w, i64_w]; done) | (simp [isEmpty_bne]; done)), H', ⟨by have := HK1.out; omega⟩, ⟨by (try simp only [hl4_1]); (with_reducible repeat (first | apply Kd.R_alloc | apply Kd.R_drewN | apply Kd.R_drew)); exact HQ24.out⟩, ⟨by repeat (first | (with_reducible first | exact HB.out | apply below_alloc | apply pw_below_drewN | apply below_drew1 | refine below_set ?_ GB11.out | refine below_set ?_ GB11.out) | exact HB.out)⟩⟩
      ·rw [if_neg c8] at H
       exact absurd H (by simp)
     ·rw [if_neg c7] at H
      exact absurd H (by simp)
    ·rw [if_neg c6] at H
     have c6b0 : decide (x16_1 < (t140.length : Int)) = false := decide_eq_false c6
     (try (have c6b9 := c6b0; rw [hl4_1] at c6b9))
     clear c6
     replace H := Option.bind_eq_some_iff.mp H
     obtain ⟨t144, A250, H⟩ := H
     replace H : (some (t144, true)) = some (r1, r2) := H
     have A25 := Aside0.mk A250
     clear A250
     simp only [Option.some.injEq, Prod.mk.injEq] at H
     obtain ⟨rfl, rfl⟩ := H
     go_wp2_with (first | ((with_reducible refine gate_callee (f := 48) rfl ?_); refine goesL_ (some 47) rfl rfl Tryz.func48 (by kernel_rfl) rfl #[.slice Ao5 x4_1.length co5] rfl (by (try simp only [List.map_toArray, List.map_cons, List.map_nil]); first | done | rfl | (simp only [List.length_drop, List.length_take]; rfl)) ?_; (with_reducible refine (dn_Text.calls _ _ x4_1 t144 _ ?side1 ?side2 A25.out).mono ?_); (case side1 => repeat (first | exact (Kd.R_reads' HO_4.out).2.2 | (with_reducible refine Kd.C_alloc ?_ _) | (with_reducible refine Kd.C_drewN ?_ _) | (with_reducible refine Kd.C_drew ?_))); (case side2 => exact (Kd.R_reads' HO_4.out).2.1); rintro e w26 ⟨rfl, hb⟩; refine ⟨_, rfl, ?_⟩; have n0_ := Aside0.mk (Kd.R_below (by (with_reducible repeat (first | apply Kd.R_alloc | apply Kd.R_drewN | apply Kd.R_drew)); exact HO_4.out) hb); have n1_ := Aside0.mk (below_step (by repeat (first | (with_reducible first | exact HB.out | apply below_alloc | apply pw_below_drewN | apply below_drew1) | exact HB.out)) hb); clear HO_4; clear HB; have HO_4 := n0_; have HB := n1_; clear n0_ n1_; (try clear hb); (try clear hb2); (try clear hk); (try clear hi)))
     go_ret2
     exact ⟨by first | rfl | (simp [errW_none, errW_some] <;> rfl) | (simp [*, errW_none, errW_some] <;> rfl), by repeat (first | (with_reducible first | exact HB.out | apply below_alloc | apply pw_below_drewN | apply below_drew1) | exact HB.out)⟩
 ·replace c3 := Bool.eq_false_iff.mpr c3
  subst c3
  have H1 : (some ((⟨#[]⟩ : ByteArray), false)) = some (r1, r2) := by rw [if_neg (show ¬ (false = true) by decide)] at H; exact H
  clear H
  have H := H1
  clear H1
  simp only [Option.some.injEq, Prod.mk.injEq] at H
  obtain ⟨rfl, rfl⟩ := H
  go_enter Tryz.func26, Tryz.ntmps26
  go_wp2_with (first | ((with_reducible refine gate_callee (f := 45) rfl ?_); refine goesL_ (some 9) rfl rfl Tryz.func45 (by kernel_rfl) rfl #[.string a0] rfl (by (try simp only [List.map_toArray, List.map_cons, List.map_nil]); first | done | rfl | (simp only [List.length_drop, List.length_take]; rfl)) ?_; (with_reducible refine (dn_Parse.calls k a0 t140 false _ A2.out).mono ?_); rintro e w27 ⟨v142, rfl, ho0, hb⟩; refine ⟨_, rfl, ?_⟩; have n0_ := Aside0.mk (Kd.R_lower ho0 (below_size (by repeat (first | (with_reducible first | exact HB.out | apply below_alloc | apply pw_below_drewN | apply below_drew1) | exact HB.out)))); have n1_ := Aside0.mk (below_step (by repeat (first | (with_reducible first | exact HB.out | apply below_alloc | apply pw_below_drewN | apply below_drew1) | exact HB.out)) hb); clear HB; have HO143 := n0_; have HB := n1_; clear n0_ n1_; (try clear hb); (try clear hb2); (try clear hk); (try clear hi); (try clear ho0)))
  go_ret2
  exact ⟨by first | rfl | (simp [errW_none, errW_some] <;> rfl) | (simp [*, errW_none, errW_some] <;> rfl), by repeat (first | (with_reducible first | exact HB.out | apply below_alloc | apply pw_below_drewN | apply below_drew1) | exact HB.out)⟩
end Go.Proofs.YtflkghdndffacaaGreatDoor.PD
namespace Go.Proofs.YtflkghdndffacaaGreatDoor.PD
open Go.RowKit Go.Proofs.YtflkghdndffacaaGreatDoor.H Go.Proofs.YtflkghdndffacaaGreatDoorW.PrintWords Go.Proofs.YtflkghdndffacaaGreatDoorW.PrintLast Go.Proofs.YtflkghdndffacaaGreatDoorW.PrintMore
attribute [local go_sem] max2_int min2_int max_two min_two max_three min_three max_four min_four
set_option linter.unusedVariables false
set_option linter.unusedSimpArgs false
def brookref1_letter.f (a0 : Int) : Option (Bool) := if a0 ≥ 97 then (if a0 ≤ 122 then (some true) else (if a0 ≥ 65 then (some (decide (a0 ≤ 90))) else (some false))) else (if a0 ≥ 65 then (some (decide (a0 ≤ 90))) else (some false))
set_option maxHeartbeats 8000000 in
set_option maxRecDepth 100000 in
theorem brookref1_letter.calls (a0 : Int) (r : Bool) (w : World) (h : brookref1_letter.f a0 = some r) :
  Calls Tryz.prog 73 #[.int .u8 a0] w fun e w' => e = .returned (.bool r) ∧ Drawn0 w w' := by
 have H : (if a0 ≥ 97 then (if a0 ≤ 122 then (some true) else (if a0 ≥ 65 then (some (decide (a0 ≤ 90))) else (some false))) else (if a0 ≥ 65 then (some (decide (a0 ≤ 90))) else (some false))) = some r := h
 clear h
 by_cases c2 : a0 ≥ 97
 ·rw [if_pos c2] at H
  have c2b0 : decide (97 ≤ a0) = true := decide_eq_true c2
  clear c2
  by_cases c3 : a0 ≤ 122
  ·rw [if_pos c3] at H
   have c3b0 : decide (a0 ≤ 122) = true := decide_eq_true c3
   clear c3
   obtain rfl := Option.some.inj H
   go_enter Tryz.func73, Tryz.ntmps73
   go_wp2
   go_ret
   exact ⟨by first | rfl | (simp; done) | (simp [*]; done) | (simp [u8_w, i64_w]; done) | (simp [isEmpty_bne]; done), by repeat (first | exact Drawn0.refl _ | apply Drawn0.step)⟩
  ·rw [if_neg c3] at H
   have c3b0 : decide (a0 ≤ 122) = false := decide_eq_false c3
   clear c3
   by_cases c4 : a0 ≥ 65
   ·rw [if_pos c4] at H
    have c4b0 : decide (65 ≤ a0) = true := decide_eq_true c4
    clear c4
    obtain rfl := Option.some.inj H
    go_enter Tryz.func73, Tryz.ntmps73
    go_wp2
    go_ret
    exact ⟨by first | rfl | (simp; done) | (simp [*]; done) | (simp [u8_w, i64_w]; done) | (simp [isEmpty_bne]; done), by repeat (first | exact Drawn0.refl _ | apply Drawn0.step)⟩
   ·rw [if_neg c4] at H
    have c4b0 : decide (65 ≤ a0) = false := decide_eq_false c4
    clear c4
    obtain rfl := Option.some.inj H
    go_enter Tryz.func73, Tryz.ntmps73
    go_wp2
    go_ret
    exact ⟨by first | rfl | (simp; done) | (simp [*]; done) | (simp [u8_w, i64_w]; done) | (simp [isEmpty_bne]; done), by repeat (first | exact Drawn0.refl _ | apply Drawn0.step)⟩
 ·rw [if_neg c2] at H
  have c2b0 : decide (97 ≤ a0) = false := decide_eq_false c2
  clear c2
  by_cases c5 : a0 ≥ 65
  ·rw [if_pos c5] at H
   have c5b0 : decide (65 ≤ a0) = true := decide_eq_true c5
   clear c5
   obtain rfl := Option.some.inj H
   go_enter Tryz.func73, Tryz.ntmps73
   go_wp2
   go_ret
   exact ⟨by first | rfl | (simp; done) | (simp [*]; done) | (simp [u8_w, i64_w]; done) | (simp [isEmpty_bne]; done), by repeat (first | exact Drawn0.refl _ | apply Drawn0.step)⟩
  ·rw [if_neg c5] at H
   have c5b0 : decide (65 ≤ a0) = false := decide_eq_false c5
   clear c5
   obtain rfl := Option.some.inj H
   go_enter Tryz.func73, Tryz.ntmps73
   go_wp2
   go_ret
   exact ⟨by first | rfl | (simp; done) | (simp [*]; done) | (simp [u8_w, i64_w]; done) | (simp [isEmpty_bne]; done), by repeat (first | exact Drawn0.refl _ | apply Drawn0.step)⟩
end Go.Proofs.YtflkghdndffacaaGreatDoor.PD
namespace Go.Proofs.YtflkghdndffacaaGreatDoor.PD
open Go.RowKit Go.Proofs.YtflkghdndffacaaGreatDoor.H Go.Proofs.YtflkghdndffacaaGreatDoorW.PrintWords Go.Proofs.YtflkghdndffacaaGreatDoorW.PrintLast Go.Proofs.YtflkghdndffacaaGreatDoorW.PrintMore
attribute [local go_sem] max2_int min2_int max_two min_two max_three min_three max_four min_four
set_option linter.unusedVariables false
set_option linter.unusedSimpArgs false
mutual
def brookref1_MayType.j0 : Nat → ByteArray → Bool → Option (Bool)
 | 0, _, _ => none
 | k + 1, x0, x16 => if x16 = true then (some false) else (brookref1_MayType.l0 k x0 0)
def brookref1_MayType.l0 : Nat → ByteArray → Int → Option (Bool)
 | 0, _, _ => none
 | k + 1, x0, x3 => if x3 < (x0.size : Int) then (if 0 ≤ x3 then ((brookref1_letter.f (bt x0 x3)).bind fun t155 => (if t155 = true then (brookref1_MayType.l0 k x0 (wrap64 (x3 + 1))) else (if (bt x0 x3) < 48 then (if (bt x0 x3) = 45 then (brookref1_MayType.l0 k x0 (wrap64 (x3 + 1))) else (some false)) else (if (bt x0 x3) > 57 then (if (bt x0 x3) = 45 then (brookref1_MayType.l0 k x0 (wrap64 (x3 + 1))) else (some false)) else (brookref1_MayType.l0 k x0 (wrap64 (x3 + 1))))))) else (none)) else (some true)
end
def brookref1_MayType.f (k : Nat) (a0 : ByteArray) : Option (Bool) := if a0.toList = ([] : List UInt8) then (brookref1_MayType.j0 k a0 true) else (if (a0.size : Int) > 30 then (brookref1_MayType.j0 k a0 true) else (if 0 < (a0.size : Int) then ((brookref1_letter.f (bt a0 0)).bind fun t154 => (brookref1_MayType.j0 k a0 (!t154))) else (none)))
set_option maxHeartbeats 8000000 in
set_option maxRecDepth 100000 in
theorem brookref1_MayType.calls (k : Nat) (a0 : ByteArray) (r : Bool) (w : World) (h : brookref1_MayType.f k a0 = some r) :
  Calls Tryz.prog 58 #[.string a0] w fun e w' => e = .returned (.bool r) ∧ Drawn0 w w' := by
 have H : (if a0.toList = ([] : List UInt8) then (brookref1_MayType.j0 k a0 true) else (if (a0.size : Int) > 30 then (brookref1_MayType.j0 k a0 true) else (if 0 < (a0.size : Int) then ((brookref1_letter.f (bt a0 0)).bind fun t154 => (brookref1_MayType.j0 k a0 (!t154))) else (none)))) = some r := h
 clear h
 have HC2 := Aside0.mk H
 clear H
 go_enter Tryz.func58, Tryz.ntmps58
 go_upto_region 1 with (fail)
 go_cut [16] (fun v16 wc => ∃ (kq : Nat) (x16_1 : Bool), v16 = .bool x16_1 ∧ Aside0 (brookref1_MayType.j0 kq a0 x16_1 = some r) ∧ Aside0 (kq ≤ k) ∧ Drawn0 w wc)
 case first =>
  have H := HC2.out
  clear HC2
  by_cases c3 : a0.toList = ([] : List UInt8)
  ·rw [if_pos c3] at H
   have c3b0 : (a0.toList == ([] : List UInt8)) = true := beq_iff_eq.mpr c3
   have c3b1 : (a0.toList != ([] : List UInt8)) = false := bne_eq_false_iff_eq.mpr c3
   clear c3
   (first | rw [c3b0] | (simp only [i64_w, i32_w]; rw [c3b0]) | skip)
   have H' := Aside0.mk H
   clear H
   go_wp2
   go_meet
   case rel => exact ⟨_, (true), (by first | rfl | (simp; done) | (simp [*]; done) | (simp [u8_w, i64_w]; done) | (simp [isEmpty_bne]; done)), H', ⟨by first | omega | exact Nat.le_refl _⟩, by repeat (first | exact Drawn0.refl _ | apply Drawn0.step)⟩
  ·rw [if_neg c3] at H
   have c3b0 : (a0.toList == ([] : List UInt8)) = false := beq_eq_false_iff_ne.mpr c3
   have c3b1 : (a0.toList != ([] : List UInt8)) = true := bne_iff_ne.mpr c3
   (first | rw [c3b0] | (simp only [i64_w, i32_w]; rw [c3b0]) | skip)
   by_cases c4 : (a0.size : Int) > 30
   ·rw [if_pos c4] at H
    have c4b0 : decide (30 < (a0.size : Int)) = true := decide_eq_true c4
    have c4b1 : decide (30 < a0.size) = true := decide_eq_true (by omega)
    clear c4
    have H' := Aside0.mk H
    clear H
    go_wp2
    go_meet
    case rel => exact ⟨_, (true), (by first | rfl | (simp; done) | (simp [*]; done) | (simp [u8_w, i64_w]; done) | (simp [isEmpty_bne]; done)), H', ⟨by first | omega | exact Nat.le_refl _⟩, by repeat (first | exact Drawn0.refl _ | apply Drawn0.step)⟩
   ·rw [if_neg c4] at H
    have c4b0 : decide (30 < (a0.size : Int)) = false := decide_eq_false c4
    have c4b1 : decide (30 < a0.size) = false := decide_eq_false (by omega)
    clear c4
    by_cases c5 : 0 < (a0.size : Int)
    ·rw [if_pos c5] at H
     have c5b0 : decide (0 < (a0.size : Int)) = true := decide_eq_true c5
     have c5b1 : decide (0 < a0.size) = true := decide_eq_true (by omega)
     clear c5
     replace H := Option.bind_eq_some_iff.mp H
     obtain ⟨t154, A70, H⟩ := H
     replace H : (brookref1_MayType.j0 k a0 (!t154)) = some r := H
     have A7 := Aside0.mk A70
     clear A70
     have H' := Aside0.mk H
     clear H
     have p6 : 0 ≤ (0 : Int) := (by omega)
     have q6 : 0 < a0.size := (by have : (0 : Int) < (a0.size : Int) := of_decide_eq_true (by first | (with_reducible assumption) | assumption); omega)
     have hx6 : ∀ h : 0 < a0.size, ((a0[0]'h).toNat : Int) = bt a0 0 := bt_at a0 0
     clear p6
     have qi6 : (0 < (a0.size : Int)) = True := eq_true (of_decide_eq_true (by first | (with_reducible assumption) | assumption))
     replace q6 := eq_true q6
     go_wp2_with (first | (go_at_call 73; (with_reducible refine (brookref1_letter.calls (bt a0 0) t154 _ A7.out).mono ?_); rintro e w' ⟨rfl, ⟨nd, rfl⟩⟩))
     go_meet
     case rel => exact ⟨_, (!t154), (by first | rfl | (simp; done) | (simp [*]; done) | (simp [u8_w, i64_w]; done) | (simp [isEmpty_bne]; done)), H', ⟨by first | omega | exact Nat.le_refl _⟩, by repeat (first | exact Drawn0.refl _ | apply Drawn0.step)⟩
    ·rw [if_neg c5] at H
     exact absurd H (by simp)
 case rest =>
  clear HC2
  try clear p2
  try clear c3
  try clear c3b0
  try clear c3b1
  try clear c4
  try clear c4b0
  try clear c4b1
  try clear c5
  try clear c5b0
  try clear c5b1
  try clear p6
  try clear q6
  try clear hx6
  try clear qi6
  try clear p6
  try clear q6
  obtain ⟨kq, x16_1, rfl, HA, HJ1, ⟨mc1, rfl⟩⟩ := hcut
  cases kq with
  | zero => exact absurd HA.out (by simp [brookref1_MayType.j0])
  | succ kj1 =>
   have H := HA.out
   clear HA
   simp only [brookref1_MayType.j0] at H
   by_cases c8 : x16_1 = true
   ·subst c8
    have H1 : (some false) = some r := by rw [if_pos rfl] at H; exact H
    clear H
    have H := H1
    clear H1
    obtain rfl := Option.some.inj H
    go_wp2
    go_ret
    exact ⟨by first | rfl | (simp; done) | (simp [*]; done) | (simp [u8_w, i64_w]; done) | (simp [isEmpty_bne]; done), by repeat (first | exact Drawn0.refl _ | apply Drawn0.step)⟩
   ·replace c8 := Bool.eq_false_iff.mpr c8
    subst c8
    have H1 : (brookref1_MayType.l0 kj1 a0 0) = some r := by rw [if_neg (show ¬ (false = true) by decide)] at H; exact H
    clear H
    have H := H1
    clear H1
    have H' := Aside0.mk H
    clear H
    go_wp2
    go_loopg [3] kj1 (fun kq v3 w' => ∃ (x3_2 : Int), v3 = .int .i64 x3_2 ∧ Aside0 (brookref1_MayType.l0 kq a0 x3_2 = some r) ∧ Aside0 (kq ≤ kj1) ∧ Drawn0 w w')
    case atStart => exact ⟨(0), (by first | rfl | (simp; done) | (simp [*]; done) | (simp [u8_w, i64_w]; done) | (simp [isEmpty_bne]; done)), H', ⟨Nat.le_refl _⟩, by repeat (first | exact Drawn0.refl _ | apply Drawn0.step)⟩
    case round =>
     clear H'
     try clear c1
     try clear p2
     try clear c3
     try clear c3b0
     try clear c3b1
     try clear c4
     try clear c4b0
     try clear c4b1
     try clear c5
     try clear c5b0
     try clear c5b1
     try clear p6
     try clear q6
     try clear hx6
     try clear qi6
     try clear c8
     try clear p2
     try clear p6
     try clear q6
     obtain ⟨x3_2, rfl, HA, HK2, ⟨m2, rfl⟩⟩ := hrel
     cases gk with
     | zero => exact absurd HA.out (by simp [brookref1_MayType.l0])
     | succ k2 =>
      have H := HA.out
      clear HA
      simp only [brookref1_MayType.l0] at H
      by_cases c9 : x3_2 < (a0.size : Int)
      ·rw [if_pos c9] at H
       have c9b0 : decide (x3_2 < (a0.size : Int)) = true := decide_eq_true c9
       clear c9
       by_cases c10 : 0 ≤ x3_2
       ·rw [if_pos c10] at H
        have c10b0 : decide (0 ≤ x3_2) = true := decide_eq_true c10
        clear c10
        replace H := Option.bind_eq_some_iff.mp H
        obtain ⟨t155, A120, H⟩ := H
        replace H : (if t155 = true then (brookref1_MayType.l0 k2 a0 (wrap64 (x3_2 + 1))) else (if (bt a0 x3_2) < 48 then (if (bt a0 x3_2) = 45 then (brookref1_MayType.l0 k2 a0 (wrap64 (x3_2 + 1))) else (some false)) else (if (bt a0 x3_2) > 57 then (if (bt a0 x3_2) = 45 then (brookref1_MayType.l0 k2 a0 (wrap64 (x3_2 + 1))) else (some false)) else (brookref1_MayType.l0 k2 a0 (wrap64 (x3_2 + 1)))))) = some r := H
        have A12 := Aside0.mk A120
        clear A120
        by_cases c13 : t155 = true
        ·subst c13
         have H1 : (brookref1_MayType.l0 k2 a0 (wrap64 (x3_2 + 1))) = some r := by rw [if_pos rfl] at H; exact H
         clear H
         have H := H1
         clear H1
         have H' := Aside0.mk H
         clear H
         have p11 : 0 ≤ (x3_2 : Int) := of_decide_eq_true (by first | (with_reducible assumption) | assumption)
         have q11 : x3_2 < (a0.size : Int) := of_decide_eq_true (by first | (with_reducible assumption) | assumption)
         have hx11 := bt_at a0 x3_2
         replace p11 := eq_true p11
         replace q11 := eq_true q11
         go_wp2_with (first | ((with_reducible refine gate_callee (f := 73) rfl ?_); refine goesL_ (some 26) rfl rfl Tryz.func73 (by kernel_rfl) rfl #[.int .u8 (bt a0 x3_2)] rfl (by (try simp only [List.map_toArray, List.map_cons, List.map_nil]); first | done | rfl | (simp only [List.length_drop, List.length_take]; rfl)) ?_; (with_reducible refine (brookref1_letter.calls (bt a0 x3_2) true _ A12.out).mono ?_); rintro e w' ⟨rfl, ⟨nd, rfl⟩⟩; refine ⟨_, rfl, ?_⟩))
         go_roundg k2
         case measure => have := HJ1.out; have := HK2.out; omega
         case rel => exact ⟨(wrap64 (x3_2 + 1)), (by first | rfl | (simp; done) | (simp [*]; done) | (simp [u8_w, i64_w]; done) | (simp [isEmpty_bne]; done)), H', ⟨by have := HJ1.out; have := HK2.out; omega⟩, by repeat (first | exact Drawn0.refl _ | apply Drawn0.step)⟩
        ·replace c13 := Bool.eq_false_iff.mpr c13
         subst c13
         have H1 : (if (bt a0 x3_2) < 48 then (if (bt a0 x3_2) = 45 then (brookref1_MayType.l0 k2 a0 (wrap64 (x3_2 + 1))) else (some false)) else (if (bt a0 x3_2) > 57 then (if (bt a0 x3_2) = 45 then (brookref1_MayType.l0 k2 a0 (wrap64 (x3_2 + 1))) else (some false)) else (brookref1_MayType.l0 k2 a0 (wrap64 (x3_2 + 1))))) = some r := by rw [if_neg (show ¬ (false = true) by decide)] at H; exact H
         clear H
         have H := H1
         clear H1
         by_cases c15 : (bt a0 x3_2) < 48
         ·rw [if_pos c15] at H
          have c15b0 : decide ((bt a0 x3_2) < 48) = true := decide_eq_true c15
          clear c15
          by_cases c17 : (bt a0 x3_2) = 45
          ·rw [if_pos c17] at H
           have c17b0 : ((bt a0 x3_2) == 45) = true := beq_iff_eq.mpr c17
           have c17b1 : ((bt a0 x3_2) != 45) = false := bne_eq_false_iff_eq.mpr c17
           clear c17
           have H' := Aside0.mk H
           clear H
           have p11 : 0 ≤ (x3_2 : Int) := of_decide_eq_true (by first | (with_reducible assumption) | assumption)
           have q11 : x3_2 < (a0.size : Int) := of_decide_eq_true (by first | (with_reducible assumption) | assumption)
           have hx11 := bt_at a0 x3_2
           replace p11 := eq_true p11
           replace q11 := eq_true q11
           go_wp2_with (first | ((with_reducible refine gate_callee (f := 73) rfl ?_); refine goesL_ (some 26) rfl rfl Tryz.func73 (by kernel_rfl) rfl #[.int .u8 (bt a0 x3_2)] rfl (by (try simp only [List.map_toArray, List.map_cons, List.map_nil]); first | done | rfl | (simp only [List.length_drop, List.length_take]; rfl)) ?_; (with_reducible refine (brookref1_letter.calls (bt a0 x3_2) false _ A12.out).mono ?_); rintro e w' ⟨rfl, ⟨nd, rfl⟩⟩; refine ⟨_, rfl, ?_⟩; have p14 : 0 ≤ (x3_2 : Int) := of_decide_eq_true (by first | (with_reducible assumption) | assumption); have q14 : x3_2 < (a0.size : Int) := of_decide_eq_true (by first | (with_reducible assumption) | assumption); have hx14 := bt_at a0 x3_2; replace p14 := eq_true p14; replace q14 := eq_true q14; have p16 : 0 ≤ (x3_2 : Int) := of_decide_eq_true (by first | (with_reducible assumption) | assumption); have q16 : x3_2 < (a0.size : Int) := of_decide_eq_true (by first | (with_reducible assumption) | assumption); have hx16 := bt_at a0 x3_2; replace p16 := eq_true p16; replace q16 := eq_true q16))
           go_roundg k2
           case measure => have := HJ1.out; have := HK2.out; omega
           case rel => exact ⟨(wrap64 (x3_2 + 1)), (by first | rfl | (simp; done) | (simp [*]; done) | (simp [u8_w, i64_w]; done) | (simp [isEmpty_bne]; done)), H', ⟨by have := HJ1.out; have := HK2.out; omega⟩, by repeat (first | exact Drawn0.refl _ | apply Drawn0.step)⟩
          ·rw [if_neg c17] at H
           have c17b0 : ((bt a0 x3_2) == 45) = false := beq_eq_false_iff_ne.mpr c17
           have c17b1 : ((bt a0 x3_2) != 45) = true := bne_iff_ne.mpr c17
           obtain rfl := Option.some.inj H
           have p11 : 0 ≤ (x3_2 : Int) := of_decide_eq_true (by first | (with_reducible assumption) | assumption)
           have q11 : x3_2 < (a0.size : Int) := of_decide_eq_true (by first | (with_reducible assumption) | assumption)
           have hx11 := bt_at a0 x3_2
           replace p11 := eq_true p11
           replace q11 := eq_true q11
           go_wp2_with (first | ((with_reducible refine gate_callee (f := 73) rfl ?_); refine goesL_ (some 26) rfl rfl Tryz.func73 (by kernel_rfl) rfl #[.int .u8 (bt a0 x3_2)] rfl (by (try simp only [List.map_toArray, List.map_cons, List.map_nil]); first | done | rfl | (simp only [List.length_drop, List.length_take]; rfl)) ?_; (with_reducible refine (brookref1_letter.calls (bt a0 x3_2) false _ A12.out).mono ?_); rintro e w' ⟨rfl, ⟨nd, rfl⟩⟩; refine ⟨_, rfl, ?_⟩; have p14 : 0 ≤ (x3_2 : Int) := of_decide_eq_true (by first | (with_reducible assumption) | assumption); have q14 : x3_2 < (a0.size : Int) := of_decide_eq_true (by first | (with_reducible assumption) | assumption); have hx14 := bt_at a0 x3_2; replace p14 := eq_true p14; replace q14 := eq_true q14; have p16 : 0 ≤ (x3_2 : Int) := of_decide_eq_true (by first | (with_reducible assumption) | assumption); have q16 : x3_2 < (a0.size : Int) := of_decide_eq_true (by first | (with_reducible assumption) | assumption); have hx16 := bt_at a0 x3_2; replace p16 := eq_true p16; replace q16 := eq_true q16))
           go_ret
           exact ⟨by first | rfl | (simp; done) | (simp [*]; done) | (simp [u8_w, i64_w]; done) | (simp [isEmpty_bne]; done), by repeat (first | exact Drawn0.refl _ | apply Drawn0.step)⟩
         ·rw [if_neg c15] at H
          have c15b0 : decide ((bt a0 x3_2) < 48) = false := decide_eq_false c15
          clear c15
          by_cases c19 : (bt a0 x3_2) > 57
          ·rw [if_pos c19] at H
           have c19b0 : decide (57 < (bt a0 x3_2)) = true := decide_eq_true c19
           clear c19
           by_cases c21 : (bt a0 x3_2) = 45
           ·rw [if_pos c21] at H
            have c21b0 : ((bt a0 x3_2) == 45) = true := beq_iff_eq.mpr c21
            have c21b1 : ((bt a0 x3_2) != 45) = false := bne_eq_false_iff_eq.mpr c21
            clear c21
            have H' := Aside0.mk H
            clear H
            have p11 : 0 ≤ (x3_2 : Int) := of_decide_eq_true (by first | (with_reducible assumption) | assumption)
            have q11 : x3_2 < (a0.size : Int) := of_decide_eq_true (by first | (with_reducible assumption) | assumption)
            have hx11 := bt_at a0 x3_2
            replace p11 := eq_true p11
            replace q11 := eq_true q11
            go_wp2_with (first | ((with_reducible refine gate_callee (f := 73) rfl ?_); refine goesL_ (some 26) rfl rfl Tryz.func73 (by kernel_rfl) rfl #[.int .u8 (bt a0 x3_2)] rfl (by (try simp only [List.map_toArray, List.map_cons, List.map_nil]); first | done | rfl | (simp only [List.length_drop, List.length_take]; rfl)) ?_; (with_reducible refine (brookref1_letter.calls (bt a0 x3_2) false _ A12.out).mono ?_); rintro e w' ⟨rfl, ⟨nd, rfl⟩⟩; refine ⟨_, rfl, ?_⟩; have p14 : 0 ≤ (x3_2 : Int) := of_decide_eq_true (by first | (with_reducible assumption) | assumption); have q14 : x3_2 < (a0.size : Int) := of_decide_eq_true (by first | (with_reducible assumption) | assumption); have hx14 := bt_at a0 x3_2; replace p14 := eq_true p14; replace q14 := eq_true q14; have p18 : 0 ≤ (x3_2 : Int) := of_decide_eq_true (by first | (with_reducible assumption) | assumption); have q18 : x3_2 < (a0.size : Int) := of_decide_eq_true (by first | (with_reducible assumption) | assumption); have hx18 := bt_at a0 x3_2; replace p18 := eq_true p18; replace q18 := eq_true q18; have p20 : 0 ≤ (x3_2 : Int) := of_decide_eq_true (by first | (with_reducible assumption) | assumption); have q20 : x3_2 < (a0.size : Int) := of_decide_eq_true (by first | (with_reducible assumption) | assumption); have hx20 := bt_at a0 x3_2; replace p20 := eq_true p20; replace q20 := eq_true q20))
            go_roundg k2
            case measure => have := HJ1.out; have := HK2.out; omega
            case rel => exact ⟨(wrap64 (x3_2 + 1)), (by first | rfl | (simp; done) | (simp [*]; done) | (simp [u8_w, i64_w]; done) | (simp [isEmpty_bne]; done)), H', ⟨by have := HJ1.out; have := HK2.out; omega⟩, by repeat (first | exact Drawn0.refl _ | apply Drawn0.step)⟩
           ·rw [if_neg c21] at H
            have c21b0 : ((bt a0 x3_2) == 45) = false := beq_eq_false_iff_ne.mpr c21
            have c21b1 : ((bt a0 x3_2) != 45) = true := bne_iff_ne.mpr c21
            obtain rfl := Option.some.inj H
            have p11 : 0 ≤ (x3_2 : Int) := of_decide_eq_true (by first | (with_reducible assumption) | assumption)
            have q11 : x3_2 < (a0.size : Int) := of_decide_eq_true (by first | (with_reducible assumption) | assumption)
            have hx11 := bt_at a0 x3_2
            replace p11 := eq_true p11
            replace q11 := eq_true q11
            go_wp2_with (first | ((with_reducible refine gate_callee (f := 73) rfl ?_); refine goesL_ (some 26) rfl rfl Tryz.func73 (by kernel_rfl) rfl #[.int .u8 (bt a0 x3_2)] rfl (by (try simp only [List.map_toArray, List.map_cons, List.map_nil]); first | done | rfl | (simp only [List.length_drop, List.length_take]; rfl)) ?_; (with_reducible refine (brookref1_letter.calls (bt a0 x3_2) false _ A12.out).mono ?_); rintro e w' ⟨rfl, ⟨nd, rfl⟩⟩; refine ⟨_, rfl, ?_⟩; have p14 : 0 ≤ (x3_2 : Int) := of_decide_eq_true (by first | (with_reducible assumption) | assumption); have q14 : x3_2 < (a0.size : Int) := of_decide_eq_true (by first | (with_reducible assumption) | assumption); have hx14 := bt_at a0 x3_2; replace p14 := eq_true p14; replace q14 := eq_true q14; have p18 : 0 ≤ (x3_2 : Int) := of_decide_eq_true (by first | (with_reducible assumption) | assumption); have q18 : x3_2 < (a0.size : Int) := of_decide_eq_true (by first | (with_reducible assumption) | assumption); have hx18 := bt_at a0 x3_2; replace p18 := eq_true p18; replace q18 := eq_true q18; have p20 : 0 ≤ (x3_2 : Int) := of_decide_eq_true (by first | (with_reducible assumption) | assumption); have q20 : x3_2 < (a0.size : Int) := of_decide_eq_true (by first | (with_reducible assumption) | assumption); have hx20 := bt_at a0 x3_2; replace p20 := eq_true p20; replace q20 := eq_true q20))
            go_ret
            exact ⟨by first | rfl | (simp; done) | (simp [*]; done) | (simp [u8_w, i64_w]; done) | (simp [isEmpty_bne]; done), by repeat (first | exact Drawn0.refl _ | apply Drawn0.step)⟩
          ·rw [if_neg c19] at H
           have c19b0 : decide (57 < (bt a0 x3_2)) = false := decide_eq_false c19
           clear c19
           have H' := Aside0.mk H
           clear H
           have p11 : 0 ≤ (x3_2 : Int) := of_decide_eq_true (by first | (with_reducible assumption) | assumption)
           have q11 : x3_2 < (a0.size : Int) := of_decide_eq_true (by first | (with_reducible assumption) | assumption)
           have hx11 := bt_at a0 x3_2
           replace p11 := eq_true p11
           replace q11 := eq_true q11
           go_wp2_with (first | ((with_reducible refine gate_callee (f := 73) rfl ?_); refine goesL_ (some 26) rfl rfl Tryz.func73 (by kernel_rfl) rfl #[.int .u8 (bt a0 x3_2)] rfl (by (try simp only [List.map_toArray, List.map_cons, List.map_nil]); first | done | rfl | (simp only [List.length_drop, List.length_take]; rfl)) ?_; (with_reducible refine (brookref1_letter.calls (bt a0 x3_2) false _ A12.out).mono ?_); rintro e w' ⟨rfl, ⟨nd, rfl⟩⟩; refine ⟨_, rfl, ?_⟩; have p14 : 0 ≤ (x3_2 : Int) := of_decide_eq_true (by first | (with_reducible assumption) | assumption); have q14 : x3_2 < (a0.size : Int) := of_decide_eq_true (by first | (with_reducible assumption) | assumption); have hx14 := bt_at a0 x3_2; replace p14 := eq_true p14; replace q14 := eq_true q14; have p18 : 0 ≤ (x3_2 : Int) := of_decide_eq_true (by first | (with_reducible assumption) | assumption); have q18 : x3_2 < (a0.size : Int) := of_decide_eq_true (by first | (with_reducible assumption) | assumption); have hx18 := bt_at a0 x3_2; replace p18 := eq_true p18; replace q18 := eq_true q18))
           go_roundg k2
           case measure => have := HJ1.out; have := HK2.out; omega
           case rel => exact ⟨(wrap64 (x3_2 + 1)), (by first | rfl | (simp; done) | (simp [*]; done) | (simp [u8_w, i64_w]; done) | (simp [isEmpty_bne]; done)), H', ⟨by have := HJ1.out; have := HK2.out; omega⟩, by repeat (first | exact Drawn0.refl _ | apply Drawn0.step)⟩
       ·rw [if_neg c10] at H
        exact absurd H (by simp)
      ·rw [if_neg c9] at H
       have c9b0 : decide (x3_2 < (a0.size : Int)) = false := decide_eq_false c9
       clear c9
       obtain rfl := Option.some.inj H
       go_wp2
       go_ret
       exact ⟨by first | rfl | (simp; done) | (simp [*]; done) | (simp [u8_w, i64_w]; done) | (simp [isEmpty_bne]; done), by repeat (first | exact Drawn0.refl _ | apply Drawn0.step)⟩
end Go.Proofs.YtflkghdndffacaaGreatDoor.PD
namespace Go.Proofs.YtflkghdndffacaaGreatDoor.PD
open Go.RowKit Go.Proofs.YtflkghdndffacaaGreatDoor.H Go.Proofs.YtflkghdndffacaaGreatDoorW.PrintWords Go.Proofs.YtflkghdndffacaaGreatDoorW.PrintLast Go.Proofs.YtflkghdndffacaaGreatDoorW.PrintMore
attribute [local go_sem] max2_int min2_int max_two min_two max_three min_three max_four min_four
set_option linter.unusedVariables false
set_option linter.unusedSimpArgs false
def brookref1_MayDn.l0 : Nat → List (S25) → Int → Option (Bool)
 | 0, _, _ => none
 | k + 1, x0, x3 => if x3 < (x0.length : Int) then (if 0 ≤ x3 then ((brookref1_MayType.f k ((rd_T25 x0 x3).f0)).bind fun t157 => (if t157 = true then (if ((rd_T25 x0 x3).f1).toList = ([] : List UInt8) then (some false) else (if (((rd_T25 x0 x3).f1).size : Int) > 100 then (some false) else (brookref1_MayDn.l0 k x0 (wrap64 (x3 + 1))))) else (some false))) else (none)) else (some (decide ((x0.length : Int) ≤ 8)))
def brookref1_MayDn.f (k : Nat) (l0 : List (S25)) : Option (Bool) := brookref1_MayDn.l0 k l0 0
set_option maxHeartbeats 8000000 in
set_option maxRecDepth 100000 in
theorem brookref1_MayDn.calls (k : Nat) (A0 : Option Addr) (c0 : Nat) (l0 : List (S25)) (r : Bool) (w : World) (hr0 : Kd.C k25 w A0 l0.length l0) (hc0 : l0.length ≤ c0) (h : brookref1_MayDn.f k l0 = some r) :
  Calls Tryz.prog 43 #[.slice A0 l0.length c0] w fun e w' => e = .returned (.bool r) ∧ Drawn0 w w' := by
 have HR0 := Aside0.mk hr0
 have HC0 := Aside0.mk hc0
 clear hr0 hc0
 have H : (brookref1_MayDn.l0 k l0 0) = some r := h
 clear h
 have H' := Aside0.mk H
 clear H
 go_enter Tryz.func43, Tryz.ntmps43
 go_wp2
 go_loopg [3] k (fun kq v3 w' => ∃ (x3_1 : Int), v3 = .int .i64 x3_1 ∧ Aside0 (brookref1_MayDn.l0 kq l0 x3_1 = some r) ∧ Aside0 (kq ≤ k) ∧ Drawn0 w w')
 case atStart => exact ⟨(0), (by first | rfl | (simp; done) | (simp [*]; done) | (simp [u8_w, i64_w]; done) | (simp [isEmpty_bne]; done)), H', ⟨Nat.le_refl _⟩, by repeat (first | exact Drawn0.refl _ | apply Drawn0.step)⟩
 case round =>
  clear H'
  try clear c1
  obtain ⟨x3_1, rfl, HA, HK1, ⟨m1, rfl⟩⟩ := hrel
  cases gk with
  | zero => exact absurd HA.out (by simp [brookref1_MayDn.l0])
  | succ k1 =>
   have H := HA.out
   clear HA
   simp only [brookref1_MayDn.l0] at H
   by_cases c2 : x3_1 < (l0.length : Int)
   ·rw [if_pos c2] at H
    have c2b0 : decide (x3_1 < (l0.length : Int)) = true := decide_eq_true c2
    clear c2
    by_cases c3 : 0 ≤ x3_1
    ·rw [if_pos c3] at H
     have c3b0 : decide (0 ≤ x3_1) = true := decide_eq_true c3
     clear c3
     replace H := Option.bind_eq_some_iff.mp H
     obtain ⟨t157, A40, H⟩ := H
     replace H : (if t157 = true then (if ((rd_T25 l0 x3_1).f1).toList = ([] : List UInt8) then (some false) else (if (((rd_T25 l0 x3_1).f1).size : Int) > 100 then (some false) else (brookref1_MayDn.l0 k1 l0 (wrap64 (x3_1 + 1))))) else (some false)) = some r := H
     have A4 := Aside0.mk A40
     clear A40
     by_cases c5 : t157 = true
     ·subst c5
      have H1 : (if ((rd_T25 l0 x3_1).f1).toList = ([] : List UInt8) then (some false) else (if (((rd_T25 l0 x3_1).f1).size : Int) > 100 then (some false) else (brookref1_MayDn.l0 k1 l0 (wrap64 (x3_1 + 1))))) = some r := by rw [if_pos rfl] at H; exact H
      clear H
      have H := H1
      clear H1
      by_cases c6 : ((rd_T25 l0 x3_1).f1).toList = ([] : List UInt8)
      ·rw [if_pos c6] at H
       have c6b0 : (((rd_T25 l0 x3_1).f1).toList == ([] : List UInt8)) = true := beq_iff_eq.mpr c6
       have c6b1 : (((rd_T25 l0 x3_1).f1).toList != ([] : List UInt8)) = false := bne_eq_false_iff_eq.mpr c6
       clear c6
       obtain rfl := Option.some.inj H
       have p156 : 0 ≤ (x3_1 : Int) := of_decide_eq_true (by first | (with_reducible assumption) | assumption)
       have q156 : x3_1 < (l0.length : Int) := of_decide_eq_true (by first | (with_reducible assumption) | assumption)
       obtain ⟨ad156, e156, hx156_0, hx156_1⟩ := at_T25 HR0.out x3_1 p156 q156
       cases e156
       replace p156 := eq_true p156
       replace q156 := eq_true q156
       go_wp2_with (first | ((with_reducible refine gate_callee (f := 58) rfl ?_); refine goesL_ (some 15) rfl rfl Tryz.func58 (by kernel_rfl) rfl #[.string ((rd_T25 l0 x3_1).f0)] rfl (by (try simp only [List.map_toArray, List.map_cons, List.map_nil]); first | done | rfl | (simp only [List.length_drop, List.length_take]; rfl)) ?_; (with_reducible refine (brookref1_MayType.calls k1 ((rd_T25 l0 x3_1).f0) true _ A4.out).mono ?_); rintro e w' ⟨rfl, ⟨nd, rfl⟩⟩; refine ⟨_, rfl, ?_⟩; have p158 : 0 ≤ (x3_1 : Int) := of_decide_eq_true (by first | (with_reducible assumption) | assumption); have q158 : x3_1 < (l0.length : Int) := of_decide_eq_true (by first | (with_reducible assumption) | assumption); obtain ⟨ad158, e158, hx158_0, hx158_1⟩ := at_T25 HR0.out x3_1 p158 q158; obtain rfl : ad156 = ad158 := (by injection e158); replace p158 := eq_true p158; replace q158 := eq_true q158))
       go_ret
       exact ⟨by first | rfl | (simp; done) | (simp [*]; done) | (simp [u8_w, i64_w]; done) | (simp [isEmpty_bne]; done), by repeat (first | exact Drawn0.refl _ | apply Drawn0.step)⟩
      ·rw [if_neg c6] at H
       have c6b0 : (((rd_T25 l0 x3_1).f1).toList == ([] : List UInt8)) = false := beq_eq_false_iff_ne.mpr c6
       have c6b1 : (((rd_T25 l0 x3_1).f1).toList != ([] : List UInt8)) = true := bne_iff_ne.mpr c6
       by_cases c7 : (((rd_T25 l0 x3_1).f1).size : Int) > 100
       ·rw [if_pos c7] at H
        have c7b0 : decide (100 < (((rd_T25 l0 x3_1).f1).size : Int)) = true := decide_eq_true c7
        have c7b1 : decide (100 < ((rd_T25 l0 x3_1).f1).size) = true := decide_eq_true (by omega)
        clear c7
        obtain rfl := Option.some.inj H
        have p156 : 0 ≤ (x3_1 : Int) := of_decide_eq_true (by first | (with_reducible assumption) | assumption)
        have q156 : x3_1 < (l0.length : Int) := of_decide_eq_true (by first | (with_reducible assumption) | assumption)
        obtain ⟨ad156, e156, hx156_0, hx156_1⟩ := at_T25 HR0.out x3_1 p156 q156
        cases e156
        replace p156 := eq_true p156
        replace q156 := eq_true q156
        go_wp2_with (first | ((with_reducible refine gate_callee (f := 58) rfl ?_); refine goesL_ (some 15) rfl rfl Tryz.func58 (by kernel_rfl) rfl #[.string ((rd_T25 l0 x3_1).f0)] rfl (by (try simp only [List.map_toArray, List.map_cons, List.map_nil]); first | done | rfl | (simp only [List.length_drop, List.length_take]; rfl)) ?_; (with_reducible refine (brookref1_MayType.calls k1 ((rd_T25 l0 x3_1).f0) true _ A4.out).mono ?_); rintro e w' ⟨rfl, ⟨nd, rfl⟩⟩; refine ⟨_, rfl, ?_⟩; have p158 : 0 ≤ (x3_1 : Int) := of_decide_eq_true (by first | (with_reducible assumption) | assumption); have q158 : x3_1 < (l0.length : Int) := of_decide_eq_true (by first | (with_reducible assumption) | assumption); obtain ⟨ad158, e158, hx158_0, hx158_1⟩ := at_T25 HR0.out x3_1 p158 q158; obtain rfl : ad156 = ad158 := (by injection e158); replace p158 := eq_true p158; replace q158 := eq_true q158; have p159 : 0 ≤ (x3_1 : Int) := of_decide_eq_true (by first | (with_reducible assumption) | assumption); have q159 : x3_1 < (l0.length : Int) := of_decide_eq_true (by first | (with_reducible assumption) | assumption); obtain ⟨ad159, e159, hx159_0, hx159_1⟩ := at_T25 HR0.out x3_1 p159 q159; obtain rfl : ad156 = ad159 := (by injection e159); replace p159 := eq_true p159; replace q159 := eq_true q159))
        go_ret
        exact ⟨by first | rfl | (simp; done) | (simp [*]; done) | (simp [u8_w, i64_w]; done) | (simp [isEmpty_bne]; done), by repeat (first | exact Drawn0.refl _ | apply Drawn0.step)⟩
       ·rw [if_neg c7] at H
        have c7b0 : decide (100 < (((rd_T25 l0 x3_1).f1).size : Int)) = false := decide_eq_false c7
        have c7b1 : decide (100 < ((rd_T25 l0 x3_1).f1).size) = false := decide_eq_false (by omega)
        clear c7
        have H' := Aside0.mk H
        clear H
        have p156 : 0 ≤ (x3_1 : Int) := of_decide_eq_true (by first | (with_reducible assumption) | assumption)
        have q156 : x3_1 < (l0.length : Int) := of_decide_eq_true (by first | (with_reducible assumption) | assumption)
        obtain ⟨ad156, e156, hx156_0, hx156_1⟩ := at_T25 HR0.out x3_1 p156 q156
        cases e156
        replace p156 := eq_true p156
        replace q156 := eq_true q156
        go_wp2_with (first | ((with_reducible refine gate_callee (f := 58) rfl ?_); refine goesL_ (some 15) rfl rfl Tryz.func58 (by kernel_rfl) rfl #[.string ((rd_T25 l0 x3_1).f0)] rfl (by (try simp only [List.map_toArray, List.map_cons, List.map_nil]); first | done | rfl | (simp only [List.length_drop, List.length_take]; rfl)) ?_; (with_reducible refine (brookref1_MayType.calls k1 ((rd_T25 l0 x3_1).f0) true _ A4.out).mono ?_); rintro e w' ⟨rfl, ⟨nd, rfl⟩⟩; refine ⟨_, rfl, ?_⟩; have p158 : 0 ≤ (x3_1 : Int) := of_decide_eq_true (by first | (with_reducible assumption) | assumption); have q158 : x3_1 < (l0.length : Int) := of_decide_eq_true (by first | (with_reducible assumption) | assumption); obtain ⟨ad158, e158, hx158_0, hx158_1⟩ := at_T25 HR0.out x3_1 p158 q158; obtain rfl : ad156 = ad158 := (by injection e158); replace p158 := eq_true p158; replace q158 := eq_true q158; have p159 : 0 ≤ (x3_1 : Int) := of_decide_eq_true (by first | (with_reducible assumption) | assumption); have q159 : x3_1 < (l0.length : Int) := of_decide_eq_true (by first | (with_reducible assumption) | assumption); obtain ⟨ad159, e159, hx159_0, hx159_1⟩ := at_T25 HR0.out x3_1 p159 q159; obtain rfl : ad156 = ad159 := (by injection e159); replace p159 := eq_true p159; replace q159 := eq_true q159))
        go_roundg k1
        case measure => have := HK1.out; omega
        case rel => exact ⟨(wrap64 (x3_1 + 1)), (by first | rfl | (simp; done) | (simp [*]; done) | (simp [u8_w, i64_w]; done) | (simp [isEmpty_bne]; done)), H', ⟨by have := HK1.out; omega⟩, by repeat (first | exact Drawn0.refl _ | apply Drawn0.step)⟩
     ·replace c5 := Bool.eq_false_iff.mpr c5
      subst c5
      have H1 : (some false) = some r := by rw [if_neg (show ¬ (false = true) by decide)] at H; exact H
      clear H
      have H := H1
      clear H1
      obtain rfl := Option.some.inj H
      have p156 : 0 ≤ (x3_1 : Int) := of_decide_eq_true (by first | (with_reducible assumption) | assumption)
      have q156 : x3_1 < (l0.length : Int) := of_decide_eq_true (by first | (with_reducible assumption) | assumption)
      obtain ⟨ad156, e156, hx156_0, hx156_1⟩ := at_T25 HR0.out x3_1 p156 q156
      cases e156
      replace p156 := eq_true p156
      replace q156 := eq_true q156
      go_wp2_with (first | ((with_reducible refine gate_callee (f := 58) rfl ?_); refine goesL_ (some 15) rfl rfl Tryz.func58 (by kernel_rfl) rfl #[.string ((rd_T25 l0 x3_1).f0)] rfl (by (try simp only [List.map_toArray, List.map_cons, List.map_nil]); first | done | rfl | (simp only [List.length_drop, List.length_take]; rfl)) ?_; (with_reducible refine (brookref1_MayType.calls k1 ((rd_T25 l0 x3_1).f0) false _ A4.out).mono ?_); rintro e w' ⟨rfl, ⟨nd, rfl⟩⟩; refine ⟨_, rfl, ?_⟩))
      go_ret
      exact ⟨by first | rfl | (simp; done) | (simp [*]; done) | (simp [u8_w, i64_w]; done) | (simp [isEmpty_bne]; done), by repeat (first | exact Drawn0.refl _ | apply Drawn0.step)⟩
    ·rw [if_neg c3] at H
     exact absurd H (by simp)
   ·rw [if_neg c2] at H
    have c2b0 : decide (x3_1 < (l0.length : Int)) = false := decide_eq_false c2
    clear c2
    obtain rfl := Option.some.inj H
    go_wp2
    go_ret
    exact ⟨by first | rfl | (simp; done) | (simp [*]; done) | (simp [u8_w, i64_w]; done) | (simp [isEmpty_bne]; done), by repeat (first | exact Drawn0.refl _ | apply Drawn0.step)⟩
def brookref1_in.l0 : Nat → ByteArray → Int → Int → Option (Bool)
 | 0, _, _, _ => none
 | k + 1, x0, x1, x5 => if x5 < (x0.size : Int) then (if 0 ≤ x5 then (if (bt x0 x5) = x1 then (some true) else (brookref1_in.l0 k x0 x1 (wrap64 (x5 + 1)))) else (none)) else (some false)
def brookref1_in.f (k : Nat) (a0 : ByteArray) (a1 : Int) : Option (Bool) := brookref1_in.l0 k a0 a1 0
set_option maxHeartbeats 8000000 in
set_option maxRecDepth 100000 in
theorem brookref1_in.calls (k : Nat) (a0 : ByteArray) (a1 : Int) (r : Bool) (w : World) (h : brookref1_in.f k a0 a1 = some r) :
  Calls Tryz.prog 57 #[.string a0, .int .u8 a1] w fun e w' => e = .returned (.bool r) ∧ Drawn0 w w' := by
 have H : (brookref1_in.l0 k a0 a1 0) = some r := h
 clear h
 have H' := Aside0.mk H
 clear H
 go_enter Tryz.func57, Tryz.ntmps57
 go_wp2
 go_loopg [5] k (fun kq v5 w' => ∃ (x5_1 : Int), v5 = .int .i64 x5_1 ∧ Aside0 (brookref1_in.l0 kq a0 a1 x5_1 = some r) ∧ Aside0 (kq ≤ k) ∧ Drawn0 w w')
 case atStart => exact ⟨(0), (by first | rfl | (simp; done) | (simp [*]; done) | (simp [u8_w, i64_w]; done) | (simp [isEmpty_bne]; done)), H', ⟨Nat.le_refl _⟩, by repeat (first | exact Drawn0.refl _ | apply Drawn0.step)⟩
 case round =>
  clear H'
  try clear p2
  obtain ⟨x5_1, rfl, HA, HK1, ⟨m1, rfl⟩⟩ := hrel
  cases gk with
  | zero => exact absurd HA.out (by simp [brookref1_in.l0])
  | succ k1 =>
   have H := HA.out
   clear HA
   simp only [brookref1_in.l0] at H
   by_cases c3 : x5_1 < (a0.size : Int)
   ·rw [if_pos c3] at H
    have c3b0 : decide (x5_1 < (a0.size : Int)) = true := decide_eq_true c3
    clear c3
    by_cases c4 : 0 ≤ x5_1
    ·rw [if_pos c4] at H
     have c4b0 : decide (0 ≤ x5_1) = true := decide_eq_true c4
     clear c4
     by_cases c6 : (bt a0 x5_1) = a1
     ·rw [if_pos c6] at H
      have c6b0 : ((bt a0 x5_1) == a1) = true := beq_iff_eq.mpr c6
      have c6b1 : ((bt a0 x5_1) != a1) = false := bne_eq_false_iff_eq.mpr c6
      clear c6
      obtain rfl := Option.some.inj H
      have p5 : 0 ≤ (x5_1 : Int) := of_decide_eq_true (by first | (with_reducible assumption) | assumption)
      have q5 : x5_1 < (a0.size : Int) := of_decide_eq_true (by first | (with_reducible assumption) | assumption)
      have hx5 := bt_at a0 x5_1
      replace p5 := eq_true p5
      replace q5 := eq_true q5
      go_wp2
      go_ret
      exact ⟨by first | rfl | (simp; done) | (simp [*]; done) | (simp [u8_w, i64_w]; done) | (simp [isEmpty_bne]; done), by repeat (first | exact Drawn0.refl _ | apply Drawn0.step)⟩
     ·rw [if_neg c6] at H
      have c6b0 : ((bt a0 x5_1) == a1) = false := beq_eq_false_iff_ne.mpr c6
      have c6b1 : ((bt a0 x5_1) != a1) = true := bne_iff_ne.mpr c6
      have H' := Aside0.mk H
      clear H
      have p5 : 0 ≤ (x5_1 : Int) := of_decide_eq_true (by first | (with_reducible assumption) | assumption)
      have q5 : x5_1 < (a0.size : Int) := of_decide_eq_true (by first | (with_reducible assumption) | assumption)
      have hx5 := bt_at a0 x5_1
      replace p5 := eq_true p5
      replace q5 := eq_true q5
      go_wp2
      go_roundg k1
      case measure => have := HK1.out; omega
      case rel => exact ⟨(wrap64 (x5_1 + 1)), (by first | rfl | (simp; done) | (simp [*]; done) | (simp [u8_w, i64_w]; done) | (simp [isEmpty_bne]; done)), H', ⟨by have := HK1.out; omega⟩, by repeat (first | exact Drawn0.refl _ | apply Drawn0.step)⟩
    ·rw [if_neg c4] at H
     exact absurd H (by simp)
   ·rw [if_neg c3] at H
    have c3b0 : decide (x5_1 < (a0.size : Int)) = false := decide_eq_false c3
    clear c3
    obtain rfl := Option.some.inj H
    go_wp2
    go_ret
    exact ⟨by first | rfl | (simp; done) | (simp [*]; done) | (simp [u8_w, i64_w]; done) | (simp [isEmpty_bne]; done), by repeat (first | exact Drawn0.refl _ | apply Drawn0.step)⟩
end Go.Proofs.YtflkghdndffacaaGreatDoor.PD
namespace Go.Proofs.YtflkghdndffacaaGreatDoor.H
open Go.RowKit Go.Proofs.YtflkghdndffacaaGreatDoorW.PrintWords Go.Proofs.YtflkghdndffacaaGreatDoorW.PrintLast Go.Proofs.YtflkghdndffacaaGreatDoorW.PrintMore
set_option linter.unusedVariables false
set_option linter.unusedSimpArgs false
theorem hex_cut : ∀ n : Fin 16, ((⟨#[48, 49, 50, 51, 52, 53, 54, 55, 56, 57, 97, 98, 99, 100, 101, 102]⟩ : ByteArray).extract n.val (n.val + 1)).data = #[hexD n.val] := by decide
theorem hex_cut_at (i : Int) (h0 : 0 ≤ i) (h1 : i < 16) : (⟨#[48, 49, 50, 51, 52, 53, 54, 55, 56, 57, 97, 98, 99, 100, 101, 102]⟩ : ByteArray).extract i.toNat (i + 1).toNat = ⟨#[hexD i.toNat]⟩ := by
  have h := hex_cut ⟨i.toNat, by omega⟩
  simp only at h
  rw [show (i + 1).toNat = i.toNat + 1 by omega]
  exact congrArg ByteArray.mk h
def brookref1_two.f (a0 : Int) : Option ByteArray := if 0 ≤ a0 ∧ a0 < 256 then some ⟨#[92, hexD (a0 / 16).toNat, hexD (a0 % 16).toNat]⟩ else none
set_option maxHeartbeats 2000000 in
theorem brookref1_two.calls (a0 : Int) (r : ByteArray) (w : World) (h : brookref1_two.f a0 = some r) :
    Calls Tryz.prog 59 #[.int .u8 a0] w fun e w' => e = .returned (.string r) ∧ Drawn0 w w' := by
  unfold brookref1_two.f at h
  split at h
  case isFalse => cases h
  case isTrue hb =>
  obtain rfl := Option.some.inj h
  obtain ⟨h0, h1⟩ := hb
  clear h
  have a1 : (0 : Int) ≤ a0 / 16 := by omega
  have a2 : a0 / 16 < 16 := by omega
  have b1 : (0 : Int) ≤ a0 % 16 := by omega
  have b2 : a0 % 16 < 16 := by omega
  have f1 := hex_cut_at (a0 / 16) a1 a2
  have f2 := hex_cut_at (a0 % 16) b1 b2
  have s1 : (⟨#[hexD (a0 / 16).toNat]⟩ : ByteArray).size = 1 := rfl
  have s2 : (⟨#[92]⟩ ++ ⟨#[hexD (a0 / 16).toNat]⟩ : ByteArray).size = 2 := rfl
  have s3 : (⟨#[hexD (a0 % 16).toNat]⟩ : ByteArray).size = 1 := rfl
  have d1 : a0 % 16 + 1 ≤ 16 := by omega
  have d2 : 0 ≤ a0 % 16 + 1 := by omega
  have d3 : a0 % 16 ≤ a0 % 16 + 1 := by omega
  have e1 : a0 / 16 + 1 ≤ 16 := by omega
  have e2 : 0 ≤ a0 / 16 + 1 := by omega
  have e3 : a0 / 16 ≤ a0 / 16 + 1 := by omega
  go_enter Tryz.func59, Tryz.ntmps59
  go_wp2
  go_region
  go_wp2
  go_ret
  exact ⟨rfl, by repeat (first | exact Drawn0.refl _ | apply Drawn0.step)⟩
end Go.Proofs.YtflkghdndffacaaGreatDoor.H
namespace Go.Proofs.YtflkghdndffacaaGreatDoor.PD
open Go.RowKit Go.Proofs.YtflkghdndffacaaGreatDoor.H Go.Proofs.YtflkghdndffacaaGreatDoorW.PrintWords Go.Proofs.YtflkghdndffacaaGreatDoorW.PrintLast Go.Proofs.YtflkghdndffacaaGreatDoorW.PrintMore
attribute [local go_sem] max2_int min2_int max_two min_two max_three min_three max_four min_four
set_option linter.unusedVariables false
set_option linter.unusedSimpArgs false
mutual
def brookref1_escaped.l0 : Nat → ByteArray → ByteArray → Int → Option (ByteArray)
 | 0, _, _, _ => none
 | k + 1, x0, x3, x4 => if x4 < (x0.size : Int) then (if 0 ≤ x4 then (if (bt x0 x4) < 32 then (brookref1_escaped.j1 k x0 x3 x4 (bt x0 x4) true) else (brookref1_escaped.j1 k x0 x3 x4 (bt x0 x4) (decide ((bt x0 x4) > 126)))) else (none)) else (some x3)
def brookref1_escaped.j1 : Nat → ByteArray → ByteArray → Int → Int → Bool → Option (ByteArray)
 | 0, _, _, _, _, _ => none
 | k + 1, x0, x3, x4, x5, x22 => if x22 = true then ((brookref1_two.f x5).bind fun t160 => (if x3.size + t160.size ≤ 9223372036854775807 then (brookref1_escaped.l0 k x0 (x3 ++ t160) (wrap64 (x4 + 1))) else (none))) else ((brookref1_in.f k (⟨#[44, 43, 34, 92, 60, 62, 59]⟩ : ByteArray) x5).bind fun t161 => (if t161 = true then (if x3.size + 1 ≤ 9223372036854775807 then (if 0 ≤ x4 then (if x4 ≤ (wrap64 (x4 + 1)) then (if (wrap64 (x4 + 1)) ≤ (x0.size : Int) then (if (x3 ++ (⟨#[92]⟩ : ByteArray)).size + (x0.extract (x4 : Int).toNat ((wrap64 (x4 + 1)) : Int).toNat).size ≤ 9223372036854775807 then (brookref1_escaped.l0 k x0 ((x3 ++ (⟨#[92]⟩ : ByteArray)) ++ (x0.extract (x4 : Int).toNat ((wrap64 (x4 + 1)) : Int).toNat)) (wrap64 (x4 + 1))) else (none)) else (none)) else (none)) else (none)) else (none)) else (if x4 = 0 then (if x5 = 35 then (if x3.size + 1 ≤ 9223372036854775807 then (if 0 ≤ x4 then (if x4 ≤ (wrap64 (x4 + 1)) then (if (wrap64 (x4 + 1)) ≤ (x0.size : Int) then (if (x3 ++ (⟨#[92]⟩ : ByteArray)).size + (x0.extract (x4 : Int).toNat ((wrap64 (x4 + 1)) : Int).toNat).size ≤ 9223372036854775807 then (brookref1_escaped.l0 k x0 ((x3 ++ (⟨#[92]⟩ : ByteArray)) ++ (x0.extract (x4 : Int).toNat ((wrap64 (x4 + 1)) : Int).toNat)) (wrap64 (x4 + 1))) else (none)) else (none)) else (none)) else (none)) else (none)) else (if x5 = 32 then (if x3.size + 1 ≤ 9223372036854775807 then (if 0 ≤ x4 then (if x4 ≤ (wrap64 (x4 + 1)) then (if (wrap64 (x4 + 1)) ≤ (x0.size : Int) then (if (x3 ++ (⟨#[92]⟩ : ByteArray)).size + (x0.extract (x4 : Int).toNat ((wrap64 (x4 + 1)) : Int).toNat).size ≤ 9223372036854775807 then (brookref1_escaped.l0 k x0 ((x3 ++ (⟨#[92]⟩ : ByteArray)) ++ (x0.extract (x4 : Int).toNat ((wrap64 (x4 + 1)) : Int).toNat)) (wrap64 (x4 + 1))) else (none)) else (none)) else (none)) else (none)) else (none)) else (if x4 = (wrap64 ((x0.size : Int) - 1)) then (if 0 ≤ x4 then (if x4 ≤ (wrap64 (x4 + 1)) then (if (wrap64 (x4 + 1)) ≤ (x0.size : Int) then (if x3.size + (x0.extract (x4 : Int).toNat ((wrap64 (x4 + 1)) : Int).toNat).size ≤ 9223372036854775807 then (brookref1_escaped.l0 k x0 (x3 ++ (x0.extract (x4 : Int).toNat ((wrap64 (x4 + 1)) : Int).toNat)) (wrap64 (x4 + 1))) else (none)) else (none)) else (none)) else (none)) else (if 0 ≤ x4 then (if x4 ≤ (wrap64 (x4 + 1)) then (if (wrap64 (x4 + 1)) ≤ (x0.size : Int) then (if x3.size + (x0.extract (x4 : Int).toNat ((wrap64 (x4 + 1)) : Int).toNat).size ≤ 9223372036854775807 then (brookref1_escaped.l0 k x0 (x3 ++ (x0.extract (x4 : Int).toNat ((wrap64 (x4 + 1)) : Int).toNat)) (wrap64 (x4 + 1))) else (none)) else (none)) else (none)) else (none))))) else (if x4 = (wrap64 ((x0.size : Int) - 1)) then (if x5 = 32 then (if x3.size + 1 ≤ 9223372036854775807 then (if 0 ≤ x4 then (if x4 ≤ (wrap64 (x4 + 1)) then (if (wrap64 (x4 + 1)) ≤ (x0.size : Int) then (if (x3 ++ (⟨#[92]⟩ : ByteArray)).size + (x0.extract (x4 : Int).toNat ((wrap64 (x4 + 1)) : Int).toNat).size ≤ 9223372036854775807 then (brookref1_escaped.l0 k x0 ((x3 ++ (⟨#[92]⟩ : ByteArray)) ++ (x0.extract (x4 : Int).toNat ((wrap64 (x4 + 1)) : Int).toNat)) (wrap64 (x4 + 1))) else (none)) else (none)) else (none)) else (none)) else (none)) else (if 0 ≤ x4 then (if x4 ≤ (wrap64 (x4 + 1)) then (if (wrap64 (x4 + 1)) ≤ (x0.size : Int) then (if x3.size + (x0.extract (x4 : Int).toNat ((wrap64 (x4 + 1)) : Int).toNat).size ≤ 9223372036854775807 then (brookref1_escaped.l0 k x0 (x3 ++ (x0.extract (x4 : Int).toNat ((wrap64 (x4 + 1)) : Int).toNat)) (wrap64 (x4 + 1))) else (none)) else (none)) else (none)) else (none))) else (if 0 ≤ x4 then (if x4 ≤ (wrap64 (x4 + 1)) then (if (wrap64 (x4 + 1)) ≤ (x0.size : Int) then (if x3.size + (x0.extract (x4 : Int).toNat ((wrap64 (x4 + 1)) : Int).toNat).size ≤ 9223372036854775807 then (brookref1_escaped.l0 k x0 (x3 ++ (x0.extract (x4 : Int).toNat ((wrap64 (x4 + 1)) : Int).toNat)) (wrap64 (x4 + 1))) else (none)) else (none)) else (none)) else (none))))))
end
def brookref1_escaped.f (k : Nat) (a0 : ByteArray) : Option (ByteArray) := brookref1_escaped.l0 k a0 (⟨#[]⟩ : ByteArray) 0
set_option maxHeartbeats 8000000 in
set_option maxRecDepth 100000 in
theorem brookref1_escaped.calls (k : Nat) (a0 : ByteArray) (r : ByteArray) (w : World) (h : brookref1_escaped.f k a0 = some r) :
  Calls Tryz.prog 44 #[.string a0] w fun e w' => e = .returned (.string r) ∧ Drawn0 w w' := by
 have H : (brookref1_escaped.l0 k a0 (⟨#[]⟩ : ByteArray) 0) = some r := h
 clear h
 have H' := Aside0.mk H
 clear H
 go_enter Tryz.func44, Tryz.ntmps44
 go_wp2
 go_loopg [3, 4] k (fun kq v3 v4 w' => ∃ (x3_1 : ByteArray) (x4_1 : Int), v3 = .string x3_1 ∧ v4 = .int .i64 x4_1 ∧ Aside0 (brookref1_escaped.l0 kq a0 x3_1 x4_1 = some r) ∧ Aside0 (kq ≤ k) ∧ Drawn0 w w')
 case atStart => exact ⟨((⟨#[]⟩ : ByteArray)), (0), (by first | rfl | (simp; done) | (simp [*]; done) | (simp [u8_w, i64_w]; done) | (simp [isEmpty_bne]; done)), (by first | rfl | (simp; done) | (simp [*]; done) | (simp [u8_w, i64_w]; done) | (simp [isEmpty_bne]; done)), H', ⟨Nat.le_refl _⟩, by repeat (first | exact Drawn0.refl _ | apply Drawn0.step)⟩
 case round =>
  clear H'
  obtain ⟨x3_1, x4_1, rfl, rfl, HA, HK1, ⟨m1, rfl⟩⟩ := hrel
  cases gk with
  | zero => exact absurd HA.out (by simp [brookref1_escaped.l0])
  | succ k1 =>
   have H := HA.out
   clear HA
   simp only [brookref1_escaped.l0] at H
   by_cases c2 : x4_1 < (a0.size : Int)
   ·rw [if_pos c2] at H
    have c2b0 : decide (x4_1 < (a0.size : Int)) = true := decide_eq_true c2
    clear c2
    by_cases c3 : 0 ≤ x4_1
    ·rw [if_pos c3] at H
     have c3b0 : decide (0 ≤ x4_1) = true := decide_eq_true c3
     clear c3
     have HC5 := Aside0.mk H
     clear H
     have p4 : 0 ≤ (x4_1 : Int) := of_decide_eq_true (by first | (with_reducible assumption) | assumption)
     have q4 : x4_1 < (a0.size : Int) := of_decide_eq_true (by first | (with_reducible assumption) | assumption)
     have hx4 := bt_at a0 x4_1
     replace p4 := eq_true p4
     replace q4 := eq_true q4
     go_upto_region 7 with (fail)
     go_cut [22] (fun v22 wc => ∃ (kq : Nat) (x22_4 : Bool), v22 = .bool x22_4 ∧ Aside0 (brookref1_escaped.j1 kq a0 x3_1 x4_1 (bt a0 x4_1) x22_4 = some r) ∧ Aside0 (kq ≤ k1) ∧ Drawn0 w wc)
     case first =>
      have H := HC5.out
      clear HC5
      by_cases c6 : (bt a0 x4_1) < 32
      ·rw [if_pos c6] at H
       have c6b0 : decide ((bt a0 x4_1) < 32) = true := decide_eq_true c6
       clear c6
       (first | rw [c6b0] | (simp only [i64_w, i32_w]; rw [c6b0]) | skip)
       have H' := Aside0.mk H
       clear H
       go_wp2
       go_meet
       case rel => exact ⟨_, (true), (by first | rfl | (simp; done) | (simp [*]; done) | (simp [u8_w, i64_w]; done) | (simp [isEmpty_bne]; done)), H', ⟨by have := HK1.out; first | omega | exact Nat.le_refl _⟩, by repeat (first | exact Drawn0.refl _ | apply Drawn0.step)⟩
      ·rw [if_neg c6] at H
       have c6b0 : decide ((bt a0 x4_1) < 32) = false := decide_eq_false c6
       clear c6
       (first | rw [c6b0] | (simp only [i64_w, i32_w]; rw [c6b0]) | skip)
       have H' := Aside0.mk H
       clear H
       go_wp2
       go_meet
       case rel => exact ⟨_, (decide ((bt a0 x4_1) > 126)), (by first | rfl | (simp; done) | (simp [*]; done) | (simp [u8_w, i64_w]; done) | (simp [isEmpty_bne]; done)), H', ⟨by have := HK1.out; first | omega | exact Nat.le_refl _⟩, by repeat (first | exact Drawn0.refl _ | apply Drawn0.step)⟩
     case rest =>
      clear HC5
      try clear c2
      try clear c2b0
      try clear p2
      try clear c3
      try clear c3b0
      try clear p4
      try clear q4
      try clear hx4
      try clear c5
      try clear c6
      try clear c6b0
      try clear p4
      try clear q4
      obtain ⟨kq, x22_4, rfl, HA, HJ4, ⟨mc4, rfl⟩⟩ := hcut
      cases kq with
      | zero => exact absurd HA.out (by simp [brookref1_escaped.j1])
      | succ kj4 =>
       have H := HA.out
       clear HA
       simp only [brookref1_escaped.j1] at H
       by_cases c7 : x22_4 = true
       ·subst c7
        have H1 : ((brookref1_two.f (bt a0 x4_1)).bind fun t160 => (if x3_1.size + t160.size ≤ 9223372036854775807 then (brookref1_escaped.l0 kj4 a0 (x3_1 ++ t160) (wrap64 (x4_1 + 1))) else (none))) = some r := by rw [if_pos rfl] at H; exact H
        clear H
        have H := H1
        clear H1
        replace H := Option.bind_eq_some_iff.mp H
        obtain ⟨t160, A80, H⟩ := H
        replace H : (if x3_1.size + t160.size ≤ 9223372036854775807 then (brookref1_escaped.l0 kj4 a0 (x3_1 ++ t160) (wrap64 (x4_1 + 1))) else (none)) = some r := H
        have A8 := Aside0.mk A80
        clear A80
        by_cases c9 : x3_1.size + t160.size ≤ 9223372036854775807
        ·rw [if_pos c9] at H
         have c9b0 := eq_true c9
         have c9b1 : decide (x3_1.size + t160.size ≤ 9223372036854775807) = true := decide_eq_true c9
         try have c9b2 : (9223372036854775807 < x3_1.size + t160.size) = False := eq_false (Nat.not_lt.2 c9)
         have H' := Aside0.mk H
         clear H
         go_wp2_with (first | ((with_reducible refine gate_callee (f := 59) rfl ?_); refine goesL_ (some 31) rfl rfl Tryz.func59 (by kernel_rfl) rfl #[.int .u8 (bt a0 x4_1)] rfl (by (try simp only [List.map_toArray, List.map_cons, List.map_nil]); first | done | rfl | (simp only [List.length_drop, List.length_take]; rfl)) ?_; (with_reducible refine (brookref1_two.calls (bt a0 x4_1) t160 _ A8.out).mono ?_); rintro e w' ⟨rfl, ⟨nd, rfl⟩⟩; refine ⟨_, rfl, ?_⟩))
         go_roundg kj4
         case measure => have := HK1.out; have := HJ4.out; omega
         case rel => exact ⟨(x3_1 ++ t160), (wrap64 (x4_1 + 1)), (by first | rfl | (simp; done) | (simp [*]; done) | (simp [u8_w, i64_w]; done) | (simp [isEmpty_bne]; done)), (by first | rfl | (simp; done) | (simp [*]; done) | (simp [u8_w, i64_w]; done) | (simp [isEmpty_bne]; done)), H', ⟨by have := HK1.out; have := HJ4.out; omega⟩, by repeat (first | exact Drawn0.refl _ | apply Drawn0.step)⟩
        ·rw [if_neg c9] at H
         exact absurd H (by simp)
       ·replace c7 := Bool.eq_false_iff.mpr c7
        subst c7
        have H1 : ((brookref1_in.f kj4 (⟨#[44, 43, 34, 92, 60, 62, 59]⟩ : ByteArray) (bt a0 x4_1)).bind fun t161 => (if t161 = true then (if x3_1.size + 1 ≤ 9223372036854775807 then (if 0 ≤ x4_1 then (if x4_1 ≤ (wrap64 (x4_1 + 1)) then (if (wrap64 (x4_1 + 1)) ≤ (a0.size : Int) then (if (x3_1 ++ (⟨#[92]⟩ : ByteArray)).size + (a0.extract (x4_1 : Int).toNat ((wrap64 (x4_1 + 1)) : Int).toNat).size ≤ 9223372036854775807 then (brookref1_escaped.l0 kj4 a0 ((x3_1 ++ (⟨#[92]⟩ : ByteArray)) ++ (a0.extract (x4_1 : Int).toNat ((wrap64 (x4_1 + 1)) : Int).toNat)) (wrap64 (x4_1 + 1))) else (none)) else (none)) else (none)) else (none)) else (none)) else (if x4_1 = 0 then (if (bt a0 x4_1) = 35 then (if x3_1.size + 1 ≤ 9223372036854775807 then (if 0 ≤ x4_1 then (if x4_1 ≤ (wrap64 (x4_1 + 1)) then (if (wrap64 (x4_1 + 1)) ≤ (a0.size : Int) then (if (x3_1 ++ (⟨#[92]⟩ : ByteArray)).size + (a0.extract (x4_1 : Int).toNat ((wrap64 (x4_1 + 1)) : Int).toNat).size ≤ 9223372036854775807 then (brookref1_escaped.l0 kj4 a0 ((x3_1 ++ (⟨#[92]⟩ : ByteArray)) ++ (a0.extract (x4_1 : Int).toNat ((wrap64 (x4_1 + 1)) : Int).toNat)) (wrap64 (x4_1 + 1))) else (none)) else (none)) else (none)) else (none)) else (none)) else (if (bt a0 x4_1) = 32 then (if x3_1.size + 1 ≤ 9223372036854775807 then (if 0 ≤ x4_1 then (if x4_1 ≤ (wrap64 (x4_1 + 1)) then (if (wrap64 (x4_1 + 1)) ≤ (a0.size : Int) then (if (x3_1 ++ (⟨#[92]⟩ : ByteArray)).size + (a0.extract (x4_1 : Int).toNat ((wrap64 (x4_1 + 1)) : Int).toNat).size ≤ 9223372036854775807 then (brookref1_escaped.l0 kj4 a0 ((x3_1 ++ (⟨#[92]⟩ : ByteArray)) ++ (a0.extract (x4_1 : Int).toNat ((wrap64 (x4_1 + 1)) : Int).toNat)) (wrap64 (x4_1 + 1))) else (none)) else (none)) else (none)) else (none)) else (none)) else (if x4_1 = (wrap64 ((a0.size : Int) - 1)) then (if 0 ≤ x4_1 then (if x4_1 ≤ (wrap64 (x4_1 + 1)) then (if (wrap64 (x4_1 + 1)) ≤ (a0.size : Int) then (if x3_1.size + (a0.extract (x4_1 : Int).toNat ((wrap64 (x4_1 + 1)) : Int).toNat).size ≤ 9223372036854775807 then (brookref1_escaped.l0 kj4 a0 (x3_1 ++ (a0.extract (x4_1 : Int).toNat ((wrap64 (x4_1 + 1)) : Int).toNat)) (wrap64 (x4_1 + 1))) else (none)) else (none)) else (none)) else (none)) else (if 0 ≤ x4_1 then (if x4_1 ≤ (wrap64 (x4_1 + 1)) then (if (wrap64 (x4_1 + 1)) ≤ (a0.size : Int) then (if x3_1.size + (a0.extract (x4_1 : Int).toNat ((wrap64 (x4_1 + 1)) : Int).toNat).size ≤ 9223372036854775807 then (brookref1_escaped.l0 kj4 a0 (x3_1 ++ (a0.extract (x4_1 : Int).toNat ((wrap64 (x4_1 + 1)) : Int).toNat)) (wrap64 (x4_1 + 1))) else (none)) else (none)) else (none)) else (none))))) else (if x4_1 = (wrap64 ((a0.size : Int) - 1)) then (if (bt a0 x4_1) = 32 then (if x3_1.size + 1 ≤ 9223372036854775807 then (if 0 ≤ x4_1 then (if x4_1 ≤ (wrap64 (x4_1 + 1)) then (if (wrap64 (x4_1 + 1)) ≤ (a0.size : Int) then (if (x3_1 ++ (⟨#[92]⟩ : ByteArray)).size + (a0.extract (x4_1 : Int).toNat ((wrap64 (x4_1 + 1)) : Int).toNat).size ≤ 9223372036854775807 then (brookref1_escaped.l0 kj4 a0 ((x3_1 ++ (⟨#[92]⟩ : ByteArray)) ++ (a0.extract (x4_1 : Int).toNat ((wrap64 (x4_1 + 1)) : Int).toNat)) (wrap64 (x4_1 + 1))) else (none)) else (none)) else (none)) else (none)) else (none)) else (if 0 ≤ x4_1 then (if x4_1 ≤ (wrap64 (x4_1 + 1)) then (if (wrap64 (x4_1 + 1)) ≤ (a0.size : Int) then (if x3_1.size + (a0.extract (x4_1 : Int).toNat ((wrap64 (x4_1 + 1)) : Int).toNat).size ≤ 9223372036854775807 then (brookref1_escaped.l0 kj4 a0 (x3_1 ++ (a0.extract (x4_1 : Int).toNat ((wrap64 (x4_1 + 1)) : Int).toNat)) (wrap64 (x4_1 + 1))) else (none)) else (none)) else (none)) else (none))) else (if 0 ≤ x4_1 then (if x4_1 ≤ (wrap64 (x4_1 + 1)) then (if (wrap64 (x4_1 + 1)) ≤ (a0.size : Int) then (if x3_1.size + (a0.extract (x4_1 : Int).toNat ((wrap64 (x4_1 + 1)) : Int).toNat).size ≤ 9223372036854775807 then (brookref1_escaped.l0 kj4 a0 (x3_1 ++ (a0.extract (x4_1 : Int).toNat ((wrap64 (x4_1 + 1)) : Int).toNat)) (wrap64 (x4_1 + 1))) else (none)) else (none)) else (none)) else (none)))))) = some r := by rw [if_neg (show ¬ (false = true) by decide)] at H; exact H
        clear H
        have H := H1
        clear H1
        replace H := Option.bind_eq_some_iff.mp H
        obtain ⟨t161, A100, H⟩ := H
        replace H : (if t161 = true then (if x3_1.size + 1 ≤ 9223372036854775807 then (if 0 ≤ x4_1 then (if x4_1 ≤ (wrap64 (x4_1 + 1)) then (if (wrap64 (x4_1 + 1)) ≤ (a0.size : Int) then (if (x3_1 ++ (⟨#[92]⟩ : ByteArray)).size + (a0.extract (x4_1 : Int).toNat ((wrap64 (x4_1 + 1)) : Int).toNat).size ≤ 9223372036854775807 then (brookref1_escaped.l0 kj4 a0 ((x3_1 ++ (⟨#[92]⟩ : ByteArray)) ++ (a0.extract (x4_1 : Int).toNat ((wrap64 (x4_1 + 1)) : Int).toNat)) (wrap64 (x4_1 + 1))) else (none)) else (none)) else (none)) else (none)) else (none)) else (if x4_1 = 0 then (if (bt a0 x4_1) = 35 then (if x3_1.size + 1 ≤ 9223372036854775807 then (if 0 ≤ x4_1 then (if x4_1 ≤ (wrap64 (x4_1 + 1)) then (if (wrap64 (x4_1 + 1)) ≤ (a0.size : Int) then (if (x3_1 ++ (⟨#[92]⟩ : ByteArray)).size + (a0.extract (x4_1 : Int).toNat ((wrap64 (x4_1 + 1)) : Int).toNat).size ≤ 9223372036854775807 then (brookref1_escaped.l0 kj4 a0 ((x3_1 ++ (⟨#[92]⟩ : ByteArray)) ++ (a0.extract (x4_1 : Int).toNat ((wrap64 (x4_1 + 1)) : Int).toNat)) (wrap64 (x4_1 + 1))) else (none)) else (none)) else (none)) else (none)) else (none)) else (if (bt a0 x4_1) = 32 then (if x3_1.size + 1 ≤ 9223372036854775807 then (if 0 ≤ x4_1 then (if x4_1 ≤ (wrap64 (x4_1 + 1)) then (if (wrap64 (x4_1 + 1)) ≤ (a0.size : Int) then (if (x3_1 ++ (⟨#[92]⟩ : ByteArray)).size + (a0.extract (x4_1 : Int).toNat ((wrap64 (x4_1 + 1)) : Int).toNat).size ≤ 9223372036854775807 then (brookref1_escaped.l0 kj4 a0 ((x3_1 ++ (⟨#[92]⟩ : ByteArray)) ++ (a0.extract (x4_1 : Int).toNat ((wrap64 (x4_1 + 1)) : Int).toNat)) (wrap64 (x4_1 + 1))) else (none)) else (none)) else (none)) else (none)) else (none)) else (if x4_1 = (wrap64 ((a0.size : Int) - 1)) then (if 0 ≤ x4_1 then (if x4_1 ≤ (wrap64 (x4_1 + 1)) then (if (wrap64 (x4_1 + 1)) ≤ (a0.size : Int) then (if x3_1.size + (a0.extract (x4_1 : Int).toNat ((wrap64 (x4_1 + 1)) : Int).toNat).size ≤ 9223372036854775807 then (brookref1_escaped.l0 kj4 a0 (x3_1 ++ (a0.extract (x4_1 : Int).toNat ((wrap64 (x4_1 + 1)) : Int).toNat)) (wrap64 (x4_1 + 1))) else (none)) else (none)) else (none)) else (none)) else (if 0 ≤ x4_1 then (if x4_1 ≤ (wrap64 (x4_1 + 1)) then (if (wrap64 (x4_1 + 1)) ≤ (a0.size : Int) then (if x3_1.size + (a0.extract (x4_1 : Int).toNat ((wrap64 (x4_1 + 1)) : Int).toNat).size ≤ 9223372036854775807 then (brookref1_escaped.l0 kj4 a0 (x3_1 ++ (a0.extract (x4_1 : Int).toNat ((wrap64 (x4_1 + 1)) : Int).toNat)) (wrap64 (x4_1 + 1))) else (none)) else (none)) else (none)) else (none))))) else (if x4_1 = (wrap64 ((a0.size : Int) - 1)) then (if (bt a0 x4_1) = 32 then (if x3_1.size + 1 ≤ 9223372036854775807 then (if 0 ≤ x4_1 then (if x4_1 ≤ (wrap64 (x4_1 + 1)) then (if (wrap64 (x4_1 + 1)) ≤ (a0.size : Int) then (if (x3_1 ++ (⟨#[92]⟩ : ByteArray)).size + (a0.extract (x4_1 : Int).toNat ((wrap64 (x4_1 + 1)) : Int).toNat).size ≤ 9223372036854775807 then (brookref1_escaped.l0 kj4 a0 ((x3_1 ++ (⟨#[92]⟩ : ByteArray)) ++ (a0.extract (x4_1 : Int).toNat ((wrap64 (x4_1 + 1)) : Int).toNat)) (wrap64 (x4_1 + 1))) else (none)) else (none)) else (none)) else (none)) else (none)) else (if 0 ≤ x4_1 then (if x4_1 ≤ (wrap64 (x4_1 + 1)) then (if (wrap64 (x4_1 + 1)) ≤ (a0.size : Int) then (if x3_1.size + (a0.extract (x4_1 : Int).toNat ((wrap64 (x4_1 + 1)) : Int).toNat).size ≤ 9223372036854775807 then (brookref1_escaped.l0 kj4 a0 (x3_1 ++ (a0.extract (x4_1 : Int).toNat ((wrap64 (x4_1 + 1)) : Int).toNat)) (wrap64 (x4_1 + 1))) else (none)) else (none)) else (none)) else (none))) else (if 0 ≤ x4_1 then (if x4_1 ≤ (wrap64 (x4_1 + 1)) then (if (wrap64 (x4_1 + 1)) ≤ (a0.size : Int) then (if x3_1.size + (a0.extract (x4_1 : Int).toNat ((wrap64 (x4_1 + 1)) : Int).toNat).size ≤ 9223372036854775807 then (brookref1_escaped.l0 kj4 a0 (x3_1 ++ (a0.extract (x4_1 : Int).toNat ((wrap64 (x4_1 + 1)) : Int).toNat)) (wrap64 (x4_1 + 1))) else (none)) else (none)) else (none)) else (none))))) = some r := H
        have A10 := Aside0.mk A100
        clear A100
        by_cases c11 : t161 = true
        ·subst c11
         have H1 : (if x3_1.size + 1 ≤ 9223372036854775807 then (if 0 ≤ x4_1 then (if x4_1 ≤ (wrap64 (x4_1 + 1)) then (if (wrap64 (x4_1 + 1)) ≤ (a0.size : Int) then (if (x3_1 ++ (⟨#[92]⟩ : ByteArray)).size + (a0.extract (x4_1 : Int).toNat ((wrap64 (x4_1 + 1)) : Int).toNat).size ≤ 9223372036854775807 then (brookref1_escaped.l0 kj4 a0 ((x3_1 ++ (⟨#[92]⟩ : ByteArray)) ++ (a0.extract (x4_1 : Int).toNat ((wrap64 (x4_1 + 1)) : Int).toNat)) (wrap64 (x4_1 + 1))) else (none)) else (none)) else (none)) else (none)) else (none)) = some r := by rw [if_pos rfl] at H; exact H
         clear H
         have H := H1
         clear H1
         by_cases c12 : x3_1.size + 1 ≤ 9223372036854775807
         ·rw [if_pos c12] at H
          have c12b0 := eq_true c12
          have c12b1 : decide (x3_1.size + 1 ≤ 9223372036854775807) = true := decide_eq_true c12
          try have c12b2 : (9223372036854775807 < x3_1.size + 1) = False := eq_false (Nat.not_lt.2 c12)
          by_cases c13 : 0 ≤ x4_1
          ·rw [if_pos c13] at H
           have c13b0 := eq_true c13
           have c13b1 : decide (0 ≤ x4_1) = true := decide_eq_true c13
           clear c13
           by_cases c14 : x4_1 ≤ (wrap64 (x4_1 + 1))
           ·rw [if_pos c14] at H
            have c14b0 := eq_true c14
            have c14b1 : decide (x4_1 ≤ (wrap64 (x4_1 + 1))) = true := decide_eq_true c14
            by_cases c15 : (wrap64 (x4_1 + 1)) ≤ (a0.size : Int)
            ·rw [if_pos c15] at H
             have c15b0 := eq_true c15
             have c15b1 : decide ((wrap64 (x4_1 + 1)) ≤ (a0.size : Int)) = true := decide_eq_true c15
             by_cases c16 : (x3_1 ++ (⟨#[92]⟩ : ByteArray)).size + (a0.extract (x4_1 : Int).toNat ((wrap64 (x4_1 + 1)) : Int).toNat).size ≤ 9223372036854775807
             ·rw [if_pos c16] at H
              have c16b0 := eq_true c16
              have c16b1 : decide ((x3_1 ++ (⟨#[92]⟩ : ByteArray)).size + (a0.extract (x4_1 : Int).toNat ((wrap64 (x4_1 + 1)) : Int).toNat).size ≤ 9223372036854775807) = true := decide_eq_true c16
              try have c16b2 : (9223372036854775807 < (x3_1 ++ (⟨#[92]⟩ : ByteArray)).size + (a0.extract (x4_1 : Int).toNat ((wrap64 (x4_1 + 1)) : Int).toNat).size) = False := eq_false (Nat.not_lt.2 c16)
              have H' := Aside0.mk H
              clear H
              go_wp2_with (first | ((with_reducible refine gate_callee (f := 57) rfl ?_); refine goesL_ (some 35) rfl rfl Tryz.func57 (by kernel_rfl) rfl #[.string (⟨#[44, 43, 34, 92, 60, 62, 59]⟩ : ByteArray), .int .u8 (bt a0 x4_1)] rfl (by (try simp only [List.map_toArray, List.map_cons, List.map_nil]); first | done | rfl | (simp only [List.length_drop, List.length_take]; rfl)) ?_; (with_reducible refine (brookref1_in.calls kj4 (⟨#[44, 43, 34, 92, 60, 62, 59]⟩ : ByteArray) (bt a0 x4_1) true _ A10.out).mono ?_); rintro e w' ⟨rfl, ⟨nd, rfl⟩⟩; refine ⟨_, rfl, ?_⟩))
              go_roundg kj4
              case measure => have := HK1.out; have := HJ4.out; omega
              case rel => exact ⟨((x3_1 ++ (⟨#[92]⟩ : ByteArray)) ++ (a0.extract (x4_1 : Int).toNat ((wrap64 (x4_1 + 1)) : Int).toNat)), (wrap64 (x4_1 + 1)), (by first | rfl | (simp; done) | (simp [*]; done) | (simp [u8_w, i64_w]; done) | (simp [isEmpty_bne]; done)), (by first | rfl | (simp; done) | (simp [*]; done) | (simp [u8_w, i64_w]; done) | (simp [isEmpty_bne]; done)), H', ⟨by have := HK1.out; have := HJ4.out; omega⟩, by repeat (first | exact Drawn0.refl _ | apply Drawn0.step)⟩
             ·rw [if_neg c16] at H
              exact absurd H (by simp)
            ·rw [if_neg c15] at H
             exact absurd H (by simp)
           ·rw [if_neg c14] at H
            exact absurd H (by simp)
          ·rw [if_neg c13] at H
           exact absurd H (by simp)
         ·rw [if_neg c12] at H
          exact absurd H (by simp)
        ·replace c11 := Bool.eq_false_iff.mpr c11
         subst c11
         have H1 : (if x4_1 = 0 then (if (bt a0 x4_1) = 35 then (if x3_1.size + 1 ≤ 9223372036854775807 then (if 0 ≤ x4_1 then (if x4_1 ≤ (wrap64 (x4_1 + 1)) then (if (wrap64 (x4_1 + 1)) ≤ (a0.size : Int) then (if (x3_1 ++ (⟨#[92]⟩ : ByteArray)).size + (a0.extract (x4_1 : Int).toNat ((wrap64 (x4_1 + 1)) : Int).toNat).size ≤ 9223372036854775807 then (brookref1_escaped.l0 kj4 a0 ((x3_1 ++ (⟨#[92]⟩ : ByteArray)) ++ (a0.extract (x4_1 : Int).toNat ((wrap64 (x4_1 + 1)) : Int).toNat)) (wrap64 (x4_1 + 1))) else (none)) else (none)) else (none)) else (none)) else (none)) else (if (bt a0 x4_1) = 32 then (if x3_1.size + 1 ≤ 9223372036854775807 then (if 0 ≤ x4_1 then (if x4_1 ≤ (wrap64 (x4_1 + 1)) then (if (wrap64 (x4_1 + 1)) ≤ (a0.size : Int) then (if (x3_1 ++ (⟨#[92]⟩ : ByteArray)).size + (a0.extract (x4_1 : Int).toNat ((wrap64 (x4_1 + 1)) : Int).toNat).size ≤ 9223372036854775807 then (brookref1_escaped.l0 kj4 a0 ((x3_1 ++ (⟨#[92]⟩ : ByteArray)) ++ (a0.extract (x4_1 : Int).toNat ((wrap64 (x4_1 + 1)) : Int).toNat)) (wrap64 (x4_1 + 1))) else (none)) else (none)) else (none)) else (none)) else (none)) else (if x4_1 = (wrap64 ((a0.size : Int) - 1)) then (if 0 ≤ x4_1 then (if x4_1 ≤ (wrap64 (x4_1 + 1)) then (if (wrap64 (x4_1 + 1)) ≤ (a0.size : Int) then (if x3_1.size + (a0.extract (x4_1 : Int).toNat ((wrap64 (x4_1 + 1)) : Int).toNat).size ≤ 9223372036854775807 then (brookref1_escaped.l0 kj4 a0 (x3_1 ++ (a0.extract (x4_1 : Int).toNat ((wrap64 (x4_1 + 1)) : Int).toNat)) (wrap64 (x4_1 + 1))) else (none)) else (none)) else (none)) else (none)) else (if 0 ≤ x4_1 then (if x4_1 ≤ (wrap64 (x4_1 + 1)) then (if (wrap64 (x4_1 + 1)) ≤ (a0.size : Int) then (if x3_1.size + (a0.extract (x4_1 : Int).toNat ((wrap64 (x4_1 + 1)) : Int).toNat).size ≤ 9223372036854775807 then (brookref1_escaped.l0 kj4 a0 (x3_1 ++ (a0.extract (x4_1 : Int).toNat ((wrap64 (x4_1 + 1)) : Int).toNat)) (wrap64 (x4_1 + 1))) else (none)) else (none)) else (none)) else (none))))) else (if x4_1 = (wrap64 ((a0.size : Int) - 1)) then (if (bt a0 x4_1) = 32 then (if x3_1.size + 1 ≤ 9223372036854775807 then (if 0 ≤ x4_1 then (if x4_1 ≤ (wrap64 (x4_1 + 1)) then (if (wrap64 (x4_1 + 1)) ≤ (a0.size : Int) then (if (x3_1 ++ (⟨#[92]⟩ : ByteArray)).size + (a0.extract (x4_1 : Int).toNat ((wrap64 (x4_1 + 1)) : Int).toNat).size ≤ 9223372036854775807 then (brookref1_escaped.l0 kj4 a0 ((x3_1 ++ (⟨#[92]⟩ : ByteArray)) ++ (a0.extract (x4_1 : Int).toNat ((wrap64 (x4_1 + 1)) : Int).toNat)) (wrap64 (x4_1 + 1))) else (none)) else (none)) else (none)) else (none)) else (none)) else (if 0 ≤ x4_1 then (if x4_1 ≤ (wrap64 (x4_1 + 1)) then (if (wrap64 (x4_1 + 1)) ≤ (a0.size : Int) then (if x3_1.size + (a0.extract (x4_1 : Int).toNat ((wrap64 (x4_1 + 1)) : Int).toNat).size ≤ 9223372036854775807 then (brookref1_escaped.l0 kj4 a0 (x3_1 ++ (a0.extract (x4_1 : Int).toNat ((wrap64 (x4_1 + 1)) : Int).toNat)) (wrap64 (x4_1 + 1))) else (none)) else (none)) else (none)) else (none))) else (if 0 ≤ x4_1 then (if x4_1 ≤ (wrap64 (x4_1 + 1)) then (if (wrap64 (x4_1 + 1)) ≤ (a0.size : Int) then (if x3_1.size + (a0.extract (x4_1 : Int).toNat ((wrap64 (x4_1 + 1)) : Int).toNat).size ≤ 9223372036854775807 then (brookref1_escaped.l0 kj4 a0 (x3_1 ++ (a0.extract (x4_1 : Int).toNat ((wrap64 (x4_1 + 1)) : Int).toNat)) (wrap64 (x4_1 + 1))) else (none)) else (none)) else (none)) else (none)))) = some r := by rw [if_neg (show ¬ (false = true) by decide)] at H; exact H
         clear H
         have H := H1
         clear H1
         by_cases c17 : x4_1 = 0
         ·rw [if_pos c17] at H
          have c17b0 : (x4_1 == 0) = true := beq_iff_eq.mpr c17
          have c17b1 : (x4_1 != 0) = false := bne_eq_false_iff_eq.mpr c17
          clear c17
          by_cases c18 : (bt a0 x4_1) = 35
          ·rw [if_pos c18] at H
           have c18b0 : ((bt a0 x4_1) == 35) = true := beq_iff_eq.mpr c18
           have c18b1 : ((bt a0 x4_1) != 35) = false := bne_eq_false_iff_eq.mpr c18
           clear c18
           by_cases c19 : x3_1.size + 1 ≤ 9223372036854775807
           ·rw [if_pos c19] at H
            have c19b0 := eq_true c19
            have c19b1 : decide (x3_1.size + 1 ≤ 9223372036854775807) = true := decide_eq_true c19
            try have c19b2 : (9223372036854775807 < x3_1.size + 1) = False := eq_false (Nat.not_lt.2 c19)
            by_cases c20 : 0 ≤ x4_1
            ·rw [if_pos c20] at H
             have c20b0 := eq_true c20
             have c20b1 : decide (0 ≤ x4_1) = true := decide_eq_true c20
             clear c20
             by_cases c21 : x4_1 ≤ (wrap64 (x4_1 + 1))
             ·rw [if_pos c21] at H
              have c21b0 := eq_true c21
              have c21b1 : decide (x4_1 ≤ (wrap64 (x4_1 + 1))) = true := decide_eq_true c21
              by_cases c22 : (wrap64 (x4_1 + 1)) ≤ (a0.size : Int)
              ·rw [if_pos c22] at H
               have c22b0 := eq_true c22
               have c22b1 : decide ((wrap64 (x4_1 + 1)) ≤ (a0.size : Int)) = true := decide_eq_true c22
               by_cases c23 : (x3_1 ++ (⟨#[92]⟩ : ByteArray)).size + (a0.extract (x4_1 : Int).toNat ((wrap64 (x4_1 + 1)) : Int).toNat).size ≤ 9223372036854775807
               ·rw [if_pos c23] at H
                have c23b0 := eq_true c23
                have c23b1 : decide ((x3_1 ++ (⟨#[92]⟩ : ByteArray)).size + (a0.extract (x4_1 : Int).toNat ((wrap64 (x4_1 + 1)) : Int).toNat).size ≤ 9223372036854775807) = true := decide_eq_true c23
                try have c23b2 : (9223372036854775807 < (x3_1 ++ (⟨#[92]⟩ : ByteArray)).size + (a0.extract (x4_1 : Int).toNat ((wrap64 (x4_1 + 1)) : Int).toNat).size) = False := eq_false (Nat.not_lt.2 c23)
                have H' := Aside0.mk H
                clear H
                go_wp2_with (first | ((with_reducible refine gate_callee (f := 57) rfl ?_); refine goesL_ (some 35) rfl rfl Tryz.func57 (by kernel_rfl) rfl #[.string (⟨#[44, 43, 34, 92, 60, 62, 59]⟩ : ByteArray), .int .u8 (bt a0 x4_1)] rfl (by (try simp only [List.map_toArray, List.map_cons, List.map_nil]); first | done | rfl | (simp only [List.length_drop, List.length_take]; rfl)) ?_; (with_reducible refine (brookref1_in.calls kj4 (⟨#[44, 43, 34, 92, 60, 62, 59]⟩ : ByteArray) (bt a0 x4_1) false _ A10.out).mono ?_); rintro e w' ⟨rfl, ⟨nd, rfl⟩⟩; refine ⟨_, rfl, ?_⟩))
                go_roundg kj4
                case measure => have := HK1.out; have := HJ4.out; omega
                case rel => exact ⟨((x3_1 ++ (⟨#[92]⟩ : ByteArray)) ++ (a0.extract (x4_1 : Int).toNat ((wrap64 (x4_1 + 1)) : Int).toNat)), (wrap64 (x4_1 + 1)), (by first | rfl | (simp; done) | (simp [*]; done) | (simp [u8_w, i64_w]; done) | (simp [isEmpty_bne]; done)), (by first | rfl | (simp; done) | (simp [*]; done) | (simp [u8_w, i64_w]; done) | (simp [isEmpty_bne]; done)), H', ⟨by have := HK1.out; have := HJ4.out; omega⟩, by repeat (first | exact Drawn0.refl _ | apply Drawn0.step)⟩
               ·rw [if_neg c23] at H
                exact absurd H (by simp)
              ·rw [if_neg c22] at H
               exact absurd H (by simp)
             ·rw [if_neg c21] at H
              exact absurd H (by simp)
            ·rw [if_neg c20] at H
             exact absurd H (by simp)
           ·rw [if_neg c19] at H
            exact absurd H (by simp)
          ·rw [if_neg c18] at H
           have c18b0 : ((bt a0 x4_1) == 35) = false := beq_eq_false_iff_ne.mpr c18
           have c18b1 : ((bt a0 x4_1) != 35) = true := bne_iff_ne.mpr c18
           by_cases c24 : (bt a0 x4_1) = 32
           ·rw [if_pos c24] at H
            have c24b0 : ((bt a0 x4_1) == 32) = true := beq_iff_eq.mpr c24
            have c24b1 : ((bt a0 x4_1) != 32) = false := bne_eq_false_iff_eq.mpr c24
            clear c24
            by_cases c25 : x3_1.size + 1 ≤ 9223372036854775807
            ·rw [if_pos c25] at H
             have c25b0 := eq_true c25
             have c25b1 : decide (x3_1.size + 1 ≤ 9223372036854775807) = true := decide_eq_true c25
             try have c25b2 : (9223372036854775807 < x3_1.size + 1) = False := eq_false (Nat.not_lt.2 c25)
             by_cases c26 : 0 ≤ x4_1
             ·rw [if_pos c26] at H
              have c26b0 := eq_true c26
              have c26b1 : decide (0 ≤ x4_1) = true := decide_eq_true c26
              clear c26
              by_cases c27 : x4_1 ≤ (wrap64 (x4_1 + 1))
              ·rw [if_pos c27] at H
               have c27b0 := eq_true c27
               have c27b1 : decide (x4_1 ≤ (wrap64 (x4_1 + 1))) = true := decide_eq_true c27
               by_cases c28 : (wrap64 (x4_1 + 1)) ≤ (a0.size : Int)
               ·rw [if_pos c28] at H
                have c28b0 := eq_true c28
                have c28b1 : decide ((wrap64 (x4_1 + 1)) ≤ (a0.size : Int)) = true := decide_eq_true c28
                by_cases c29 : (x3_1 ++ (⟨#[92]⟩ : ByteArray)).size + (a0.extract (x4_1 : Int).toNat ((wrap64 (x4_1 + 1)) : Int).toNat).size ≤ 9223372036854775807
                ·rw [if_pos c29] at H
                 have c29b0 := eq_true c29
                 have c29b1 : decide ((x3_1 ++ (⟨#[92]⟩ : ByteArray)).size + (a0.extract (x4_1 : Int).toNat ((wrap64 (x4_1 + 1)) : Int).toNat).size ≤ 9223372036854775807) = true := decide_eq_true c29
                 try have c29b2 : (9223372036854775807 < (x3_1 ++ (⟨#[92]⟩ : ByteArray)).size + (a0.extract (x4_1 : Int).toNat ((wrap64 (x4_1 + 1)) : Int).toNat).size) = False := eq_false (Nat.not_lt.2 c29)
                 have H' := Aside0.mk H
                 clear H
                 go_wp2_with (first | ((with_reducible refine gate_callee (f := 57) rfl ?_); refine goesL_ (some 35) rfl rfl Tryz.func57 (by kernel_rfl) rfl #[.string (⟨#[44, 43, 34, 92, 60, 62, 59]⟩ : ByteArray), .int .u8 (bt a0 x4_1)] rfl (by (try simp only [List.map_toArray, List.map_cons, List.map_nil]); first | done | rfl | (simp only [List.length_drop, List.length_take]; rfl)) ?_; (with_reducible refine (brookref1_in.calls kj4 (⟨#[44, 43, 34, 92, 60, 62, 59]⟩ : ByteArray) (bt a0 x4_1) false _ A10.out).mono ?_); rintro e w' ⟨rfl, ⟨nd, rfl⟩⟩; refine ⟨_, rfl, ?_⟩))
                 go_roundg kj4
                 case measure => have := HK1.out; have := HJ4.out; omega
                 case rel => exact ⟨((x3_1 ++ (⟨#[92]⟩ : ByteArray)) ++ (a0.extract (x4_1 : Int).toNat ((wrap64 (x4_1 + 1)) : Int).toNat)), (wrap64 (x4_1 + 1)), (by first | rfl | (simp; done) | (simp [*]; done) | (simp [u8_w, i64_w]; done) | (simp [isEmpty_bne]; done)), (by first | rfl | (simp; done) | (simp [*]; done) | (simp [u8_w, i64_w]; done) | (simp [isEmpty_bne]; done)), H', ⟨by have := HK1.out; have := HJ4.out; omega⟩, by repeat (first | exact Drawn0.refl _ | apply Drawn0.step)⟩
                ·rw [if_neg c29] at H
                 exact absurd H (by simp)
               ·rw [if_neg c28] at H
                exact absurd H (by simp)
              ·rw [if_neg c27] at H
               exact absurd H (by simp)
             ·rw [if_neg c26] at H
              exact absurd H (by simp)
            ·rw [if_neg c25] at H
             exact absurd H (by simp)
           ·rw [if_neg c24] at H
            have c24b0 : ((bt a0 x4_1) == 32) = false := beq_eq_false_iff_ne.mpr c24
            have c24b1 : ((bt a0 x4_1) != 32) = true := bne_iff_ne.mpr c24
            by_cases c30 : x4_1 = (wrap64 ((a0.size : Int) - 1))
            ·rw [if_pos c30] at H
             have c30b0 : (x4_1 == (wrap64 ((a0.size : Int) - 1))) = true := beq_iff_eq.mpr c30
             have c30b1 : (x4_1 != (wrap64 ((a0.size : Int) - 1))) = false := bne_eq_false_iff_eq.mpr c30
             clear c30
             by_cases c31 : 0 ≤ x4_1
             ·rw [if_pos c31] at H
              have c31b0 := eq_true c31
              have c31b1 : decide (0 ≤ x4_1) = true := decide_eq_true c31
              clear c31
              by_cases c32 : x4_1 ≤ (wrap64 (x4_1 + 1))
              ·rw [if_pos c32] at H
               have c32b0 := eq_true c32
               have c32b1 : decide (x4_1 ≤ (wrap64 (x4_1 + 1))) = true := decide_eq_true c32
               by_cases c33 : (wrap64 (x4_1 + 1)) ≤ (a0.size : Int)
               ·rw [if_pos c33] at H
                have c33b0 := eq_true c33
                have c33b1 : decide ((wrap64 (x4_1 + 1)) ≤ (a0.size : Int)) = true := decide_eq_true c33
                by_cases c34 : x3_1.size + (a0.extract (x4_1 : Int).toNat ((wrap64 (x4_1 + 1)) : Int).toNat).size ≤ 9223372036854775807
                ·rw [if_pos c34] at H
                 have c34b0 := eq_true c34
                 have c34b1 : decide (x3_1.size + (a0.extract (x4_1 : Int).toNat ((wrap64 (x4_1 + 1)) : Int).toNat).size ≤ 9223372036854775807) = true := decide_eq_true c34
                 try have c34b2 : (9223372036854775807 < x3_1.size + (a0.extract (x4_1 : Int).toNat ((wrap64 (x4_1 + 1)) : Int).toNat).size) = False := eq_false (Nat.not_lt.2 c34)
                 have H' := Aside0.mk H
                 clear H
                 go_wp2_with (first | ((with_reducible refine gate_callee (f := 57) rfl ?_); refine goesL_ (some 35) rfl rfl Tryz.func57 (by kernel_rfl) rfl #[.string (⟨#[44, 43, 34, 92, 60, 62, 59]⟩ : ByteArray), .int .u8 (bt a0 x4_1)] rfl (by (try simp only [List.map_toArray, List.map_cons, List.map_nil]); first | done | rfl | (simp only [List.length_drop, List.length_take]; rfl)) ?_; (with_reducible refine (brookref1_in.calls kj4 (⟨#[44, 43, 34, 92, 60, 62, 59]⟩ : ByteArray) (bt a0 x4_1) false _ A10.out).mono ?_); rintro e w' ⟨rfl, ⟨nd, rfl⟩⟩; refine ⟨_, rfl, ?_⟩))
                 go_roundg kj4
                 case measure => have := HK1.out; have := HJ4.out; omega
                 case rel => exact ⟨(x3_1 ++ (a0.extract (x4_1 : Int).toNat ((wrap64 (x4_1 + 1)) : Int).toNat)), (wrap64 (x4_1 + 1)), (by first | rfl | (simp; done) | (simp [*]; done) | (simp [u8_w, i64_w]; done) | (simp [isEmpty_bne]; done)), (by first | rfl | (simp; done) | (simp [*]; done) | (simp [u8_w, i64_w]; done) | (simp [isEmpty_bne]; done)), H', ⟨by have := HK1.out; have := HJ4.out; omega⟩, by repeat (first | exact Drawn0.refl _ | apply Drawn0.step)⟩
                ·rw [if_neg c34] at H
                 exact absurd H (by simp)
               ·rw [if_neg c33] at H
                exact absurd H (by simp)
              ·rw [if_neg c32] at H
               exact absurd H (by simp)
             ·rw [if_neg c31] at H
              exact absurd H (by simp)
            ·rw [if_neg c30] at H
             have c30b0 : (x4_1 == (wrap64 ((a0.size : Int) - 1))) = false := beq_eq_false_iff_ne.mpr c30
             have c30b1 : (x4_1 != (wrap64 ((a0.size : Int) - 1))) = true := bne_iff_ne.mpr c30
             by_cases c35 : 0 ≤ x4_1
             ·rw [if_pos c35] at H
              have c35b0 := eq_true c35
              have c35b1 : decide (0 ≤ x4_1) = true := decide_eq_true c35
              clear c35
              by_cases c36 : x4_1 ≤ (wrap64 (x4_1 + 1))
              ·rw [if_pos c36] at H
               have c36b0 := eq_true c36
               have c36b1 : decide (x4_1 ≤ (wrap64 (x4_1 + 1))) = true := decide_eq_true c36
               by_cases c37 : (wrap64 (x4_1 + 1)) ≤ (a0.size : Int)
               ·rw [if_pos c37] at H
                have c37b0 := eq_true c37
                have c37b1 : decide ((wrap64 (x4_1 + 1)) ≤ (a0.size : Int)) = true := decide_eq_true c37
                by_cases c38 : x3_1.size + (a0.extract (x4_1 : Int).toNat ((wrap64 (x4_1 + 1)) : Int).toNat).size ≤ 9223372036854775807
                ·rw [if_pos c38] at H
                 have c38b0 := eq_true c38
                 have c38b1 : decide (x3_1.size + (a0.extract (x4_1 : Int).toNat ((wrap64 (x4_1 + 1)) : Int).toNat).size ≤ 9223372036854775807) = true := decide_eq_true c38
                 try have c38b2 : (9223372036854775807 < x3_1.size + (a0.extract (x4_1 : Int).toNat ((wrap64 (x4_1 + 1)) : Int).toNat).size) = False := eq_false (Nat.not_lt.2 c38)
                 have H' := Aside0.mk H
                 clear H
                 go_wp2_with (first | ((with_reducible refine gate_callee (f := 57) rfl ?_); refine goesL_ (some 35) rfl rfl Tryz.func57 (by kernel_rfl) rfl #[.string (⟨#[44, 43, 34, 92, 60, 62, 59]⟩ : ByteArray), .int .u8 (bt a0 x4_1)] rfl (by (try simp only [List.map_toArray, List.map_cons, List.map_nil]); first | done | rfl | (simp only [List.length_drop, List.length_take]; rfl)) ?_; (with_reducible refine (brookref1_in.calls kj4 (⟨#[44, 43, 34, 92, 60, 62, 59]⟩ : ByteArray) (bt a0 x4_1) false _ A10.out).mono ?_); rintro e w' ⟨rfl, ⟨nd, rfl⟩⟩; refine ⟨_, rfl, ?_⟩))
                 go_roundg kj4
                 case measure => have := HK1.out; have := HJ4.out; omega
                 case rel => exact ⟨(x3_1 ++ (a0.extract (x4_1 : Int).toNat ((wrap64 (x4_1 + 1)) : Int).toNat)), (wrap64 (x4_1 + 1)), (by first | rfl | (simp; done) | (simp [*]; done) | (simp [u8_w, i64_w]; done) | (simp [isEmpty_bne]; done)), (by first | rfl | (simp; done) | (simp [*]; done) | (simp [u8_w, i64_w]; done) | (simp [isEmpty_bne]; done)), H', ⟨by have := HK1.out; have := HJ4.out; omega⟩, by repeat (first | exact Drawn0.refl _ | apply Drawn0.step)⟩
                ·rw [if_neg c38] at H
                 exact absurd H (by simp)
               ·rw [if_neg c37] at H
                exact absurd H (by simp)
              ·rw [if_neg c36] at H
               exact absurd H (by simp)
             ·rw [if_neg c35] at H
              exact absurd H (by simp)
         ·rw [if_neg c17] at H
          have c17b0 : (x4_1 == 0) = false := beq_eq_false_iff_ne.mpr c17
          have c17b1 : (x4_1 != 0) = true := bne_iff_ne.mpr c17
          by_cases c39 : x4_1 = (wrap64 ((a0.size : Int) - 1))
          ·rw [if_pos c39] at H
           have c39b0 : (x4_1 == (wrap64 ((a0.size : Int) - 1))) = true := beq_iff_eq.mpr c39
           have c39b1 : (x4_1 != (wrap64 ((a0.size : Int) - 1))) = false := bne_eq_false_iff_eq.mpr c39
           clear c39
           by_cases c40 : (bt a0 x4_1) = 32
           ·rw [if_pos c40] at H
            have c40b0 : ((bt a0 x4_1) == 32) = true := beq_iff_eq.mpr c40
            have c40b1 : ((bt a0 x4_1) != 32) = false := bne_eq_false_iff_eq.mpr c40
            clear c40
            by_cases c41 : x3_1.size + 1 ≤ 9223372036854775807
            ·rw [if_pos c41] at H
             have c41b0 := eq_true c41
             have c41b1 : decide (x3_1.size + 1 ≤ 9223372036854775807) = true := decide_eq_true c41
             try have c41b2 : (9223372036854775807 < x3_1.size + 1) = False := eq_false (Nat.not_lt.2 c41)
             by_cases c42 : 0 ≤ x4_1
             ·rw [if_pos c42] at H
              have c42b0 := eq_true c42
              have c42b1 : decide (0 ≤ x4_1) = true := decide_eq_true c42
              clear c42
              by_cases c43 : x4_1 ≤ (wrap64 (x4_1 + 1))
              ·rw [if_pos c43] at H
               have c43b0 := eq_true c43
               have c43b1 : decide (x4_1 ≤ (wrap64 (x4_1 + 1))) = true := decide_eq_true c43
               by_cases c44 : (wrap64 (x4_1 + 1)) ≤ (a0.size : Int)
               ·rw [if_pos c44] at H
                have c44b0 := eq_true c44
                have c44b1 : decide ((wrap64 (x4_1 + 1)) ≤ (a0.size : Int)) = true := decide_eq_true c44
                by_cases c45 : (x3_1 ++ (⟨#[92]⟩ : ByteArray)).size + (a0.extract (x4_1 : Int).toNat ((wrap64 (x4_1 + 1)) : Int).toNat).size ≤ 9223372036854775807
                ·rw [if_pos c45] at H
                 have c45b0 := eq_true c45
                 have c45b1 : decide ((x3_1 ++ (⟨#[92]⟩ : ByteArray)).size + (a0.extract (x4_1 : Int).toNat ((wrap64 (x4_1 + 1)) : Int).toNat).size ≤ 9223372036854775807) = true := decide_eq_true c45
                 try have c45b2 : (9223372036854775807 < (x3_1 ++ (⟨#[92]⟩ : ByteArray)).size + (a0.extract (x4_1 : Int).toNat ((wrap64 (x4_1 + 1)) : Int).toNat).size) = False := eq_false (Nat.not_lt.2 c45)
                 have H' := Aside0.mk H
                 clear H
                 go_wp2_with (first | ((with_reducible refine gate_callee (f := 57) rfl ?_); refine goesL_ (some 35) rfl rfl Tryz.func57 (by kernel_rfl) rfl #[.string (⟨#[44, 43, 34, 92, 60, 62, 59]⟩ : ByteArray), .int .u8 (bt a0 x4_1)] rfl (by (try simp only [List.map_toArray, List.map_cons, List.map_nil]); first | done | rfl | (simp only [List.length_drop, List.length_take]; rfl)) ?_; (with_reducible refine (brookref1_in.calls kj4 (⟨#[44, 43, 34, 92, 60, 62, 59]⟩ : ByteArray) (bt a0 x4_1) false _ A10.out).mono ?_); rintro e w' ⟨rfl, ⟨nd, rfl⟩⟩; refine ⟨_, rfl, ?_⟩))
                 go_roundg kj4
                 case measure => have := HK1.out; have := HJ4.out; omega
                 case rel => exact ⟨((x3_1 ++ (⟨#[92]⟩ : ByteArray)) ++ (a0.extract (x4_1 : Int).toNat ((wrap64 (x4_1 + 1)) : Int).toNat)), (wrap64 (x4_1 + 1)), (by first | rfl | (simp; done) | (simp [*]; done) | (simp [u8_w, i64_w]; done) | (simp [isEmpty_bne]; done)), (by first | rfl | (simp; done) | (simp [*]; done) | (simp [u8_w, i64_w]; done) | (simp [isEmpty_bne]; done)), H', ⟨by have := HK1.out; have := HJ4.out; omega⟩, by repeat (first | exact Drawn0.refl _ | apply Drawn0.step)⟩
                ·rw [if_neg c45] at H
                 exact absurd H (by simp)
               ·rw [if_neg c44] at H
                exact absurd H (by simp)
              ·rw [if_neg c43] at H
               exact absurd H (by simp)
             ·rw [if_neg c42] at H
              exact absurd H (by simp)
            ·rw [if_neg c41] at H
             exact absurd H (by simp)
           ·rw [if_neg c40] at H
            have c40b0 : ((bt a0 x4_1) == 32) = false := beq_eq_false_iff_ne.mpr c40
            have c40b1 : ((bt a0 x4_1) != 32) = true := bne_iff_ne.mpr c40
            by_cases c46 : 0 ≤ x4_1
            ·rw [if_pos c46] at H
             have c46b0 := eq_true c46
             have c46b1 : decide (0 ≤ x4_1) = true := decide_eq_true c46
             clear c46
             by_cases c47 : x4_1 ≤ (wrap64 (x4_1 + 1))
             ·rw [if_pos c47] at H
              have c47b0 := eq_true c47
              have c47b1 : decide (x4_1 ≤ (wrap64 (x4_1 + 1))) = true := decide_eq_true c47
              by_cases c48 : (wrap64 (x4_1 + 1)) ≤ (a0.size : Int)
              ·rw [if_pos c48] at H
               have c48b0 := eq_true c48
               have c48b1 : decide ((wrap64 (x4_1 + 1)) ≤ (a0.size : Int)) = true := decide_eq_true c48
               by_cases c49 : x3_1.size + (a0.extract (x4_1 : Int).toNat ((wrap64 (x4_1 + 1)) : Int).toNat).size ≤ 9223372036854775807
               ·rw [if_pos c49] at H
                have c49b0 := eq_true c49
                have c49b1 : decide (x3_1.size + (a0.extract (x4_1 : Int).toNat ((wrap64 (x4_1 + 1)) : Int).toNat).size ≤ 9223372036854775807) = true := decide_eq_true c49
                try have c49b2 : (9223372036854775807 < x3_1.size + (a0.extract (x4_1 : Int).toNat ((wrap64 (x4_1 + 1)) : Int).toNat).size) = False := eq_false (Nat.not_lt.2 c49)
                have H' := Aside0.mk H
                clear H
                go_wp2_with (first | ((with_reducible refine gate_callee (f := 57) rfl ?_); refine goesL_ (some 35) rfl rfl Tryz.func57 (by kernel_rfl) rfl #[.string (⟨#[44, 43, 34, 92, 60, 62, 59]⟩ : ByteArray), .int .u8 (bt a0 x4_1)] rfl (by (try simp only [List.map_toArray, List.map_cons, List.map_nil]); first | done | rfl | (simp only [List.length_drop, List.length_take]; rfl)) ?_; (with_reducible refine (brookref1_in.calls kj4 (⟨#[44, 43, 34, 92, 60, 62, 59]⟩ : ByteArray) (bt a0 x4_1) false _ A10.out).mono ?_); rintro e w' ⟨rfl, ⟨nd, rfl⟩⟩; refine ⟨_, rfl, ?_⟩))
                go_roundg kj4
                case measure => have := HK1.out; have := HJ4.out; omega
                case rel => exact ⟨(x3_1 ++ (a0.extract (x4_1 : Int).toNat ((wrap64 (x4_1 + 1)) : Int).toNat)), (wrap64 (x4_1 + 1)), (by first | rfl | (simp; done) | (simp [*]; done) | (simp [u8_w, i64_w]; done) | (simp [isEmpty_bne]; done)), (by first | rfl | (simp; done) | (simp [*]; done) | (simp [u8_w, i64_w]; done) | (simp [isEmpty_bne]; done)), H', ⟨by have := HK1.out; have := HJ4.out; omega⟩, by repeat (first | exact Drawn0.refl _ | apply Drawn0.step)⟩
               ·rw [if_neg c49] at H
                exact absurd H (by simp)
              ·rw [if_neg c48] at H
               exact absurd H (by simp)
             ·rw [if_neg c47] at H
              exact absurd H (by simp)
            ·rw [if_neg c46] at H
             exact absurd H (by simp)
          ·rw [if_neg c39] at H
           have c39b0 : (x4_1 == (wrap64 ((a0.size : Int) - 1))) = false := beq_eq_false_iff_ne.mpr c39
           have c39b1 : (x4_1 != (wrap64 ((a0.size : Int) - 1))) = true := bne_iff_ne.mpr c39
           by_cases c50 : 0 ≤ x4_1
           ·rw [if_pos c50] at H
            have c50b0 := eq_true c50
            have c50b1 : decide (0 ≤ x4_1) = true := decide_eq_true c50
            clear c50
            by_cases c51 : x4_1 ≤ (wrap64 (x4_1 + 1))
            ·rw [if_pos c51] at H
             have c51b0 := eq_true c51
             have c51b1 : decide (x4_1 ≤ (wrap64 (x4_1 + 1))) = true := decide_eq_true c51
             by_cases c52 : (wrap64 (x4_1 + 1)) ≤ (a0.size : Int)
             ·rw [if_pos c52] at H
              have c52b0 := eq_true c52
              have c52b1 : decide ((wrap64 (x4_1 + 1)) ≤ (a0.size : Int)) = true := decide_eq_true c52
              by_cases c53 : x3_1.size + (a0.extract (x4_1 : Int).toNat ((wrap64 (x4_1 + 1)) : Int).toNat).size ≤ 9223372036854775807
              ·rw [if_pos c53] at H
               have c53b0 := eq_true c53
               have c53b1 : decide (x3_1.size + (a0.extract (x4_1 : Int).toNat ((wrap64 (x4_1 + 1)) : Int).toNat).size ≤ 9223372036854775807) = true := decide_eq_true c53
               try have c53b2 : (9223372036854775807 < x3_1.size + (a0.extract (x4_1 : Int).toNat ((wrap64 (x4_1 + 1)) : Int).toNat).size) = False := eq_false (Nat.not_lt.2 c53)
               have H' := Aside0.mk H
               clear H
               go_wp2_with (first | ((with_reducible refine gate_callee (f := 57) rfl ?_); refine goesL_ (some 35) rfl rfl Tryz.func57 (by kernel_rfl) rfl #[.string (⟨#[44, 43, 34, 92, 60, 62, 59]⟩ : ByteArray), .int .u8 (bt a0 x4_1)] rfl (by (try simp only [List.map_toArray, List.map_cons, List.map_nil]); first | done | rfl | (simp only [List.length_drop, List.length_take]; rfl)) ?_; (with_reducible refine (brookref1_in.calls kj4 (⟨#[44, 43, 34, 92, 60, 62, 59]⟩ : ByteArray) (bt a0 x4_1) false _ A10.out).mono ?_); rintro e w' ⟨rfl, ⟨nd, rfl⟩⟩; refine ⟨_, rfl, ?_⟩))
               go_roundg kj4
               case measure => have := HK1.out; have := HJ4.out; omega
               case rel => exact ⟨(x3_1 ++ (a0.extract (x4_1 : Int).toNat ((wrap64 (x4_1 + 1)) : Int).toNat)), (wrap64 (x4_1 + 1)), (by first | rfl | (simp; done) | (simp [*]; done) | (simp [u8_w, i64_w]; done) | (simp [isEmpty_bne]; done)), (by first | rfl | (simp; done) | (simp [*]; done) | (simp [u8_w, i64_w]; done) | (simp [isEmpty_bne]; done)), H', ⟨by have := HK1.out; have := HJ4.out; omega⟩, by repeat (first | exact Drawn0.refl _ | apply Drawn0.step)⟩
              ·rw [if_neg c53] at H
               exact absurd H (by simp)
             ·rw [if_neg c52] at H
              exact absurd H (by simp)
            ·rw [if_neg c51] at H
             exact absurd H (by simp)
           ·rw [if_neg c50] at H
            exact absurd H (by simp)
    ·rw [if_neg c3] at H
     exact absurd H (by simp)
   ·rw [if_neg c2] at H
    have c2b0 : decide (x4_1 < (a0.size : Int)) = false := decide_eq_false c2
    clear c2
    obtain rfl := Option.some.inj H
    go_wp2
    go_ret
    exact ⟨by first | rfl | (simp; done) | (simp [*]; done) | (simp [u8_w, i64_w]; done) | (simp [isEmpty_bne]; done), by repeat (first | exact Drawn0.refl _ | apply Drawn0.step)⟩
end Go.Proofs.YtflkghdndffacaaGreatDoor.PD
namespace Go.Proofs.YtflkghdndffacaaGreatDoor.PD
open Go.RowKit Go.Proofs.YtflkghdndffacaaGreatDoor.H Go.Proofs.YtflkghdndffacaaGreatDoorW.PrintWords Go.Proofs.YtflkghdndffacaaGreatDoorW.PrintLast Go.Proofs.YtflkghdndffacaaGreatDoorW.PrintMore
attribute [local go_sem] max2_int min2_int max_two min_two max_three min_three max_four min_four
set_option linter.unusedVariables false
set_option linter.unusedSimpArgs false
def brookref1_TextDn.l0 : Nat → List (S25) → ByteArray → Int → Option (ByteArray)
 | 0, _, _, _ => none
 | k + 1, x0, x3, x4 => if x4 < (x0.length : Int) then (if x4 > 0 then (if x3.size + 1 ≤ 9223372036854775807 then (if 0 ≤ x4 then (if (x3 ++ (⟨#[44]⟩ : ByteArray)).size + ((rd_T25 x0 x4).f0).size ≤ 9223372036854775807 then (if ((x3 ++ (⟨#[44]⟩ : ByteArray)) ++ ((rd_T25 x0 x4).f0)).size + 1 ≤ 9223372036854775807 then ((brookref1_escaped.f k ((rd_T25 x0 x4).f1)).bind fun t164 => (if (((x3 ++ (⟨#[44]⟩ : ByteArray)) ++ ((rd_T25 x0 x4).f0)) ++ (⟨#[61]⟩ : ByteArray)).size + t164.size ≤ 9223372036854775807 then (brookref1_TextDn.l0 k x0 ((((x3 ++ (⟨#[44]⟩ : ByteArray)) ++ ((rd_T25 x0 x4).f0)) ++ (⟨#[61]⟩ : ByteArray)) ++ t164) (wrap64 (x4 + 1))) else (none))) else (none)) else (none)) else (none)) else (none)) else (if 0 ≤ x4 then (if x3.size + ((rd_T25 x0 x4).f0).size ≤ 9223372036854775807 then (if (x3 ++ ((rd_T25 x0 x4).f0)).size + 1 ≤ 9223372036854775807 then ((brookref1_escaped.f k ((rd_T25 x0 x4).f1)).bind fun t167 => (if ((x3 ++ ((rd_T25 x0 x4).f0)) ++ (⟨#[61]⟩ : ByteArray)).size + t167.size ≤ 9223372036854775807 then (brookref1_TextDn.l0 k x0 (((x3 ++ ((rd_T25 x0 x4).f0)) ++ (⟨#[61]⟩ : ByteArray)) ++ t167) (wrap64 (x4 + 1))) else (none))) else (none)) else (none)) else (none))) else (some x3)
def brookref1_TextDn.f (k : Nat) (l0 : List (S25)) : Option (ByteArray) := brookref1_TextDn.l0 k l0 (⟨#[]⟩ : ByteArray) 0
set_option maxHeartbeats 8000000 in
set_option maxRecDepth 100000 in
theorem brookref1_TextDn.calls (k : Nat) (A0 : Option Addr) (c0 : Nat) (l0 : List (S25)) (r : ByteArray) (w : World) (hr0 : Kd.C k25 w A0 l0.length l0) (hc0 : l0.length ≤ c0) (h : brookref1_TextDn.f k l0 = some r) :
  Calls Tryz.prog 25 #[.slice A0 l0.length c0] w fun e w' => e = .returned (.string r) ∧ Drawn0 w w' := by
 have HR0 := Aside0.mk hr0
 have HC0 := Aside0.mk hc0
 clear hr0 hc0
 have H : (brookref1_TextDn.l0 k l0 (⟨#[]⟩ : ByteArray) 0) = some r := h
 clear h
 have H' := Aside0.mk H
 clear H
 go_enter Tryz.func25, Tryz.ntmps25
 go_wp2
 repeat (go_quiet (fail); try go_wp2)
 go_loopg [3, 4] k (fun kq v3 v4 w' => ∃ (x3_1 : ByteArray) (x4_1 : Int), v3 = .string x3_1 ∧ v4 = .int .i64 x4_1 ∧ Aside0 (brookref1_TextDn.l0 kq l0 x3_1 x4_1 = some r) ∧ Aside0 (kq ≤ k) ∧ Drawn0 w w')
 case atStart => exact ⟨((⟨#[]⟩ : ByteArray)), (0), (by first | rfl | (simp; done) | (simp [*]; done) | (simp [u8_w, i64_w]; done) | (simp [isEmpty_bne]; done)), (by first | rfl | (simp; done) | (simp [*]; done) | (simp [u8_w, i64_w]; done) | (simp [isEmpty_bne]; done)), H', ⟨Nat.le_refl _⟩, by repeat (first | exact Drawn0.refl _ | apply Drawn0.step)⟩
 case round =>
  clear H'
  try clear c1
  obtain ⟨x3_1, x4_1, rfl, rfl, HA, HK1, ⟨m1, rfl⟩⟩ := hrel
  cases gk with
  | zero => exact absurd HA.out (by simp [brookref1_TextDn.l0])
  | succ k1 =>
   have H := HA.out
   clear HA
   simp only [brookref1_TextDn.l0] at H
   by_cases c2 : x4_1 < (l0.length : Int)
   ·rw [if_pos c2] at H
    have c2b0 : decide (x4_1 < (l0.length : Int)) = true := decide_eq_true c2
    clear c2
    by_cases c3 : x4_1 > 0
    ·rw [if_pos c3] at H
     have c3b0 : decide (0 < x4_1) = true := decide_eq_true c3
     clear c3
     by_cases c4 : x3_1.size + 1 ≤ 9223372036854775807
     ·rw [if_pos c4] at H
      have c4b0 := eq_true c4
      have c4b1 : decide (x3_1.size + 1 ≤ 9223372036854775807) = true := decide_eq_true c4
      try have c4b2 : (9223372036854775807 < x3_1.size + 1) = False := eq_false (Nat.not_lt.2 c4)
      by_cases c5 : 0 ≤ x4_1
      ·rw [if_pos c5] at H
       have c5b0 : decide (0 ≤ x4_1) = true := decide_eq_true c5
       clear c5
       by_cases c6 : (x3_1 ++ (⟨#[44]⟩ : ByteArray)).size + ((rd_T25 l0 x4_1).f0).size ≤ 9223372036854775807
       ·rw [if_pos c6] at H
        have c6b0 := eq_true c6
        have c6b1 : decide ((x3_1 ++ (⟨#[44]⟩ : ByteArray)).size + ((rd_T25 l0 x4_1).f0).size ≤ 9223372036854775807) = true := decide_eq_true c6
        try have c6b2 : (9223372036854775807 < (x3_1 ++ (⟨#[44]⟩ : ByteArray)).size + ((rd_T25 l0 x4_1).f0).size) = False := eq_false (Nat.not_lt.2 c6)
        try have c6b4 : (9223372036854775807 < x3_1.size + 1 + ((rd_T25 l0 x4_1).f0).size) = False := eq_false (Nat.not_lt.2 (by have h_ := c6; (try simp only [ByteArray.size_append] at h_); exact h_))
        by_cases c7 : ((x3_1 ++ (⟨#[44]⟩ : ByteArray)) ++ ((rd_T25 l0 x4_1).f0)).size + 1 ≤ 9223372036854775807
        ·rw [if_pos c7] at H
         have c7b0 := eq_true c7
         have c7b1 : decide (((x3_1 ++ (⟨#[44]⟩ : ByteArray)) ++ ((rd_T25 l0 x4_1).f0)).size + 1 ≤ 9223372036854775807) = true := decide_eq_true c7
         try have c7b2 : (9223372036854775807 < ((x3_1 ++ (⟨#[44]⟩ : ByteArray)) ++ ((rd_T25 l0 x4_1).f0)).size + 1) = False := eq_false (Nat.not_lt.2 c7)
         try have c7b4 : (9223372036854775807 < x3_1.size + 1 + ((rd_T25 l0 x4_1).f0).size + 1) = False := eq_false (Nat.not_lt.2 (by have h_ := c7; (try simp only [ByteArray.size_append] at h_); exact h_))
         replace H := Option.bind_eq_some_iff.mp H
         obtain ⟨t164, A80, H⟩ := H
         replace H : (if (((x3_1 ++ (⟨#[44]⟩ : ByteArray)) ++ ((rd_T25 l0 x4_1).f0)) ++ (⟨#[61]⟩ : ByteArray)).size + t164.size ≤ 9223372036854775807 then (brookref1_TextDn.l0 k1 l0 ((((x3_1 ++ (⟨#[44]⟩ : ByteArray)) ++ ((rd_T25 l0 x4_1).f0)) ++ (⟨#[61]⟩ : ByteArray)) ++ t164) (wrap64 (x4_1 + 1))) else (none)) = some r := H
         have A8 := Aside0.mk A80
         clear A80
         by_cases c9 : (((x3_1 ++ (⟨#[44]⟩ : ByteArray)) ++ ((rd_T25 l0 x4_1).f0)) ++ (⟨#[61]⟩ : ByteArray)).size + t164.size ≤ 9223372036854775807
         ·rw [if_pos c9] at H
          have c9b0 := eq_true c9
          have c9b1 : decide ((((x3_1 ++ (⟨#[44]⟩ : ByteArray)) ++ ((rd_T25 l0 x4_1).f0)) ++ (⟨#[61]⟩ : ByteArray)).size + t164.size ≤ 9223372036854775807) = true := decide_eq_true c9
          try have c9b2 : (9223372036854775807 < (((x3_1 ++ (⟨#[44]⟩ : ByteArray)) ++ ((rd_T25 l0 x4_1).f0)) ++ (⟨#[61]⟩ : ByteArray)).size + t164.size) = False := eq_false (Nat.not_lt.2 c9)
          try have c9b4 : (9223372036854775807 < x3_1.size + 1 + ((rd_T25 l0 x4_1).f0).size + 1 + t164.size) = False := eq_false (Nat.not_lt.2 (by have h_ := c9; (try simp only [ByteArray.size_append] at h_); exact h_))
          have H' := Aside0.mk H
          clear H
          have p162 : 0 ≤ (x4_1 : Int) := of_decide_eq_true (by first | (with_reducible assumption) | assumption)
          have q162 : x4_1 < (l0.length : Int) := of_decide_eq_true (by first | (with_reducible assumption) | assumption)
          obtain ⟨ad162, e162, hx162_0, hx162_1⟩ := at_T25 HR0.out x4_1 p162 q162
          cases e162
          replace p162 := eq_true p162
          replace q162 := eq_true q162
          have p163 : 0 ≤ (x4_1 : Int) := of_decide_eq_true (by first | (with_reducible assumption) | assumption)
          have q163 : x4_1 < (l0.length : Int) := of_decide_eq_true (by first | (with_reducible assumption) | assumption)
          obtain ⟨ad163, e163, hx163_0, hx163_1⟩ := at_T25 HR0.out x4_1 p163 q163
          obtain rfl : ad162 = ad163 := (by injection e163)
          replace p163 := eq_true p163
          replace q163 := eq_true q163
          go_wp2_with (first | (go_at_call 44; (with_reducible refine (brookref1_escaped.calls k1 ((rd_T25 l0 x4_1).f1) t164 _ A8.out).mono ?_); rintro e w' ⟨rfl, ⟨nd, rfl⟩⟩; (try first | exact ⟨rfl, _, World.drewN_drewN _ _ _⟩ | exact ⟨rfl, _, Eq.trans (World.drewN_drewN _ _ _) (congrArg (World.drewN _) (Nat.add_assoc _ _ _))⟩)))
          repeat (go_quiet (first | (go_at_call 44; (with_reducible refine (brookref1_escaped.calls k1 ((rd_T25 l0 x4_1).f1) t164 _ A8.out).mono ?_); rintro e w' ⟨rfl, ⟨nd, rfl⟩⟩; (try first | exact ⟨rfl, _, World.drewN_drewN _ _ _⟩ | exact ⟨rfl, _, Eq.trans (World.drewN_drewN _ _ _) (congrArg (World.drewN _) (Nat.add_assoc _ _ _))⟩))); try go_wp2_with (first | (go_at_call 44; (with_reducible refine (brookref1_escaped.calls k1 ((rd_T25 l0 x4_1).f1) t164 _ A8.out).mono ?_); rintro e w' ⟨rfl, ⟨nd, rfl⟩⟩; (try first | exact ⟨rfl, _, World.drewN_drewN _ _ _⟩ | exact ⟨rfl, _, Eq.trans (World.drewN_drewN _ _ _) (congrArg (World.drewN _) (Nat.add_assoc _ _ _))⟩))))
          go_roundg k1
          case measure => have := HK1.out; omega
          case rel => exact ⟨((((x3_1 ++ (⟨#[44]⟩ : ByteArray)) ++ ((rd_T25 l0 x4_1).f0)) ++ (⟨#[61]⟩ : ByteArray)) ++ t164), (wrap64 (x4_1 + 1)), (by first | rfl | (simp; done) | (simp [*]; done) | (simp [u8_w, i64_w]; done) | (simp [isEmpty_bne]; done)), (by first | rfl | (simp; done) | (simp [*]; done) | (simp [u8_w, i64_w]; done) | (simp [isEmpty_bne]; done)), H', ⟨by have := HK1.out; omega⟩, by repeat (first | exact Drawn0.refl _ | apply Drawn0.step)⟩
         ·rw [if_neg c9] at H
          exact absurd H (by simp)
        ·rw [if_neg c7] at H
         exact absurd H (by simp)
       ·rw [if_neg c6] at H
        exact absurd H (by simp)
      ·rw [if_neg c5] at H
       exact absurd H (by simp)
     ·rw [if_neg c4] at H
      exact absurd H (by simp)
    ·rw [if_neg c3] at H
     have c3b0 : decide (0 < x4_1) = false := decide_eq_false c3
     clear c3
     by_cases c10 : 0 ≤ x4_1
     ·rw [if_pos c10] at H
      have c10b0 : decide (0 ≤ x4_1) = true := decide_eq_true c10
      clear c10
      by_cases c11 : x3_1.size + ((rd_T25 l0 x4_1).f0).size ≤ 9223372036854775807
      ·rw [if_pos c11] at H
       have c11b0 := eq_true c11
       have c11b1 : decide (x3_1.size + ((rd_T25 l0 x4_1).f0).size ≤ 9223372036854775807) = true := decide_eq_true c11
       try have c11b2 : (9223372036854775807 < x3_1.size + ((rd_T25 l0 x4_1).f0).size) = False := eq_false (Nat.not_lt.2 c11)
       by_cases c12 : (x3_1 ++ ((rd_T25 l0 x4_1).f0)).size + 1 ≤ 9223372036854775807
       ·rw [if_pos c12] at H
        have c12b0 := eq_true c12
        have c12b1 : decide ((x3_1 ++ ((rd_T25 l0 x4_1).f0)).size + 1 ≤ 9223372036854775807) = true := decide_eq_true c12
        try have c12b2 : (9223372036854775807 < (x3_1 ++ ((rd_T25 l0 x4_1).f0)).size + 1) = False := eq_false (Nat.not_lt.2 c12)
        try have c12b4 : (9223372036854775807 < x3_1.size + ((rd_T25 l0 x4_1).f0).size + 1) = False := eq_false (Nat.not_lt.2 (by have h_ := c12; (try simp only [ByteArray.size_append] at h_); exact h_))
        replace H := Option.bind_eq_some_iff.mp H
        obtain ⟨t167, A130, H⟩ := H
        replace H : (if ((x3_1 ++ ((rd_T25 l0 x4_1).f0)) ++ (⟨#[61]⟩ : ByteArray)).size + t167.size ≤ 9223372036854775807 then (brookref1_TextDn.l0 k1 l0 (((x3_1 ++ ((rd_T25 l0 x4_1).f0)) ++ (⟨#[61]⟩ : ByteArray)) ++ t167) (wrap64 (x4_1 + 1))) else (none)) = some r := H
        have A13 := Aside0.mk A130
        clear A130
        by_cases c14 : ((x3_1 ++ ((rd_T25 l0 x4_1).f0)) ++ (⟨#[61]⟩ : ByteArray)).size + t167.size ≤ 9223372036854775807
        ·rw [if_pos c14] at H
         have c14b0 := eq_true c14
         have c14b1 : decide (((x3_1 ++ ((rd_T25 l0 x4_1).f0)) ++ (⟨#[61]⟩ : ByteArray)).size + t167.size ≤ 9223372036854775807) = true := decide_eq_true c14
         try have c14b2 : (9223372036854775807 < ((x3_1 ++ ((rd_T25 l0 x4_1).f0)) ++ (⟨#[61]⟩ : ByteArray)).size + t167.size) = False := eq_false (Nat.not_lt.2 c14)
         try have c14b4 : (9223372036854775807 < x3_1.size + ((rd_T25 l0 x4_1).f0).size + 1 + t167.size) = False := eq_false (Nat.not_lt.2 (by have h_ := c14; (try simp only [ByteArray.size_append] at h_); exact h_))
         have H' := Aside0.mk H
         clear H
         have p165 : 0 ≤ (x4_1 : Int) := of_decide_eq_true (by first | (with_reducible assumption) | assumption)
         have q165 : x4_1 < (l0.length : Int) := of_decide_eq_true (by first | (with_reducible assumption) | assumption)
         obtain ⟨ad165, e165, hx165_0, hx165_1⟩ := at_T25 HR0.out x4_1 p165 q165
         cases e165
         replace p165 := eq_true p165
         replace q165 := eq_true q165
         have p166 : 0 ≤ (x4_1 : Int) := of_decide_eq_true (by first | (with_reducible assumption) | assumption)
         have q166 : x4_1 < (l0.length : Int) := of_decide_eq_true (by first | (with_reducible assumption) | assumption)
         obtain ⟨ad166, e166, hx166_0, hx166_1⟩ := at_T25 HR0.out x4_1 p166 q166
         obtain rfl : ad165 = ad166 := (by injection e166)
         replace p166 := eq_true p166
         replace q166 := eq_true q166
         go_wp2_with (first | (go_at_call 44; (with_reducible refine (brookref1_escaped.calls k1 ((rd_T25 l0 x4_1).f1) t167 _ A13.out).mono ?_); rintro e w' ⟨rfl, ⟨nd, rfl⟩⟩; (try first | exact ⟨rfl, _, World.drewN_drewN _ _ _⟩ | exact ⟨rfl, _, Eq.trans (World.drewN_drewN _ _ _) (congrArg (World.drewN _) (Nat.add_assoc _ _ _))⟩)))
         repeat (go_quiet (first | (go_at_call 44; (with_reducible refine (brookref1_escaped.calls k1 ((rd_T25 l0 x4_1).f1) t167 _ A13.out).mono ?_); rintro e w' ⟨rfl, ⟨nd, rfl⟩⟩; (try first | exact ⟨rfl, _, World.drewN_drewN _ _ _⟩ | exact ⟨rfl, _, Eq.trans (World.drewN_drewN _ _ _) (congrArg (World.drewN _) (Nat.add_assoc _ _ _))⟩))); try go_wp2_with (first | (go_at_call 44; (with_reducible refine (brookref1_escaped.calls k1 ((rd_T25 l0 x4_1).f1) t167 _ A13.out).mono ?_); rintro e w' ⟨rfl, ⟨nd, rfl⟩⟩; (try first | exact ⟨rfl, _, World.drewN_drewN _ _ _⟩ | exact ⟨rfl, _, Eq.trans (World.drewN_drewN _ _ _) (congrArg (World.drewN _) (Nat.add_assoc _ _ _))⟩))))
         go_roundg k1
         case measure => have := HK1.out; omega
         case rel => exact ⟨(((x3_1 ++ ((rd_T25 l0 x4_1).f0)) ++ (⟨#[61]⟩ : ByteArray)) ++ t167), (wrap64 (x4_1 + 1)), (by first | rfl | (simp; done) | (simp [*]; done) | (simp [u8_w, i64_w]; done) | (simp [isEmpty_bne]; done)), (by first | rfl | (simp; done) | (simp [*]; done) | (simp [u8_w, i64_w]; done) | (simp [isEmpty_bne]; done)), H', ⟨by have := HK1.out; omega⟩, by repeat (first | exact Drawn0.refl _ | apply Drawn0.step)⟩
        ·rw [if_neg c14] at H
         exact absurd H (by simp)
       ·rw [if_neg c12] at H
        exact absurd H (by simp)
      ·rw [if_neg c11] at H
       exact absurd H (by simp)
     ·rw [if_neg c10] at H
      exact absurd H (by simp)
   ·rw [if_neg c2] at H
    have c2b0 : decide (x4_1 < (l0.length : Int)) = false := decide_eq_false c2
    clear c2
    obtain rfl := Option.some.inj H
    go_wp2
    repeat (go_quiet (fail); try go_wp2)
    go_ret
    exact ⟨by first | rfl | (simp; done) | (simp [*]; done) | (simp [u8_w, i64_w]; done) | (simp [isEmpty_bne]; done), by repeat (first | exact Drawn0.refl _ | apply Drawn0.step)⟩
end Go.Proofs.YtflkghdndffacaaGreatDoor.PD
namespace Go.Proofs.YtflkghdndffacaaGreatDoor.PD
open Go.RowKit Go.Proofs.YtflkghdndffacaaGreatDoor.H Go.Proofs.YtflkghdndffacaaGreatDoorW.PrintWords Go.Proofs.YtflkghdndffacaaGreatDoorW.PrintLast Go.Proofs.YtflkghdndffacaaGreatDoorW.PrintMore
attribute [local go_sem] max2_int min2_int max_two min_two max_three min_three max_four min_four
set_option linter.unusedVariables false
set_option linter.unusedSimpArgs false
theorem eqA25 (d : Nat) (w : World) (x0 y0 : ByteArray) (x1 y1 : ByteArray) :
  (Op.equalIn (d + 2) 53 (.agg #[.string x0, .string x1]) (.agg #[.string y0, .string y1])).run Tryz.prog w = .ok (x0.toList == y0.toList && (x1.toList == y1.toList)) w := by
 refine eqA_of Tryz.underlying53 (by kernel_rfl) ?_
 refine eqf_cons (by rfl) (by go_simp; rfl) (by go_simp; rfl) (by go_simp) ?_
 exact eqf_last (by rfl) (by go_simp; rfl) (by go_simp; rfl) (by go_simp)
end Go.Proofs.YtflkghdndffacaaGreatDoor.PD
namespace Go.Proofs.YtflkghdndffacaaGreatDoor.PD
open Go.RowKit Go.Proofs.YtflkghdndffacaaGreatDoor.H Go.Proofs.YtflkghdndffacaaGreatDoorW.PrintWords Go.Proofs.YtflkghdndffacaaGreatDoorW.PrintLast Go.Proofs.YtflkghdndffacaaGreatDoorW.PrintMore
attribute [local go_sem] max2_int min2_int max_two min_two max_three min_three max_four min_four
set_option linter.unusedVariables false
set_option linter.unusedSimpArgs false
def dn_Up.l0 : Nat → ByteArray → Int → Option (ByteArray)
 | 0, _, _ => none
 | k + 1, x0, x3 => if x3 < (x0.size : Int) then (if 0 ≤ x3 then (if (bt x0 x3) = 92 then (dn_Up.l0 k x0 (wrap64 ((wrap64 (x3 + 1)) + 1))) else (if (bt x0 x3) = 44 then (if 0 ≤ (wrap64 (x3 + 1)) then (if (wrap64 (x3 + 1)) ≤ (x0.size : Int) then (some (x0.extract ((wrap64 (x3 + 1)) : Int).toNat x0.size)) else (none)) else (none)) else (dn_Up.l0 k x0 (wrap64 (x3 + 1))))) else (none)) else (some (⟨#[]⟩ : ByteArray))
def dn_Up.f (k : Nat) (a0 : ByteArray) : Option (ByteArray) := dn_Up.l0 k a0 0
set_option maxHeartbeats 8000000 in
set_option maxRecDepth 100000 in
theorem dn_Up.calls (k : Nat) (a0 : ByteArray) (r : ByteArray) (w : World) (h : dn_Up.f k a0 = some r) :
  Calls Tryz.prog 71 #[.string a0] w fun e w' => e = .returned (.string r) ∧ Drawn0 w w' := by
 have H : (dn_Up.l0 k a0 0) = some r := h
 clear h
 have H' := Aside0.mk H
 clear H
 go_enter Tryz.func71, Tryz.ntmps71
 go_wp2
 go_loopg [3] k (fun kq v3 w' => ∃ (x3_1 : Int), v3 = .int .i64 x3_1 ∧ Aside0 (dn_Up.l0 kq a0 x3_1 = some r) ∧ Aside0 (kq ≤ k) ∧ Drawn0 w w')
 case atStart => exact ⟨(0), (by first | rfl | (simp; done) | (simp [*]; done) | (simp [u8_w, i64_w]; done) | (simp [isEmpty_bne]; done)), H', ⟨Nat.le_refl _⟩, by repeat (first | exact Drawn0.refl _ | apply Drawn0.step)⟩
 case round =>
  clear H'
  obtain ⟨x3_1, rfl, HA, HK1, ⟨m1, rfl⟩⟩ := hrel
  cases gk with
  | zero => exact absurd HA.out (by simp [dn_Up.l0])
  | succ k1 =>
   have H := HA.out
   clear HA
   simp only [dn_Up.l0] at H
   by_cases c2 : x3_1 < (a0.size : Int)
   ·rw [if_pos c2] at H
    have c2b0 : decide (x3_1 < (a0.size : Int)) = true := decide_eq_true c2
    clear c2
    by_cases c3 : 0 ≤ x3_1
    ·rw [if_pos c3] at H
     have c3b0 : decide (0 ≤ x3_1) = true := decide_eq_true c3
     clear c3
     by_cases c5 : (bt a0 x3_1) = 92
     ·rw [if_pos c5] at H
      have c5b0 : ((bt a0 x3_1) == 92) = true := beq_iff_eq.mpr c5
      have c5b1 : ((bt a0 x3_1) != 92) = false := bne_eq_false_iff_eq.mpr c5
      clear c5
      have H' := Aside0.mk H
      clear H
      have p4 : 0 ≤ (x3_1 : Int) := of_decide_eq_true (by first | (with_reducible assumption) | assumption)
      have q4 : x3_1 < (a0.size : Int) := of_decide_eq_true (by first | (with_reducible assumption) | assumption)
      have hx4 := bt_at a0 x3_1
      replace p4 := eq_true p4
      replace q4 := eq_true q4
      go_wp2
      go_roundg k1
      case measure => have := HK1.out; omega
      case rel => exact ⟨(wrap64 ((wrap64 (x3_1 + 1)) + 1)), (by first | rfl | (simp; done) | (simp [*]; done) | (simp [u8_w, i64_w]; done) | (simp [isEmpty_bne]; done)), H', ⟨by have := HK1.out; omega⟩, by repeat (first | exact Drawn0.refl _ | apply Drawn0.step)⟩
     ·rw [if_neg c5] at H
      have c5b0 : ((bt a0 x3_1) == 92) = false := beq_eq_false_iff_ne.mpr c5
      have c5b1 : ((bt a0 x3_1) != 92) = true := bne_iff_ne.mpr c5
      by_cases c6 : (bt a0 x3_1) = 44
      ·rw [if_pos c6] at H
       have c6b0 : ((bt a0 x3_1) == 44) = true := beq_iff_eq.mpr c6
       have c6b1 : ((bt a0 x3_1) != 44) = false := bne_eq_false_iff_eq.mpr c6
       clear c6
       obtain ⟨ji7, hji7⟩ : ∃ j_ : Int, (wrap64 (x3_1 + 1)) = j_ := ⟨_, rfl⟩
       replace H : (if 0 ≤ (ji7) then (if (ji7) ≤ (a0.size : Int) then (some (a0.extract ((ji7) : Int).toNat a0.size)) else (none)) else (none)) = some r := by first | (rw [hji7] at H; exact H) | (simp only [hji7] at H ⊢; exact H)
       have hji7w : (IntKind.i64.wrap (x3_1 + 1)) = ji7 := (i64_w _).trans hji7
       by_cases c8 : 0 ≤ (ji7)
       ·rw [if_pos c8] at H
        have c8b0 := eq_true c8
        have c8b1 : decide (0 ≤ (ji7)) = true := decide_eq_true c8
        clear c8
        by_cases c9 : (ji7) ≤ (a0.size : Int)
        ·rw [if_pos c9] at H
         have c9b0 := eq_true c9
         have c9b1 : decide ((ji7) ≤ (a0.size : Int)) = true := decide_eq_true c9
         clear c9
         obtain rfl := Option.some.inj H
         have p4 : 0 ≤ (x3_1 : Int) := of_decide_eq_true (by first | (with_reducible assumption) | assumption)
         have q4 : x3_1 < (a0.size : Int) := of_decide_eq_true (by first | (with_reducible assumption) | assumption)
         have hx4 := bt_at a0 x3_1
         replace p4 := eq_true p4
         replace q4 := eq_true q4
         go_wp2
         go_ret
         exact ⟨by first | rfl | (simp; done) | (simp only [← hji7] <;> (first | rfl | simp)) | (simp [*]; done), by repeat (first | exact Drawn0.refl _ | apply Drawn0.step)⟩
        ·rw [if_neg c9] at H
         exact absurd H (by simp)
       ·rw [if_neg c8] at H
        exact absurd H (by simp)
      ·rw [if_neg c6] at H
       have c6b0 : ((bt a0 x3_1) == 44) = false := beq_eq_false_iff_ne.mpr c6
       have c6b1 : ((bt a0 x3_1) != 44) = true := bne_iff_ne.mpr c6
       have H' := Aside0.mk H
       clear H
       have p4 : 0 ≤ (x3_1 : Int) := of_decide_eq_true (by first | (with_reducible assumption) | assumption)
       have q4 : x3_1 < (a0.size : Int) := of_decide_eq_true (by first | (with_reducible assumption) | assumption)
       have hx4 := bt_at a0 x3_1
       replace p4 := eq_true p4
       replace q4 := eq_true q4
       go_wp2
       go_roundg k1
       case measure => have := HK1.out; omega
       case rel => exact ⟨(wrap64 (x3_1 + 1)), (by first | rfl | (simp; done) | (simp [*]; done) | (simp [u8_w, i64_w]; done) | (simp [isEmpty_bne]; done)), H', ⟨by have := HK1.out; omega⟩, by repeat (first | exact Drawn0.refl _ | apply Drawn0.step)⟩
    ·rw [if_neg c3] at H
     exact absurd H (by simp)
   ·rw [if_neg c2] at H
    have c2b0 : decide (x3_1 < (a0.size : Int)) = false := decide_eq_false c2
    clear c2
    obtain rfl := Option.some.inj H
    go_wp2
    go_ret
    exact ⟨by first | rfl | (simp; done) | (simp [*]; done) | (simp [u8_w, i64_w]; done) | (simp [isEmpty_bne]; done), by repeat (first | exact Drawn0.refl _ | apply Drawn0.step)⟩
def brookref1_Up.l0 : Nat → ByteArray → Int → Option (ByteArray)
 | 0, _, _ => none
 | k + 1, x0, x3 => if x3 < (x0.size : Int) then (if 0 ≤ x3 then (if (bt x0 x3) = 92 then (brookref1_Up.l0 k x0 (wrap64 ((wrap64 (x3 + 1)) + 1))) else (if (bt x0 x3) = 44 then (if 0 ≤ (wrap64 (x3 + 1)) then (if (wrap64 (x3 + 1)) ≤ (x0.size : Int) then (some (x0.extract ((wrap64 (x3 + 1)) : Int).toNat x0.size)) else (none)) else (none)) else (brookref1_Up.l0 k x0 (wrap64 (x3 + 1))))) else (none)) else (some (⟨#[]⟩ : ByteArray))
def brookref1_Up.f (k : Nat) (a0 : ByteArray) : Option (ByteArray) := brookref1_Up.l0 k a0 0
set_option maxHeartbeats 8000000 in
set_option maxRecDepth 100000 in
theorem brookref1_Up.calls (k : Nat) (a0 : ByteArray) (r : ByteArray) (w : World) (h : brookref1_Up.f k a0 = some r) :
  Calls Tryz.prog 52 #[.string a0] w fun e w' => e = .returned (.string r) ∧ Drawn0 w w' := by
 have H : (brookref1_Up.l0 k a0 0) = some r := h
 clear h
 have H' := Aside0.mk H
 clear H
 go_enter Tryz.func52, Tryz.ntmps52
 go_wp2
 go_loopg [3] k (fun kq v3 w' => ∃ (x3_1 : Int), v3 = .int .i64 x3_1 ∧ Aside0 (brookref1_Up.l0 kq a0 x3_1 = some r) ∧ Aside0 (kq ≤ k) ∧ Drawn0 w w')
 case atStart => exact ⟨(0), (by first | rfl | (simp; done) | (simp [*]; done) | (simp [u8_w, i64_w]; done) | (simp [isEmpty_bne]; done)), H', ⟨Nat.le_refl _⟩, by repeat (first | exact Drawn0.refl _ | apply Drawn0.step)⟩
 case round =>
  clear H'
  obtain ⟨x3_1, rfl, HA, HK1, ⟨m1, rfl⟩⟩ := hrel
  cases gk with
  | zero => exact absurd HA.out (by simp [brookref1_Up.l0])
  | succ k1 =>
   have H := HA.out
   clear HA
   simp only [brookref1_Up.l0] at H
   by_cases c2 : x3_1 < (a0.size : Int)
   ·rw [if_pos c2] at H
    have c2b0 : decide (x3_1 < (a0.size : Int)) = true := decide_eq_true c2
    clear c2
    by_cases c3 : 0 ≤ x3_1
    ·rw [if_pos c3] at H
     have c3b0 : decide (0 ≤ x3_1) = true := decide_eq_true c3
     clear c3
     by_cases c5 : (bt a0 x3_1) = 92
     ·rw [if_pos c5] at H
      have c5b0 : ((bt a0 x3_1) == 92) = true := beq_iff_eq.mpr c5
      have c5b1 : ((bt a0 x3_1) != 92) = false := bne_eq_false_iff_eq.mpr c5
      clear c5
      have H' := Aside0.mk H
      clear H
      have p4 : 0 ≤ (x3_1 : Int) := of_decide_eq_true (by first | (with_reducible assumption) | assumption)
      have q4 : x3_1 < (a0.size : Int) := of_decide_eq_true (by first | (with_reducible assumption) | assumption)
      have hx4 := bt_at a0 x3_1
      replace p4 := eq_true p4
      replace q4 := eq_true q4
      go_wp2
      go_roundg k1
      case measure => have := HK1.out; omega
      case rel => exact ⟨(wrap64 ((wrap64 (x3_1 + 1)) + 1)), (by first | rfl | (simp; done) | (simp [*]; done) | (simp [u8_w, i64_w]; done) | (simp [isEmpty_bne]; done)), H', ⟨by have := HK1.out; omega⟩, by repeat (first | exact Drawn0.refl _ | apply Drawn0.step)⟩
     ·rw [if_neg c5] at H
      have c5b0 : ((bt a0 x3_1) == 92) = false := beq_eq_false_iff_ne.mpr c5
      have c5b1 : ((bt a0 x3_1) != 92) = true := bne_iff_ne.mpr c5
      by_cases c7 : (bt a0 x3_1) = 44
      ·rw [if_pos c7] at H
       have c7b0 : ((bt a0 x3_1) == 44) = true := beq_iff_eq.mpr c7
       have c7b1 : ((bt a0 x3_1) != 44) = false := bne_eq_false_iff_eq.mpr c7
       clear c7
       obtain ⟨ji8, hji8⟩ : ∃ j_ : Int, (wrap64 (x3_1 + 1)) = j_ := ⟨_, rfl⟩
       replace H : (if 0 ≤ (ji8) then (if (ji8) ≤ (a0.size : Int) then (some (a0.extract ((ji8) : Int).toNat a0.size)) else (none)) else (none)) = some r := by first | (rw [hji8] at H; exact H) | (simp only [hji8] at H ⊢; exact H)
       have hji8w : (IntKind.i64.wrap (x3_1 + 1)) = ji8 := (i64_w _).trans hji8
       by_cases c9 : 0 ≤ (ji8)
       ·rw [if_pos c9] at H
        have c9b0 := eq_true c9
        have c9b1 : decide (0 ≤ (ji8)) = true := decide_eq_true c9
        clear c9
        by_cases c10 : (ji8) ≤ (a0.size : Int)
        ·rw [if_pos c10] at H
         have c10b0 := eq_true c10
         have c10b1 : decide ((ji8) ≤ (a0.size : Int)) = true := decide_eq_true c10
         clear c10
         obtain rfl := Option.some.inj H
         have p4 : 0 ≤ (x3_1 : Int) := of_decide_eq_true (by first | (with_reducible assumption) | assumption)
         have q4 : x3_1 < (a0.size : Int) := of_decide_eq_true (by first | (with_reducible assumption) | assumption)
         have hx4 := bt_at a0 x3_1
         replace p4 := eq_true p4
         replace q4 := eq_true q4
         have p6 : 0 ≤ (x3_1 : Int) := of_decide_eq_true (by first | (with_reducible assumption) | assumption)
         have q6 : x3_1 < (a0.size : Int) := of_decide_eq_true (by first | (with_reducible assumption) | assumption)
         have hx6 := bt_at a0 x3_1
         replace p6 := eq_true p6
         replace q6 := eq_true q6
         go_wp2
         go_ret
         exact ⟨by first | rfl | (simp; done) | (simp only [← hji8] <;> (first | rfl | simp)) | (simp [*]; done), by repeat (first | exact Drawn0.refl _ | apply Drawn0.step)⟩
        ·rw [if_neg c10] at H
         exact absurd H (by simp)
       ·rw [if_neg c9] at H
        exact absurd H (by simp)
      ·rw [if_neg c7] at H
       have c7b0 : ((bt a0 x3_1) == 44) = false := beq_eq_false_iff_ne.mpr c7
       have c7b1 : ((bt a0 x3_1) != 44) = true := bne_iff_ne.mpr c7
       have H' := Aside0.mk H
       clear H
       have p4 : 0 ≤ (x3_1 : Int) := of_decide_eq_true (by first | (with_reducible assumption) | assumption)
       have q4 : x3_1 < (a0.size : Int) := of_decide_eq_true (by first | (with_reducible assumption) | assumption)
       have hx4 := bt_at a0 x3_1
       replace p4 := eq_true p4
       replace q4 := eq_true q4
       have p6 : 0 ≤ (x3_1 : Int) := of_decide_eq_true (by first | (with_reducible assumption) | assumption)
       have q6 : x3_1 < (a0.size : Int) := of_decide_eq_true (by first | (with_reducible assumption) | assumption)
       have hx6 := bt_at a0 x3_1
       replace p6 := eq_true p6
       replace q6 := eq_true q6
       go_wp2
       go_roundg k1
       case measure => have := HK1.out; omega
       case rel => exact ⟨(wrap64 (x3_1 + 1)), (by first | rfl | (simp; done) | (simp [*]; done) | (simp [u8_w, i64_w]; done) | (simp [isEmpty_bne]; done)), H', ⟨by have := HK1.out; omega⟩, by repeat (first | exact Drawn0.refl _ | apply Drawn0.step)⟩
    ·rw [if_neg c3] at H
     exact absurd H (by simp)
   ·rw [if_neg c2] at H
    have c2b0 : decide (x3_1 < (a0.size : Int)) = false := decide_eq_false c2
    clear c2
    obtain rfl := Option.some.inj H
    go_wp2
    go_ret
    exact ⟨by first | rfl | (simp; done) | (simp [*]; done) | (simp [u8_w, i64_w]; done) | (simp [isEmpty_bne]; done), by repeat (first | exact Drawn0.refl _ | apply Drawn0.step)⟩
end Go.Proofs.YtflkghdndffacaaGreatDoor.PD
namespace Go.Proofs.YtflkghdndffacaaGreatDoor.PD
open Go.RowKit Go.Proofs.YtflkghdndffacaaGreatDoor.H Go.Proofs.YtflkghdndffacaaGreatDoorW.PrintWords Go.Proofs.YtflkghdndffacaaGreatDoorW.PrintLast Go.Proofs.YtflkghdndffacaaGreatDoorW.PrintMore
attribute [local go_sem] max2_int min2_int max_two min_two max_three min_three max_four min_four
set_option linter.unusedVariables false
set_option linter.unusedSimpArgs false
def dn_Under.l0 : Nat → ByteArray → ByteArray → Option (Bool)
 | 0, _, _ => none
 | k + 1, x0, x1 => if x0.toList = x1.toList then (some true) else (if x0.toList = ([] : List UInt8) then (some false) else ((dn_Up.f k x0).bind fun t302 => (dn_Under.l0 k t302 x1)))
def dn_Under.f (k : Nat) (a0 : ByteArray) (a1 : ByteArray) : Option (Bool) := dn_Under.l0 k a0 a1
set_option maxHeartbeats 8000000 in
set_option maxRecDepth 100000 in
theorem dn_Under.calls (k : Nat) (a0 : ByteArray) (a1 : ByteArray) (r : Bool) (w : World) (h : dn_Under.f k a0 a1 = some r) :
  Calls Tryz.prog 49 #[.string a0, .string a1] w fun e w' => e = .returned (.bool r) ∧ Drawn0 w w' := by
 have H : (dn_Under.l0 k a0 a1) = some r := h
 clear h
 have H' := Aside0.mk H
 clear H
 go_enter Tryz.func49, Tryz.ntmps49
 go_wp2
 go_loopg [0] k (fun kq v0 w' => ∃ (x0_1 : ByteArray), v0 = .string x0_1 ∧ Aside0 (dn_Under.l0 kq x0_1 a1 = some r) ∧ Aside0 (kq ≤ k) ∧ Drawn0 w w')
 case atStart => exact ⟨(a0), (by first | rfl | (simp; done) | (simp [*]; done) | (simp [u8_w, i64_w]; done) | (simp [isEmpty_bne]; done)), H', ⟨Nat.le_refl _⟩, by repeat (first | exact Drawn0.refl _ | apply Drawn0.step)⟩
 case round =>
  clear H'
  try clear p2
  obtain ⟨x0_1, rfl, HA, HK1, ⟨m1, rfl⟩⟩ := hrel
  cases gk with
  | zero => exact absurd HA.out (by simp [dn_Under.l0])
  | succ k1 =>
   have H := HA.out
   clear HA
   simp only [dn_Under.l0] at H
   by_cases c3 : x0_1.toList = a1.toList
   ·rw [if_pos c3] at H
    have c3b0 : (x0_1.toList == a1.toList) = true := beq_iff_eq.mpr c3
    have c3b1 : (x0_1.toList != a1.toList) = false := bne_eq_false_iff_eq.mpr c3
    clear c3
    obtain rfl := Option.some.inj H
    go_wp2
    go_ret
    exact ⟨by first | rfl | (simp; done) | (simp [*]; done) | (simp [u8_w, i64_w]; done) | (simp [isEmpty_bne]; done), by repeat (first | exact Drawn0.refl _ | apply Drawn0.step)⟩
   ·rw [if_neg c3] at H
    have c3b0 : (x0_1.toList == a1.toList) = false := beq_eq_false_iff_ne.mpr c3
    have c3b1 : (x0_1.toList != a1.toList) = true := bne_iff_ne.mpr c3
    by_cases c4 : x0_1.toList = ([] : List UInt8)
    ·rw [if_pos c4] at H
     have c4b0 : (x0_1.toList == ([] : List UInt8)) = true := beq_iff_eq.mpr c4
     have c4b1 : (x0_1.toList != ([] : List UInt8)) = false := bne_eq_false_iff_eq.mpr c4
     clear c4
     obtain rfl := Option.some.inj H
     go_wp2
     go_ret
     exact ⟨by first | rfl | (simp; done) | (simp [*]; done) | (simp [u8_w, i64_w]; done) | (simp [isEmpty_bne]; done), by repeat (first | exact Drawn0.refl _ | apply Drawn0.step)⟩
    ·rw [if_neg c4] at H
     have c4b0 : (x0_1.toList == ([] : List UInt8)) = false := beq_eq_false_iff_ne.mpr c4
     have c4b1 : (x0_1.toList != ([] : List UInt8)) = true := bne_iff_ne.mpr c4
     replace H := Option.bind_eq_some_iff.mp H
     obtain ⟨t302, A50, H⟩ := H
     replace H : (dn_Under.l0 k1 t302 a1) = some r := H
     have A5 := Aside0.mk A50
     clear A50
     have H' := Aside0.mk H
     clear H
     go_wp2_with (first | ((with_reducible refine gate_callee (f := 71) rfl ?_); refine goesL_ (some 11) rfl rfl Tryz.func71 (by kernel_rfl) rfl #[.string x0_1] rfl (by (try simp only [List.map_toArray, List.map_cons, List.map_nil]); first | done | rfl | (simp only [List.length_drop, List.length_take]; rfl)) ?_; (with_reducible refine (dn_Up.calls k1 x0_1 t302 _ A5.out).mono ?_); rintro e w' ⟨rfl, ⟨nd, rfl⟩⟩; refine ⟨_, rfl, ?_⟩))
     go_roundg k1
     case measure => have := HK1.out; omega
     case rel => exact ⟨(t302), (by first | rfl | (simp; done) | (simp [*]; done) | (simp [u8_w, i64_w]; done) | (simp [isEmpty_bne]; done)), H', ⟨by have := HK1.out; omega⟩, by repeat (first | exact Drawn0.refl _ | apply Drawn0.step)⟩
def brookref1_Under.l0 : Nat → ByteArray → ByteArray → Option (Bool)
 | 0, _, _ => none
 | k + 1, x0, x1 => if x0.toList = x1.toList then (some true) else (if x0.toList = ([] : List UInt8) then (some false) else ((brookref1_Up.f k x0).bind fun t303 => (brookref1_Under.l0 k t303 x1)))
def brookref1_Under.f (k : Nat) (a0 : ByteArray) (a1 : ByteArray) : Option (Bool) := brookref1_Under.l0 k a0 a1
set_option maxHeartbeats 8000000 in
set_option maxRecDepth 100000 in
theorem brookref1_Under.calls (k : Nat) (a0 : ByteArray) (a1 : ByteArray) (r : Bool) (w : World) (h : brookref1_Under.f k a0 a1 = some r) :
  Calls Tryz.prog 29 #[.string a0, .string a1] w fun e w' => e = .returned (.bool r) ∧ Drawn0 w w' := by
 have H : (brookref1_Under.l0 k a0 a1) = some r := h
 clear h
 have H' := Aside0.mk H
 clear H
 go_enter Tryz.func29, Tryz.ntmps29
 go_wp2
 go_loopg [0] k (fun kq v0 w' => ∃ (x0_1 : ByteArray), v0 = .string x0_1 ∧ Aside0 (brookref1_Under.l0 kq x0_1 a1 = some r) ∧ Aside0 (kq ≤ k) ∧ Drawn0 w w')
 case atStart => exact ⟨(a0), (by first | rfl | (simp; done) | (simp [*]; done) | (simp [u8_w, i64_w]; done) | (simp [isEmpty_bne]; done)), H', ⟨Nat.le_refl _⟩, by repeat (first | exact Drawn0.refl _ | apply Drawn0.step)⟩
 case round =>
  clear H'
  try clear p2
  obtain ⟨x0_1, rfl, HA, HK1, ⟨m1, rfl⟩⟩ := hrel
  cases gk with
  | zero => exact absurd HA.out (by simp [brookref1_Under.l0])
  | succ k1 =>
   have H := HA.out
   clear HA
   simp only [brookref1_Under.l0] at H
   by_cases c3 : x0_1.toList = a1.toList
   ·rw [if_pos c3] at H
    have c3b0 : (x0_1.toList == a1.toList) = true := beq_iff_eq.mpr c3
    have c3b1 : (x0_1.toList != a1.toList) = false := bne_eq_false_iff_eq.mpr c3
    clear c3
    obtain rfl := Option.some.inj H
    go_wp2
    go_ret
    exact ⟨by first | rfl | (simp; done) | (simp [*]; done) | (simp [u8_w, i64_w]; done) | (simp [isEmpty_bne]; done), by repeat (first | exact Drawn0.refl _ | apply Drawn0.step)⟩
   ·rw [if_neg c3] at H
    have c3b0 : (x0_1.toList == a1.toList) = false := beq_eq_false_iff_ne.mpr c3
    have c3b1 : (x0_1.toList != a1.toList) = true := bne_iff_ne.mpr c3
    by_cases c4 : x0_1.toList = ([] : List UInt8)
    ·rw [if_pos c4] at H
     have c4b0 : (x0_1.toList == ([] : List UInt8)) = true := beq_iff_eq.mpr c4
     have c4b1 : (x0_1.toList != ([] : List UInt8)) = false := bne_eq_false_iff_eq.mpr c4
     clear c4
     obtain rfl := Option.some.inj H
     go_wp2
     go_ret
     exact ⟨by first | rfl | (simp; done) | (simp [*]; done) | (simp [u8_w, i64_w]; done) | (simp [isEmpty_bne]; done), by repeat (first | exact Drawn0.refl _ | apply Drawn0.step)⟩
    ·rw [if_neg c4] at H
     have c4b0 : (x0_1.toList == ([] : List UInt8)) = false := beq_eq_false_iff_ne.mpr c4
     have c4b1 : (x0_1.toList != ([] : List UInt8)) = true := bne_iff_ne.mpr c4
     replace H := Option.bind_eq_some_iff.mp H
     obtain ⟨t303, A50, H⟩ := H
     replace H : (brookref1_Under.l0 k1 t303 a1) = some r := H
     have A5 := Aside0.mk A50
     clear A50
     have H' := Aside0.mk H
     clear H
     go_wp2_with (first | ((with_reducible refine gate_callee (f := 52) rfl ?_); refine goesL_ (some 11) rfl rfl Tryz.func52 (by kernel_rfl) rfl #[.string x0_1] rfl (by (try simp only [List.map_toArray, List.map_cons, List.map_nil]); first | done | rfl | (simp only [List.length_drop, List.length_take]; rfl)) ?_; (with_reducible refine (brookref1_Up.calls k1 x0_1 t303 _ A5.out).mono ?_); rintro e w' ⟨rfl, ⟨nd, rfl⟩⟩; refine ⟨_, rfl, ?_⟩))
     go_roundg k1
     case measure => have := HK1.out; omega
     case rel => exact ⟨(t303), (by first | rfl | (simp; done) | (simp [*]; done) | (simp [u8_w, i64_w]; done) | (simp [isEmpty_bne]; done)), H', ⟨by have := HK1.out; omega⟩, by repeat (first | exact Drawn0.refl _ | apply Drawn0.step)⟩
end Go.Proofs.YtflkghdndffacaaGreatDoor.PD
namespace Go.Proofs.YtflkghdndffacaaGreatDoor.Pure
open Go.RowKit Go.Proofs.YtflkghdndffacaaGreatDoor.H Go.Proofs.YtflkghdndffacaaGreatDoorW.PrintWords Go.Proofs.YtflkghdndffacaaGreatDoorW.PrintLast
def B (l : List UInt8) : ByteArray := ⟨l.toArray⟩
theorem B_data (l : List UInt8) : (B l).data.toList = l := by simp [B]
theorem B_of (s : ByteArray) : B s.data.toList = s := by cases s; simp [B]
theorem B_size (l : List UInt8) : (B l).size = l.length := by rw [Lib.size_eq, B_data]
theorem B_toList (l : List UInt8) : (B l).toList = l := by rw [Lib.toList_data, B_data]
theorem B_append (l m : List UInt8) : B l ++ B m = B (l ++ m) := by
  apply ByteArray.ext
  simp [B]
theorem B_extract (l : List UInt8) (a b : Nat) : (B l).extract a b = B ((l.drop a).take (b - a)) := by rw [Lib.extract_eq, B_data]; rfl
theorem bt_at' {l : List UInt8} {j : Nat} {c : UInt8} (h : l[j]? = some c) : bt (B l) (j : Int) = (c.toNat : Int) := by
  obtain ⟨hj, hc⟩ := List.getElem?_eq_some_iff.1 h
  have hs : ((j : Int)).toNat < (B l).size := by rw [B_size]; simpa using hj
  unfold bt
  rw [dif_pos hs]
  have : ((B l)[((j : Int)).toNat]'hs) = c := by
    show (B l).data[j] = c
    simp only [B, List.getElem_toArray]
    exact hc
  rw [this]
theorem bt_pre (p : List UInt8) (c : UInt8) (r : List UInt8) : bt (B (p ++ c :: r)) (p.length : Int) = (c.toNat : Int) := bt_at' (by simp)
theorem cut_pre (p : List UInt8) (c : UInt8) (r : List UInt8) : (B (p ++ c :: r)).extract p.length (p.length + 1) = B [c] := by
  rw [B_extract]; simp
theorem u8_eq {c d : UInt8} : ((c.toNat : Int) = (d.toNat : Int)) ↔ c = d := by
  constructor
  · intro h; exact UInt8.toNat_inj.1 (by omega)
  · rintro rfl; rfl
theorem u8_int_inj {c : UInt8} {n : Nat} (hn : n < 256) : ((c.toNat : Int) = (n : Int)) ↔ c = UInt8.ofNat n := by
  constructor
  · intro h
    apply UInt8.toNat_inj.1
    simp only [UInt8.toNat_ofNat']
    omega
  · rintro rfl
    simp only [UInt8.toNat_ofNat']
    omega
theorem wrap64_small {n : Int} (h : -9223372036854775808 ≤ n ∧ n ≤ 9223372036854775807) : wrap64 n = n := by unfold wrap64; omega
theorem Ev.pos {α : Type} {c : Prop} [Decidable c] {g f : Nat → Option α} {r : α} (h : c) (k : Ev g r) : Ev (fun n => if c then g n else f n) r := by simpa [h] using k
theorem Ev.neg {α : Type} {c : Prop} [Decidable c] {g f : Nat → Option α} {r : α} (h : ¬ c) (k : Ev f r) : Ev (fun n => if c then g n else f n) r := by simpa [h] using k
theorem Ev.fix {α β : Type} {a : Option α} {v : α} {f : Nat → α → Option β} {r : β} (h : a = some v) (k : Ev (fun n => f n v) r) : Ev (fun n => a.bind (f n)) r := by subst h; simpa using k
theorem lowC_32 (c : UInt8) : lowC c = 32 ↔ c = 32 := by
  have h : ∀ c : UInt8, (lowC c = 32 ↔ c = 32) := by
    intro c
    have hc := lowC_toNat c
    constructor
    · intro e
      rw [e] at hc
      apply UInt8.toNat_inj.1
      simp at hc ⊢
      split at hc <;> omega
    · rintro rfl; rfl
  exact h c
theorem lowC_lowC (c : UInt8) : lowC (lowC c) = lowC c := by
  apply UInt8.toNat_inj.1
  have h1 := lowC_toNat c
  have h2 := lowC_toNat (lowC c)
  split at h1 <;> split at h2 <;> omega
theorem lowL_lowL (l : List UInt8) : lowL (lowL l) = lowL l := by
  unfold lowL; rw [List.map_map]; congr 1; funext c; exact lowC_lowC c
theorem lowL_length (l : List UInt8) : (lowL l).length = l.length := by simp [lowL]
theorem lowL_B (l : List UInt8) : lowS (B l) = B (lowL l) := by unfold lowS; rw [B_data]; rfl
theorem lower_B {l : List UInt8} (h : l.length ≤ 9223372036854775806) : brookref1_Lower.f (B l) = some (B (lowL l)) := by
  unfold brookref1_Lower.f; rw [if_pos (by rw [B_size]; exact h), lowL_B]
theorem lowered_B {l : List UInt8} (h : l.length ≤ 9223372036854775806) : dn_lowered.f (B l) = some (B (lowL l)) := by
  unfold dn_lowered.f; rw [if_pos (by rw [B_size]; exact h), lowL_B]
theorem dropB_map (l : List UInt8) : (lowL l).dropWhile (· == 32) = lowL (l.dropWhile (· == 32)) := by
  unfold lowL
  rw [List.dropWhile_map]
  congr 2
  funext c
  simp only [Function.comp]
  rw [Bool.eq_iff_iff]; simp only [beq_iff_eq]; exact lowC_32 c
theorem trimB_low (l : List UInt8) : Lib.trimB (lowL l) 32 = lowL (Lib.trimB l 32) := by
  unfold Lib.trimB Lib.trimLeftB Lib.trimRightB
  have : (lowL l).reverse = lowL l.reverse := by simp [lowL]
  rw [this, dropB_map]
  have : (lowL (l.reverse.dropWhile (· == 32))).reverse = lowL (l.reverse.dropWhile (· == 32)).reverse := by simp [lowL]
  rw [this, dropB_map]
theorem dropWhile_head {l : List UInt8} {p : UInt8 → Bool} {c : UInt8} (h : (l.dropWhile p).head? = some c) : p c = false := by
  induction l with
  | nil => simp at h
  | cons a l ih =>
    rw [List.dropWhile_cons] at h
    split at h
    · exact ih h
    · next hn => simp at h; subst h; simpa using hn
theorem trimB_head (l : List UInt8) : (Lib.trimB l 32).head? ≠ some 32 := by
  intro h
  have := dropWhile_head h
  simp at this
theorem dropWhile_last {l : List UInt8} {p : UInt8 → Bool} (h : l.getLast? ≠ some 32) : (l.dropWhile p).getLast? ≠ some 32 := by
  induction l with
  | nil => simp
  | cons a l ih =>
    rw [List.dropWhile_cons]
    split
    · cases l with
      | nil => simp
      | cons b l => exact ih (by simpa using h)
    · exact h
theorem drop_snoc_all {l : List UInt8} {m : List UInt8} (h : ∀ c ∈ l, c = 32) : (l ++ m).dropWhile (· == 32) = m.dropWhile (· == 32) := by
  induction l with
  | nil => simp
  | cons a l ih => rw [List.cons_append, List.dropWhile_cons_of_pos (by simpa using h a (by simp)), ih (fun c hc => h c (by simp [hc]))]
theorem drop_snoc_some {l : List UInt8} {m : List UInt8} (h : ∃ c ∈ l, c ≠ 32) : (l ++ m).dropWhile (· == 32) = l.dropWhile (· == 32) ++ m := by
  induction l with
  | nil => simp at h
  | cons a l ih =>
    by_cases ha : a = 32
    · rw [List.cons_append, List.dropWhile_cons_of_pos (by simpa using ha), List.dropWhile_cons_of_pos (by simpa using ha)]
      refine ih ?_
      obtain ⟨c, hc, hn⟩ := h
      rcases List.mem_cons.1 hc with rfl | hc
      · exact absurd ha hn
      · exact ⟨c, hc, hn⟩
    · rw [List.cons_append, List.dropWhile_cons_of_neg (by simpa using ha), List.dropWhile_cons_of_neg (by simpa using ha)]; rfl
theorem snocRec {α : Type} {p : List α → Prop} (nil : p []) (snoc : ∀ l c, p l → p (l ++ [c])) (l : List α) : p l := by
  have : ∀ n (l : List α), l.length = n → p l := by
    intro n
    induction n with
    | zero => intro l h; rw [List.length_eq_zero_iff.1 h]; exact nil
    | succ n ih =>
      intro l h
      have hn : l ≠ [] := by intro e; simp [e] at h
      rw [← List.dropLast_concat_getLast hn]
      exact snoc _ _ (ih _ (by simp [h]))
  exact this _ l rfl
def Sq (l : List UInt8) : Prop := ∀ i : Nat, ¬ (l[i]? = some 32 ∧ l[i + 1]? = some 32)
theorem sq_cons_last (l : List UInt8) (c : UInt8) : sq (l ++ [c]) = sqStep (sq l) c := by simp [sq]
theorem sq_last (l : List UInt8) : (sq l).getLast? = l.getLast? := by
  induction l using snocRec with
  | nil => rfl
  | snoc l c ih =>
    rw [sq_cons_last]
    unfold sqStep
    split
    · next h => rw [h.2, List.getLast?_append, h.1]; simp
    · simp [List.getLast?_append]
theorem sq_head (l : List UInt8) : (sq l).head? = l.head? := by
  induction l using snocRec with
  | nil => rfl
  | snoc l c ih =>
    rw [sq_cons_last]
    unfold sqStep
    split
    · next h => rw [ih]
                rw [sq_last] at h
                cases l with
                | nil => simp at h
                | cons a l => simp
    · cases l with
      | nil => simp [sq]
      | cons a l =>
        rw [List.head?_append, ih]; simp
def foldL (l : List UInt8) : List UInt8 := sq (lowL (Lib.trimB l 32))
theorem low_head {l : List UInt8} : (lowL l).head? = some 32 ↔ l.head? = some 32 := by
  cases l with
  | nil => simp [lowL]
  | cons a l => simp [lowL, lowC_32]
theorem sq_le (l : List UInt8) : (sq l).length ≤ l.length := by
  have := sq_length l l.length
  rwa [List.take_length] at this
theorem foldL_le (l : List UInt8) : (foldL l).length ≤ l.length := by
  unfold foldL
  refine Nat.le_trans (sq_le _) ?_
  rw [lowL_length]
  exact trimB_length l 32
theorem fold_B {l : List UInt8} (h : l.length ≤ 140737488355320) : dn_Fold.f (B l) = some (B (foldL l)) := by
  unfold dn_Fold.f
  rw [if_pos ⟨by rw [B_size]; exact h, by rw [B_data, Ne, low_head]; exact trimB_head l⟩, B_data]
  rfl
end Go.Proofs.YtflkghdndffacaaGreatDoor.Pure
namespace Go.Proofs.YtflkghdndffacaaGreatDoor.Pure
open Go.RowKit Go.Proofs.YtflkghdndffacaaGreatDoor.PD Go.Proofs.YtflkghdndffacaaGreatDoor.H Go.Proofs.YtflkghdndffacaaGreatDoorW.PrintWords Go.Proofs.YtflkghdndffacaaGreatDoorW.PrintLast
theorem u8_all {P : UInt8 → Prop} (h : ∀ n : Fin 256, P (UInt8.ofNat n.val)) (c : UInt8) : P c := by
  have := h ⟨c.toNat, UInt8.toNat_lt c⟩
  simpa using this
theorem rd_pre (p : List S25) (r : S25) (q : List S25) : rd_T25 (p ++ r :: q) (p.length : Int) = r := by simp [rd_T25]
theorem wrap_succ {n : Nat} (h : n < 9223372036854775807) : wrap64 ((n : Int) + 1) = ((n + 1 : Nat) : Int) := by rw [wrap64_small (by omega)]; omega
theorem letter_fin : ∀ n : Fin 256, brookref1_letter.f (((UInt8.ofNat n.val).toNat : Nat) : Int) = some (letterB (UInt8.ofNat n.val)) := by decide +kernel
theorem letter_c (c : UInt8) : brookref1_letter.f (c.toNat : Int) = some (letterB c) := u8_all (P := fun c => brookref1_letter.f (c.toNat : Int) = some (letterB c)) letter_fin c
theorem mt_l0 (l : List UInt8) (hl : l.length ≤ 30) : ∀ q p : List UInt8, l = p ++ q → Ev (fun k => brookref1_MayType.l0 k (B l) (p.length : Int)) (q.all typeC) := by
  intro q
  induction q with
  | nil =>
    intro p hp
    obtain rfl : l = p := by simpa using hp
    refine Ev.step (fun k => by rw [brookref1_MayType.l0]) ?_
    exact Ev.neg (by rw [B_size]; omega) (Ev.now _)
  | cons c q ih =>
    intro p hp
    have hlen : p.length + 1 + q.length = l.length := by rw [hp]; simp; omega
    have hi := ih (p ++ [c]) (by rw [hp]; simp)
    have hb : bt (B l) (p.length : Int) = (c.toNat : Int) := by rw [hp]; exact bt_pre p c q
    have hn : (p ++ [c]).length = p.length + 1 := by simp
    rw [hn] at hi
    refine Ev.step (fun k => by rw [brookref1_MayType.l0]) ?_
    refine Ev.pos (by rw [B_size]; omega) ?_
    refine Ev.pos (by omega) ?_
    rw [hb, wrap_succ (by omega)]
    refine Ev.fix (letter_c c) ?_
    have h45 : ((c.toNat : Int) = 45) ↔ c = 45 := u8_int_inj (n := 45) (by omega)
    by_cases ht : typeC c = true
    · have ha : (c :: q).all typeC = q.all typeC := by simp [ht]
      rw [ha]
      by_cases h1 : letterB c = true
      · exact Ev.pos h1 hi
      · refine Ev.neg h1 ?_
        by_cases h2 : c = 45
        · have h3 := h45.2 h2
          rw [h3]
          refine Ev.pos (by omega) ?_
          exact Ev.pos (by omega) hi
        · simp [typeC, h1, h2] at ht
          refine Ev.neg (by omega) ?_
          exact Ev.neg (by omega) hi
    · have ha : (c :: q).all typeC = false := by simp [ht]
      rw [ha]
      simp [typeC] at ht
      obtain ⟨⟨h1, h2⟩, h3⟩ := ht
      refine Ev.neg (by simp [h1]) ?_
      by_cases h4 : (c.toNat : Int) < 48
      · refine Ev.pos h4 ?_
        exact Ev.neg (fun e => h3 (h45.1 e)) (Ev.now _)
      · refine Ev.neg h4 ?_
        refine Ev.pos (by have := h2 (by omega); omega) ?_
        exact Ev.neg (fun e => h3 (h45.1 e)) (Ev.now _)
theorem mayType_ev (l : List UInt8) : Ev (fun k => brookref1_MayType.f k (B l)) (typedB l) := by
  unfold brookref1_MayType.f
  have jt : Ev (fun k => brookref1_MayType.j0 k (B l) true) false := Ev.step (fun k => by rw [brookref1_MayType.j0]) (Ev.pos rfl (Ev.now _))
  cases l with
  | nil => exact Ev.pos (by rw [B_toList]) jt
  | cons c q =>
    refine Ev.neg (by rw [B_toList]; simp) ?_
    by_cases h : q.length + 1 ≤ 30
    · refine Ev.neg (by rw [B_size]; simp; omega) ?_
      refine Ev.pos (by rw [B_size]; simp) ?_
      have hb : bt (B (c :: q)) 0 = (c.toNat : Int) := bt_pre [] c q
      rw [hb]
      refine Ev.fix (letter_c c) ?_
      refine Ev.step (fun k => by rw [brookref1_MayType.j0]) ?_
      by_cases h1 : letterB c = true
      · refine Ev.neg (by simp [h1]) ?_
        have := mt_l0 (c :: q) (by simpa using h) (c :: q) [] rfl
        have e : typedB (c :: q) = (c :: q).all typeC := by unfold typedB; simp [h, h1]
        rw [e]
        exact this
      · have e : typedB (c :: q) = false := by unfold typedB; simp [h1]
        rw [e]
        exact Ev.pos (by simp [h1]) (Ev.now _)
    · have e : typedB (c :: q) = false := by unfold typedB; simp [h]
      rw [e]
      exact Ev.pos (by rw [B_size]; simp; omega) jt
def partB (r : S25) : Bool := typedB r.f0.data.toList && (decide (r.f1.data.toList ≠ []) && decide (r.f1.data.toList.length ≤ 100))
def mayB (l : List S25) : Bool := l.all partB && decide (l.length ≤ 8)
theorem may_l0 (l : List S25) (hl : l.length ≤ 9000000000000000000) : ∀ q p : List S25, l = p ++ q → Ev (fun k => dn_May.l0 k l l (l.length : Int) (p.length : Int)) (q.all partB && decide (l.length ≤ 8)) := by
  intro q
  induction q with
  | nil =>
    intro p hp
    obtain rfl : l = p := by simpa using hp
    refine Ev.step (fun k => by rw [dn_May.l0]) ?_
    refine Ev.neg (by omega) ?_
    have : decide ((l.length : Int) ≤ 8) = ([].all partB && decide (l.length ≤ 8)) := by simp; omega
    rw [this]
    exact Ev.now _
  | cons r q ih =>
    intro p hp
    have hlen : p.length + 1 + q.length = l.length := by rw [hp]; simp; omega
    have hi := ih (p ++ [r]) (by rw [hp]; simp)
    have hb : rd_T25 l (p.length : Int) = r := by rw [hp]; exact rd_pre p r q
    have hn : (p ++ [r]).length = p.length + 1 := by simp
    rw [hn] at hi
    refine Ev.step (fun k => by rw [dn_May.l0]) ?_
    refine Ev.pos (by omega) ?_
    refine Ev.pos (by omega) ?_
    refine Ev.pos (by omega) ?_
    rw [hb, wrap_succ (by omega)]
    refine Ev.fix rfl ?_
    rw [List.all_cons, Bool.and_assoc]
    by_cases h1 : typedB r.f0.data.toList = true
    · refine Ev.pos h1 ?_
      by_cases h2 : r.f1.data.toList = []
      · have e : partB r = false := by unfold partB; simp only [h2]; simp
        rw [e]
        exact Ev.pos (by rw [Lib.toList_data]; exact h2) (Ev.now _)
      · refine Ev.neg (by rw [Lib.toList_data]; exact h2) ?_
        by_cases h3 : r.f1.data.toList.length ≤ 100
        · have e : partB r = true := by unfold partB; rw [h1, decide_eq_true h2, decide_eq_true h3]; rfl
          rw [e]
          refine Ev.neg (by rw [Lib.size_eq]; omega) ?_
          simpa using hi
        · have e : partB r = false := by unfold partB; rw [decide_eq_false h3]; simp
          rw [e]
          exact Ev.pos (by rw [Lib.size_eq]; omega) (Ev.now _)
    · have e : partB r = false := by unfold partB; simp [h1]
      rw [e]
      exact Ev.neg h1 (Ev.now _)
theorem may_ev (l : List S25) (hl : l.length ≤ 9000000000000000000) : Ev (fun k => dn_May.f k l) (mayB l) := may_l0 l hl l [] rfl
theorem mayDn_l0 (l : List S25) (hl : l.length ≤ 9000000000000000000) : ∀ q p : List S25, l = p ++ q → Ev (fun k => brookref1_MayDn.l0 k l (p.length : Int)) (q.all partB && decide (l.length ≤ 8)) := by
  intro q
  induction q with
  | nil =>
    intro p hp
    obtain rfl : l = p := by simpa using hp
    refine Ev.step (fun k => by rw [brookref1_MayDn.l0]) ?_
    refine Ev.neg (by omega) ?_
    have : decide ((l.length : Int) ≤ 8) = ([].all partB && decide (l.length ≤ 8)) := by simp; omega
    rw [this]
    exact Ev.now _
  | cons r q ih =>
    intro p hp
    have hlen : p.length + 1 + q.length = l.length := by rw [hp]; simp; omega
    have hi := ih (p ++ [r]) (by rw [hp]; simp)
    have hb : rd_T25 l (p.length : Int) = r := by rw [hp]; exact rd_pre p r q
    have hn : (p ++ [r]).length = p.length + 1 := by simp
    rw [hn] at hi
    refine Ev.step (fun k => by rw [brookref1_MayDn.l0]) ?_
    refine Ev.pos (by omega) ?_
    refine Ev.pos (by omega) ?_
    rw [hb, wrap_succ (by omega)]
    have ht := mayType_ev r.f0.data.toList
    rw [B_of] at ht
    refine Ev.bind ht ?_
    rw [List.all_cons, Bool.and_assoc]
    by_cases h1 : typedB r.f0.data.toList = true
    · refine Ev.pos h1 ?_
      by_cases h2 : r.f1.data.toList = []
      · have e : partB r = false := by unfold partB; simp only [h2]; simp
        rw [e]
        exact Ev.pos (by rw [Lib.toList_data]; exact h2) (Ev.now _)
      · refine Ev.neg (by rw [Lib.toList_data]; exact h2) ?_
        by_cases h3 : r.f1.data.toList.length ≤ 100
        · have e : partB r = true := by unfold partB; rw [h1, decide_eq_true h2, decide_eq_true h3]; rfl
          rw [e]
          refine Ev.neg (by rw [Lib.size_eq]; omega) ?_
          simpa using hi
        · have e : partB r = false := by unfold partB; rw [decide_eq_false h3]; simp
          rw [e]
          exact Ev.pos (by rw [Lib.size_eq]; omega) (Ev.now _)
    · have e : partB r = false := by unfold partB; simp [h1]
      rw [e]
      exact Ev.neg h1 (Ev.now _)
theorem mayDn_ev (l : List S25) (hl : l.length ≤ 9000000000000000000) : Ev (fun k => brookref1_MayDn.f k l) (mayB l) := mayDn_l0 l hl l [] rfl
theorem in_l0 (l : List UInt8) (hl : l.length ≤ 100) (c : UInt8) : ∀ q p : List UInt8, l = p ++ q → Ev (fun k => brookref1_in.l0 k (B l) (c.toNat : Int) (p.length : Int)) (decide (c ∈ q)) := by
  intro q
  induction q with
  | nil =>
    intro p hp
    obtain rfl : l = p := by simpa using hp
    refine Ev.step (fun k => by rw [brookref1_in.l0]) ?_
    exact Ev.neg (by rw [B_size]; omega) (Ev.now _)
  | cons d q ih =>
    intro p hp
    have hlen : p.length + 1 + q.length = l.length := by rw [hp]; simp; omega
    have hi := ih (p ++ [d]) (by rw [hp]; simp)
    have hb : bt (B l) (p.length : Int) = (d.toNat : Int) := by rw [hp]; exact bt_pre p d q
    have hn : (p ++ [d]).length = p.length + 1 := by simp
    rw [hn] at hi
    refine Ev.step (fun k => by rw [brookref1_in.l0]) ?_
    refine Ev.pos (by rw [B_size]; omega) ?_
    refine Ev.pos (by omega) ?_
    rw [hb, wrap_succ (by omega)]
    by_cases h : d = c
    · subst h
      refine Ev.pos rfl ?_
      have : decide (d ∈ d :: q) = true := by simp
      rw [this]
      exact Ev.now _
    · refine Ev.neg (fun e => h (u8_eq.1 e)) ?_
      have : decide (c ∈ d :: q) = decide (c ∈ q) := by simp [Ne.symm h]
      rw [this]
      exact hi
theorem special_fin : ∀ n : Fin 256, decide ((UInt8.ofNat n.val) ∈ ([44, 43, 34, 92, 60, 62, 59] : List UInt8)) = specialB (UInt8.ofNat n.val) := by decide +kernel
theorem in_ev (c : UInt8) : Ev (fun k => brookref1_in.f k (⟨#[44, 43, 34, 92, 60, 62, 59]⟩ : ByteArray) (c.toNat : Int)) (specialB c) := by
  have h := in_l0 [44, 43, 34, 92, 60, 62, 59] (by simp) c [44, 43, 34, 92, 60, 62, 59] [] rfl
  rw [u8_all (P := fun c => decide (c ∈ ([44, 43, 34, 92, 60, 62, 59] : List UInt8)) = specialB c) special_fin c] at h
  exact h
theorem two_c (c : UInt8) : brookref1_two.f (c.toNat : Int) = some (B [92, hexD (c.toNat / 16), hexD (c.toNat % 16)]) := by
  unfold brookref1_two.f
  have := UInt8.toNat_lt c
  rw [if_pos (by omega), show ((c.toNat : Int) / 16).toNat = c.toNat / 16 by omega, show ((c.toNat : Int) % 16).toNat = c.toNat % 16 by omega]
  rfl
theorem escC_le (n k : Nat) (c : UInt8) : (escC n k c).length ≤ 3 := by
  unfold escC; split
  · simp
  · split <;> simp
theorem escUp_len (v : List UInt8) (k : Nat) : (escUp v k).length ≤ 3 * k := by
  induction k with
  | zero => simp [escUp]
  | succ k ih =>
    simp only [escUp, List.length_append]
    split
    · have := escC_le v.length k ‹_›; omega
    · simp; omega
theorem esc_step (l p : List UInt8) (c : UInt8) (q : List UInt8) (hp : l = p ++ c :: q) (hl : l.length ≤ 1000000) (out : List UInt8) (ho : out.length ≤ 3000000) (r : ByteArray)
    (h : Ev (fun k => brookref1_escaped.l0 k (B l) (B (out ++ escC l.length p.length c)) ((p.length + 1 : Nat) : Int)) r) :
    Ev (fun k => brookref1_escaped.l0 k (B l) (B out) (p.length : Int)) r := by
  have hlen : p.length + 1 + q.length = l.length := by rw [hp]; simp; omega
  have hb : bt (B l) (p.length : Int) = (c.toNat : Int) := by rw [hp]; exact bt_pre p c q
  have hx : (B l).extract (p.length : Int).toNat (((p.length + 1 : Nat) : Int)).toNat = B [c] := by rw [hp]; exact cut_pre p c q
  have hw := wrap_succ (n := p.length) (by omega)
  have hw2 : wrap64 ((l.length : Int) - 1) = ((l.length - 1 : Nat) : Int) := by rw [wrap64_small (by omega)]; omega
  have hs : ((B l).size : Int) = (l.length : Int) := by rw [B_size]
  have s1 : ∀ d : UInt8, (B [d]).size = 1 := fun d => rfl
  have so : (B out).size = out.length := B_size out
  have e92 : (⟨#[92]⟩ : ByteArray) = B [92] := rfl
  have h35 : ((c.toNat : Int) = 35) ↔ c = 35 := u8_int_inj (n := 35) (by omega)
  have h32 : ((c.toNat : Int) = 32) ↔ c = 32 := u8_int_inj (n := 32) (by omega)
  refine Ev.step (fun k => by rw [brookref1_escaped.l0]) ?_
  refine Ev.pos (by rw [B_size]; omega) ?_
  refine Ev.pos (by omega) ?_
  rw [hb]
  by_cases hd : c.toNat < 32 ∨ 126 < c.toNat
  · have hz : escC l.length p.length c = [92, hexD (c.toNat / 16), hexD (c.toNat % 16)] := by unfold escC; rw [if_pos hd]
    rw [hz] at h
    have key : Ev (fun k => brookref1_escaped.j1 k (B l) (B out) (p.length : Int) (c.toNat : Int) true) r := by
      refine Ev.step (fun k => by rw [brookref1_escaped.j1]) ?_
      refine Ev.pos rfl ?_
      refine Ev.fix (two_c c) ?_
      refine Ev.pos (by rw [B_size, B_size]; simp; omega) ?_
      rw [B_append, hw]
      exact h
    by_cases h1 : (c.toNat : Int) < 32
    · exact Ev.pos h1 key
    · refine Ev.neg h1 ?_
      rw [show decide ((c.toNat : Int) > 126) = true by simp; omega]
      exact key
  · refine Ev.neg (by omega) ?_
    rw [show decide ((c.toNat : Int) > 126) = false by simp; omega]
    refine Ev.step (fun k => by rw [brookref1_escaped.j1]) ?_
    refine Ev.neg (by simp) ?_
    refine Ev.bind (in_ev c) ?_
    simp only [hw, hw2, hs, hx, e92, B_append]
    by_cases hz : specialB c = true ∨ (p.length = 0 ∧ (c = 35 ∨ c = 32)) ∨ (p.length + 1 = l.length ∧ c = 32)
    · have hz' : escC l.length p.length c = [92, c] := by unfold escC; rw [if_neg hd, if_pos hz]
      rw [hz'] at h
      have h' : Ev (fun k => brookref1_escaped.l0 k (B l) (B (out ++ [92] ++ [c])) ((p.length + 1 : Nat) : Int)) r := by simpa using h
      by_cases g1 : specialB c = true
      · refine Ev.pos g1 ?_
        repeat' first
          | exact h'
          | refine Ev.pos (by simp [B_size] <;> omega) ?_
      · have g1' : specialB c = false := by simpa using g1
        refine Ev.neg (by simp [g1']) ?_
        by_cases g2 : p.length = 0
        · refine Ev.pos (by omega) ?_
          by_cases g3 : c = 35
          · refine Ev.pos (h35.2 g3) ?_
            repeat' first
              | exact h'
              | refine Ev.pos (by simp [B_size] <;> omega) ?_
          · refine Ev.neg (fun e => g3 (h35.1 e)) ?_
            have g4 : c = 32 := by
              rcases hz with hz | hz | hz
              · exact absurd hz g1
              · exact hz.2.resolve_left g3
              · exact hz.2
            refine Ev.pos (h32.2 g4) ?_
            repeat' first
              | exact h'
              | refine Ev.pos (by simp [B_size] <;> omega) ?_
        · refine Ev.neg (by omega) ?_
          have g4 : p.length + 1 = l.length ∧ c = 32 := by
            rcases hz with hz | hz | hz
            · exact absurd hz g1
            · exact absurd hz.1 g2
            · exact hz
          refine Ev.pos (by omega) ?_
          refine Ev.pos (h32.2 g4.2) ?_
          repeat' first
            | exact h'
            | refine Ev.pos (by simp [B_size] <;> omega) ?_
    · have hz' : escC l.length p.length c = [c] := by unfold escC; rw [if_neg hd, if_neg hz]
      rw [hz'] at h
      have g1 : specialB c = false := by
        cases e : specialB c with
        | false => rfl
        | true => exact absurd (.inl e) hz
      refine Ev.neg (by simp [g1]) ?_
      by_cases g2 : p.length = 0
      · have g3 : c ≠ 35 := fun e => hz (.inr (.inl ⟨g2, .inl e⟩))
        have g4 : c ≠ 32 := fun e => hz (.inr (.inl ⟨g2, .inr e⟩))
        refine Ev.pos (by omega) ?_
        refine Ev.neg (fun e => g3 (h35.1 e)) ?_
        refine Ev.neg (fun e => g4 (h32.1 e)) ?_
        by_cases g5 : p.length + 1 = l.length
        · refine Ev.pos (by omega) ?_
          repeat' first
            | exact h
            | refine Ev.pos (by simp [B_size] <;> omega) ?_
        · refine Ev.neg (by omega) ?_
          repeat' first
            | exact h
            | refine Ev.pos (by simp [B_size] <;> omega) ?_
      · refine Ev.neg (by omega) ?_
        by_cases g5 : p.length + 1 = l.length
        · have g4 : c ≠ 32 := fun e => hz (.inr (.inr ⟨g5, e⟩))
          refine Ev.pos (by omega) ?_
          refine Ev.neg (fun e => g4 (h32.1 e)) ?_
          repeat' first
            | exact h
            | refine Ev.pos (by simp [B_size] <;> omega) ?_
        · refine Ev.neg (by omega) ?_
          repeat' first
            | exact h
            | refine Ev.pos (by simp [B_size] <;> omega) ?_
theorem esc_l0 (l : List UInt8) (hl : l.length ≤ 1000000) : ∀ q p : List UInt8, l = p ++ q → Ev (fun k => brookref1_escaped.l0 k (B l) (B (escUp l p.length)) (p.length : Int)) (B (escUp l l.length)) := by
  intro q
  induction q with
  | nil =>
    intro p hp
    obtain rfl : l = p := by simpa using hp
    refine Ev.step (fun k => by rw [brookref1_escaped.l0]) ?_
    exact Ev.neg (by rw [B_size]; omega) (Ev.now _)
  | cons c q ih =>
    intro p hp
    have hlen : p.length + 1 + q.length = l.length := by rw [hp]; simp; omega
    have hi := ih (p ++ [c]) (by rw [hp]; simp)
    have hn : (p ++ [c]).length = p.length + 1 := by simp
    rw [hn, escUp_succ (c := c) (by rw [hp]; simp)] at hi
    have := escUp_len l p.length
    exact esc_step l p c q hp hl _ (by omega) _ hi
theorem escaped_ev (l : List UInt8) (hl : l.length ≤ 1000000) : Ev (fun k => brookref1_escaped.f k (B l)) (B (escUp l l.length)) := esc_l0 l hl l [] rfl
def Modest (l : List S25) : Prop := l.length ≤ 1000 ∧ ∀ r ∈ l, r.f0.size ≤ 1000000 ∧ r.f1.size ≤ 1000000
theorem textUp_len (l : List S25) (h : Modest l) (k : Nat) : (textUp l k).length ≤ 4000002 * k := by
  induction k with
  | zero => simp [textUp]
  | succ k ih =>
    simp only [textUp, List.length_append]
    split
    · next r hr =>
      obtain ⟨h1, h2⟩ := h.2 r (List.mem_of_getElem? hr)
      have h3 := escUp_len r.f1.data.toList r.f1.data.toList.length
      rw [Lib.size_eq] at h1 h2
      simp only [List.length_append, List.length_cons, List.length_nil]
      have : (if 0 < k then ([44] : List UInt8) else []).length ≤ 1 := by split <;> simp
      omega
    · simp; omega
theorem text_l0 (l : List S25) (h : Modest l) : ∀ q p : List S25, l = p ++ q → Ev (fun k => brookref1_TextDn.l0 k l (B (textUp l p.length)) (p.length : Int)) (B (textUp l l.length)) := by
  intro q
  induction q with
  | nil =>
    intro p hp
    obtain rfl : l = p := by simpa using hp
    refine Ev.step (fun k => by rw [brookref1_TextDn.l0]) ?_
    exact Ev.neg (by omega) (Ev.now _)
  | cons r q ih =>
    intro p hp
    have hlen : p.length + 1 + q.length = l.length := by rw [hp]; simp; omega
    have hi := ih (p ++ [r]) (by rw [hp]; simp)
    have hn : (p ++ [r]).length = p.length + 1 := by simp
    have hr : l[p.length]? = some r := by rw [hp]; simp
    rw [hn, textUp_succ hr] at hi
    have hb : rd_T25 l (p.length : Int) = r := by rw [hp]; exact rd_pre p r q
    have ht := textUp_len l h p.length
    have hl := h.1
    obtain ⟨h1, h2⟩ := h.2 r (List.mem_of_getElem? hr)
    rw [Lib.size_eq] at h1 h2
    have he := escaped_ev r.f1.data.toList h2
    have h3 := escUp_len r.f1.data.toList r.f1.data.toList.length
    rw [B_of] at he
    have e44 : (⟨#[44]⟩ : ByteArray) = B [44] := rfl
    have e61 : (⟨#[61]⟩ : ByteArray) = B [61] := rfl
    have ef : r.f0 = B r.f0.data.toList := (B_of r.f0).symm
    refine Ev.step (fun k => by rw [brookref1_TextDn.l0]) ?_
    refine Ev.pos (by omega) ?_
    rw [hb, wrap_succ (by omega), e44, e61]
    have hmul : 4000002 * p.length ≤ 4000002 * 1000 := Nat.mul_le_mul_left _ (by omega)
    by_cases h0 : 0 < p.length
    · have hi' : Ev (fun k => brookref1_TextDn.l0 k l (B (textUp l p.length ++ [44] ++ r.f0.data.toList ++ [61] ++ escUp r.f1.data.toList r.f1.data.toList.length)) ((p.length + 1 : Nat) : Int)) (B (textUp l l.length)) := by
        simpa [h0] using hi
      refine Ev.pos (by omega) ?_
      refine Ev.pos (by rw [B_size]; omega) ?_
      refine Ev.pos (by omega) ?_
      rw [ef]
      simp only [B_append]
      refine Ev.pos (by simp only [B_size, List.length_append, List.length_cons, List.length_nil]; omega) ?_
      refine Ev.pos (by simp only [B_size, List.length_append, List.length_cons, List.length_nil]; omega) ?_
      refine Ev.bind he ?_
      refine Ev.pos (by simp only [B_size, List.length_append, List.length_cons, List.length_nil]; omega) ?_
      rw [B_append]
      exact hi'
    · have hi' : Ev (fun k => brookref1_TextDn.l0 k l (B (textUp l p.length ++ r.f0.data.toList ++ [61] ++ escUp r.f1.data.toList r.f1.data.toList.length)) ((p.length + 1 : Nat) : Int)) (B (textUp l l.length)) := by
        simpa [h0] using hi
      refine Ev.neg (by omega) ?_
      refine Ev.pos (by omega) ?_
      rw [ef]
      simp only [B_append]
      refine Ev.pos (by simp only [B_size]; omega) ?_
      refine Ev.pos (by simp only [B_size, List.length_append]; omega) ?_
      refine Ev.bind he ?_
      refine Ev.pos (by simp only [B_size, List.length_append, List.length_cons, List.length_nil]; omega) ?_
      rw [B_append]
      exact hi'
theorem textDn_ev (l : List S25) (h : Modest l) : Ev (fun k => brookref1_TextDn.f k l) (B (textUp l l.length)) := text_l0 l h l [] rfl
theorem text_B (l : List S25) (h : Modest l) : dn_Text.f l = some (B (textUp l l.length)) := by
  unfold dn_Text.f
  have h1 := textUp_len l h l.length
  have h2 := h.1
  have : 4000002 * l.length ≤ 4000002 * 1000 := Nat.mul_le_mul_left _ h2
  rw [if_pos (by omega)]
  rfl
end Go.Proofs.YtflkghdndffacaaGreatDoor.Pure
namespace Go.Proofs.YtflkghdndffacaaGreatDoor.Pure
open Go.RowKit Go.Proofs.YtflkghdndffacaaGreatDoor.PD Go.Proofs.YtflkghdndffacaaGreatDoor.H Go.Proofs.YtflkghdndffacaaGreatDoorW.PrintWords Go.Proofs.YtflkghdndffacaaGreatDoorW.PrintLast
def hexDigits : List UInt8 := [48, 49, 50, 51, 52, 53, 54, 55, 56, 57, 97, 98, 99, 100, 101, 102]
def digB (c : UInt8) : Int := Lib.indexByte hexDigits (lowC c)
theorem digit_fin : ∀ n : Fin 256, dn_digit.f (((UInt8.ofNat n.val).toNat : Nat) : Int) = some (digB (UInt8.ofNat n.val)) := by decide +kernel
theorem digit_c (c : UInt8) : dn_digit.f (c.toNat : Int) = some (digB c) := u8_all (P := fun c => dn_digit.f (c.toNat : Int) = some (digB c)) digit_fin c
theorem digB_fin : ∀ n : Fin 256, -1 ≤ digB (UInt8.ofNat n.val) ∧ digB (UInt8.ofNat n.val) ≤ 15 := by decide +kernel
theorem digB_rng (c : UInt8) : -1 ≤ digB c ∧ digB c ≤ 15 := u8_all (P := fun c => -1 ≤ digB c ∧ digB c ≤ 15) digB_fin c
theorem or16_fin : ∀ h l : Fin 16, (Go.bits .or .i64 (wrap64 ((h.val : Int) * 16)) (l.val : Int)) % 256 = ((h.val * 16 + l.val).toUInt8.toNat : Int) := by decide +kernel
theorem or16 {h l : Int} (h0 : 0 ≤ h) (h1 : h ≤ 15) (l0 : 0 ≤ l) (l1 : l ≤ 15) : (Go.bits .or .i64 (wrap64 (h * 16)) l) % 256 = (((h.toNat * 16 + l.toNat).toUInt8).toNat : Int) := by
  have := or16_fin ⟨h.toNat, by omega⟩ ⟨l.toNat, by omega⟩
  simpa only [Int.toNat_of_nonneg h0, Int.toNat_of_nonneg l0] using this
def oneB (c : UInt8) : Bool := specialB c || c == 61 || c == 35 || c == 32
def escAt : List UInt8 → Option (UInt8 × Nat)
  | [] => none
  | c :: r => if oneB c = true then some (c, 1) else match r with
    | [] => none
    | d :: _ => if 0 ≤ digB c ∧ 0 ≤ digB d then some (((digB c).toNat * 16 + (digB d).toNat).toUInt8, 2) else none
theorem escAt_one {c : UInt8} {r : List UInt8} (h : oneB c = true) : escAt (c :: r) = some (c, 1) := by simp only [escAt, if_pos h]
theorem escAt_lone {c : UInt8} (h : ¬ oneB c = true) : escAt [c] = none := by simp only [escAt, if_neg h]
theorem escAt_two {c d : UInt8} {r : List UInt8} (h : ¬ oneB c = true) (h1 : 0 ≤ digB c ∧ 0 ≤ digB d) : escAt (c :: d :: r) = some (((digB c).toNat * 16 + (digB d).toNat).toUInt8, 2) := by simp only [escAt, if_neg h, if_pos h1]
theorem escAt_not {c d : UInt8} {r : List UInt8} (h : ¬ oneB c = true) (h1 : ¬ (0 ≤ digB c ∧ 0 ≤ digB d)) : escAt (c :: d :: r) = none := by simp only [escAt, if_neg h, if_neg h1]
def escRes : Option (UInt8 × Nat) → Int × Int
  | none => (0, 0)
  | some (c, n) => ((c.toNat : Int), (n : Int))
theorem special_c (c : UInt8) : dn_special.f (c.toNat : Int) = some (specialB c) := by
  unfold dn_special.f strings_IndexByte.f
  simp only [Option.bind_some, Int.toNat_natCast]
  unfold specialB
  have : (c.toNat).toUInt8 = c := by simp
  rw [this]
theorem bt_0 (c : UInt8) (r : List UInt8) : bt (B (c :: r)) 0 = (c.toNat : Int) := bt_pre [] c r
theorem bt_1 (c d : UInt8) (r : List UInt8) : bt (B (c :: d :: r)) 1 = (d.toNat : Int) := bt_pre [c] d r
theorem escaped_dn (l : List UInt8) : Ev (fun k => dn_escaped.f k (B l)) (escRes (escAt l)) := by
  unfold dn_escaped.f
  cases l with
  | nil => exact Ev.pos (by rw [B_toList]) (Ev.now _)
  | cons c r =>
    refine Ev.neg (by rw [B_toList]; simp) ?_
    refine Ev.pos (by rw [B_size]; simp) ?_
    rw [bt_0]
    refine Ev.fix (special_c c) ?_
    have h61 : ((c.toNat : Int) = 61) ↔ c = 61 := u8_int_inj (n := 61) (by omega)
    have h35 : ((c.toNat : Int) = 35) ↔ c = 35 := u8_int_inj (n := 35) (by omega)
    have h32 : ((c.toNat : Int) = 32) ↔ c = 32 := u8_int_inj (n := 32) (by omega)
    have jt : oneB c = true → Ev (fun k => dn_escaped.j0 k (B (c :: r)) true) (escRes (escAt (c :: r))) := fun ho => by
      have e : escAt (c :: r) = some (c, 1) := escAt_one ho
      rw [e]
      refine Ev.step (fun k => by rw [dn_escaped.j0]) ?_
      refine Ev.pos rfl ?_
      refine Ev.pos (by rw [B_size]; simp) ?_
      rw [bt_0]
      exact Ev.now _
    by_cases h1 : specialB c = true
    · exact Ev.pos h1 (jt (by unfold oneB; simp [h1]))
    · refine Ev.neg h1 ?_
      by_cases h2 : c = 61
      · exact Ev.pos (h61.2 h2) (jt (by unfold oneB; simp [h2]))
      · refine Ev.neg (fun e => h2 (h61.1 e)) ?_
        by_cases h3 : c = 35
        · exact Ev.pos (h35.2 h3) (jt (by unfold oneB; simp [h3]))
        · refine Ev.neg (fun e => h3 (h35.1 e)) ?_
          by_cases h4 : c = 32
          · rw [show ((c.toNat : Int) == 32) = true by rw [beq_iff_eq]; exact h32.2 h4]
            exact jt (by unfold oneB; simp [h4])
          · rw [show ((c.toNat : Int) == 32) = false by rw [beq_eq_false_iff_ne]; exact fun e => h4 (h32.1 e)]
            have ho : ¬ oneB c = true := by unfold oneB; simp [h1, h2, h3, h4]
            refine Ev.step (fun k => by rw [dn_escaped.j0]) ?_
            refine Ev.neg (by simp) ?_
            have jf : Ev (fun k => dn_escaped.j1 k (B (c :: r)) false) (0, 0) := Ev.step (fun k => by rw [dn_escaped.j1]) (Ev.neg (by simp) (Ev.now _))
            cases r with
            | nil =>
              have e : escAt [c] = none := escAt_lone ho
              rw [e]
              refine Ev.neg (by rw [B_size]; simp) ?_
              exact jf
            | cons d r =>
              refine Ev.pos (by rw [B_size]; simp; omega) ?_
              refine Ev.pos (by rw [B_size]; simp; omega) ?_
              rw [bt_0]
              refine Ev.fix (digit_c c) ?_
              by_cases h5 : 0 ≤ digB c
              · refine Ev.pos h5 ?_
                refine Ev.pos (by rw [B_size]; simp; omega) ?_
                rw [bt_1]
                refine Ev.fix (digit_c d) ?_
                by_cases h6 : 0 ≤ digB d
                · have e : escAt (c :: d :: r) = some (((digB c).toNat * 16 + (digB d).toNat).toUInt8, 2) := escAt_two ho ⟨h5, h6⟩
                  rw [e]
                  refine Ev.step (fun k => by rw [dn_escaped.j1]) ?_
                  refine Ev.pos (by simpa using h6) ?_
                  refine Ev.pos (by rw [B_size]; simp; omega) ?_
                  rw [bt_0]
                  refine Ev.fix (digit_c c) ?_
                  refine Ev.pos (by rw [B_size]; simp; omega) ?_
                  rw [bt_1]
                  refine Ev.fix (digit_c d) ?_
                  rw [or16 h5 (digB_rng c).2 h6 (digB_rng d).2]
                  exact Ev.now _
                · have e : escAt (c :: d :: r) = none := escAt_not ho (fun h => h6 h.2)
                  rw [e, show decide (digB d ≥ 0) = false by simpa using h6]
                  exact jf
              · have e : escAt (c :: d :: r) = none := escAt_not ho (fun h => h5 h.1)
                rw [e]
                exact Ev.neg h5 jf
def badC (first : Bool) (c : UInt8) : Bool := decide (c.toNat < 32) || decide (126 < c.toNat) || specialB c || (first && (c == 35 || c == 32))
def valS (first : Bool) (acc : List UInt8) (sp : Bool) : List UInt8 → List UInt8 × List UInt8 × Bool
  | [] => (acc, [], !sp)
  | c :: r => if c = 44 then (acc, c :: r, !sp)
    else if c = 92 then match escAt r with
      | none => ([], [], false)
      | some (b, n) => valS false (acc ++ [b]) false (r.drop n)
    else if badC first c = true then ([], [], false) else valS false (acc ++ [c]) (c == 32) r
termination_by l => l.length
decreasing_by all_goals (simp; try omega)
def res3 (x : List UInt8 × List UInt8 × Bool) : ByteArray × ByteArray × Bool := (B x.1, B x.2.1, x.2.2)
theorem escAt_pos {l : List UInt8} {c : UInt8} {n : Nat} (h : escAt l = some (c, n)) : 1 ≤ n ∧ n ≤ l.length := by
  unfold escAt at h
  split at h
  · cases h
  · split at h
    · cases h; simp
    · split at h
      · cases h
      · split at h
        · cases h; simp
        · cases h
theorem bi_snoc (l : List UInt8) (c : UInt8) : bi l ++ [(c.toNat : Int)] = bi (l ++ [c]) := by simp [bi]
theorem value_l0 (l : List UInt8) (hl : l.length ≤ 100000000) : ∀ n (q p acc : List UInt8) (sp : Bool), q.length ≤ n → l = p ++ q → acc.length ≤ p.length →
    Ev (fun k => dn_value.l0 k (B l) (bi acc) sp (p.length : Int)) (res3 (valS p.isEmpty acc sp q)) := by
  intro n
  induction n with
  | zero =>
    intro q p acc sp hq hp ha
    obtain rfl : q = [] := List.length_eq_zero_iff.1 (by omega)
    obtain rfl : l = p := by simpa using hp
    refine Ev.step (fun k => by rw [dn_value.l0]) ?_
    refine Ev.neg (by rw [B_size]; omega) ?_
    refine Ev.step (fun k => by rw [dn_value.j1]) ?_
    refine Ev.neg (by simp) ?_
    refine Ev.pos (by omega) ?_
    refine Ev.pos (by rw [B_size]; omega) ?_
    rw [valS, str_bi, B_extract]
    simpa [B_size, res3, B] using Ev.now _
  | succ n ih =>
    intro q p acc sp hq hp ha
    cases q with
    | nil => exact (by
        obtain rfl : l = p := by simpa using hp
        refine Ev.step (fun k => by rw [dn_value.l0]) ?_
        refine Ev.neg (by rw [B_size]; omega) ?_
        refine Ev.step (fun k => by rw [dn_value.j1]) ?_
        refine Ev.neg (by simp) ?_
        refine Ev.pos (by omega) ?_
        refine Ev.pos (by rw [B_size]; omega) ?_
        rw [valS, str_bi, B_extract]
        simpa [B_size, res3, B] using Ev.now _)
    | cons c q =>
      have hlen : p.length + 1 + q.length = l.length := by rw [hp]; simp; omega
      have hb : bt (B l) (p.length : Int) = (c.toNat : Int) := by rw [hp]; exact bt_pre p c q
      have h44 : ((c.toNat : Int) = 44) ↔ c = 44 := u8_int_inj (n := 44) (by omega)
      have h92 : ((c.toNat : Int) = 92) ↔ c = 92 := u8_int_inj (n := 92) (by omega)
      have h35 : ((c.toNat : Int) = 35) ↔ c = 35 := u8_int_inj (n := 35) (by omega)
      have h32 : ((c.toNat : Int) = 32) ↔ c = 32 := u8_int_inj (n := 32) (by omega)
      have hbl : (bi acc).length ≤ p.length := by rw [bi_length]; exact ha
      refine Ev.step (fun k => by rw [dn_value.l0]) ?_
      refine Ev.pos (by rw [B_size]; omega) ?_
      refine Ev.pos (by omega) ?_
      rw [hb]
      refine Ev.step (fun k => by rw [dn_value.j1]) ?_
      by_cases c44 : c = 44
      · rw [show ((c.toNat : Int) != 44) = false by rw [bne_eq_false_iff_eq]; exact h44.2 c44]
        refine Ev.neg (by simp) ?_
        refine Ev.pos (by omega) ?_
        refine Ev.pos (by rw [B_size]; omega) ?_
        rw [valS, if_pos c44, str_bi, B_extract, B_size]
        have : (l.drop (p.length : Int).toNat).take (l.length - (p.length : Int).toNat) = c :: q := by
          rw [List.take_of_length_le (by simp), hp]; simp
        rw [this]
        exact Ev.now _
      · rw [show ((c.toNat : Int) != 44) = true by rw [bne_iff_ne]; exact fun e => c44 (h44.1 e)]
        refine Ev.pos rfl ?_
        refine Ev.pos (by omega) ?_
        refine Ev.pos (by rw [B_size]; omega) ?_
        rw [hb, valS, if_neg c44, wrap_succ (by omega)]
        by_cases c92 : c = 92
        · rw [if_pos c92]
          refine Ev.pos (h92.2 c92) ?_
          refine Ev.pos (by omega) ?_
          refine Ev.pos (by rw [B_size]; omega) ?_
          have hx : (B l).extract (((p.length + 1 : Nat) : Int)).toNat (B l).size = B q := by
            rw [B_extract, B_size]
            have : (l.drop (((p.length + 1 : Nat) : Int)).toNat).take (l.length - (((p.length + 1 : Nat) : Int)).toNat) = q := by
              rw [List.take_of_length_le (by simp), hp]
              simp
            rw [this]
          rw [hx]
          refine Ev.bind (escaped_dn q) ?_
          cases he : escAt q with
          | none => exact Ev.pos rfl (Ev.now _)
          | some y =>
            obtain ⟨b, m⟩ := y
            obtain ⟨hm1, hm2⟩ := escAt_pos he
            refine Ev.neg (by simp only [escRes]; omega) ?_
            refine Ev.pos (by omega) ?_
            simp only [escRes]
            rw [bi_snoc, show ((c.toNat : Int) == 32) = false by rw [beq_eq_false_iff_ne, h92.2 c92]; omega]
            have hw : wrap64 (wrap64 ((p.length : Int) + (m : Int)) + 1) = ((p ++ c :: q.take m).length : Int) := by
              rw [wrap64_small (n := (p.length : Int) + (m : Int)) (by omega), wrap64_small (by omega)]; simp; omega
            rw [hw]
            have := ih (q.drop m) (p ++ c :: q.take m) (acc ++ [b]) false (by simp at hq ⊢; omega) (by rw [hp]; simp) (by simp; omega)
            rw [show (p ++ c :: q.take m).isEmpty = false by simp] at this
            exact this
        · rw [if_neg c92]
          refine Ev.neg (fun e => c92 (h92.1 e)) ?_
          have hgo : badC p.isEmpty c = false → Ev (fun k => dn_value.l0 k (B l) (bi acc ++ [(c.toNat : Int)]) ((c.toNat : Int) == 32) ((p.length + 1 : Nat) : Int)) (res3 (if badC p.isEmpty c = true then ([], [], false) else valS false (acc ++ [c]) (c == 32) q)) := fun hbad => by
            rw [if_neg (by simp [hbad]), bi_snoc]
            have := ih q (p ++ [c]) (acc ++ [c]) (c == 32) (by simp at hq; omega) (by rw [hp]; simp) (by simp; omega)
            rw [show (p ++ [c]).isEmpty = false by simp, show (p ++ [c]).length = p.length + 1 by simp] at this
            rw [show ((c.toNat : Int) == 32) = (c == 32) by rw [Bool.eq_iff_iff, beq_iff_eq, beq_iff_eq]; exact h32]
            exact this
          have hno : badC p.isEmpty c = true → Ev (fun _ => some ((⟨#[]⟩ : ByteArray), (⟨#[]⟩ : ByteArray), false)) (res3 (if badC p.isEmpty c = true then ([], [], false) else valS false (acc ++ [c]) (c == 32) q)) := fun hbad => by
            rw [if_pos hbad]; exact Ev.now _
          by_cases b1 : c.toNat < 32
          · exact Ev.pos (by omega) (hno (by unfold badC; simp [b1]))
          · refine Ev.neg (by omega) ?_
            by_cases b2 : 126 < c.toNat
            · exact Ev.pos (by omega) (hno (by unfold badC; simp [b2]))
            · refine Ev.neg (by omega) ?_
              refine Ev.fix (special_c c) ?_
              by_cases b3 : specialB c = true
              · exact Ev.pos b3 (hno (by unfold badC; simp [b3]))
              · refine Ev.neg b3 ?_
                by_cases b4 : p = []
                · subst b4
                  refine Ev.pos (by simp) ?_
                  by_cases b5 : c = 35
                  · exact Ev.pos (h35.2 b5) (hno (by unfold badC; simp [b5]))
                  · refine Ev.neg (fun e => b5 (h35.1 e)) ?_
                    by_cases b6 : c = 32
                    · exact Ev.pos (h32.2 b6) (hno (by unfold badC; simp [b6]))
                    · refine Ev.neg (fun e => b6 (h32.1 e)) ?_
                      exact Ev.pos (by omega) (hgo (by unfold badC; simp [b1, b2, b3, b5, b6]))
                · have : 0 < p.length := List.length_pos_iff.2 b4
                  refine Ev.neg (by omega) ?_
                  exact Ev.pos (by omega) (hgo (by unfold badC; simp [b1, b2, b3, b4]))
theorem value_ev (l : List UInt8) (hl : l.length ≤ 100000000) : Ev (fun k => dn_value.f k (B l)) (res3 (valS true [] false l)) :=
  value_l0 l hl l.length l [] [] false (Nat.le_refl _) rfl (by simp)
def cutS : List UInt8 → Option (List UInt8 × List UInt8)
  | [] => none
  | c :: r => if c = 61 then some ([], r) else (cutS r).map fun x => (c :: x.1, x.2)
theorem cutS_index (l : List UInt8) : (cutS l = none ∧ Lib.indexByte l 61 = -1) ∨ ∃ a b, cutS l = some (a, b) ∧ Lib.indexByte l 61 = (a.length : Int) ∧ l = a ++ 61 :: b := by
  induction l with
  | nil => exact .inl ⟨rfl, rfl⟩
  | cons c r ih =>
    by_cases h : c = 61
    · subst h
      exact .inr ⟨[], r, by simp [cutS], by simp [Lib.indexByte], rfl⟩
    · have hb : (c == 61) = false := by simpa using h
      rcases ih with ⟨h1, h2⟩ | ⟨a, b, h1, h2, h3⟩
      · exact .inl ⟨by simp [cutS, h, h1], by simp [Lib.indexByte, hb, h2]⟩
      · refine .inr ⟨c :: a, b, by simp [cutS, h, h1], ?_, by rw [h3]; rfl⟩
        simp only [Lib.indexByte, hb, h2]
        simp
theorem cut_ev (l : List UInt8) (hl : l.length ≤ 100000000) : strings_Cut.f (B l) (⟨#[61]⟩ : ByteArray) = some (match cutS l with | none => (B l, B [], false) | some (a, b) => (B a, B b, true)) := by
  unfold strings_Cut.f stringslite_Cut.f stringslite_Index.f
  simp only [B_data, Option.bind_some]
  rcases cutS_index l with ⟨h1, h2⟩ | ⟨a, b, h1, h2, h3⟩
  · rw [h1, h2]
    simp [B]
  · rw [h1, h2]
    have hlen : a.length + 1 + b.length = l.length := by rw [h3]; simp; omega
    have hs : ((⟨#[61]⟩ : ByteArray).size : Int) = 1 := rfl
    have hw := wrap_succ (n := a.length) (by omega)
    rw [if_pos (by omega), if_pos (by omega), if_pos (by rw [B_size]; omega), hs, hw, if_pos (by omega), if_pos (by rw [B_size]; omega)]
    simp only [Option.bind_some, B_extract, B_size]
    have e1 : (l.drop 0).take ((a.length : Int).toNat - 0) = a := by rw [h3]; simp
    have e2 : (l.drop (((a.length + 1 : Nat) : Int)).toNat).take (l.length - (((a.length + 1 : Nat) : Int)).toNat) = b := by
      rw [List.take_of_length_le (by simp), h3]
      simp
    rw [e1, e2]
def parseS : Nat → List UInt8 → List S25 → Bool → List S25 × Bool
  | n, s, acc, more =>
    if more = false then (if mayB acc = true then (acc, true) else ([], false)) else
    match n with
    | 0 => ([], false)
    | n + 1 => match cutS s with
      | none => ([], false)
      | some (a, b) => if typedB a = false then ([], false) else
        if (valS true [] false b).2.2 = false then ([], false) else
        parseS n ((valS true [] false b).2.1.drop 1) (acc ++ [⟨B a, B (valS true [] false b).1⟩]) ((valS true [] false b).2.1 != [])
theorem parseS_done (n : Nat) (s : List UInt8) (acc : List S25) : parseS n s acc false = if mayB acc = true then (acc, true) else ([], false) := by
  unfold parseS; simp
theorem parseS_zero (s : List UInt8) (acc : List S25) : parseS 0 s acc true = ([], false) := by
  unfold parseS; simp
theorem parseS_none (n : Nat) (s : List UInt8) (acc : List S25) (h : cutS s = none) : parseS (n + 1) s acc true = ([], false) := by
  conv => lhs; unfold parseS
  simp [h]
theorem parseS_some (n : Nat) (s a b : List UInt8) (acc : List S25) (h : cutS s = some (a, b)) : parseS (n + 1) s acc true = if typedB a = false then ([], false) else
        if (valS true [] false b).2.2 = false then ([], false) else
        parseS n ((valS true [] false b).2.1.drop 1) (acc ++ [⟨B a, B (valS true [] false b).1⟩]) ((valS true [] false b).2.1 != []) := by
  conv => lhs; unfold parseS
  simp [h]
theorem valS_len : ∀ n (q : List UInt8), q.length ≤ n → ∀ (first : Bool) (acc : List UInt8) (sp : Bool), (valS first acc sp q).2.1.length ≤ q.length := by
  intro n
  induction n with
  | zero =>
    intro q hq first acc sp
    obtain rfl : q = [] := List.length_eq_zero_iff.1 (by omega)
    rw [valS]; simp
  | succ n ih =>
    intro q hq first acc sp
    cases q with
    | nil => rw [valS]; simp
    | cons c r =>
      rw [valS]
      split
      · simp
      · split
        · split
          · simp
          · next b m he =>
            have := ih (r.drop m) (by simp at hq ⊢; omega) false (acc ++ [b]) false
            simp at this ⊢
            omega
        · split
          · simp
          · have := ih r (by simp at hq; omega) false (acc ++ [c]) (c == 32)
            simp at this ⊢
            omega
theorem parse_l0 : ∀ n (s : List UInt8) (acc : List S25) (more : Bool), s.length ≤ 100000000 → acc.length + n = 8 →
    Ev (fun k => dn_Parse.l0 k (B s) acc more) (parseS n s acc more) := by
  intro n
  induction n with
  | zero =>
    intro s acc more hs hn
    refine Ev.step (fun k => by rw [dn_Parse.l0]) ?_
    cases more with
    | false =>
      refine Ev.neg (by simp) ?_
      refine Ev.bind (may_ev acc (by omega)) ?_
      rw [parseS_done]
      by_cases hm : mayB acc = true
      · simp only [if_pos hm]; exact Ev.now _
      · simp only [if_neg hm]; exact Ev.now _
    | true =>
      refine Ev.pos rfl ?_
      refine Ev.fix (cut_ev s (by omega)) ?_
      rw [parseS_zero]
      have jt : ∀ x y, Ev (fun k => dn_Parse.j1 k acc x y true) ([], false) := fun x y => Ev.step (fun k => by rw [dn_Parse.j1]) (Ev.pos rfl (Ev.now _))
      cases cutS s with
      | none => exact Ev.neg (by simp) (jt _ _)
      | some x =>
        obtain ⟨a, b⟩ := x
        refine Ev.pos rfl ?_
        refine Ev.fix (v := typedB a) (by unfold dn_typed.f; rw [B_data]) ?_
        by_cases ht : typedB a = true
        · refine Ev.pos ht ?_
          rw [show ((acc.length : Int) == 8) = true by rw [beq_iff_eq]; omega]
          exact jt _ _
        · exact Ev.neg ht (jt _ _)
  | succ n ih =>
    intro s acc more hs hn
    refine Ev.step (fun k => by rw [dn_Parse.l0]) ?_
    cases more with
    | false =>
      refine Ev.neg (by simp) ?_
      refine Ev.bind (may_ev acc (by omega)) ?_
      rw [parseS_done]
      by_cases hm : mayB acc = true
      · simp only [if_pos hm]; exact Ev.now _
      · simp only [if_neg hm]; exact Ev.now _
    | true =>
      refine Ev.pos rfl ?_
      refine Ev.fix (cut_ev s (by omega)) ?_
      have jt : ∀ x y, Ev (fun k => dn_Parse.j1 k acc x y true) ([], false) := fun x y => Ev.step (fun k => by rw [dn_Parse.j1]) (Ev.pos rfl (Ev.now _))
      cases hc : cutS s with
      | none =>
        rw [parseS_none _ _ _ hc]
        exact Ev.neg (by simp) (jt _ _)
      | some x =>
        obtain ⟨a, b⟩ := x
        rw [parseS_some _ _ _ _ _ hc]
        refine Ev.pos rfl ?_
        refine Ev.fix (v := typedB a) (by unfold dn_typed.f; rw [B_data]) ?_
        have hbl : b.length ≤ s.length := by
          rcases cutS_index s with ⟨h1, _⟩ | ⟨a', b', h1, _, h3⟩
          · rw [h1] at hc; cases hc
          · rw [h1] at hc; cases hc; rw [h3]; simp; omega
        by_cases ht : typedB a = true
        · refine Ev.pos ht ?_
          rw [if_neg (by simp [ht]), show ((acc.length : Int) == 8) = false by rw [beq_eq_false_iff_ne]; omega]
          refine Ev.step (fun k => by rw [dn_Parse.j1]) ?_
          refine Ev.neg (by simp) ?_
          refine Ev.bind (value_ev b (by omega)) ?_
          have hv := valS_len b.length b (Nat.le_refl _) true [] false
          generalize valS true [] false b = v at *
          obtain ⟨v1, v2, v3⟩ := v
          simp only [res3] at hv ⊢
          cases v3 with
          | false =>
            rw [if_pos rfl]
            exact Ev.neg (by simp) (Ev.now _)
          | true =>
            rw [if_neg (by simp)]
            refine Ev.pos rfl ?_
            refine Ev.pos (by omega) ?_
            refine Ev.fix rfl ?_
            simp only [B_toList]
            have hi := ih (v2.drop 1) (acc ++ [⟨B a, B v1⟩]) (v2 != []) (by simp; omega) (by simp; omega)
            cases v2 with
            | nil => exact Ev.pos rfl hi
            | cons d v2 =>
              refine Ev.neg (by simp) ?_
              refine Ev.pos (by rw [B_size]; simp; omega) ?_
              have : (B (d :: v2)).extract 1 (B (d :: v2)).size = B ((d :: v2).drop 1) := by rw [B_extract, B_size, List.take_of_length_le (by simp)]
              rw [this]
              exact hi
        · have : typedB a = false := by simpa using ht
          rw [if_pos this]
          exact Ev.neg ht (jt _ _)
def parseL (s : List UInt8) : List S25 × Bool := parseS 8 s [] (s != [])
theorem parse_ev (s : List UInt8) (hs : s.length ≤ 100000000) : Ev (fun k => dn_Parse.f k (B s)) (parseL s) := by
  unfold dn_Parse.f parseL
  rw [B_toList]
  exact parse_l0 8 s [] (s != []) hs rfl
end Go.Proofs.YtflkghdndffacaaGreatDoor.Pure
namespace Go.Proofs.YtflkghdndffacaaGreatDoor.Pure
open Go.RowKit Go.Proofs.YtflkghdndffacaaGreatDoor.PD Go.Proofs.YtflkghdndffacaaGreatDoor.H Go.Proofs.YtflkghdndffacaaGreatDoorW.PrintWords Go.Proofs.YtflkghdndffacaaGreatDoorW.PrintLast
def escL (n : Nat) : Nat → List UInt8 → List UInt8
  | _, [] => []
  | k, c :: r => escC n k c ++ escL n (k + 1) r
def esc (v : List UInt8) : List UInt8 := escL v.length 0 v
theorem escUp_escL (l : List UInt8) : ∀ q p : List UInt8, l = p ++ q → escUp l p.length ++ escL l.length p.length q = escUp l l.length := by
  intro q
  induction q with
  | nil => intro p hp; obtain rfl : l = p := by simpa using hp
           simp [escL]
  | cons c q ih =>
    intro p hp
    have hi := ih (p ++ [c]) (by rw [hp]; simp)
    have hn : (p ++ [c]).length = p.length + 1 := by simp
    rw [hn, escUp_succ (c := c) (by rw [hp]; simp), List.append_assoc] at hi
    exact hi
theorem esc_up (v : List UInt8) : escUp v v.length = esc v := by
  have := escUp_escL v v [] rfl
  simpa [escUp, esc] using this.symm
def seg (r : S25) : List UInt8 := r.f0.data.toList ++ 61 :: esc r.f1.data.toList
def textL : Bool → List S25 → List UInt8
  | _, [] => []
  | b, r :: rs => (if b = true then [44] else []) ++ seg r ++ textL true rs
theorem textUp_textL (l : List S25) : ∀ q p : List S25, l = p ++ q → textUp l p.length ++ textL (decide (p ≠ [])) q = textUp l l.length := by
  intro q
  induction q with
  | nil => intro p hp; obtain rfl : l = p := by simpa using hp
           simp [textL]
  | cons r q ih =>
    intro p hp
    have hi := ih (p ++ [r]) (by rw [hp]; simp)
    have hn : (p ++ [r]).length = p.length + 1 := by simp
    rw [hn, textUp_succ (r := r) (by rw [hp]; simp), esc_up] at hi
    rw [← hi]
    have e1 : decide (p ++ [r] ≠ []) = true := by simp
    have e2 : decide (p ≠ []) = true ↔ 0 < p.length := by simp [List.length_pos_iff]
    rw [e1]
    simp only [textL, e2, seg]
    simp
def text (l : List S25) : List UInt8 := textL false l
theorem text_up (l : List S25) : textUp l l.length = text l := by
  have := textUp_textL l l [] rfl
  simpa [textUp, text] using this.symm
theorem cutS_at (a b : List UInt8) (h : 61 ∉ a) : cutS (a ++ 61 :: b) = some (a, b) := by
  induction a with
  | nil => simp [cutS]
  | cons c a ih =>
    have hc : c ≠ 61 := fun e => h (by simp [e])
    have := ih (fun e => h (by simp [e]))
    simp [cutS, hc, this]
theorem typeC_fin : ∀ n : Fin 256, typeC (UInt8.ofNat n.val) = true → 33 ≤ (UInt8.ofNat n.val).toNat ∧ (UInt8.ofNat n.val).toNat ≤ 126 ∧ UInt8.ofNat n.val ≠ 61 ∧ UInt8.ofNat n.val ≠ 44 ∧ UInt8.ofNat n.val ≠ 92 ∧ UInt8.ofNat n.val ≠ 32 := by decide +kernel
theorem typeC_rng {c : UInt8} (h : typeC c = true) : 33 ≤ c.toNat ∧ c.toNat ≤ 126 ∧ c ≠ 61 ∧ c ≠ 44 ∧ c ≠ 92 ∧ c ≠ 32 :=
  u8_all (P := fun c => typeC c = true → 33 ≤ c.toNat ∧ c.toNat ≤ 126 ∧ c ≠ 61 ∧ c ≠ 44 ∧ c ≠ 92 ∧ c ≠ 32) typeC_fin c h
theorem typed_all {l : List UInt8} (h : typedB l = true) : ∀ c ∈ l, typeC c = true := by
  unfold typedB at h
  split at h
  · cases h
  · simp only [Bool.and_eq_true, List.all_eq_true] at h
    exact h.2
theorem typed_61 {l : List UInt8} (h : typedB l = true) : 61 ∉ l := fun hm => (typeC_rng (typed_all h 61 hm)).2.2.1 rfl
theorem mayB_iff {l : List S25} : mayB l = true ↔ (∀ r ∈ l, partB r = true) ∧ l.length ≤ 8 := by simp [mayB]
theorem part_typed {r : S25} (h : partB r = true) : typedB r.f0.data.toList = true := by
  unfold partB at h; simp only [Bool.and_eq_true] at h; exact h.1
end Go.Proofs.YtflkghdndffacaaGreatDoor.Pure
namespace Go.Proofs.YtflkghdndffacaaGreatDoor.Pure
open Go.RowKit Go.Proofs.YtflkghdndffacaaGreatDoor.PD Go.Proofs.YtflkghdndffacaaGreatDoor.H Go.Proofs.YtflkghdndffacaaGreatDoorW.PrintWords Go.Proofs.YtflkghdndffacaaGreatDoorW.PrintLast
theorem text_ev {l : List S25} (h : Modest l) : dn_Text.f l = some (B (text l)) := by rw [text_B l h, text_up]
theorem text_len {l : List S25} (h : Modest l) : (text l).length ≤ 4000002 * l.length := by
  rw [← text_up]; exact textUp_len l h l.length
end Go.Proofs.YtflkghdndffacaaGreatDoor.Pure
namespace Go.Proofs.YtflkghdndffacaaGreatDoor.Pure
open Go.RowKit Go.Proofs.YtflkghdndffacaaGreatDoor.PD Go.Proofs.YtflkghdndffacaaGreatDoor.H Go.Proofs.YtflkghdndffacaaGreatDoorW.PrintWords Go.Proofs.YtflkghdndffacaaGreatDoorW.PrintLast
def keyR (r : S25) : S25 := ⟨B (lowL r.f0.data.toList), B (foldL r.f1.data.toList)⟩
def keyL (l : List S25) : List S25 := l.map keyR
def foldOk (r : S25) : Bool := decide (foldL r.f1.data.toList ≠ [])
theorem keyL_append (p q : List S25) : keyL (p ++ q) = keyL p ++ keyL q := by simp [keyL]
theorem keyL_length (p : List S25) : (keyL p).length = p.length := by simp [keyL]
theorem keyL_modest {l : List S25} (h : Modest l) : Modest (keyL l) := by
  refine ⟨by rw [keyL_length]; exact h.1, fun r hr => ?_⟩
  obtain ⟨s, hs, rfl⟩ := List.mem_map.1 hr
  obtain ⟨h1, h2⟩ := h.2 s hs
  have := foldL_le s.f1.data.toList
  rw [Lib.size_eq] at h1 h2
  simp only [keyR, B_size, lowL_length]
  omega
theorem rd_mid (p : List S25) (r : S25) (q : List S25) {n : Nat} (h : p.length = n) : rd_T25 (p ++ r :: q) (n : Int) = r := by subst h; exact rd_pre p r q
theorem set_mid (p : List S25) (r x : S25) (q : List S25) {n : Nat} (h : p.length = n) : (p ++ r :: q).set ((n : Int)).toNat x = p ++ x :: q := by subst h; simp
theorem key_l0 (l : List S25) (hm : Modest l) : ∀ q p : List S25, l = p ++ q →
    Ev (fun k => dn_Key.l0 k (keyL p ++ q) (l.length : Int) (p.length : Int)) (if q.all foldOk = true then (B (text (keyL l)), true) else (B [], false)) := by
  intro q
  induction q with
  | nil =>
    intro p hp
    obtain rfl : l = p := by simpa using hp
    refine Ev.step (fun k => by rw [dn_Key.l0]) ?_
    refine Ev.neg (by omega) ?_
    rw [List.append_nil]
    refine Ev.fix (text_ev (keyL_modest hm)) ?_
    exact Ev.now _
  | cons r q ih =>
    intro p hp
    have hlen : p.length + 1 + q.length = l.length := by rw [hp]; simp; omega
    have hl := hm.1
    obtain ⟨h1, h2⟩ := hm.2 r (by rw [hp]; simp)
    rw [Lib.size_eq] at h1 h2
    have hkl := keyL_length p
    refine Ev.step (fun k => by rw [dn_Key.l0]) ?_
    refine Ev.pos (by omega) ?_
    refine Ev.pos (by omega) ?_
    refine Ev.pos (by simp [hkl]; omega) ?_
    rw [rd_mid _ _ _ hkl, wrap_succ (by omega)]
    refine Ev.fix (v := B (lowL r.f0.data.toList)) (by rw [← lowered_B (by omega), B_of]) ?_
    refine Ev.fix (v := B (foldL r.f1.data.toList)) (by rw [← fold_B (by omega), B_of]) ?_
    refine Ev.fix rfl ?_
    rw [set_mid _ _ _ _ hkl, rd_mid _ _ _ hkl, set_mid _ _ _ _ hkl]
    simp only [B_toList]
    by_cases hf : foldL r.f1.data.toList = []
    · have : foldOk r = false := by unfold foldOk; simp [hf]
      rw [List.all_cons, this]
      exact Ev.pos hf (Ev.now _)
    · have : foldOk r = true := by unfold foldOk; simp [hf]
      rw [List.all_cons, this, Bool.true_and]
      refine Ev.neg hf ?_
      have hi := ih (p ++ [r]) (by rw [hp]; simp)
      rw [keyL_append, show (p ++ [r]).length = p.length + 1 by simp, List.append_assoc] at hi
      exact hi
theorem may_modest {l : List S25} (h : mayB l = true) : Modest l := by
  obtain ⟨h1, h2⟩ := mayB_iff.1 h
  refine ⟨by omega, fun r hr => ?_⟩
  have hp := h1 r hr
  have ht := part_typed hp
  unfold partB at hp
  simp only [Bool.and_eq_true, decide_eq_true_eq] at hp
  unfold typedB at ht
  rw [Lib.size_eq, Lib.size_eq]
  split at ht
  · cases ht
  · next c q e =>
    simp only [Bool.and_eq_true, decide_eq_true_eq] at ht
    rw [e]
    simp only [List.length_cons]
    omega
theorem parseS_may : ∀ n (s : List UInt8) (acc : List S25) (more : Bool) (l : List S25), parseS n s acc more = (l, true) → mayB l = true := by
  intro n
  induction n with
  | zero =>
    intro s acc more l h
    cases more with
    | false =>
      rw [parseS_done] at h
      split at h
      · next hm => cases h; exact hm
      · cases h
    | true => rw [parseS_zero] at h; cases h
  | succ n ih =>
    intro s acc more l h
    cases more with
    | false =>
      rw [parseS_done] at h
      split at h
      · next hm => cases h; exact hm
      · cases h
    | true =>
      cases hc : cutS s with
      | none => rw [parseS_none _ _ _ hc] at h; cases h
      | some x =>
        obtain ⟨a, b⟩ := x
        rw [parseS_some _ _ _ _ _ hc] at h
        split at h
        · cases h
        · split at h
          · cases h
          · exact ih _ _ _ _ h
def keyS (s : List UInt8) : ByteArray × Bool := if (parseL s).2 = true then (if (parseL s).1.all foldOk = true then (B (text (keyL (parseL s).1)), true) else (B [], false)) else (B [], false)
theorem key_ev (s : List UInt8) (hs : s.length ≤ 100000000) : Ev (fun k => dn_Key.f k (B s)) (keyS s) := by
  unfold dn_Key.f keyS
  refine Ev.bind (parse_ev s hs) ?_
  by_cases h : (parseL s).2 = true
  · rw [if_pos h]
    refine Ev.pos h ?_
    have hm : mayB (parseL s).1 = true := parseS_may 8 s [] (s != []) _ (by rw [← h]; rfl)
    exact key_l0 _ (may_modest hm) _ [] rfl
  · rw [if_neg h]
    exact Ev.neg h (Ev.now _)
end Go.Proofs.YtflkghdndffacaaGreatDoor.Pure
namespace Go.Proofs.YtflkghdndffacaaGreatDoor.Pure
open Go.RowKit Go.Proofs.YtflkghdndffacaaGreatDoor.PD Go.Proofs.YtflkghdndffacaaGreatDoor.H Go.Proofs.YtflkghdndffacaaGreatDoorW.PrintWords Go.Proofs.YtflkghdndffacaaGreatDoorW.PrintLast
def upS : List UInt8 → List UInt8
  | [] => []
  | c :: r => if c = 92 then upS (r.drop 1) else if c = 44 then r else upS r
termination_by l => l.length
decreasing_by all_goals (simp; try omega)
theorem upS_len : ∀ n (l : List UInt8), l.length ≤ n → (upS l).length ≤ l.length - 1 := by
  intro n
  induction n with
  | zero => intro l h; rw [List.length_eq_zero_iff.1 (by omega : l.length = 0), upS]; simp
  | succ n ih =>
    intro l h
    cases l with
    | nil => rw [upS]; simp
    | cons c r =>
      simp only [List.length_cons] at h
      rw [upS]
      split
      · have := ih (r.drop 1) (by simp; omega)
        simp at this ⊢; omega
      · split
        · simp
        · have := ih r (by omega)
          simp; omega
theorem up_l0 (l : List UInt8) (hl : l.length ≤ 1000000000) : ∀ n (i : Nat), l.length + 1 - i ≤ n → i ≤ l.length + 1 → Ev (fun k => dn_Up.l0 k (B l) (i : Int)) (B (upS (l.drop i))) := by
  intro n
  induction n with
  | zero =>
    intro i hn hi
    refine Ev.step (fun k => by rw [dn_Up.l0]) ?_
    refine Ev.neg (by rw [B_size]; omega) ?_
    rw [List.drop_eq_nil_of_le (by omega), upS]
    exact Ev.now _
  | succ n ih =>
    intro i hn hi
    refine Ev.step (fun k => by rw [dn_Up.l0]) ?_
    by_cases h : i < l.length
    · obtain ⟨c, hc⟩ : ∃ c, l[i]? = some c := ⟨l[i], List.getElem?_eq_getElem h⟩
      have hd : l.drop i = c :: l.drop (i + 1) := by rw [List.drop_eq_getElem_cons h]; congr 1; exact Option.some.inj ((List.getElem?_eq_getElem h).symm.trans hc)
      have h44 : ((c.toNat : Int) = 44) ↔ c = 44 := u8_int_inj (n := 44) (by omega)
      have h92 : ((c.toNat : Int) = 92) ↔ c = 92 := u8_int_inj (n := 92) (by omega)
      refine Ev.pos (by rw [B_size]; omega) ?_
      refine Ev.pos (by omega) ?_
      rw [bt_at' hc, wrap_succ (by omega), wrap_succ (by omega), hd, upS]
      by_cases c92 : c = 92
      · rw [if_pos c92]
        refine Ev.pos (h92.2 c92) ?_
        have := ih (i + 1 + 1) (by omega) (by omega)
        rw [List.drop_drop]
        exact this
      · rw [if_neg c92]
        refine Ev.neg (fun e => c92 (h92.1 e)) ?_
        by_cases c44 : c = 44
        · rw [if_pos c44]
          refine Ev.pos (h44.2 c44) ?_
          refine Ev.pos (by omega) ?_
          refine Ev.pos (by rw [B_size]; omega) ?_
          have : (B l).extract (((i + 1 : Nat) : Int)).toNat (B l).size = B (l.drop (i + 1)) := by
            rw [B_extract, B_size, List.take_of_length_le (by simp)]
            congr 2
          rw [this]
          exact Ev.now _
        · rw [if_neg c44]
          refine Ev.neg (fun e => c44 (h44.1 e)) ?_
          exact ih (i + 1) (by omega) (by omega)
    · refine Ev.neg (by rw [B_size]; omega) ?_
      rw [List.drop_eq_nil_of_le (by omega), upS]
      exact Ev.now _
theorem up_ev (l : List UInt8) (hl : l.length ≤ 1000000000) : Ev (fun k => dn_Up.f k (B l)) (B (upS l)) := by
  exact up_l0 l hl (l.length + 1) 0 (by omega) (by omega)
def underS (x y : List UInt8) : Bool := if x = y then true else if _h : x = [] then false else underS (upS x) y
termination_by x.length
decreasing_by
  have := upS_len x.length x (Nat.le_refl _)
  have : 0 < x.length := List.length_pos_iff.2 _h
  omega
theorem under_l0 (y : List UInt8) : ∀ n (x : List UInt8), x.length ≤ n → n ≤ 1000000000 → Ev (fun k => dn_Under.l0 k (B x) (B y)) (underS x y) := by
  intro n
  induction n with
  | zero =>
    intro x hx _
    obtain rfl : x = [] := List.length_eq_zero_iff.1 (by omega)
    refine Ev.step (fun k => by rw [dn_Under.l0]) ?_
    simp only [B_toList]
    rw [underS]
    by_cases h : [] = y
    · rw [if_pos h]; exact Ev.pos h (Ev.now _)
    · rw [if_neg h]
      refine Ev.neg h ?_
      simp only [if_true]
      exact Ev.now _
  | succ n ih =>
    intro x hx hn
    refine Ev.step (fun k => by rw [dn_Under.l0]) ?_
    simp only [B_toList]
    rw [underS]
    by_cases h : x = y
    · rw [if_pos h]; exact Ev.pos h (Ev.now _)
    · rw [if_neg h]
      refine Ev.neg h ?_
      by_cases h2 : x = []
      · rw [dif_pos h2]; exact Ev.pos h2 (Ev.now _)
      · rw [dif_neg h2]
        refine Ev.neg h2 ?_
        refine Ev.bind (up_ev x (by omega)) ?_
        have := upS_len x.length x (Nat.le_refl _)
        exact ih (upS x) (by omega) (by omega)
theorem under_ev (x y : List UInt8) (hx : x.length ≤ 1000000000) : Ev (fun k => dn_Under.f k (B x) (B y)) (underS x y) := under_l0 y x.length x (Nat.le_refl _) hx
theorem underS_self (x : List UInt8) : underS x x = true := by rw [underS, if_pos rfl]
theorem underS_nil : ∀ n (x : List UInt8), x.length ≤ n → underS x [] = true := by
  intro n
  induction n with
  | zero => intro x h; obtain rfl : x = [] := List.length_eq_zero_iff.1 (by omega)
            exact underS_self _
  | succ n ih =>
    intro x h
    rw [underS]
    split
    · rfl
    · next hx =>
      have := upS_len x.length x (Nat.le_refl _)
      exact ih (upS x) (by omega)
end Go.Proofs.YtflkghdndffacaaGreatDoor.Pure
namespace Go.Proofs.YtflkghdndffacaaGreatDoor.PD
open Go.RowKit Go.Proofs.YtflkghdndffacaaGreatDoor.H Go.Proofs.YtflkghdndffacaaGreatDoorW.PrintWords Go.Proofs.YtflkghdndffacaaGreatDoorW.PrintLast Go.Proofs.YtflkghdndffacaaGreatDoorW.PrintMore
attribute [local go_sem] max2_int min2_int max_two min_two max_three min_three max_four min_four
set_option linter.unusedVariables false
set_option linter.unusedSimpArgs false
def brookref1_cut.l0 : Nat → ByteArray → List ByteArray → Int → Int → Option (List ByteArray)
 | 0, _, _, _, _ => none
 | k + 1, x0, x3, x4, x5 => if x5 < (x0.size : Int) then (if 0 ≤ x5 then (if (bt x0 x5) = 92 then (brookref1_cut.l0 k x0 x3 x4 (wrap64 ((wrap64 (x5 + 1)) + 1))) else (if (bt x0 x5) = 44 then (if 0 ≤ x4 then (if x4 ≤ x5 then (if x5 ≤ (x0.size : Int) then (if x3.length < 8796093022208 then (brookref1_cut.l0 k x0 (x3 ++ [x0.extract (x4 : Int).toNat (x5 : Int).toNat]) (wrap64 (x5 + 1)) (wrap64 (x5 + 1))) else (none)) else (none)) else (none)) else (none)) else (brookref1_cut.l0 k x0 x3 x4 (wrap64 (x5 + 1))))) else (none)) else (if 0 ≤ x4 then (if x4 ≤ (x0.size : Int) then (if x3.length < 8796093022208 then (some (x3 ++ [x0.extract (x4 : Int).toNat x0.size])) else (none)) else (none)) else (none))
def brookref1_cut.f (k : Nat) (a0 : ByteArray) : Option (List ByteArray) := brookref1_cut.l0 k a0 ([] : List ByteArray) 0 0
set_option maxHeartbeats 8000000 in
set_option maxRecDepth 100000 in
theorem brookref1_cut.calls (k : Nat) (a0 : ByteArray) (r : List ByteArray) (w : World) (h : brookref1_cut.f k a0 = some r) :
  Calls Tryz.prog 41 #[.string a0] w fun e w' => ∃ v0_ : Value, e = .returned (v0_) ∧ Kd.R Kd.string 9 w' w.heap.size (fun _ => True) v0_ r ∧ Below w.heap.size w w' := by
 have HB := Aside0.mk (Below.refl w.heap.size w)
 have H : (brookref1_cut.l0 k a0 ([] : List ByteArray) 0 0) = some r := h
 clear h
 have H' := Aside0.mk H
 clear H
 go_enter Tryz.func41, Tryz.ntmps41
 go_wp2
 go_loopg [3, 4, 5] k (fun kq v3 v4 v5 w' => ∃ (x3_1 : List ByteArray) (x4_1 : Int) (x5_1 : Int), v4 = .int .i64 x4_1 ∧ v5 = .int .i64 x5_1 ∧ Aside0 (brookref1_cut.l0 kq a0 x3_1 x4_1 x5_1 = some r) ∧ Aside0 (kq ≤ k) ∧ Aside0 (Kd.R Kd.string 9 w' w.heap.size (fun _ => True) v3 x3_1) ∧ Aside0 (Below w.heap.size w w'))
 case atStart => exact ⟨(([] : List ByteArray)), (0), (0), (by first | rfl | (simp; done) | (simp [*]; done) | (simp [u8_w, i64_w]; done) | (simp [isEmpty_bne]; done)), (by first | rfl | (simp; done) | (simp [*]; done) | (simp [u8_w, i64_w]; done) | (simp [isEmpty_bne]; done)), H', ⟨Nat.le_refl _⟩, ⟨by first | exact Kd.R_nil _ _ _ _ _ | exact Kd.N_nil _ _ _ _ _ | exact Kd.V_nil _ _ _ _ _ | exact Kd.Q_nil _ _ _ _ _ | exact Kd.S_nil _ _ _ _ _⟩, ⟨by repeat (first | (with_reducible first | exact HB.out | apply below_alloc | apply pw_below_drewN | apply below_drew1) | exact HB.out)⟩⟩
 case round =>
  clear H'
  obtain ⟨x3_1, x4_1, x5_1, rfl, rfl, HA, HK1, HO_3, HB⟩ := hrel
  cases gk with
  | zero => exact absurd HA.out (by simp [brookref1_cut.l0])
  | succ k1 =>
   have H := HA.out
   clear HA
   simp only [brookref1_cut.l0] at H
   by_cases c2 : x5_1 < (a0.size : Int)
   ·rw [if_pos c2] at H
    have c2b0 : decide (x5_1 < (a0.size : Int)) = true := decide_eq_true c2
    clear c2
    by_cases c3 : 0 ≤ x5_1
    ·rw [if_pos c3] at H
     have c3b0 : decide (0 ≤ x5_1) = true := decide_eq_true c3
     clear c3
     by_cases c5 : (bt a0 x5_1) = 92
     ·rw [if_pos c5] at H
      have c5b0 : ((bt a0 x5_1) == 92) = true := beq_iff_eq.mpr c5
      have c5b1 : ((bt a0 x5_1) != 92) = false := bne_eq_false_iff_eq.mpr c5
      clear c5
      have H' := Aside0.mk H
      clear H
      have p4 : 0 ≤ (x5_1 : Int) := of_decide_eq_true (by first | (with_reducible assumption) | assumption)
      have q4 : x5_1 < (a0.size : Int) := of_decide_eq_true (by first | (with_reducible assumption) | assumption)
      have hx4 := bt_at a0 x5_1
      replace p4 := eq_true p4
      replace q4 := eq_true q4
      go_wp2
      go_roundg k1
      case measure => have := HK1.out; omega
      case rel => exact ⟨(x3_1), (x4_1), (wrap64 ((wrap64 (x5_1 + 1)) + 1)), (by first | rfl | (simp; done) | (simp [*]; done) | (simp [u8_w, i64_w]; done) | (simp [isEmpty_bne]; done)), (by first | rfl | (simp; done) | (simp [*]; done) | (simp [u8_w, i64_w]; done) | (simp [isEmpty_bne]; done)), H', ⟨by have := HK1.out; omega⟩, ⟨by (with_reducible repeat (first | apply Kd.R_alloc | apply Kd.R_drewN | apply Kd.R_drew)); exact HO_3.out⟩, ⟨by repeat (first | (with_reducible first | exact HB.out | apply below_alloc | apply pw_below_drewN | apply below_drew1) | exact HB.out)⟩⟩
     ·rw [if_neg c5] at H
      have c5b0 : ((bt a0 x5_1) == 92) = false := beq_eq_false_iff_ne.mpr c5
      have c5b1 : ((bt a0 x5_1) != 92) = true := bne_iff_ne.mpr c5
      by_cases c6 : (bt a0 x5_1) = 44
      ·rw [if_pos c6] at H
       have c6b0 : ((bt a0 x5_1) == 44) = true := beq_iff_eq.mpr c6
       have c6b1 : ((bt a0 x5_1) != 44) = false := bne_eq_false_iff_eq.mpr c6
       clear c6
       by_cases c7 : 0 ≤ x4_1
       ·rw [if_pos c7] at H
        have c7b0 := eq_true c7
        have c7b1 : decide (0 ≤ x4_1) = true := decide_eq_true c7
        clear c7
        by_cases c8 : x4_1 ≤ x5_1
        ·rw [if_pos c8] at H
         have c8b0 := eq_true c8
         have c8b1 : decide (x4_1 ≤ x5_1) = true := decide_eq_true c8
         clear c8
         by_cases c9 : x5_1 ≤ (a0.size : Int)
         ·rw [if_pos c9] at H
          have c9b0 := eq_true c9
          have c9b1 : decide (x5_1 ≤ (a0.size : Int)) = true := decide_eq_true c9
          clear c9
          by_cases c10 : x3_1.length < 8796093022208
          ·rw [if_pos c10] at H
           have LMc10 := Aside0.mk c10
           clear c10
           obtain ⟨y244, hy244⟩ : ∃ y_ : List ByteArray, y_ = (x3_1 ++ [a0.extract (x4_1 : Int).toNat (x5_1 : Int).toNat]) := ⟨_, rfl⟩
           replace H : (brookref1_cut.l0 k1 a0 y244 (wrap64 (x5_1 + 1)) (wrap64 (x5_1 + 1))) = some r := by first | (rw [hy244]; with_reducible exact H) | (have H2_ := (Option.bind_some _ _).symm.trans H; rw [hy244]; with_reducible exact H2_) | (have H2_ := (Option.bind_some _ _).symm.trans H; with_reducible exact H2_) | with_reducible exact H | (rw [hy244]; exact H) | exact H
           have Ny244 := Aside0.mk hy244
           clear hy244
           have H' := Aside0.mk H
           clear H
           have p4 : 0 ≤ (x5_1 : Int) := of_decide_eq_true (by first | (with_reducible assumption) | assumption)
           have q4 : x5_1 < (a0.size : Int) := of_decide_eq_true (by first | (with_reducible assumption) | assumption)
           have hx4 := bt_at a0 x5_1
           replace p4 := eq_true p4
           replace q4 := eq_true q4
           go_wp2_with (first | ((with_reducible refine gate_builtin (b := .append) (xs := #[.tmp 21, .tmp 26]) rfl ?_); at_builtin; refine Kd.R_append Kd.string (w0 := w) w.heap.size rfl (.tmp 21) (.tmp 26) 26 9 (.string ⟨#[]⟩) 16 rfl Tryz.underlying26 info9 rfl (by decide) (by omega) u3 x3_1 (a0.extract (x4_1 : Int).toNat (x5_1 : Int).toNat) [.string (a0.extract (x4_1 : Int).toNat (x5_1 : Int).toNat)] (fun _ => True) (fun _ => False) rfl rfl ?aP (fun _ hk => hk.elim) ?aF ?aO ?aB ?aS ?aL ?_; (case aP => exact rfl); (case aB => exact (by repeat (first | (with_reducible first | exact HB.out | apply below_alloc | apply pw_below_drewN | apply below_drew1) | exact HB.out))); (case aF => exact (fun _ _ => trivial)); (case aO => exact (by (with_reducible repeat (first | apply Kd.R_alloc | apply Kd.R_drewN | apply Kd.R_drew)); exact HO_3.out)); (case aS => exact (below_size (by repeat (first | (with_reducible first | exact HB.out | apply below_alloc | apply pw_below_drewN | apply below_drew1) | exact HB.out)))); (case aL => have := LMc10.out; omega); intro v245 w11 ho hb hg hat; rw [← Ny244.out] at ho; have n0_ := Aside0.mk (hb); have n1_ := Aside0.mk (ho); clear HB; clear HO_3; have HB := n0_; have HO246 := n1_; clear n0_ n1_; clear ho hb hg hat))
           go_roundg k1
           case measure => have := HK1.out; omega
           case rel => exact ⟨(y244), (wrap64 (x5_1 + 1)), (wrap64 (x5_1 + 1)), (by first | rfl | (simp; done) | (simp [*]; done) | (simp [u8_w, i64_w]; done) | (simp [isEmpty_bne]; done)), (by first | rfl | (simp; done) | (simp [*]; done) | (simp [u8_w, i64_w]; done) | (simp [isEmpty_bne]; done)), H', ⟨by have := HK1.out; omega⟩, ⟨by (with_reducible repeat (first | apply Kd.R_alloc | apply Kd.R_drewN | apply Kd.R_drew)); exact HO246.out⟩, ⟨by repeat (first | (with_reducible first | exact HB.out | apply below_alloc | apply pw_below_drewN | apply below_drew1) | exact HB.out)⟩⟩
          ·rw [if_neg c10] at H
           exact absurd H (by simp)
         ·rw [if_neg c9] at H
          exact absurd H (by simp)
        ·rw [if_neg c8] at H
         exact absurd H (by simp)
       ·rw [if_neg c7] at H
        exact absurd H (by simp)
      ·rw [if_neg c6] at H
       have c6b0 : ((bt a0 x5_1) == 44) = false := beq_eq_false_iff_ne.mpr c6
       have c6b1 : ((bt a0 x5_1) != 44) = true := bne_iff_ne.mpr c6
       have H' := Aside0.mk H
       clear H
       have p4 : 0 ≤ (x5_1 : Int) := of_decide_eq_true (by first | (with_reducible assumption) | assumption)
       have q4 : x5_1 < (a0.size : Int) := of_decide_eq_true (by first | (with_reducible assumption) | assumption)
       have hx4 := bt_at a0 x5_1
       replace p4 := eq_true p4
       replace q4 := eq_true q4
       go_wp2
       go_roundg k1
       case measure => have := HK1.out; omega
       case rel => exact ⟨(x3_1), (x4_1), (wrap64 (x5_1 + 1)), (by first | rfl | (simp; done) | (simp [*]; done) | (simp [u8_w, i64_w]; done) | (simp [isEmpty_bne]; done)), (by first | rfl | (simp; done) | (simp [*]; done) | (simp [u8_w, i64_w]; done) | (simp [isEmpty_bne]; done)), H', ⟨by have := HK1.out; omega⟩, ⟨by (with_reducible repeat (first | apply Kd.R_alloc | apply Kd.R_drewN | apply Kd.R_drew)); exact HO_3.out⟩, ⟨by repeat (first | (with_reducible first | exact HB.out | apply below_alloc | apply pw_below_drewN | apply below_drew1) | exact HB.out)⟩⟩
    ·rw [if_neg c3] at H
     exact absurd H (by simp)
   ·rw [if_neg c2] at H
    have c2b0 : decide (x5_1 < (a0.size : Int)) = false := decide_eq_false c2
    clear c2
    by_cases c12 : 0 ≤ x4_1
    ·rw [if_pos c12] at H
     have c12b0 := eq_true c12
     have c12b1 : decide (0 ≤ x4_1) = true := decide_eq_true c12
     clear c12
     by_cases c13 : x4_1 ≤ (a0.size : Int)
     ·rw [if_pos c13] at H
      have c13b0 := eq_true c13
      have c13b1 : decide (x4_1 ≤ (a0.size : Int)) = true := decide_eq_true c13
      clear c13
      by_cases c14 : x3_1.length < 8796093022208
      ·rw [if_pos c14] at H
       have LMc14 := Aside0.mk c14
       clear c14
       obtain ⟨y241, hy241⟩ : ∃ y_ : List ByteArray, y_ = (x3_1 ++ [a0.extract (x4_1 : Int).toNat a0.size]) := ⟨_, rfl⟩
       replace H : (some y241) = some r := by first | (rw [hy241]; with_reducible exact H) | (have H2_ := (Option.bind_some _ _).symm.trans H; rw [hy241]; with_reducible exact H2_) | (have H2_ := (Option.bind_some _ _).symm.trans H; with_reducible exact H2_) | with_reducible exact H | (rw [hy241]; exact H) | exact H
       have Ny241 := Aside0.mk hy241
       clear hy241
       obtain rfl := Option.some.inj H
       go_wp2_with (first | ((with_reducible refine gate_builtin (b := .append) (xs := #[.tmp 30, .tmp 34]) rfl ?_); at_builtin; refine Kd.R_append Kd.string (w0 := w) w.heap.size rfl (.tmp 30) (.tmp 34) 26 9 (.string ⟨#[]⟩) 16 rfl Tryz.underlying26 info9 rfl (by decide) (by omega) u3 x3_1 (a0.extract (x4_1 : Int).toNat a0.size) [.string (a0.extract (x4_1 : Int).toNat a0.size)] (fun _ => True) (fun _ => False) rfl rfl ?aP (fun _ hk => hk.elim) ?aF ?aO ?aB ?aS ?aL ?_; (case aP => exact rfl); (case aB => exact (by repeat (first | (with_reducible first | exact HB.out | apply below_alloc | apply pw_below_drewN | apply below_drew1) | exact HB.out))); (case aF => exact (fun _ _ => trivial)); (case aO => exact (by (with_reducible repeat (first | apply Kd.R_alloc | apply Kd.R_drewN | apply Kd.R_drew)); exact HO_3.out)); (case aS => exact (below_size (by repeat (first | (with_reducible first | exact HB.out | apply below_alloc | apply pw_below_drewN | apply below_drew1) | exact HB.out)))); (case aL => have := LMc14.out; omega); intro v242 w15 ho hb hg hat; rw [← Ny241.out] at ho; have n0_ := Aside0.mk (hb); have n1_ := Aside0.mk (ho); clear HB; clear HO_3; have HB := n0_; have HO243 := n1_; clear n0_ n1_; clear ho hb hg hat))
       go_ret
       exact ⟨_, by first | rfl | (simp [errW_none, errW_some] <;> rfl) | (simp [*, errW_none, errW_some] <;> rfl), by (with_reducible repeat (first | apply Kd.R_alloc | apply Kd.R_drewN | apply Kd.R_drew)); exact HO243.out, by repeat (first | (with_reducible first | exact HB.out | apply below_alloc | apply pw_below_drewN | apply below_drew1) | exact HB.out)⟩
      ·rw [if_neg c14] at H
       exact absurd H (by simp)
     ·rw [if_neg c13] at H
      exact absurd H (by simp)
    ·rw [if_neg c12] at H
     exact absurd H (by simp)
end Go.Proofs.YtflkghdndffacaaGreatDoor.PD
namespace Go.Proofs.YtflkghdndffacaaGreatDoor.PD
open Go.RowKit Go.Proofs.YtflkghdndffacaaGreatDoor.H Go.Proofs.YtflkghdndffacaaGreatDoorW.PrintWords Go.Proofs.YtflkghdndffacaaGreatDoorW.PrintLast Go.Proofs.YtflkghdndffacaaGreatDoorW.PrintMore
attribute [local go_sem] max2_int min2_int max_two min_two max_three min_three max_four min_four
set_option linter.unusedVariables false
set_option linter.unusedSimpArgs false
mutual
def brookref1_hex.j0 : Nat → Int → Bool → Option (Int)
 | 0, _, _ => none
 | k + 1, x0, x3 => if x3 = true then (some ((x0 - 48) % 256)) else (if x0 ≥ 97 then (brookref1_hex.j1 k x0 (decide (x0 ≤ 102))) else (brookref1_hex.j1 k x0 false))
def brookref1_hex.j1 : Nat → Int → Bool → Option (Int)
 | 0, _, _ => none
 | k + 1, x0, x13 => if x13 = true then (some (((x0 - 97) % 256) + 10)) else (if x0 ≥ 65 then (if x0 ≤ 70 then (some (((x0 - 65) % 256) + 10)) else (some (-1))) else (some (-1)))
end
def brookref1_hex.f (k : Nat) (a0 : Int) : Option (Int) := if a0 ≥ 48 then (brookref1_hex.j0 k a0 (decide (a0 ≤ 57))) else (brookref1_hex.j0 k a0 false)
theorem brookref1_hex.mono_l : ∀ k, (∀ y0 y1, LeO (brookref1_hex.j0 k y0 y1) (brookref1_hex.j0 (k + 1) y0 y1)) ∧ (∀ y0 y1, LeO (brookref1_hex.j1 k y0 y1) (brookref1_hex.j1 (k + 1) y0 y1))
 | 0 => ⟨fun _ _ r h => by simp [brookref1_hex.j0] at h, fun _ _ r h => by simp [brookref1_hex.j1] at h⟩
 | k + 1 => by
  obtain ⟨ih0, ih1⟩ := brookref1_hex.mono_l k
  refine ⟨?_, ?_⟩
  ·intro y0 y1
   unfold brookref1_hex.j0
   repeat' first
   | (with_reducible exact ih0 _ _)
   | (with_reducible exact ih1 _ _)
   | (with_reducible exact LeO.refl _)
   | (with_reducible exact LeO.none _)
   | (with_reducible refine LeO.ite ?_ ?_)
   | (with_reducible refine LeO.bind ?_ (fun _ => ?_))
   | exact ih0 _ _
   | exact ih1 _ _
   | exact LeO.none _
   | refine LeO.ite ?_ ?_
   | refine LeO.bind ?_ (fun _ => ?_)
  ·intro y0 y1
   unfold brookref1_hex.j1
   repeat' first
   | (with_reducible exact ih0 _ _)
   | (with_reducible exact ih1 _ _)
   | (with_reducible exact LeO.refl _)
   | (with_reducible exact LeO.none _)
   | (with_reducible refine LeO.ite ?_ ?_)
   | (with_reducible refine LeO.bind ?_ (fun _ => ?_))
   | exact ih0 _ _
   | exact ih1 _ _
   | exact LeO.none _
   | refine LeO.ite ?_ ?_
   | refine LeO.bind ?_ (fun _ => ?_)
theorem brookref1_hex.mono : ∀ a0 k, LeO (brookref1_hex.f k a0) (brookref1_hex.f (k + 1) a0) := by
 intro a0 k
 obtain ⟨ih0, ih1⟩ := brookref1_hex.mono_l k
 unfold brookref1_hex.f
 repeat' first
   | (with_reducible exact ih0 _ _)
   | (with_reducible exact ih1 _ _)
   | (with_reducible exact LeO.refl _)
   | (with_reducible exact LeO.none _)
   | (with_reducible refine LeO.ite ?_ ?_)
   | (with_reducible refine LeO.bind ?_ (fun _ => ?_))
   | exact ih0 _ _
   | exact ih1 _ _
   | exact LeO.none _
   | refine LeO.ite ?_ ?_
   | refine LeO.bind ?_ (fun _ => ?_)
set_option maxHeartbeats 8000000 in
set_option maxRecDepth 100000 in
theorem brookref1_hex.calls (k : Nat) (a0 : Int) (r : Int) (w : World) (h : brookref1_hex.f k a0 = some r) :
  Calls Tryz.prog 56 #[.int .u8 a0] w fun e w' => e = .returned (.int .i64 r) ∧ Drawn0 w w' := by
 have H : (if a0 ≥ 48 then (brookref1_hex.j0 k a0 (decide (a0 ≤ 57))) else (brookref1_hex.j0 k a0 false)) = some r := h
 clear h
 have HC2 := Aside0.mk H
 clear H
 go_enter Tryz.func56, Tryz.ntmps56
 go_upto_region 1 with (fail)
 go_cut [3] (fun v3 wc => ∃ (kq : Nat) (x3_1 : Bool), v3 = .bool x3_1 ∧ Aside0 (brookref1_hex.j0 kq a0 x3_1 = some r) ∧ Aside0 (kq ≤ k) ∧ Drawn0 w wc)
 case first =>
  have H := HC2.out
  clear HC2
  by_cases c3 : a0 ≥ 48
  ·rw [if_pos c3] at H
   have c3b0 : decide (48 ≤ a0) = true := decide_eq_true c3
   clear c3
   (first | rw [c3b0] | (simp only [i64_w, i32_w]; rw [c3b0]) | skip)
   have H' := Aside0.mk H
   clear H
   go_wp2
   go_meet
   case rel => exact ⟨_, (decide (a0 ≤ 57)), (by first | rfl | (simp; done) | (simp [*]; done) | (simp [u8_w, i64_w]; done) | (simp [isEmpty_bne]; done)), H', ⟨by first | omega | exact Nat.le_refl _⟩, by repeat (first | exact Drawn0.refl _ | apply Drawn0.step)⟩
  ·rw [if_neg c3] at H
   have c3b0 : decide (48 ≤ a0) = false := decide_eq_false c3
   clear c3
   (first | rw [c3b0] | (simp only [i64_w, i32_w]; rw [c3b0]) | skip)
   have H' := Aside0.mk H
   clear H
   go_wp2
   go_meet
   case rel => exact ⟨_, (false), (by first | rfl | (simp; done) | (simp [*]; done) | (simp [u8_w, i64_w]; done) | (simp [isEmpty_bne]; done)), H', ⟨by first | omega | exact Nat.le_refl _⟩, by repeat (first | exact Drawn0.refl _ | apply Drawn0.step)⟩
 case rest =>
  clear HC2
  try clear p2
  try clear c3
  try clear c3b0
  obtain ⟨kq, x3_1, rfl, HA, HJ1, ⟨mc1, rfl⟩⟩ := hcut
  cases kq with
  | zero => exact absurd HA.out (by simp [brookref1_hex.j0])
  | succ kj1 =>
   have H := HA.out
   clear HA
   simp only [brookref1_hex.j0] at H
   by_cases c4 : x3_1 = true
   ·subst c4
    have H1 : (some ((a0 - 48) % 256)) = some r := by rw [if_pos rfl] at H; exact H
    clear H
    have H := H1
    clear H1
    obtain rfl := Option.some.inj H
    go_wp2
    go_ret
    exact ⟨by first | rfl | (simp; done) | (simp [*]; done) | (simp [u8_w, i64_w]; done) | (simp [isEmpty_bne]; done), by repeat (first | exact Drawn0.refl _ | apply Drawn0.step)⟩
   ·replace c4 := Bool.eq_false_iff.mpr c4
    subst c4
    have H1 : (if a0 ≥ 97 then (brookref1_hex.j1 kj1 a0 (decide (a0 ≤ 102))) else (brookref1_hex.j1 kj1 a0 false)) = some r := by rw [if_neg (show ¬ (false = true) by decide)] at H; exact H
    clear H
    have H := H1
    clear H1
    have HC5 := Aside0.mk H
    clear H
    go_upto_region 3 with (fail)
    go_cut [13] (fun v13 wc => ∃ (kq : Nat) (x13_4 : Bool), v13 = .bool x13_4 ∧ Aside0 (brookref1_hex.j1 kq a0 x13_4 = some r) ∧ Aside0 (kq ≤ kj1) ∧ Drawn0 w wc)
    case first =>
     have H := HC5.out
     clear HC5
     by_cases c6 : a0 ≥ 97
     ·rw [if_pos c6] at H
      have c6b0 : decide (97 ≤ a0) = true := decide_eq_true c6
      clear c6
      (first | rw [c6b0] | (simp only [i64_w, i32_w]; rw [c6b0]) | skip)
      have H' := Aside0.mk H
      clear H
      go_wp2
      go_meet
      case rel => exact ⟨_, (decide (a0 ≤ 102)), (by first | rfl | (simp; done) | (simp [*]; done) | (simp [u8_w, i64_w]; done) | (simp [isEmpty_bne]; done)), H', ⟨by have := HJ1.out; first | omega | exact Nat.le_refl _⟩, by repeat (first | exact Drawn0.refl _ | apply Drawn0.step)⟩
     ·rw [if_neg c6] at H
      have c6b0 : decide (97 ≤ a0) = false := decide_eq_false c6
      clear c6
      (first | rw [c6b0] | (simp only [i64_w, i32_w]; rw [c6b0]) | skip)
      have H' := Aside0.mk H
      clear H
      go_wp2
      go_meet
      case rel => exact ⟨_, (false), (by first | rfl | (simp; done) | (simp [*]; done) | (simp [u8_w, i64_w]; done) | (simp [isEmpty_bne]; done)), H', ⟨by have := HJ1.out; first | omega | exact Nat.le_refl _⟩, by repeat (first | exact Drawn0.refl _ | apply Drawn0.step)⟩
    case rest =>
     clear HC5
     try clear c1
     try clear p2
     try clear c3
     try clear c3b0
     try clear c4
     try clear c6
     try clear c6b0
     try clear p2
     obtain ⟨kq, x13_4, rfl, HA, HJ4, ⟨mc4, rfl⟩⟩ := hcut
     cases kq with
     | zero => exact absurd HA.out (by simp [brookref1_hex.j1])
     | succ kj4 =>
      have H := HA.out
      clear HA
      simp only [brookref1_hex.j1] at H
      by_cases c7 : x13_4 = true
      ·subst c7
       have H1 : (some (((a0 - 97) % 256) + 10)) = some r := by rw [if_pos rfl] at H; exact H
       clear H
       have H := H1
       clear H1
       obtain rfl := Option.some.inj H
       go_wp2
       go_ret
       exact ⟨by first | rfl | (simp; done) | (simp [*]; done) | (simp [u8_w, i64_w]; done) | (simp [isEmpty_bne]; done), by repeat (first | exact Drawn0.refl _ | apply Drawn0.step)⟩
      ·replace c7 := Bool.eq_false_iff.mpr c7
       subst c7
       have H1 : (if a0 ≥ 65 then (if a0 ≤ 70 then (some (((a0 - 65) % 256) + 10)) else (some (-1))) else (some (-1))) = some r := by rw [if_neg (show ¬ (false = true) by decide)] at H; exact H
       clear H
       have H := H1
       clear H1
       by_cases c8 : a0 ≥ 65
       ·rw [if_pos c8] at H
        have c8b0 : decide (65 ≤ a0) = true := decide_eq_true c8
        clear c8
        by_cases c9 : a0 ≤ 70
        ·rw [if_pos c9] at H
         have c9b0 : decide (a0 ≤ 70) = true := decide_eq_true c9
         clear c9
         obtain rfl := Option.some.inj H
         go_wp2
         go_ret
         exact ⟨by first | rfl | (simp; done) | (simp [*]; done) | (simp [u8_w, i64_w]; done) | (simp [isEmpty_bne]; done), by repeat (first | exact Drawn0.refl _ | apply Drawn0.step)⟩
        ·rw [if_neg c9] at H
         have c9b0 : decide (a0 ≤ 70) = false := decide_eq_false c9
         clear c9
         obtain rfl := Option.some.inj H
         go_wp2
         go_ret
         exact ⟨by first | rfl | (simp; done) | (simp [*]; done) | (simp [u8_w, i64_w]; done) | (simp [isEmpty_bne]; done), by repeat (first | exact Drawn0.refl _ | apply Drawn0.step)⟩
       ·rw [if_neg c8] at H
        have c8b0 : decide (65 ≤ a0) = false := decide_eq_false c8
        clear c8
        obtain rfl := Option.some.inj H
        go_wp2
        go_ret
        exact ⟨by first | rfl | (simp; done) | (simp [*]; done) | (simp [u8_w, i64_w]; done) | (simp [isEmpty_bne]; done), by repeat (first | exact Drawn0.refl _ | apply Drawn0.step)⟩
end Go.Proofs.YtflkghdndffacaaGreatDoor.PD
