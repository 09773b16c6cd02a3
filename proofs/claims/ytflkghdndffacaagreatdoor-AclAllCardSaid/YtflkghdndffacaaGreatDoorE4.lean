/- Contract of the law AclAll's function: it answers true. -/
import Derived.Test.YtflkghdndffacaaGreatDoorE3
namespace Go.Proofs.YtflkghdndffacaaGreatDoor.C
open Go.RowKit Go.Proofs.YtflkghdndffacaaGreatDoor.Sq Go.Proofs.YtflkghdndffacaaGreatDoor.H Go.Proofs.YtflkghdndffacaaGreatDoor.PA Go.Proofs.YtflkghdndffacaaGreatDoor.Pure Go.Proofs.YtflkghdndffacaaGreatDoorW.PrintWords Go.Proofs.YtflkghdndffacaaGreatDoorW.PrintLast Go.Proofs.YtflkghdndffacaaGreatDoorW.PrintMore
set_option linter.unusedVariables false
set_option linter.unusedSimpArgs false
theorem type_same (s : ByteArray) : typeGood s = !typeBad s := by
  unfold typeGood typeBad canonB
  by_cases h : typeN (lowS s) = 0
  · rw [if_pos h]
    simp [h]
  · have hb : (typeN (lowS s) == 0) = false := by simpa using h
    rw [if_neg h]
    simp [hb]
theorem rule_same (r : S54) : rmayRB r = mayRB r := by
  have ht : (r.f4.all typeGood) = !(r.f4.any typeBad) := by
    rw [List.not_any_eq_all_not]
    congr 1
    funext s
    exact type_same s
  have hk0 : (keyB ⟨#[]⟩).2 = true := key_nil2
  have hemp : r.f1.toList.isEmpty = (r.f1.toList == []) := by cases r.f1.toList <;> rfl
  have a6 : decide (20 < r.f4.length) = !decide (r.f4.length ≤ 20) := by rw [Bool.eq_iff_iff]; simp
  have a7 : decide (r.f5 < 0) = !decide (0 ≤ r.f5) := by rw [Bool.eq_iff_iff]; simp
  have a8 : decide (2 < r.f5) = !decide (r.f5 ≤ 2) := by rw [Bool.eq_iff_iff]; simp
  unfold rmayRB badR mayRB whoOk
  rw [ht, hemp, a6, a7, a8]
  generalize decide (r.f4.length ≤ 20) = b6
  generalize decide (0 ≤ r.f5) = b7
  generalize decide (r.f5 ≤ 2) = b8
  generalize r.f4.any typeBad = b9
  generalize (keyB r.f2).2 = b5
  by_cases h4 : r.f0 = 4
  · have c1 : decide (r.f0 < 1) = false := by rw [h4]; rfl
    have c2 : decide (4 < r.f0) = false := by rw [h4]; rfl
    have c3 : (r.f0 == 4) = true := by rw [h4]; rfl
    rw [c1, c2, c3, if_neg (by omega), if_pos h4]
    cases (r.f1.toList == []) <;> cases (keyB r.f1).2 <;> cases b5 <;> cases b6 <;> cases b7 <;> cases b8 <;> cases b9 <;> rfl
  · have c3 : (r.f0 == 4) = false := by simpa using h4
    by_cases h123 : r.f0 = 1 ∨ r.f0 = 2 ∨ r.f0 = 3
    · have c1 : decide (r.f0 < 1) = false := by simp; omega
      have c2 : decide (4 < r.f0) = false := by simp; omega
      rw [c1, c2, c3, if_pos h123]
      cases h1 : (r.f1.toList == [])
      · cases (keyB r.f1).2 <;> rfl
      · have h0 : r.f1.toList = [] := by simpa using h1
        have he : r.f1 = ⟨#[]⟩ := by
          rcases hf : r.f1 with ⟨⟨dl⟩⟩
          rw [hf, Lib.toList_data] at h0
          simp at h0
          subst h0
          rfl
        rw [he, hk0]
        cases b5 <;> cases b6 <;> cases b7 <;> cases b8 <;> cases b9 <;> rfl
    · rw [if_neg h123, if_neg h4]
      by_cases h5 : r.f0 < 1
      · rw [decide_eq_true h5]
        rfl
      · have h6 : 4 < r.f0 := by omega
        rw [decide_eq_false h5, decide_eq_true h6]
        rfl
theorem may_same (l : List S54) : rmayB l = mayB1 l := by
  unfold rmayB mayB1
  rw [show rmayRB = mayRB from funext rule_same, Bool.and_comm]
  congr 1
  rw [List.not_any_eq_all_not]
  congr 1
  funext r
  simp
theorem may_right {l : List S54} (h : mayB1 l = true) (who key typ : ByteArray) : 0 ≤ rightB l who key typ ∧ rightB l who key typ ≤ 2 := by
  unfold mayB1 at h
  rw [Bool.and_eq_true] at h
  have h2 := h.2
  unfold rightB
  cases e : l.find? fun r => speaksB r who key typ with
  | none => exact ⟨by decide, by decide⟩
  | some r =>
    have hr := List.mem_of_find?_eq_some e
    have hm : mayRB r = true := by
      rw [Bool.not_eq_true', List.any_eq_false] at h2
      simpa using h2 r hr
    unfold mayRB at hm
    simp only [Bool.and_eq_true, decide_eq_true_eq] at hm
    exact ⟨hm.2.2.2.2.1, hm.2.2.2.2.2⟩
theorem may_gate {l : List S54} (h : mayB1 l = true) (who key : ByteArray) (ts : List ByteArray) : rgateB l who key ts = gateB l who key ts := by
  unfold rgateB gateB
  congr 1
  funext t
  have := may_right h who key t
  rw [Bool.eq_iff_iff]
  simp
  omega
theorem small_ok {l : List S54} (h : ∀ r ∈ l, SmallR r) : RulesOk l := fun r hr => by have := h r hr; exact ⟨by have := this.1; omega, by have := this.2.1; omega⟩
theorem small_mod {l : List S54} (h : ∀ r ∈ l, SmallR r) : RulesMod l := fun r hr => by have := h r hr; exact ⟨by have := this.1; omega, by have := this.2.1; omega⟩
theorem small_fine {l : List S54} (h : ∀ r ∈ l, SmallR r) : ∀ r ∈ l, RuleFine r := fun r hr => by
  obtain ⟨h1, h2, _, h4⟩ := h r hr
  exact ⟨by omega, by omega, fun s hs => by have := h4 s hs; omega⟩
theorem small_attrs {l : List S69} (hl : l.length ≤ 25) (h : ∀ a ∈ l, SmallA a) : AttrsOk l := ⟨by omega, fun a ha => by have := h a ha; exact ⟨by have := this.1; omega, by have := this.2; omega⟩⟩
set_option maxHeartbeats 8000000 in
set_option maxRecDepth 100000 in
theorem all_c (A : Option Addr) (c : Nat) (rules : List S54) (who d typ : ByteArray) (Ae : Option Addr) (ce : Nat) (l : List S69) (At : Option Addr) (ct : Nat) (types : List ByteArray) (w : World) (hr : Kd.C k54 w A rules.length rules) (hc : rules.length ≤ c) (ha : Kd.C k69 w Ae l.length l) (hce : l.length ≤ ce) (ht : Kd.C Kd.string w At types.length types) (hct : types.length ≤ ct) :
    Calls Tryz.prog 3 #[.slice A rules.length c, .string who, .agg #[.string d, .slice Ae l.length ce], .string typ, .slice At types.length ct] w fun e w' => e = .returned (.bool true) ∧ Below w.heap.size w w' := by
  have hmax : rules.length ≤ 9223372036854775807 := hr.2.1
  have hmaxt : types.length ≤ 9223372036854775807 := ht.2.1
  have HR := Lib.hid hr
  have HA := Lib.hid ha
  have HT := Lib.hid ht
  clear hr ha ht
  go_enter Tryz.func3, Tryz.ntmps3
  go_upto_region 1 with (fail)
  have HE0 : Hid (Env [(w.heap.size, #[.string d, .slice Ae l.length ce], 25)] w (w.alloc (.cells #[.string d, .slice Ae l.length ce] 25))) := Lib.hid ((Env.nil w w (Below.refl _ _)).alloc #[.string d, .slice Ae l.length ce] 25)
  go_cut [33] (fun v33 wc => ∃ b : Bool, v33 = .bool b ∧ Hid (b = false → (rules.length ≤ 45 ∧ ∀ r ∈ rules, SmallR r) ∧ (l.length ≤ 25 ∧ d.size ≤ 600 ∧ ∀ a ∈ l, SmallA a) ∧ who.size ≤ 300 ∧ typ.size ≤ 60 ∧ types.length ≤ 20) ∧ Hid (Env [(w.heap.size, #[.string d, .slice Ae l.length ce], 25)] w wc))
  case first =>
    go_wp2_with fail
    refine (great_c A c rules _ (Kd.C_below HR.out HE0.out.2) hc).mono ?_
    rintro e w1 ⟨g, rfl, hg, hd1⟩
    have HE1 := Lib.hid (HE0.out.step hd1.below)
    have HG := Lib.hid hg
    clear hg hd1 HE0
    have x0 : w1.cell? ⟨w.heap.size, 0, none⟩ = some (.string d) := blk_cell (HE1.out.at 0 rfl) 0
    have x1 : w1.cell? ⟨w.heap.size, 1, none⟩ = some (.slice Ae l.length ce) := blk_cell (HE1.out.at 0 rfl) 1
    cases g
    · go_wp2_with fail
      refine (great4_c d Ae ce l _ (Kd.C_below HA.out HE1.out.2) hce).mono ?_
      rintro e w2 ⟨g, rfl, hg, hb2⟩
      have HE2 := Lib.hid (HE1.out.step hb2)
      have HG2 := Lib.hid hg
      clear hg hb2 x0 x1 HE1
      cases g
      · by_cases c1 : (300 : Int) < (who.size : Int)
        · go_wp2
          go_meet
          case rel => exact ⟨true, rfl, Lib.hid (fun h => Bool.noConfusion h), HE2⟩
        · by_cases c2 : (60 : Int) < (typ.size : Int)
          · go_wp2
            go_meet
            case rel => exact ⟨true, rfl, Lib.hid (fun h => Bool.noConfusion h), HE2⟩
          · by_cases c3 : (20 : Int) < (types.length : Int)
            · go_wp2
              go_meet
              case rel => exact ⟨true, rfl, Lib.hid (fun h => Bool.noConfusion h), HE2⟩
            · go_wp2
              go_meet
              case rel => exact ⟨false, by simp <;> omega, Lib.hid (fun _ => ⟨HG.out (by first | rfl | trivial), HG2.out (by first | rfl | trivial), by omega, by omega, by omega⟩), HE2⟩
      · go_wp2
        go_meet
        case rel => exact ⟨true, rfl, Lib.hid (fun h => Bool.noConfusion h), HE2⟩
    · go_wp2
      go_meet
      case rel => exact ⟨true, rfl, Lib.hid (fun h => Bool.noConfusion h), HE1⟩
  case rest =>
    obtain ⟨b, rfl, HF, HE⟩ := hcut
    cases b
    · obtain ⟨⟨hl45, hsm⟩, ⟨hl25, hd6, hsa⟩, hw3, ht6, hty⟩ := HF.out rfl
      have HSm := Lib.hid hsm
      have HSa := Lib.hid (small_attrs hl25 hsa)
      clear hsm hsa HF HE0
      go_wp2
      go_loopw [11] (fun v11 wl => ∃ k : Nat, k ≤ types.length ∧ v11 = .int .i64 k ∧ Hid (∀ t ∈ types.take k, t.size ≤ 60) ∧ wl = wc) (fun v11 _ => types.length - (intOf v11).toNat)
      case atStart => exact ⟨0, Nat.zero_le _, rfl, Lib.hid (by simp), rfl⟩
      case round =>
        obtain ⟨k, hk, rfl, HK, rfl⟩ := hrel
        have h0 : (0 : Int) ≤ (k : Int) := by omega
        by_cases hlt : k < types.length
        · have hlt' : (k : Int) < (types.length : Int) := by omega
          obtain ⟨s, hs⟩ : ∃ s, types[k]? = some s := ⟨_, List.getElem?_eq_getElem hlt⟩
          have HS := Lib.hid hs
          obtain ⟨sa, e, z0⟩ := str_at (Kd.C_below HT.out HE.out.2) hs
          cases e
          clear hs
          by_cases b4 : (60 : Int) < (s.size : Int)
          · skip
            go_wp2_with fail
            refine (awake_c _).mono ?_
            rintro e w9 ⟨rfl, hb9⟩
            have HB9 := Lib.hid (below_step HE.out.2 hb9)
            clear hb9
            go_wp2
            go_ret
            exact ⟨rfl, HB9.out⟩
          · go_wp2
            go_roundw
            case measure => simp [intOf]; omega
            case rel => exact ⟨k + 1, by omega, by go_num, Lib.hid (pre_next HS.out (by omega) HK.out), by first | rfl | trivial⟩
        · obtain rfl : k = types.length := by omega
          have hts : TypesOk types := fun t ht => by have h := HK.out; rw [List.take_length] at h; have := h t ht; omega
          have HTy := Lib.hid hts
          clear hts HK
          go_wp2_with fail
          refine (may_c A c rules _ (Kd.C_below HR.out HE.out.2) hc (small_fine HSm.out)).mono ?_
          rintro e w3 ⟨rfl, hb⟩
          have HE3 := Lib.hid (HE.out.step hb)
          clear hb HE
          go_wp2_with fail
          refine (rmay_c A c rules _ (Kd.C_below HR.out HE3.out.2) hc HSm.out).mono ?_
          rintro e w4 ⟨rfl, hb⟩
          rw [may_same]
          have HE4 := Lib.hid (HE3.out.step hb)
          clear hb HE3
          obtain ⟨k1, k2, hkk⟩ := key_pair who
          have HKK := Lib.hid (rkey_v hkk (by omega))
          clear hkk
          go_wp2_with fail
          refine (HKK.out _).mono ?_
          rintro e w5 ⟨rfl, hb⟩
          have HE5 := Lib.hid (HE4.out.step hb)
          clear hb HE4 HKK
          go_wp2_with fail
          have HE6 : Hid (Env [(w.heap.size, #[.string d, .slice Ae l.length ce], 25), (w5.heap.size, #[.string k1, .bool k2], 31)] w (w5.alloc (.cells #[.string k1, .bool k2] 31))) := Lib.hid (HE5.out.alloc #[.string k1, .bool k2] 31)
          refine (rmay_c A c rules _ (Kd.C_below HR.out HE6.out.2) hc HSm.out).mono ?_
          rintro e w6 ⟨rfl, hb⟩
          rw [may_same]
          have HE7 := Lib.hid (HE6.out.step hb)
          clear hb HE6 HE5
          have p0 : w6.cell? ⟨w5.heap.size, 0, none⟩ = some (.string k1) := blk_cell (HE7.out.at 1 rfl) 0
          have p1 : w6.cell? ⟨w5.heap.size, 1, none⟩ = some (.bool k2) := blk_cell (HE7.out.at 1 rfl) 1
          cases hmay : mayB1 rules
          · skip
            go_wp2_with fail
            refine (awake_c _).mono ?_
            rintro e w9 ⟨rfl, hb9⟩
            have HB9 := Lib.hid (below_step HE7.out.2 hb9)
            clear hb9
            go_wp2
            go_ret
            exact ⟨rfl, HB9.out⟩
          · cases k2
            · skip
              go_wp2_with fail
              refine (awake_c _).mono ?_
              rintro e w9 ⟨rfl, hb9⟩
              have HB9 := Lib.hid (below_step HE7.out.2 hb9)
              clear hb9
              go_wp2
              go_ret
              exact ⟨rfl, HB9.out⟩
            · cases hkw : (k1.toList == who.toList)
              · skip
                go_wp2_with fail
                refine (awake_c _).mono ?_
                rintro e w9 ⟨rfl, hb9⟩
                have HB9 := Lib.hid (below_step HE7.out.2 hb9)
                clear hb9
                go_wp2
                go_ret
                exact ⟨rfl, HB9.out⟩
              · go_upto_region 13 with (fail)
                refine sq_ (Env [(w.heap.size, #[.string d, .slice Ae l.length ce], 25), (w5.heap.size, #[.string k1, .bool true], 31)] w) [] [(0,0,some 70),(0,1,some 71),(1,2,some 72),(0,3,some 73),(0,5,some 75),(0,6,some 76),(1,7,some 77),(0,8,some 78),(2,4,some 74),(2,9,some 79),(0,10,some 80),(0,11,some 81),(0,12,some 82),(0,13,some 83),(1,14,some 84),(0,16,some 86),(0,17,some 87),(1,18,some 88),(2,15,some 85),(2,19,some 89),(2,20,some 90),(0,21,some 91),(0,22,some 92),(0,23,some 93),(0,24,some 94),(1,25,some 95),(0,26,some 96),(0,28,some 98),(0,29,some 99),(1,30,some 100),(0,31,some 101),(2,27,some 97),(2,32,some 102),(0,33,some 103),(0,34,some 104),(0,35,some 105),(2,36,some 106),(0,37,some 107),(0,38,some 10)] (by kernel_rfl) (by kernel_rfl) (HE7.out.step (below_drew (Below.refl _ _))) (fun hS => ?_)
                clear p0 p1 HE7
                generalize w6.drew = W at hS ⊢
                repeat (first
                  | (refine sq0 rfl ?_ (fun _ _ _ _ h => h) ?_; (focus rfl); apply Exists.intro; constructor; (focus (intro w'; go_simp; with_reducible rfl)); (simp only [Act.put, List.setIfInBounds_toArray, List.set_cons_zero, List.set_cons_succ]))
                  | (refine sq1 rfl ?_ (fun _ _ _ _ h => h) hS ?_; (focus rfl); apply Exists.intro; constructor; (focus (intro w' hS'; have x0 : w'.cell? ⟨w.heap.size, 0, none⟩ = some (.string d) := blk_cell (hS'.at 0 rfl) 0; have x1 : w'.cell? ⟨w.heap.size, 1, none⟩ = some (.slice Ae l.length ce) := blk_cell (hS'.at 0 rfl) 1; go_simp; with_reducible rfl)); (simp only [Act.put, List.setIfInBounds_toArray, List.set_cons_zero, List.set_cons_succ])))
                refine sq_call rfl Tryz.func10 (by kernel_rfl) rfl #[.slice A rules.length c, .string who, .agg #[.string d, .slice Ae l.length ce], .string typ] rfl ?_ rfl ?_ ?_
                focus rfl
                focus ((try simp only [List.map_toArray, List.map_cons, List.map_nil]); first | done | rfl)
                have hEc := hS
                refine (right_c rules A c who d typ (.slice Ae l.length ce) _ (Kd.C_below HR.out hEc.2) hc (small_ok HSm.out) (by omega) (by omega) rfl).mono ?_
                rintro e u1 ⟨rfl, hb⟩
                refine ⟨_, rfl, hS.step hb, fun hS2 => ?_⟩
                clear hS hb hEc
                have hS := hS2
                clear hS2
                (simp only [Act.put, List.setIfInBounds_toArray, List.set_cons_zero, List.set_cons_succ])
                refine sq_call rfl Tryz.func11 (by kernel_rfl) rfl #[.slice A rules.length c, .string who, .agg #[.string d, .slice Ae l.length ce], .string typ] rfl ?_ rfl ?_ ?_
                focus rfl
                focus ((try simp only [List.map_toArray, List.map_cons, List.map_nil]); first | done | rfl)
                have hEc := hS
                refine (rright_c rules A c who d typ (.slice Ae l.length ce) _ (Kd.C_below HR.out hEc.2) hc (small_mod HSm.out) (by omega) (by omega) rfl).mono ?_
                rintro e u2 ⟨rfl, hb⟩
                refine ⟨_, rfl, hS.step hb, fun hS2 => ?_⟩
                clear hS hb hEc
                have hS := hS2
                clear hS2
                (simp only [Act.put, List.setIfInBounds_toArray, List.set_cons_zero, List.set_cons_succ])
                generalize rightB rules who (keyB d).1 typ = R
                repeat (first
                  | (refine sq0 rfl ?_ (fun _ _ _ _ h => h) ?_; (focus rfl); apply Exists.intro; constructor; (focus (intro w'; go_simp; with_reducible rfl)); (simp only [Act.put, List.setIfInBounds_toArray, List.set_cons_zero, List.set_cons_succ]))
                  | (refine sq1 rfl ?_ (fun _ _ _ _ h => h) hS ?_; (focus rfl); apply Exists.intro; constructor; (focus (intro w' hS'; have x0 : w'.cell? ⟨w.heap.size, 0, none⟩ = some (.string d) := blk_cell (hS'.at 0 rfl) 0; have x1 : w'.cell? ⟨w.heap.size, 1, none⟩ = some (.slice Ae l.length ce) := blk_cell (hS'.at 0 rfl) 1; go_simp; with_reducible rfl)); (simp only [Act.put, List.setIfInBounds_toArray, List.set_cons_zero, List.set_cons_succ])))
                refine sq_call rfl Tryz.func13 (by kernel_rfl) rfl #[.slice A rules.length c, .string who, .agg #[.string d, .slice Ae l.length ce]] rfl ?_ rfl ?_ ?_
                focus rfl
                focus ((try simp only [List.map_toArray, List.map_cons, List.map_nil]); first | done | rfl)
                have hEc := hS
                refine (view_c rules A c who d l Ae ce _ (Kd.C_below HR.out hEc.2) hc (small_ok HSm.out) (by omega) (Kd.C_below HA.out hEc.2) hce HSa.out).mono ?_
                rintro e u3 ⟨Av, cv, rfl, hcv, hCv, hb⟩
                obtain ⟨wv, hwv⟩ : ∃ x, x = u3 := ⟨_, rfl⟩; rw [← hwv] at hCv; have HCv := Lib.hid hCv; have HWv : Hid (Below wv.heap.size wv u3) := Lib.hid (by rw [hwv]; exact Below.refl _ _); clear hCv hwv
                refine ⟨_, rfl, hS.step hb, fun hS2 => ?_⟩
                clear hS hb hEc
                have hS := hS2
                clear hS2
                (simp only [Act.put, List.setIfInBounds_toArray, List.set_cons_zero, List.set_cons_succ])
                refine sq_call rfl Tryz.func14 (by kernel_rfl) rfl #[.slice A rules.length c, .string who, .agg #[.string d, .slice Ae l.length ce]] rfl ?_ rfl ?_ ?_
                focus rfl
                focus ((try simp only [List.map_toArray, List.map_cons, List.map_nil]); first | done | rfl)
                have hEc := hS
                refine (rview_c rules A c who d l Ae ce _ (Kd.C_below HR.out hEc.2) hc (small_mod HSm.out) (by omega) (Kd.C_below HA.out hEc.2) hce HSa.out).mono ?_
                rintro e u4 ⟨Aq, cq, rfl, hcq, hCq, hb⟩
                have HCq := Lib.hid hCq; have HCv2 := Lib.hid (Kd.C_below (Kd.C_below HCv.out HWv.out) hb); clear hCq HCv HWv
                refine ⟨_, rfl, hS.step hb, fun hS2 => ?_⟩
                clear hS hb hEc
                have hS := hS2
                clear hS2
                (simp only [Act.put, List.setIfInBounds_toArray, List.set_cons_zero, List.set_cons_succ])
                refine sq_call rfl Tryz.func12 (by kernel_rfl) rfl #[.agg #[.string d, .slice Av (viewB rules who (keyB d).1 l).length cv], .agg #[.string d, .slice Aq (viewB rules who (keyB d).1 l).length cq]] rfl ?_ rfl ?_ ?_
                focus rfl
                focus ((try simp only [List.map_toArray, List.map_cons, List.map_nil]); first | done | rfl)
                have hEc := hS
                refine (same_c d Av Aq cv cq (viewB rules who (keyB d).1 l) _ HCv2.out hcv HCq.out hcq).mono ?_
                rintro e u5 ⟨rfl, hb⟩
                clear HCv2 HCq
                refine ⟨_, rfl, hS.step hb, fun hS2 => ?_⟩
                clear hS hb hEc
                have hS := hS2
                clear hS2
                (simp only [Act.put, List.setIfInBounds_toArray, List.set_cons_zero, List.set_cons_succ])
                repeat (first
                  | (refine sq0 rfl ?_ (fun _ _ _ _ h => h) ?_; (focus rfl); apply Exists.intro; constructor; (focus (intro w'; go_simp; with_reducible rfl)); (simp only [Act.put, List.setIfInBounds_toArray, List.set_cons_zero, List.set_cons_succ]))
                  | (refine sq1 rfl ?_ (fun _ _ _ _ h => h) hS ?_; (focus rfl); apply Exists.intro; constructor; (focus (intro w' hS'; have x0 : w'.cell? ⟨w.heap.size, 0, none⟩ = some (.string d) := blk_cell (hS'.at 0 rfl) 0; have x1 : w'.cell? ⟨w.heap.size, 1, none⟩ = some (.slice Ae l.length ce) := blk_cell (hS'.at 0 rfl) 1; go_simp; with_reducible rfl)); (simp only [Act.put, List.setIfInBounds_toArray, List.set_cons_zero, List.set_cons_succ])))
                refine sq_call rfl Tryz.func15 (by kernel_rfl) rfl #[.slice A rules.length c, .string who, .agg #[.string d, .slice Ae l.length ce], .slice At types.length ct] rfl ?_ rfl ?_ ?_
                focus rfl
                focus ((try simp only [List.map_toArray, List.map_cons, List.map_nil]); first | done | rfl)
                have hEc := hS
                refine (gate_c rules A c who d (.slice Ae l.length ce) types At ct _ (Kd.C_below HR.out hEc.2) hc (small_ok HSm.out) (by omega) rfl (Kd.C_below HT.out hEc.2) hct HTy.out).mono ?_
                rintro e u6 ⟨rfl, hb⟩
                refine ⟨_, rfl, hS.step hb, fun hS2 => ?_⟩
                clear hS hb hEc
                have hS := hS2
                clear hS2
                (simp only [Act.put, List.setIfInBounds_toArray, List.set_cons_zero, List.set_cons_succ])
                refine sq_call rfl Tryz.func16 (by kernel_rfl) rfl #[.slice A rules.length c, .string who, .agg #[.string d, .slice Ae l.length ce], .slice At types.length ct] rfl ?_ rfl ?_ ?_
                focus rfl
                focus ((try simp only [List.map_toArray, List.map_cons, List.map_nil]); first | done | rfl)
                have hEc := hS
                refine (rgate_c rules A c who d (.slice Ae l.length ce) types At ct _ (Kd.C_below HR.out hEc.2) hc (small_mod HSm.out) (by omega) rfl (Kd.C_below HT.out hEc.2) hct HTy.out).mono ?_
                rintro e u7 ⟨rfl, hb⟩
                rw [may_gate hmay]
                refine ⟨_, rfl, hS.step hb, fun hS2 => ?_⟩
                clear hS hb hEc
                have hS := hS2
                clear hS2
                (simp only [Act.put, List.setIfInBounds_toArray, List.set_cons_zero, List.set_cons_succ])
                generalize gateB rules who (keyB d).1 types = G
                repeat (first
                  | (refine sq0 rfl ?_ (fun _ _ _ _ h => h) ?_; (focus rfl); apply Exists.intro; constructor; (focus (intro w'; go_simp; with_reducible rfl)); (simp only [Act.put, List.setIfInBounds_toArray, List.set_cons_zero, List.set_cons_succ]))
                  | (refine sq1 rfl ?_ (fun _ _ _ _ h => h) hS ?_; (focus rfl); apply Exists.intro; constructor; (focus (intro w' hS'; have x0 : w'.cell? ⟨w.heap.size, 0, none⟩ = some (.string d) := blk_cell (hS'.at 0 rfl) 0; have x1 : w'.cell? ⟨w.heap.size, 1, none⟩ = some (.slice Ae l.length ce) := blk_cell (hS'.at 0 rfl) 1; go_simp; with_reducible rfl)); (simp only [Act.put, List.setIfInBounds_toArray, List.set_cons_zero, List.set_cons_succ])))
                refine sq_call rfl Tryz.func6 (by kernel_rfl) rfl #[] rfl ?_ rfl ?_ ?_
                focus rfl
                focus ((try simp only [List.map_toArray, List.map_cons, List.map_nil]); first | done | rfl)
                have hEc := hS
                refine (awake_c _).mono ?_
                rintro e u8 ⟨rfl, hb⟩
                refine ⟨_, rfl, hS.step hb, fun hS2 => ?_⟩
                clear hS hb hEc
                have hS := hS2
                clear hS2
                (simp only [Act.put, List.setIfInBounds_toArray, List.set_cons_zero, List.set_cons_succ])
                repeat (first
                  | (refine sq0 rfl ?_ (fun _ _ _ _ h => h) ?_; (focus rfl); apply Exists.intro; constructor; (focus (intro w'; go_simp; with_reducible rfl)); (simp only [Act.put, List.setIfInBounds_toArray, List.set_cons_zero, List.set_cons_succ]))
                  | (refine sq1 rfl ?_ (fun _ _ _ _ h => h) hS ?_; (focus rfl); apply Exists.intro; constructor; (focus (intro w' hS'; have x0 : w'.cell? ⟨w.heap.size, 0, none⟩ = some (.string d) := blk_cell (hS'.at 0 rfl) 0; have x1 : w'.cell? ⟨w.heap.size, 1, none⟩ = some (.slice Ae l.length ce) := blk_cell (hS'.at 0 rfl) 1; go_simp; with_reducible rfl)); (simp only [Act.put, List.setIfInBounds_toArray, List.set_cons_zero, List.set_cons_succ])))
                refine sq_end ?_
                go_wp2
                go_ret
                exact ⟨rfl, hS.2⟩
    · skip
      go_wp2_with fail
      refine (awake_c _).mono ?_
      rintro e w9 ⟨rfl, hb9⟩
      have HB9 := Lib.hid (below_step HE.out.2 hb9)
      clear hb9
      go_wp2
      go_ret
      exact ⟨rfl, HB9.out⟩
end Go.Proofs.YtflkghdndffacaaGreatDoor.C
