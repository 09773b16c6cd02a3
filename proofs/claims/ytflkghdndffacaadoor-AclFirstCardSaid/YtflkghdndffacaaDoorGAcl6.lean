/- Words, functions' contracts and plain laws for the row of AclFirst,AclMade,AclViews, part 6: cut out of this session's texts by a program of its own. No condition. -/
import Derived.Test.YtflkghdndffacaaDoorGAcl5
namespace Go.Proofs.YtflkghdndffacaaDoor.C
open Go.RowKit Go.Proofs.YtflkghdndffacaaDoor.Sq Go.Proofs.YtflkghdndffacaaDoor.H Go.Proofs.YtflkghdndffacaaDoor.PA Go.Proofs.YtflkghdndffacaaDoor.Pure Go.Proofs.YtflkghdndffacaaDoorW.PrintWords Go.Proofs.YtflkghdndffacaaDoorW.PrintLast Go.Proofs.YtflkghdndffacaaDoorW.PrintMore
set_option linter.unusedVariables false
def rgateB (rules : List S54) (who key : ByteArray) (types : List ByteArray) : Bool := types.all fun t => !decide (rightB rules who key t < 2)
set_option maxHeartbeats 4000000 in
set_option maxRecDepth 100000 in
theorem rgate_c (rules : List S54) (A : Option Addr) (c : Nat) (who dn : ByteArray) (at1 : Value) (types : List ByteArray) (A2 : Option Addr) (c2 : Nat) (w : World) (hr : Kd.C k54 w A rules.length rules) (hc : rules.length ≤ c) (hm : RulesMod rules) (hd : dn.size ≤ 1000000) (h1 : at1.oneCell' = true) (hr2 : Kd.C Kd.string w A2 types.length types) (hc2 : types.length ≤ c2) (ht : TypesOk types) :
  Calls Tryd.prog 45 #[.slice A rules.length c, .string who, .agg #[.string dn, at1], .slice A2 types.length c2] w fun e w' => e = .returned (.bool (rgateB rules who (keyB dn).1 types)) ∧ Below w.heap.size w w' := by
 have hmax : types.length ≤ 9223372036854775807 := hr2.2.1
 have HR := Lib.hid hr
 have HM := Lib.hid hm
 have HR2 := Lib.hid hr2
 have HT := Lib.hid ht
 have HD := Lib.hid hd
 clear hr hm hr2 ht hd
 go_enter Tryd.func45, Tryd.ntmps45
 go_wp2
 go_loopw [9] (fun i wr => ∃ k : Nat, k ≤ types.length ∧ i = .int .i64 k ∧ Hid ((types.take k).all (fun t => !decide (rightB rules who (keyB dn).1 t < 2)) = true) ∧ Own w w.heap.size (.cells #[.string dn, at1] 51 (0, 0)) wr) (fun i _ => types.length - (intOf i).toNat)
 case atStart => exact ⟨0, Nat.zero_le _, rfl, Lib.hid (by simp), heap_alloc_new w _, (Below.refl _ _).alloc (Nat.le_refl _) _⟩
 case round =>
  obtain ⟨k, hk, rfl, HF, HO⟩ := hrel
  by_cases hlt : k < types.length
  ·obtain ⟨y, hy⟩ : ∃ y, types[k]? = some y := ⟨_, List.getElem?_eq_getElem hlt⟩
   obtain ⟨ad, e, _⟩ := str_at (Kd.C_below HR2.out HO.2) hy
   cases e
   have hyt := HT.out y (List.mem_of_getElem? hy)
   have HY := Lib.hid hy
   clear hy
   have hlt' : (k : Int) < (types.length : Int) := by omega
   have h0 : (0 : Int) ≤ (k : Int) := by omega
   go_upto_region 4 with (fail)
   go_cut [23, 24] (fun v23 v24 wc => v24 = .bool (decide (rightB rules who (keyB dn).1 y < 2)) ∧ Own w w.heap.size (.cells #[.string dn, at1] 51 (0, 0)) wc)
   case first =>
    refine sq_ (Own w w.heap.size (.cells #[.string dn, at1] 51 (0, 0))) [] [(0,0,some 16),(0,1,some 17),(1,2,some 18),(0,3,some 19),(0,4,some 20),(0,5,some 21),(1,6,some 22),(2,7,some 23),(0,8,some 24)] (by kernel_rfl) (by kernel_rfl) HO.drew (fun hS => ?_)
    generalize wr.drew = W at hS ⊢
    repeat (first
     | (refine sq0 rfl ?_ (fun _ _ _ _ h => h) ?_; (focus rfl); apply Exists.intro; constructor; (focus (intro w'; go_simp; with_reducible rfl)); (simp only [Act.put, List.setIfInBounds_toArray, List.set_cons_zero, List.set_cons_succ]))
     | (refine sq1 rfl ?_ (fun _ _ _ _ h => h) hS ?_; (focus rfl); apply Exists.intro; constructor; (focus (intro w' hS'; have s0 : w'.cell? ⟨w.heap.size, 0, none⟩ = some (.string dn) := blk_cell hS'.1 0; have s1 : w'.cell? ⟨w.heap.size, 1, none⟩ = some at1 := blk_cell hS'.1 1; obtain ⟨ad2, e2, x0⟩ := str_at (Kd.C_below HR2.out hS'.2) HY.out; cases e2; go_simp; with_reducible rfl)); (simp only [Act.put, List.setIfInBounds_toArray, List.set_cons_zero, List.set_cons_succ]))
     | (refine sq_call rfl Tryd.func40 (by kernel_rfl) rfl #[.slice A rules.length c, .string who, .agg #[.string dn, at1], .string y] rfl ?_ rfl ?_ ?_; (focus rfl); (focus ((try simp only [List.map_toArray, List.map_cons, List.map_nil]); first | done | rfl)); refine (rright_c rules A c who dn y at1 _ (Kd.C_below HR.out hS.2) hc HM.out HD.out hyt h1).mono ?_; rintro e w2 ⟨rfl, hb⟩; refine ⟨_, rfl, Own.step hS hb, fun hS2 => ?_⟩; clear hb hS; have hS := hS2; clear hS2; (simp only [Act.put, List.setIfInBounds_toArray, List.set_cons_zero, List.set_cons_succ])))
    refine sq_end ?_
    go_wp2
    go_meet
    case rel => exact ⟨rfl, hS⟩
   case rest =>
    obtain ⟨rfl, hO⟩ := hcut
    cases hs : decide (rightB rules who (keyB dn).1 y < 2)
    ·have HS := Lib.hid hs
     go_wp2
     go_roundw
     case measure => simp [intOf]; omega
     case rel => exact ⟨k + 1, by omega, by go_num, Lib.hid (all_next HY.out (by rw [HS.out]; rfl) HF.out), hO⟩
    ·have HS := Lib.hid hs
     go_wp2
     go_ret
     exact ⟨ret_bool (all_here (p := fun t => !decide (rightB rules who (keyB dn).1 t < 2)) HY.out (by rw [HS.out]; rfl)).symm, hO.2⟩
  ·obtain rfl : k = types.length := by omega
   go_wp2
   go_ret
   exact ⟨ret_bool (all_end HF.out).symm, HO.2⟩
end Go.Proofs.YtflkghdndffacaaDoor.C
namespace Go.Proofs.YtflkghdndffacaaDoor.C
open Go.RowKit Go.Proofs.YtflkghdndffacaaDoor.Sq Go.Proofs.YtflkghdndffacaaDoor.H Go.Proofs.YtflkghdndffacaaDoor.PA Go.Proofs.YtflkghdndffacaaDoor.Pure Go.Proofs.YtflkghdndffacaaDoorW.PrintWords Go.Proofs.YtflkghdndffacaaDoorW.PrintLast Go.Proofs.YtflkghdndffacaaDoorW.PrintMore
set_option linter.unusedVariables false
def oldK {α : Type} (d : Kd α) (w0 : World) : Kd α where
 sz := d.sz
 E := []
 K := fun _ x cs => d.K w0 x cs
 M := fun _ _ _ x cs => d.K w0 x cs
 K_len := d.K_len
 K_one := d.K_one
 K_below := fun _ h => h
 K_of_M := fun h => h
 M_mono := fun _ h => h
 M_bound := fun h => h
 M_move := fun _ h => h
 M_lower := fun _ h => h
theorem C_of_old {α : Type} {d : Kd α} {w0 w : World} {A : Option Addr} {n : Nat} {xs : List α} (h : (oldK d w0).C w A n xs) (hb : Below w0.heap.size w0 w) : d.C w A n xs := ReadsRow.imp_ h (Below.refl _ _) (fun _ _ hp => d.K_below hb hp)
theorem old_ne {α : Type} {d : Kd α} {w0 : World} : ∀ q, q ∈ 69 :: (oldK d w0).E → q ≠ 51 := fun q h => by
 have h' : q ∈ [69] := h
 rw [List.mem_singleton] at h'
 omega
def VwS (w : World) (dn : ByteArray) (a1 v : Value) (xs : List S69) (W : World) : Prop := Vw w dn a1 v W ∧ Kd.R (oldK k69 w) 69 W w.heap.size (fun _ => True) v xs
theorem VwS.step {w W W1 : World} {dn : ByteArray} {a1 v : Value} {xs : List S69} (h : VwS w dn a1 v xs W) (hb : Below W.heap.size W W1) : VwS w dn a1 v xs W1 := ⟨h.1.step hb, Kd.R_below h.2 hb⟩
theorem Vw.grownO {w W W1 : World} {dn : ByteArray} {a1 v : Value} {base : Nat} {ok : Nat → Prop} {xs : List S69} (h : Vw w dn a1 v W) (hV : Kd.R (oldK k69 w) 69 W base ok v xs) (hg : W.grownBy W1 v.ownBlock) (hb : Below w.heap.size w W1) : Vw w dn a1 v W1 := ⟨blk_grown h.1 hg (Kd.R_ne hV h.1 (by decide)), blk_grown h.2.1 hg (Kd.R_ne hV h.2.1 (by decide)), blk_grown h.2.2.1 hg (Kd.R_ne hV h.2.2.1 (by decide)), hb⟩
set_option maxHeartbeats 4000000 in
set_option maxRecDepth 100000 in
theorem rview_c (rules : List S54) (A : Option Addr) (c : Nat) (who dn : ByteArray) (attrs : List S69) (A1 : Option Addr) (c1 : Nat) (w : World) (hr : Kd.C k54 w A rules.length rules) (hc : rules.length ≤ c) (hm : RulesMod rules) (hd : dn.size ≤ 1000000) (hr1 : Kd.C k69 w A1 attrs.length attrs) (hc1 : attrs.length ≤ c1) (ha : AttrsOk attrs) :
  Calls Tryd.prog 43 #[.slice A rules.length c, .string who, .agg #[.string dn, .slice A1 attrs.length c1]] w (EntryOut w dn (viewB rules who (keyB dn).1 attrs)) := by
 have hmax : attrs.length ≤ 9223372036854775807 := hr1.2.1
 have HR := Lib.hid hr
 have HM := Lib.hid hm
 have HR1 := Lib.hid hr1
 have HA := Lib.hid ha
 have HD := Lib.hid hd
 clear hr hm hr1 ha hd
 go_enter Tryd.func43, Tryd.ntmps43
 go_wp2
 go_loopw [8] (fun i wr => ∃ k : Nat, ∃ v : Value, k ≤ attrs.length ∧ i = .int .i64 k ∧ Hid (Kd.R (oldK k69 w) 69 wr w.heap.size (fun _ => True) v ((attrs.take k).filter (seesB rules who (keyB dn).1))) ∧ Vw w dn (.slice A1 attrs.length c1) v wr) (fun i _ => attrs.length - (intOf i).toNat)
 case atStart => exact ⟨0, .slice none 0 0, Nat.zero_le _, rfl, Lib.hid (Kd.R_nil _ _ _ _ _), blk_alloc (blk_alloc (heap_alloc_new w _) _) _, blk_alloc (by have := heap_alloc_new (w.alloc (.cells #[.string dn, .slice A1 attrs.length c1] 51)) (.cells #[.string ⟨#[]⟩, .slice none 0 0] 51); simpa using this) _, by have := heap_alloc_new ((w.alloc (.cells #[.string dn, .slice A1 attrs.length c1] 51)).alloc (.cells #[.string ⟨#[]⟩, .slice none 0 0] 51)) (.cells #[.string dn, .slice none 0 0] 51); simpa using this, below_alloc (below_alloc (below_alloc (Below.refl _ _) _) _) _⟩
 case round =>
  obtain ⟨k, v, hk, rfl, HV, HW⟩ := hrel
  have e1 : wr.cell? ⟨w.heap.size, 1, none⟩ = some (.slice A1 attrs.length c1) := blk_cell HW.1 1
  by_cases hlt : k < attrs.length
  ·obtain ⟨a, hy⟩ : ∃ r, attrs[k]? = some r := ⟨_, List.getElem?_eq_getElem hlt⟩
   obtain ⟨m1, m2⟩ := HA.out.2 a (List.mem_of_getElem? hy)
   have m1' : a.f0.size ≤ 9223372036854775806 := by omega
   obtain ⟨ad, Aa, ca, e, x0, x1, hl4, hi4⟩ := attr_at HR1.out hy
   cases e
   have HC := Lib.hid (And.intro x0 x1)
   clear x0 x1
   have HK := Lib.hid (k69_mk w a hl4 hi4)
   clear hi4
   have HY := Lib.hid hy
   clear hy
   have hlt' : (k : Int) < (attrs.length : Int) := by omega
   have h0 : (0 : Int) ≤ (k : Int) := by omega
   have HT := Lib.hid (List.take_add_one (l := attrs) (i := k))
   have HL : Hid ((((attrs.take k).filter (seesB rules who (keyB dn).1)).length + 1) * 40 ≤ 140737488355328) := Lib.hid (by have := List.length_filter_le (seesB rules who (keyB dn).1) (attrs.take k); have := List.length_take_le k attrs; have := HA.out.1; omega)
   go_upto_region 5 with (fail)
   go_cut [29] (fun v29 wc => v29 = .bool (decide (1 ≤ rightB rules who (keyB dn).1 a.f0)) ∧ Hid (VwS w dn (.slice (some ad) attrs.length c1) v ((attrs.take k).filter (seesB rules who (keyB dn).1)) wc))
   case first =>
    refine sq_ (VwS w dn (.slice (some ad) attrs.length c1) v ((attrs.take k).filter (seesB rules who (keyB dn).1))) [] [(0,0,some 19),(0,1,some 20),(1,2,some 21),(0,3,some 22),(1,4,some 23),(0,5,some 24),(0,6,some 25),(0,7,some 26),(1,8,some 27),(2,9,some 28),(0,10,some 29)] (by kernel_rfl) (by kernel_rfl) (VwS.step ⟨HW, HV.out⟩ (below_drew (Below.refl _ _))) (fun hS => ?_)
    clear HV HW e1
    generalize wr.drew = W at hS ⊢
    repeat (first
     | (refine sq0 rfl ?_ (fun _ _ _ _ h => h) ?_; (focus rfl); apply Exists.intro; constructor; (focus (intro w'; go_simp; with_reducible rfl)); (simp only [Act.put, List.setIfInBounds_toArray, List.set_cons_zero, List.set_cons_succ]))
     | (refine sq1 rfl ?_ (fun _ _ _ _ h => h) hS ?_; (focus rfl); apply Exists.intro; constructor; (focus (intro w' hS'; have s0 : w'.cell? ⟨w.heap.size, 0, none⟩ = some (.string dn) := blk_cell hS'.1.1 0; have s1 : w'.cell? ⟨w.heap.size, 1, none⟩ = some (.slice (some ad) attrs.length c1) := blk_cell hS'.1.1 1; obtain ⟨ad2, Aa2, ca2, e2, x0, x1, _, _⟩ := attr_at (Kd.C_below HR1.out hS'.1.2.2.2) HY.out; cases e2; go_simp; with_reducible rfl)); (simp only [Act.put, List.setIfInBounds_toArray, List.set_cons_zero, List.set_cons_succ]))
     | (refine sq_call rfl Tryd.func40 (by kernel_rfl) rfl #[.slice A rules.length c, .string who, .agg #[.string dn, .slice (some ad) attrs.length c1], .string a.f0] rfl ?_ rfl ?_ ?_; (focus rfl); (focus ((try simp only [List.map_toArray, List.map_cons, List.map_nil]); first | done | rfl)); refine (rright_c rules A c who dn a.f0 (.slice (some ad) attrs.length c1) _ (Kd.C_below HR.out hS.1.2.2.2) hc HM.out HD.out m1' rfl).mono ?_; rintro e w2 ⟨rfl, hb⟩; refine ⟨_, rfl, VwS.step hS hb, fun hS2 => ?_⟩; clear hb hS; have hS := hS2; clear hS2; (simp only [Act.put, List.setIfInBounds_toArray, List.set_cons_zero, List.set_cons_succ])))
    refine sq_end ?_
    go_wp2
    go_meet
    case rel => exact ⟨rfl, Lib.hid hS⟩
   case rest =>
    clear HV HW e1
    obtain ⟨rfl, hO⟩ := hcut
    cases hs : decide (1 ≤ rightB rules who (keyB dn).1 a.f0)
    ·have HS := Lib.hid hs
     clear hs
     go_wp2
     go_roundw
     case measure => simp [intOf]; omega
     case rel =>
      refine ⟨k + 1, v, by omega, by go_num, Lib.hid ?_, hO.out.1⟩
      rw [HT.out, HY.out, List.filter_append]
      simpa [seesB, HS.out] using hO.out.2
    ·have HS := Lib.hid hs
     clear hs
     go_upto_region 6 with (fail)
     refine sq_ (Vw w dn (.slice (some ad) attrs.length c1) v) [10] [(0,0,some 30),(1,1,some 31),(0,2,some 32),(1,3,some 33),(0,4,some 34),(0,5,some 35),(1,6,some 36),(2,7,some 37),(2,8,some 38),(0,9,some 39),(3,10,none)] (by kernel_rfl) (by kernel_rfl) (Vw.step hO.out.1 (below_drew (Below.refl _ _))) (fun hS => ?_)
     have HV := Lib.hid (Kd.R_drew hO.out.2)
     clear hO
     generalize wc.drew = W at hS HV ⊢
     repeat (first
      | (refine sq0 rfl ?_ (fun _ _ _ _ h => h) ?_; (focus rfl); apply Exists.intro; constructor; (focus (intro w'; go_simp; with_reducible rfl)); (simp only [Act.put, List.setIfInBounds_toArray, List.set_cons_zero, List.set_cons_succ]))
      | (refine sq1 rfl ?_ (fun _ _ _ _ h => h) hS ?_; (focus rfl); apply Exists.intro; constructor; (focus (intro w' hS'; have s1 : w'.cell? ⟨w.heap.size, 1, none⟩ = some (.slice (some ad) attrs.length c1) := blk_cell hS'.1 1; have s2 : w'.cell? ⟨w.heap.size + 1 + 1, 1, none⟩ = some v := blk_cell hS'.2.2.1 1; obtain ⟨x0, x1⟩ := attr_in HC.out hS'.2.2.2; go_simp; with_reducible rfl)); (simp only [Act.put, List.setIfInBounds_toArray, List.set_cons_zero, List.set_cons_succ])))
     refine sq_value (w1 := W.alloc (.cells #[.string a.f0, .slice Aa a.f1.length ca] 69)) (v := .slice (some ⟨W.heap.size, 0, none⟩) 1 1) rfl rfl ?_ ?_ (hS.step (below_alloc (Below.refl _ _) _)) (fun _ => ?_)
     ·rfl
     ·go_simp
     (simp only [Act.put, List.setIfInBounds_toArray, List.set_cons_zero, List.set_cons_succ])
     refine sq2d rfl rfl (fun K hK => ?_)
     refine Kd.R_append_step (oldK k69 w) (w0 := w) (W := W) w.heap.size (by rfl) (.tmp 31) (.tmp 37) 49 69 (.agg #[.string ⟨#[]⟩, .slice none 0 0]) 40 rfl Tryd.underlying49 PA.info69 rfl (show 0 < 2 by decide) (by decide) v ((attrs.take k).filter (seesB rules who (keyB dn).1)) a [.string a.f0, .slice Aa a.f1.length ca] (fun _ => True) (fun _ => False) rfl rfl HK.out (fun _ h => h.elim) (fun _ _ => trivial) HV.out hS.2.2.2 (below_size hS.2.2.2) HL.out ?_
     intro v1 w5 hR5 hB5 hg5 _
     obtain ⟨Aw, cw, rfl⟩ := Kd.R_slice hR5
     rw [List.length_append, List.length_singleton] at hR5
     refine hK _ _ (Vw.grownO hS HV.out hg5 hB5) (fun hS5 => ?_)
     (simp only [Act.put, List.setIfInBounds_toArray, List.set_cons_zero, List.set_cons_succ])
     have HR5 := Lib.hid (Kd.R_set hR5 hS5.2.2.1 old_ne 1 (.slice Aw (((attrs.take k).filter (seesB rules who (keyB dn).1)).length + 1) cw))
     have HW5 := Lib.hid (hS5.put (.slice Aw (((attrs.take k).filter (seesB rules who (keyB dn).1)).length + 1) cw))
     have u0 : w5.cell? ⟨w.heap.size + 1 + 1, 1, none⟩ = some v := blk_cell hS5.2.2.1 1
     have u1 := blk_frozen hS5.2.2.1 1
     clear hR5 hS5 hg5 hB5 hK hS
     (refine sq0 rfl ?_ (fun _ _ _ _ h => h) ?_; (focus rfl); apply Exists.intro; constructor; (focus (intro w'; go_simp; with_reducible rfl)); (simp only [Act.put, List.setIfInBounds_toArray, List.set_cons_zero, List.set_cons_succ]))
     refine sq_store (w1 := w5.setCell ⟨w.heap.size + 1 + 1, 1, none⟩ (.slice Aw (((attrs.take k).filter (seesB rules who (keyB dn).1)).length + 1) cw)) rfl rfl ?_ ?_ ?_
     ·rfl
     ·go_simp
     refine sq_end ?_
     go_wp2
     go_roundw
     case measure => simp [intOf]; omega
     case rel =>
      refine ⟨k + 1, _, by omega, by go_num, Lib.hid ?_, HW5.out⟩
      rw [HT.out, HY.out, List.filter_append]
      simpa [seesB, HS.out] using HR5.out
  ·obtain rfl : k = attrs.length := by omega
   obtain ⟨Av, cv, rfl⟩ := Kd.R_slice HV.out
   have z0 : wr.cell? ⟨w.heap.size + 1, 0, none⟩ = some (.string ⟨#[]⟩) := blk_cell HW.2.1 0
   have z1 : wr.cell? ⟨w.heap.size + 1, 1, none⟩ = some (.slice none 0 0) := blk_cell HW.2.1 1
   have y0 := blk_frozen HW.2.1 0
   have y1 := blk_frozen HW.2.1 1
   have c0 : wr.cell? ⟨w.heap.size + 1 + 1, 0, none⟩ = some (.string dn) := blk_cell HW.2.2.1 0
   have c1' : wr.cell? ⟨w.heap.size + 1 + 1, 1, none⟩ = some (.slice Av ((attrs.take attrs.length).filter (seesB rules who (keyB dn).1)).length cv) := blk_cell HW.2.2.1 1
   have hr1' := blk_set (blk_set HW.2.1 0 (.string dn)) 1 (.slice Av ((attrs.take attrs.length).filter (seesB rules who (keyB dn).1)).length cv)
   have HR9 := Lib.hid (Kd.R_set (Kd.R_set HV.out HW.2.1 old_ne 0 (.string dn)) (blk_set HW.2.1 0 (.string dn)) old_ne 1 (.slice Av ((attrs.take attrs.length).filter (seesB rules who (keyB dn).1)).length cv))
   have hB9 := below_set (j := 1) (v := .slice Av ((attrs.take attrs.length).filter (seesB rules who (keyB dn).1)).length cv) (below_set (g := w.heap.size + 1) (j := 0) (v := .string dn) HW.2.2.2 (by omega)) (g := w.heap.size + 1) (by omega)
   rw [List.take_length] at hr1' HR9 hB9
   go_wp2
   refine bodyPost_ret (results_cell_row rfl _ _ (w.heap.size + 1) 51 #[.string dn, .slice Av (viewB rules who (keyB dn).1 attrs).length cv] (0, 0) _ rfl hr1' Tryd.underlying51 rfl (by kernel_rfl)) rfl ?_
   obtain ⟨A', c', e, hl, hC⟩ := Kd.R_reads HR9.out
   cases e
   exact ⟨_, _, rfl, hl, C_of_old hC hB9, hB9⟩
end Go.Proofs.YtflkghdndffacaaDoor.C
namespace Go.Proofs.YtflkghdndffacaaDoor.C
open Go.RowKit Go.Proofs.YtflkghdndffacaaDoor.Sq Go.Proofs.YtflkghdndffacaaDoor.H Go.Proofs.YtflkghdndffacaaDoor.PA Go.Proofs.YtflkghdndffacaaDoor.Pure Go.Proofs.YtflkghdndffacaaDoorW.PrintWords Go.Proofs.YtflkghdndffacaaDoorW.PrintLast Go.Proofs.YtflkghdndffacaaDoorW.PrintMore
set_option linter.unusedVariables false
set_option maxHeartbeats 4000000 in
theorem texts_c (A B : Option Addr) (c d : Nat) (l : List ByteArray) (w : World) (hr : Kd.C Kd.string w A l.length l) (hc : l.length ≤ c) (hr2 : Kd.C Kd.string w B l.length l) (hd : l.length ≤ d) :
  Calls Tryd.prog 46 #[.slice A l.length c, .slice B l.length d] w fun e w' => e = .returned (.bool true) ∧ Drawn0 w w' := by
 have hmax : l.length ≤ 9223372036854775807 := hr.2.1
 have HR := Lib.hid hr
 have HR2 := Lib.hid hr2
 clear hr hr2
 go_enter Tryd.func46, Tryd.ntmps46
 go_wp2
 go_loopw [5] (fun i wr => ∃ k : Nat, k ≤ l.length ∧ i = .int .i64 k ∧ Hid (Drawn0 w wr)) (fun i _ => l.length - (intOf i).toNat)
 case atStart => exact ⟨0, Nat.zero_le _, rfl, Lib.hid (Drawn0.refl _)⟩
 case round =>
  obtain ⟨k, hk, rfl, HD⟩ := hrel
  by_cases hlt : k < l.length
  ·obtain ⟨y, hy⟩ : ∃ y, l[k]? = some y := ⟨_, List.getElem?_eq_getElem hlt⟩
   obtain ⟨ad, e, x0⟩ := str_at (Kd.C_below HR.out HD.out.below) hy
   obtain ⟨ad2, e2, x1⟩ := str_at (Kd.C_below HR2.out HD.out.below) hy
   cases e
   cases e2
   have hlt' : (k : Int) < (l.length : Int) := by omega
   have h0 : (0 : Int) ≤ (k : Int) := by omega
   clear hy
   go_upto_region 6 with (fail)
   go_quiet (fail)
   go_wp2
   go_roundw
   case measure => simp [intOf]; omega
   case rel => exact ⟨k + 1, by omega, by go_num, Lib.hid (Drawn0.step HD.out _)⟩
  ·obtain rfl : k = l.length := by omega
   go_wp2
   go_ret
   exact ⟨rfl, HD.out⟩
def Two (w : World) (a b : Array Value) (W : World) : Prop := W.heap[w.heap.size]? = some (.cells a 51 (0, 0)) ∧ W.heap[w.heap.size + 1]? = some (.cells b 51 (0, 0)) ∧ Below w.heap.size w W
theorem Two.step {w W W1 : World} {a b : Array Value} (h : Two w a b W) (hb : Below W.heap.size W W1) : Two w a b W1 := ⟨blk_below h.1 hb, blk_below h.2.1 hb, below_step h.2.2 hb⟩
set_option maxHeartbeats 8000000 in
set_option maxRecDepth 100000 in
theorem same_c (dn : ByteArray) (A B : Option Addr) (c d : Nat) (l : List S69) (w : World) (hr : Kd.C k69 w A l.length l) (hc : l.length ≤ c) (hr2 : Kd.C k69 w B l.length l) (hd : l.length ≤ d) :
  Calls Tryd.prog 41 #[.agg #[.string dn, .slice A l.length c], .agg #[.string dn, .slice B l.length d]] w fun e w' => e = .returned (.bool true) ∧ Below w.heap.size w w' := by
 have hmax : l.length ≤ 9223372036854775807 := hr.2.1
 have HR := Lib.hid hr
 have HR2 := Lib.hid hr2
 clear hr hr2
 go_enter Tryd.func41, Tryd.ntmps41
 go_wp2
 go_loopw [5] (fun i wr => ∃ k : Nat, k ≤ l.length ∧ i = .int .i64 k ∧ Two w #[.string dn, .slice A l.length c] #[.string dn, .slice B l.length d] wr) (fun i _ => l.length - (intOf i).toNat)
 case atStart => exact ⟨0, Nat.zero_le _, rfl, blk_alloc (heap_alloc_new w _) _, by have := heap_alloc_new (w.alloc (.cells #[.string dn, .slice A l.length c] 51)) (.cells #[.string dn, .slice B l.length d] 51); simpa using this, below_alloc (below_alloc (Below.refl _ _) _) _⟩
 case round =>
  obtain ⟨k, hk, rfl, HW⟩ := hrel
  have e1 : wr.cell? ⟨w.heap.size, 1, none⟩ = some (.slice A l.length c) := blk_cell HW.1 1
  by_cases hlt : k < l.length
  ·obtain ⟨a, hy⟩ : ∃ r, l[k]? = some r := ⟨_, List.getElem?_eq_getElem hlt⟩
   obtain ⟨ad, Aa, ca, e, x0, x1, hl, hi⟩ := attr_at HR.out hy
   cases e
   obtain ⟨ad2, Ab, cb, e, y0, y1, hl2, hi2⟩ := attr_at HR2.out hy
   cases e
   have HC := Lib.hid (And.intro (And.intro x0 x1) (And.intro y0 y1))
   have HI := Lib.hid (And.intro hi hi2)
   have hlt' : (k : Int) < (l.length : Int) := by omega
   have h0 : (0 : Int) ≤ (k : Int) := by omega
   clear hy x0 x1 y0 y1 hi hi2
   go_upto_region 6 with (fail)
   clear e1
   refine sq_ (Two w #[.string dn, .slice (some ad) l.length c] #[.string dn, .slice (some ad2) l.length d]) [] [(0,0,some 27),(1,1,some 28),(0,2,some 29),(0,3,some 30),(0,4,some 31),(1,5,some 32),(0,6,some 33),(1,7,some 34),(0,8,some 35),(0,9,some 36),(0,10,some 37),(1,11,some 38),(0,12,some 39),(0,13,some 40),(0,14,some 41),(1,15,some 42),(0,16,some 43),(0,17,some 44),(0,18,some 45),(1,19,some 46),(0,20,some 47),(1,21,some 48),(0,22,some 49),(0,23,some 50),(0,24,some 51),(1,25,some 52),(2,26,some 53),(0,27,some 54),(0,28,some 55)] (by kernel_rfl) (by kernel_rfl) (HW.step (below_drew (Below.refl _ _))) (fun hS => ?_)
   clear HW
   generalize wr.drew = W at hS ⊢
   repeat (first
    | (refine sq0 rfl ?_ (fun _ _ _ _ h => h) ?_; (focus rfl); apply Exists.intro; constructor; (focus (intro w'; go_simp; with_reducible rfl)); (simp only [Act.put, List.setIfInBounds_toArray, List.set_cons_zero, List.set_cons_succ]))
    | (refine sq1 rfl ?_ (fun _ _ _ _ h => h) hS ?_; (focus rfl); apply Exists.intro; constructor; (focus (intro w' hS'; have s1 : w'.cell? ⟨w.heap.size, 1, none⟩ = some (.slice (some ad) l.length c) := blk_cell hS'.1 1; have s2 : w'.cell? ⟨w.heap.size + 1, 1, none⟩ = some (.slice (some ad2) l.length d) := blk_cell hS'.2.1 1; have x0 := pw_cell_below hS'.2.2 HC.out.1.1; have x1 := pw_cell_below hS'.2.2 HC.out.1.2; have y0 := pw_cell_below hS'.2.2 HC.out.2.1; have y1 := pw_cell_below hS'.2.2 HC.out.2.2; go_simp; with_reducible rfl)); (simp only [Act.put, List.setIfInBounds_toArray, List.set_cons_zero, List.set_cons_succ]))
    | (refine sq_call rfl Tryd.func46 (by kernel_rfl) rfl #[.slice Aa a.f1.length ca, .slice Ab a.f1.length cb] rfl ?_ rfl ?_ ?_; (focus rfl); (focus ((try simp only [List.map_toArray, List.map_cons, List.map_nil]); first | done | rfl)); refine (texts_c Aa Ab ca cb a.f1 _ (Kd.C_below HI.out.1 hS.2.2) hl (Kd.C_below HI.out.2 hS.2.2) hl2).mono ?_; rintro e w2 ⟨rfl, hd2⟩; refine ⟨_, rfl, hS.step hd2.below, fun hS2 => ?_⟩; clear hd2 hS; have hS := hS2; clear hS2; (simp only [Act.put, List.setIfInBounds_toArray, List.set_cons_zero, List.set_cons_succ])))
   refine sq_end ?_
   go_wp2
   go_roundw
   case measure => simp [intOf]; omega
   case rel => exact ⟨k + 1, by omega, by go_num, hS⟩
  ·obtain rfl : k = l.length := by omega
   go_wp2
   go_ret
   exact ⟨rfl, HW.2.2⟩
end Go.Proofs.YtflkghdndffacaaDoor.C
namespace Go.Proofs.YtflkghdndffacaaDoor.C
open Go.RowKit Go.Proofs.YtflkghdndffacaaDoor.Sq Go.Proofs.YtflkghdndffacaaDoor.H Go.Proofs.YtflkghdndffacaaDoor.PA Go.Proofs.YtflkghdndffacaaDoor.Pure Go.Proofs.YtflkghdndffacaaDoorW.PrintWords Go.Proofs.YtflkghdndffacaaDoorW.PrintLast Go.Proofs.YtflkghdndffacaaDoorW.PrintMore
set_option linter.unusedVariables false
set_option linter.unusedSimpArgs false
theorem str_two {W : World} {g : Nat} {s t : ByteArray} (h : W.heap[g]? = some (.cells #[.string s, .string t] 9 (0, 0))) : Kd.C Kd.string W (some ⟨g, 0, none⟩) 2 [s, t] := by
 have hC : ∀ j p, ([s, t] : List ByteArray)[j]? = some p → W.cell? ((⟨g, 0, none⟩ : Addr).add j) = some (.string p) := by
  intro j p hj
  match j, hj with
  | 0, hj => cases hj; exact blk_cell h 0
  | 1, hj => cases hj; exact blk_cell h 1
 refine ⟨rfl, by decide, fun _ => ⟨⟨g, 0, none⟩, rfl, fun j p hj => ⟨[.string p], rfl, rfl, fun i u hu => ?_⟩⟩⟩
 match i, hu with
 | 0, hu =>
  rw [← Option.some.inj hu]
  have e : (⟨g, 0, none⟩ : Addr).add (j * 1 + 0) = (⟨g, 0, none⟩ : Addr).add j := by rw [Nat.mul_one, Nat.add_zero]
  exact (congrArg W.cell? e).trans (hC j p hj)
theorem names_may {d : ByteArray} (hd : d ∈ namesL) : (keyB d).2 = true ∧ d.toList.isEmpty = false := by
 have h : namesL.all (fun d => (keyB d).2 && !d.toList.isEmpty) = true := by decide +kernel
 have h1 := List.all_eq_true.1 h d hd
 rw [Bool.and_eq_true] at h1
 exact ⟨h1.1, by simpa using h1.2⟩
theorem types_may {s : ByteArray} (hs : s ∈ typesL) : typeBad s = false ∧ s.size ≤ 100 := by
 have h : typesL.all (fun s => !typeBad s && decide (s.size ≤ 100)) = true := by decide +kernel
 have h1 := List.all_eq_true.1 h s hs
 rw [Bool.and_eq_true, decide_eq_true_eq] at h1
 exact ⟨by simpa using h1.1, h1.2⟩
theorem key_nil2 : (keyB ⟨#[]⟩).2 = true := by decide +kernel
theorem made_may {r : S54} (h : MadeR r) : mayRB r = true := by
 obtain ⟨⟨h1, h2⟩, h4, h5, ht, hl, hs, h6, h7⟩ := h
 have hw : whoOk r = true := by
  unfold whoOk
  by_cases e : r.f0 = 4
  ·have h := names_may (h4 e)
   rw [if_neg (by omega), if_pos e, h.1, h.2]
   rfl
  ·rw [if_pos (by omega), h5 e]
   decide +kernel
 have hk : (keyB r.f2).2 = true := by
  rcases ht with e | e
  ·rw [e]; exact key_nil2
  ·exact (names_may e).1
 have ha : r.f4.any typeBad = false := by
  rw [List.any_eq_false]
  intro s hs'
  rw [(types_may (hs s hs')).1]
  simp
 unfold mayRB
 rw [hw, hk, ha]
 simp
 omega
theorem made_all {l : List S54} (h : ∀ r ∈ l, MadeR r) (hl : l.length ≤ 10) : mayB1 l = true := by
 unfold mayB1
 have ha : (l.any fun r => !mayRB r) = false := by
  rw [List.any_eq_false]
  intro r hr
  rw [made_may (h r hr)]
  simp
 rw [ha]
 simp
 omega
theorem made_mod {l : List S54} (h : ∀ r ∈ l, MadeR r) : RulesMod l := by
 intro r hr
 obtain ⟨_, h4, h5, h2, _⟩ := h r hr
 refine ⟨?_, ?_⟩
 ·by_cases e : r.f0 = 4
  ·exact names_small (h4 e)
  ·rw [h5 e]; decide
 ·rcases h2 with e | e
  ·rw [e]; decide
  ·exact names_small e
theorem made_fine {l : List S54} (h : ∀ r ∈ l, MadeR r) : ∀ r ∈ l, RuleFine r := by
 intro r hr
 obtain ⟨_, _, _, _, _, hs, _⟩ := h r hr
 have := made_mod h r hr
 exact ⟨by omega, by omega, fun s h => by have := (types_may (hs s h)).2; omega⟩
theorem made_right {l : List S54} (h : ∀ r ∈ l, MadeR r) (who key typ : ByteArray) : 0 ≤ rightB l who key typ ∧ rightB l who key typ ≤ 2 := by
 unfold rightB
 cases e : l.find? fun r => speaksB r who key typ with
 | none => exact ⟨by decide, by decide⟩
 | some r =>
  obtain ⟨_, _, _, _, _, _, h6, h7⟩ := h r (List.mem_of_find?_eq_some e)
  exact ⟨h6, h7⟩
theorem made_gate {l : List S54} (h : ∀ r ∈ l, MadeR r) (who key : ByteArray) (ts : List ByteArray) : rgateB l who key ts = gateB l who key ts := by
 unfold rgateB gateB
 congr 1
 funext t
 have := made_right h who key t
 rw [Bool.eq_iff_iff]
 simp
 omega
def TM : Bool × List (List Nat × List Nat) := (true, [([], []), ([0], [0]), ([1, 1], [1]), ([2], [2]), ([2], [2]), ([2], [2]), ([2], [2]), ([3, 4, 5, 6, 2, 2], [2, 3, 4, 5, 6]), ([2], [2]), ([2], [2]), ([2], [2]), ([2], [2]), ([8, 9, 10, 11, 7, 2], [2, 8, 9, 10, 11]), ([7, 12, 2], [2, 7, 12]), ([2, 13], [2, 13]), ([14, 12], [14]), ([15], [15]), ([15], [15]), ([15], [15]), ([16, 17, 18, 15, 15], [15, 16, 17, 18]), ([15], [15]), ([15], [15]), ([15], [15]), ([20, 21, 22, 19, 15], [15, 20, 21, 22]), ([19, 23, 23, 15], [15, 19, 23]), ([15, 24], [15, 24]), ([25, 24], [25]), ([26], [26]), ([26], [26]), ([26], [26]), ([26], [26]), ([30, 26], [26, 30]), ([27, 28, 29, 31, 26, 26], [26, 27, 28, 29, 31]), ([26], [26]), ([26], [26]), ([26], [26]), ([26], [26]), ([36, 26], [26, 36]), ([33, 34, 35, 37, 32, 26], [26, 33, 34, 35, 37]), ([32, 38, 26], [26, 32, 38]), ([26, 39], [26, 39]), ([40, 38], [40]), ([41, 41], [41]), ([41, 42], [41, 42]), ([43, 42, 0, 1, 2, 3, 4, 5, 6, 7, 8, 9, 10, 11, 12, 13, 14, 15, 16, 17, 18, 19, 20, 21, 22, 23, 24, 25, 26, 27, 28, 29, 30, 31, 32, 33, 34, 35, 36, 37, 38, 39, 40, 41, 42, 43], [43])])
abbrev LM (b31 b32 b37 b38 b42 : Bool) : List Bool := [true, true, true, true, true, true, true, true, true, true, true, true, true, true, true, true, true, true, true, true, true, true, true, true, true, true, true, true, true, true, true, b31, b32, true, true, true, true, b37, b38, b38, b38, b38, b42, b42, b42]
set_option synthInstance.maxHeartbeats 2000000 in
set_option synthInstance.maxSize 100000 in
theorem readyM : ∀ b31 b32 b37 b38 b42 : Bool, ∀ i : Fin 45, readyAt TM.2 (LM b31 b32 b37 b38 b42) i.val = true → (i.val = 31 ∧ b31 = false) ∨ (i.val = 37 ∧ b37 = false) ∨ (i.val = 32 ∧ b31 = true ∧ b32 = false) ∨ (i.val = 38 ∧ b37 = true ∧ b32 = true ∧ b38 = false) ∨ (i.val = 42 ∧ b38 = true ∧ b42 = false) := by decide +kernel
set_option synthInstance.maxHeartbeats 2000000 in
set_option synthInstance.maxSize 100000 in
theorem doneM : ∀ b31 b32 b37 b38 b42 : Bool, readyT TM.2 (LM b31 b32 b37 b38 b42) = [] → b31 = true ∧ b32 = true ∧ b37 = true ∧ b38 = true ∧ b42 = true := by decide +kernel
def FM (wA : World) (s t : ByteArray) (G : Bool) (b31 b32 b37 b38 b42 : Bool) (v65 v66 v71 v75 v8 : Value) (W : World) : Prop :=
 Below wA.heap.size wA W ∧ (b31 = true → ∃ g, v65 = .slice (some ⟨g, 0, none⟩) 2 2 ∧ W.heap[g]? = some (.cells #[.string s, .string t] 9 (0, 0))) ∧ (b37 = true → ∃ g, v71 = .slice (some ⟨g, 0, none⟩) 2 2 ∧ W.heap[g]? = some (.cells #[.string s, .string t] 9 (0, 0))) ∧
  (b32 = true → v66 = .bool G) ∧ (b38 = true → v75 = .bool true) ∧ (b42 = true → v8 = .bool true)
theorem FM.step {wA W W1 : World} {s t : ByteArray} {G b31 b32 b37 b38 b42 : Bool} {v65 v66 v71 v75 v8 : Value} (h : FM wA s t G b31 b32 b37 b38 b42 v65 v66 v71 v75 v8 W) (hb : Below W.heap.size W W1) : FM wA s t G b31 b32 b37 b38 b42 v65 v66 v71 v75 v8 W1 :=
 ⟨below_step h.1 hb, fun e => by obtain ⟨g, h1, h2⟩ := h.2.1 e; exact ⟨g, h1, blk_below h2 hb⟩, fun e => by obtain ⟨g, h1, h2⟩ := h.2.2.1 e; exact ⟨g, h1, blk_below h2 hb⟩, h.2.2.2⟩
def IM (wA : World) (s t : ByteArray) (G : Bool) (a0 : Act) (l : List Bool) (act : Act) (W : World) : Prop :=
 ∃ (b31 b32 b37 b38 b42 : Bool) (v65 v66 v71 v72 v73 v74 v75 v76 v77 v8 : Value), l = LM b31 b32 b37 b38 b42 ∧ act = (((((((((a0.put (some 65) v65).put (some 66) v66).put (some 71) v71).put (some 72) v72).put (some 73) v73).put (some 74) v74).put (some 75) v75).put (some 76) v76).put (some 77) v77).put (some 8) v8 ∧ (b32 = true → b31 = true) ∧ (b38 = true → b37 = true ∧ b32 = true) ∧ (b42 = true → b38 = true) ∧ FM wA s t G b31 b32 b37 b38 b42 v65 v66 v71 v75 v8 W
theorem IM.start {wA W : World} {s t : ByteArray} {G : Bool} (a0 : Act) (h : Below wA.heap.size wA W) : IM wA s t G a0 (LM false false false false false) a0 W :=
 ⟨false, false, false, false, false, a0.tmps.getD 65 undef, a0.tmps.getD 66 undef, a0.tmps.getD 71 undef, a0.tmps.getD 72 undef, a0.tmps.getD 73 undef, a0.tmps.getD 74 undef, a0.tmps.getD 75 undef, a0.tmps.getD 76 undef, a0.tmps.getD 77 undef, a0.tmps.getD 8 undef, rfl, by simp only [put_self], fun h => Bool.noConfusion h, fun h => Bool.noConfusion h, fun h => Bool.noConfusion h, h, fun h => Bool.noConfusion h, fun h => Bool.noConfusion h, fun h => Bool.noConfusion h, fun h => Bool.noConfusion h, fun h => Bool.noConfusion h⟩
theorem okM38 : okK TM [(0,39,some 73),(0,40,some 74),(0,41,some 75)] ((LM true true true false false).set 38 true) = true := by decide +kernel
theorem okM42 : okK TM [(0,43,some 77),(0,44,some 8)] ((LM true true true true false).set 42 true) = true := by decide +kernel
def sixL : List ByteArray := [⟨#[99, 110]⟩, ⟨#[83, 78]⟩, ⟨#[100, 101, 115, 99, 114, 105, 112, 116, 105, 111, 110]⟩, ⟨#[117, 115, 101, 114, 80, 97, 115, 115, 119, 111, 114, 100]⟩, ⟨#[101, 110, 116, 114, 121]⟩, ⟨#[110, 111, 110, 101]⟩]
theorem six_size {t : ByteArray} (h : t ∈ sixL) : t.size ≤ 100 := by
 have h1 := List.all_eq_true.1 (show sixL.all (fun t => decide (t.size ≤ 100)) = true by decide +kernel) t h
 simpa using h1
set_option maxHeartbeats 8000000 in
set_option maxRecDepth 100000 in
theorem made_c (i n who : Int) (ns : List Int) (As : Option Addr) (cs : Nat) (hi0 : 0 ≤ i) (hi1 : i ≤ 255) (hn0 : 0 ≤ n) (hn1 : n ≤ 255) (hw0 : 0 ≤ who) (hw1 : who ≤ 255) (w : World) (hr : Kd.C (Kd.int .u8) w As ns.length ns) (hc : ns.length ≤ cs) (hn : ∀ n ∈ ns, 0 ≤ n ∧ n ≤ 255) (hl : ns.length ≤ 140737488351232) :
  Calls Tryd.prog 13 #[.slice As ns.length cs, .int .u8 i, .int .u8 n, .int .u8 who] w fun e w' => e = .returned (.bool true) ∧ Below w.heap.size w w' := by
 have HR := Lib.hid hr
 have HN := Lib.hid hn
 clear hr hn
 have qi : IntKind.i64.wrap i = i := by rw [i64_w]; unfold wrap64; omega
 have hs := names_small (nm_mem hi0)
 go_enter Tryd.func13, Tryd.ntmps13
 go_wp2_with fail
 refine (make_c As cs ns _ HR.out hc HN.out hl).mono ?_
 rintro e w1 ⟨xs, v, rfl, hx, hm, hRx, hb1⟩
 obtain ⟨Ar, cr, rfl, hcr, hCr⟩ := Kd.R_reads hRx
 have HM := Lib.hid hm
 have HX := Lib.hid hx
 have HCr := Lib.hid hCr
 have HB1 := Lib.hid hb1
 clear hRx hCr hm hb1 hx HR HN hc hl
 go_wp2_with fail
 refine (entry_c i n hi0 hi1 hn0 hn1 _).mono ?_
 rintro e w2 ⟨l, hl3, hp, ha, A, c, rfl, hcc, hC1, hb2⟩
 have HAt := Lib.hid ha
 have HC1 := Lib.hid hC1
 have HB2 := Lib.hid hb2
 clear hl3 hp ha hC1 hb2 qi
 generalize nm i = d at *
 go_upto_if 20 with (fail)
 have HE : Hid (Env [(w2.heap.size, #[.string d, .slice A l.length c], 51)] w2 (w2.alloc (.cells #[.string d, .slice A l.length c] 51))) := Lib.hid ((Env.nil w2 w2 (Below.refl _ _)).alloc #[.string d, .slice A l.length c] 51)
 go_cut [11] (fun v11 wc => ∃ wh : ByteArray, v11 = .string wh ∧ Hid (Env [(w2.heap.size, #[.string d, .slice A l.length c], 51)] w2 wc))
 case first =>
  by_cases h200 : who < 200
  ·have h2 : decide (who < 200) = true := by simpa using h200
   obtain ⟨j, hj, hij, hnj⟩ := nm_some hw0
   have HNJ := Lib.hid hnj
   have hsw := names_small (nm_mem hw0)
   obtain ⟨k1, k2, hk⟩ := key_pair (nm who)
   have HK := Lib.hid (rkey_v hk hsw)
   have hf45 := field45_0
   clear hnj hk
   go_wp2_with fail
   refine (names_c _).mono ?_
   rintro e w3 ⟨v, rfl, hR, hb⟩
   obtain ⟨An, cn, rfl, hcn, hC⟩ := Kd.R_reads hR
   obtain ⟨adn, e1, hcell⟩ := str_at hC HNJ.out
   cases e1
   have hll : namesL.length = 12 := rfl
   have hj1 : (j : Int) < 12 := by omega
   have hj2 : (0 : Int) ≤ (j : Int) := by omega
   clear hR hC
   rw [hll] at hcn ⊢
   have HE1 := Lib.hid (HE.out.step hb)
   clear hb HE
   go_wp2_with fail
   refine (HK.out _).mono ?_
   rintro e w4 ⟨rfl, hb⟩
   have HE := Lib.hid (HE1.out.step hb)
   clear hb HE1
   go_wp2
   go_meet
   case rel => exact ⟨_, rfl, HE⟩
  ·have h2 : decide (who < 200) = false := by simpa using h200
   go_wp2
   go_meet
   case rel => exact ⟨_, rfl, HE⟩
 case rest =>
  obtain ⟨wh, rfl, HE⟩ := hcut
  obtain ⟨m, hm⟩ : ∃ m : Nat, (who / 12) % 6 = (m : Int) := ⟨((who / 12) % 6).toNat, by omega⟩
  have hm6 : (m : Int) < 6 := by omega
  have hm0 : (0 : Int) ≤ (m : Int) := by omega
  have hm7 : m < 6 := by omega
  have qw0 : 0 ≤ who / 12 := by omega
  have qw : IntKind.u8.wrap (who.tdiv 12) = who / 12 := by rw [Int.tdiv_eq_ediv_of_nonneg hw0]; show (who / 12) % 256 = who / 12; omega
  have qt : (who / 12).tmod 6 = (m : Int) := by rw [Int.tmod_eq_emod_of_nonneg qw0, hm]
  obtain ⟨t, ht1, ht2⟩ : ∃ t, t ∈ sixL ∧ (#[.string ⟨#[99, 110]⟩, .string ⟨#[83, 78]⟩, .string ⟨#[100, 101, 115, 99, 114, 105, 112, 116, 105, 111, 110]⟩, .string ⟨#[117, 115, 101, 114, 80, 97, 115, 115, 119, 111, 114, 100]⟩, .string ⟨#[101, 110, 116, 114, 121]⟩, .string ⟨#[110, 111, 110, 101]⟩] : Array Value)[m]? = some (.string t) := by
   refine ⟨sixL.getD m ⟨#[]⟩, ?_, ?_⟩
   ·rw [List.getD_eq_getElem?_getD, List.getElem?_eq_getElem (show m < sixL.length from hm7)]
    exact List.getElem_mem _
   ·match m, hm7 with
    | 0, _ => rfl
    | 1, _ => rfl
    | 2, _ => rfl
    | 3, _ => rfl
    | 4, _ => rfl
    | 5, _ => rfl
  have hts := six_size ht1
  have hcm : (wc.alloc (.cells #[.string ⟨#[99, 110]⟩, .string ⟨#[83, 78]⟩, .string ⟨#[100, 101, 115, 99, 114, 105, 112, 116, 105, 111, 110]⟩, .string ⟨#[117, 115, 101, 114, 80, 97, 115, 115, 119, 111, 114, 100]⟩, .string ⟨#[101, 110, 116, 114, 121]⟩, .string ⟨#[110, 111, 110, 101]⟩] 9)).cell? ⟨wc.heap.size, m, none⟩ = some (.string t) := (blk_cell (heap_alloc_new wc _) m).trans ht2
  clear ht2
  go_upto_region 7 with (fail)
  have HEA : Hid (Env [(w2.heap.size, #[.string d, .slice A l.length c], 51)] w2 (wc.alloc (.cells #[.string ⟨#[99, 110]⟩, .string ⟨#[83, 78]⟩, .string ⟨#[100, 101, 115, 99, 114, 105, 112, 116, 105, 111, 110]⟩, .string ⟨#[117, 115, 101, 114, 80, 97, 115, 115, 119, 111, 114, 100]⟩, .string ⟨#[101, 110, 116, 114, 121]⟩, .string ⟨#[110, 111, 110, 101]⟩] 9))) := Lib.hid (HE.out.step (below_alloc (Below.refl _ _) _))
  clear HE
  generalize wc.alloc (.cells #[.string ⟨#[99, 110]⟩, .string ⟨#[83, 78]⟩, .string ⟨#[100, 101, 115, 99, 114, 105, 112, 116, 105, 111, 110]⟩, .string ⟨#[117, 115, 101, 114, 80, 97, 115, 115, 119, 111, 114, 100]⟩, .string ⟨#[101, 110, 116, 114, 121]⟩, .string ⟨#[110, 111, 110, 101]⟩] 9) = wA at HEA ⊢
  clear hcm qw0 qw qt hm6 hm0 hm hm7
  have HGt : Hid (TypesOk [⟨#[99, 110]⟩, t]) := Lib.hid (by
   intro x hx
   rcases List.mem_cons.1 hx with rfl | hx
   ·show (2 : Nat) ≤ _; omega
   ·rw [List.mem_singleton] at hx; subst hx; omega)
  refine sj_ (fun W => Below wA.heap.size wA W) [] TM [(0,0,some 34),(2,1,some 35),(0,2,some 36),(0,3,some 37),(0,4,some 38),(1,5,some 39),(0,6,some 40),(0,8,some 42),(0,9,some 43),(1,10,some 44),(0,11,some 45),(2,7,some 41),(2,12,some 46),(0,13,some 47),(0,14,some 48),(0,15,some 49),(0,16,some 50),(0,17,some 51),(1,18,some 52),(0,20,some 54),(0,21,some 55),(1,22,some 56),(2,19,some 53),(2,23,some 57),(2,24,some 58),(0,25,some 59),(0,26,some 60),(0,27,some 61),(0,28,some 62),(1,29,some 63),(0,30,some 64),(0,33,some 67),(0,34,some 68),(1,35,some 69),(0,36,some 70)] (LM false false false false false) (by kernel_rfl) (by kernel_rfl) (by kernel_rfl) (by kernel_rfl) (below_drew (Below.refl _ _)) (fun hS => ?_)
  generalize wA.drew = W at hS ⊢
  (repeat (first
    | (refine sj0 rfl ?_ (fun _ _ _ _ h => h) ?_; (focus rfl); apply Exists.intro; constructor; (focus (intro w'; go_simp; with_reducible rfl)); (simp only [Act.put, List.setIfInBounds_toArray, List.set_cons_zero, List.set_cons_succ]))
    | (refine sj1 rfl ?_ (fun _ _ _ _ h => h) hS ?_; (focus rfl); apply Exists.intro; constructor; (focus (intro w' hS'; have hE := HEA.out.step hS'; have x0 : w'.cell? ⟨w2.heap.size, 0, none⟩ = some (.string d) := blk_cell (hE.at 0 rfl) 0; have x1 : w'.cell? ⟨w2.heap.size, 1, none⟩ = some (.slice A l.length c) := blk_cell (hE.at 0 rfl) 1; clear hE; go_simp; with_reducible rfl)); (simp only [Act.put, List.setIfInBounds_toArray, List.set_cons_zero, List.set_cons_succ]))))
  refine sj_call rfl Tryd.func39 (by kernel_rfl) rfl #[.slice Ar xs.length cr] rfl ?_ rfl ?_ ?_
  focus rfl
  focus ((try simp only [List.map_toArray, List.map_cons, List.map_nil]); first | done | rfl)
  have hEc := HEA.out.step hS
  refine (may_c Ar cr xs _ (Kd.C_below (Kd.C_below HCr.out HB2.out) hEc.2) hcr (made_fine HM.out)).mono ?_
  rintro e w5 ⟨rfl, hb⟩
  rw [made_all HM.out HX.out]
  refine ⟨_, rfl, below_step hS hb, fun hS2 => ?_⟩
  clear hS hb hEc
  have hS := hS2
  clear hS2
  (simp only [Act.put, List.setIfInBounds_toArray, List.set_cons_zero, List.set_cons_succ])
  (repeat (first
    | (refine sj0 rfl ?_ (fun _ _ _ _ h => h) ?_; (focus rfl); apply Exists.intro; constructor; (focus (intro w'; go_simp; with_reducible rfl)); (simp only [Act.put, List.setIfInBounds_toArray, List.set_cons_zero, List.set_cons_succ]))
    | (refine sj1 rfl ?_ (fun _ _ _ _ h => h) hS ?_; (focus rfl); apply Exists.intro; constructor; (focus (intro w' hS'; have hE := HEA.out.step hS'; have x0 : w'.cell? ⟨w2.heap.size, 0, none⟩ = some (.string d) := blk_cell (hE.at 0 rfl) 0; have x1 : w'.cell? ⟨w2.heap.size, 1, none⟩ = some (.slice A l.length c) := blk_cell (hE.at 0 rfl) 1; clear hE; go_simp; with_reducible rfl)); (simp only [Act.put, List.setIfInBounds_toArray, List.set_cons_zero, List.set_cons_succ]))))
  refine sj_call rfl Tryd.func35 (by kernel_rfl) rfl #[.slice Ar xs.length cr, .string wh, .agg #[.string d, .slice A l.length c], .string t] rfl ?_ rfl ?_ ?_
  focus rfl
  focus ((try simp only [List.map_toArray, List.map_cons, List.map_nil]); first | done | rfl)
  have hEc := HEA.out.step hS
  refine (right_c xs Ar cr wh d t (.slice A l.length c) _ (Kd.C_below (Kd.C_below HCr.out HB2.out) hEc.2) hcr (made_ok HM.out) (by omega) (by omega) rfl).mono ?_
  rintro e w6 ⟨rfl, hb⟩
  skip
  refine ⟨_, rfl, below_step hS hb, fun hS2 => ?_⟩
  clear hS hb hEc
  have hS := hS2
  clear hS2
  (simp only [Act.put, List.setIfInBounds_toArray, List.set_cons_zero, List.set_cons_succ])
  refine sj_call rfl Tryd.func40 (by kernel_rfl) rfl #[.slice Ar xs.length cr, .string wh, .agg #[.string d, .slice A l.length c], .string t] rfl ?_ rfl ?_ ?_
  focus rfl
  focus ((try simp only [List.map_toArray, List.map_cons, List.map_nil]); first | done | rfl)
  have hEc := HEA.out.step hS
  refine (rright_c xs Ar cr wh d t (.slice A l.length c) _ (Kd.C_below (Kd.C_below HCr.out HB2.out) hEc.2) hcr (made_mod HM.out) hs (by omega) rfl).mono ?_
  rintro e w7 ⟨rfl, hb⟩
  skip
  refine ⟨_, rfl, below_step hS hb, fun hS2 => ?_⟩
  clear hS hb hEc
  have hS := hS2
  clear hS2
  (simp only [Act.put, List.setIfInBounds_toArray, List.set_cons_zero, List.set_cons_succ])
  generalize rightB xs wh (keyB d).1 t = R
  (repeat (first
    | (refine sj0 rfl ?_ (fun _ _ _ _ h => h) ?_; (focus rfl); apply Exists.intro; constructor; (focus (intro w'; go_simp; with_reducible rfl)); (simp only [Act.put, List.setIfInBounds_toArray, List.set_cons_zero, List.set_cons_succ]))
    | (refine sj1 rfl ?_ (fun _ _ _ _ h => h) hS ?_; (focus rfl); apply Exists.intro; constructor; (focus (intro w' hS'; have hE := HEA.out.step hS'; have x0 : w'.cell? ⟨w2.heap.size, 0, none⟩ = some (.string d) := blk_cell (hE.at 0 rfl) 0; have x1 : w'.cell? ⟨w2.heap.size, 1, none⟩ = some (.slice A l.length c) := blk_cell (hE.at 0 rfl) 1; clear hE; go_simp; with_reducible rfl)); (simp only [Act.put, List.setIfInBounds_toArray, List.set_cons_zero, List.set_cons_succ]))))
  refine sj_call rfl Tryd.func42 (by kernel_rfl) rfl #[.slice Ar xs.length cr, .string wh, .agg #[.string d, .slice A l.length c]] rfl ?_ rfl ?_ ?_
  focus rfl
  focus ((try simp only [List.map_toArray, List.map_cons, List.map_nil]); first | done | rfl)
  have hEc := HEA.out.step hS
  refine (view_c xs Ar cr wh d l A c _ (Kd.C_below (Kd.C_below HCr.out HB2.out) hEc.2) hcr (made_ok HM.out) (by omega) (Kd.C_below HC1.out hEc.2) hcc HAt.out).mono ?_
  rintro e w8 ⟨Av, cv, rfl, hcv, hCv, hb⟩
  obtain ⟨wv, hwv⟩ : ∃ x, x = w8 := ⟨_, rfl⟩; rw [← hwv] at hCv; have HCv := Lib.hid hCv; have HWv : Hid (Below wv.heap.size wv w8) := Lib.hid (by rw [hwv]; exact Below.refl _ _); clear hCv hwv
  refine ⟨_, rfl, below_step hS hb, fun hS2 => ?_⟩
  clear hS hb hEc
  have hS := hS2
  clear hS2
  (simp only [Act.put, List.setIfInBounds_toArray, List.set_cons_zero, List.set_cons_succ])
  refine sj_call rfl Tryd.func43 (by kernel_rfl) rfl #[.slice Ar xs.length cr, .string wh, .agg #[.string d, .slice A l.length c]] rfl ?_ rfl ?_ ?_
  focus rfl
  focus ((try simp only [List.map_toArray, List.map_cons, List.map_nil]); first | done | rfl)
  have hEc := HEA.out.step hS
  refine (rview_c xs Ar cr wh d l A c _ (Kd.C_below (Kd.C_below HCr.out HB2.out) hEc.2) hcr (made_mod HM.out) hs (Kd.C_below HC1.out hEc.2) hcc HAt.out).mono ?_
  rintro e w9 ⟨Aq, cq, rfl, hcq, hCq, hb⟩
  have HCq := Lib.hid hCq; have HCv2 := Lib.hid (Kd.C_below (Kd.C_below HCv.out HWv.out) hb); clear hCq HCv HWv
  refine ⟨_, rfl, below_step hS hb, fun hS2 => ?_⟩
  clear hS hb hEc
  have hS := hS2
  clear hS2
  (simp only [Act.put, List.setIfInBounds_toArray, List.set_cons_zero, List.set_cons_succ])
  refine sj_call rfl Tryd.func41 (by kernel_rfl) rfl #[.agg #[.string d, .slice Av (viewB xs wh (keyB d).1 l).length cv], .agg #[.string d, .slice Aq (viewB xs wh (keyB d).1 l).length cq]] rfl ?_ rfl ?_ ?_
  focus rfl
  focus ((try simp only [List.map_toArray, List.map_cons, List.map_nil]); first | done | rfl)
  have hEc := HEA.out.step hS
  refine (same_c d Av Aq cv cq (viewB xs wh (keyB d).1 l) _ HCv2.out hcv HCq.out hcq).mono ?_
  rintro e w10 ⟨rfl, hb⟩
  clear HCv2 HCq
  refine ⟨_, rfl, below_step hS hb, fun hS2 => ?_⟩
  clear hS hb hEc
  have hS := hS2
  clear hS2
  (simp only [Act.put, List.setIfInBounds_toArray, List.set_cons_zero, List.set_cons_succ])
  (repeat (first
    | (refine sj0 rfl ?_ (fun _ _ _ _ h => h) ?_; (focus rfl); apply Exists.intro; constructor; (focus (intro w'; go_simp; with_reducible rfl)); (simp only [Act.put, List.setIfInBounds_toArray, List.set_cons_zero, List.set_cons_succ]))
    | (refine sj1 rfl ?_ (fun _ _ _ _ h => h) hS ?_; (focus rfl); apply Exists.intro; constructor; (focus (intro w' hS'; have hE := HEA.out.step hS'; have x0 : w'.cell? ⟨w2.heap.size, 0, none⟩ = some (.string d) := blk_cell (hE.at 0 rfl) 0; have x1 : w'.cell? ⟨w2.heap.size, 1, none⟩ = some (.slice A l.length c) := blk_cell (hE.at 0 rfl) 1; clear hE; go_simp; with_reducible rfl)); (simp only [Act.put, List.setIfInBounds_toArray, List.set_cons_zero, List.set_cons_succ]))))
  generalize hA : (Act.mk _ _) = a0
  refine iv_go (IM wA ⟨#[99, 110]⟩ t (gateB xs wh (keyB d).1 [⟨#[99, 110]⟩, t]) a0) (IM.start a0 hS) ?_ ?_
  ·rintro l' act W' ⟨b31, b32, b37, b38, b42, v65, v66, v71, v72, v73, v74, v75, v76, v77, v8, rfl, rfl, h1, h2, h3, hF⟩ hr
   obtain ⟨rfl, rfl, rfl, rfl, rfl⟩ := doneM b31 b32 b37 b38 b42 hr
   obtain rfl := hF.2.2.2.2.2 rfl
   subst hA
   (simp only [Act.put, List.setIfInBounds_toArray, List.set_cons_zero, List.set_cons_succ])
   go_wp2
   go_ret
   exact ⟨rfl, below_step HB1.out (below_step HB2.out (below_step HEA.out.2 hF.1))⟩
  ·rintro l' act W' i' ⟨b31, b32, b37, b38, b42, v65, v66, v71, v72, v73, v74, v75, v76, v77, v8, rfl, hact, h1, h2, h3, hF⟩ hi hra
   have hx := readyM b31 b32 b37 b38 b42 ⟨i', hi⟩ hra
   simp only at hx
   subst hA
   simp only [Act.put, List.setIfInBounds_toArray, List.set_cons_zero, List.set_cons_succ] at hact
   subst hact
   have hEc := HEA.out.step hF.1
   obtain ⟨rfl, rfl⟩ | ⟨rfl, rfl⟩ | ⟨rfl, rfl, rfl⟩ | ⟨rfl, rfl, rfl, rfl⟩ | ⟨rfl, rfl, rfl⟩ := hx
   ·have e1 : b32 = false := by cases b32; rfl; exact absurd (h1 rfl) (by simp)
    subst e1
    have e2 : b38 = false := by cases b38; rfl; exact absurd (h2 rfl).2 (by simp)
    subst e2
    have e3 : b42 = false := by cases b42; rfl; exact absurd (h3 rfl) (by simp)
    subst e3
    have hb := below_alloc (Below.refl W'.heap.size W') (.cells #[.string ⟨#[99, 110]⟩, .string t] 9)
    refine iv_value (n := some 65) [] (w1 := W'.alloc (.cells #[.string ⟨#[99, 110]⟩, .string t] 9)) (v := .slice (some ⟨W'.heap.size, 0, none⟩) 2 2) rfl rfl (by cases b37 <;> kernel_rfl) (by kernel_rfl) rfl ?_ (fun h => below_step h hb) ?_
    ·go_simp
    ·have hF2 := hF.step hb
     refine ⟨true, false, b37, false, false, .slice (some ⟨W'.heap.size, 0, none⟩) 2 2, v66, v71, v72, v73, v74, v75, v76, v77, v8, rfl, ?_, fun _ => rfl, h2, h3, hF2.1, fun _ => ⟨_, rfl, heap_alloc_new W' _⟩, hF2.2.2⟩
     (simp only [Act.put, List.setIfInBounds_toArray, List.set_cons_zero, List.set_cons_succ])
   ·have e2 : b38 = false := by cases b38; rfl; exact absurd (h2 rfl).1 (by simp)
    subst e2
    have e3 : b42 = false := by cases b42; rfl; exact absurd (h3 rfl) (by simp)
    subst e3
    have hb := below_alloc (Below.refl W'.heap.size W') (.cells #[.string ⟨#[99, 110]⟩, .string t] 9)
    refine iv_value (n := some 71) [] (w1 := W'.alloc (.cells #[.string ⟨#[99, 110]⟩, .string t] 9)) (v := .slice (some ⟨W'.heap.size, 0, none⟩) 2 2) rfl rfl (by cases b31 <;> cases b32 <;> kernel_rfl) (by kernel_rfl) rfl ?_ (fun h => below_step h hb) ?_
    ·go_simp
    ·have hF2 := hF.step hb
     refine ⟨b31, b32, true, false, false, v65, v66, .slice (some ⟨W'.heap.size, 0, none⟩) 2 2, v72, v73, v74, v75, v76, v77, v8, rfl, ?_, h1, fun h => Bool.noConfusion h, h3, hF2.1, hF2.2.1, fun _ => ⟨_, rfl, heap_alloc_new W' _⟩, hF2.2.2.2⟩
     (simp only [Act.put, List.setIfInBounds_toArray, List.set_cons_zero, List.set_cons_succ])
   ·have e2 : b38 = false := by cases b38; rfl; exact absurd (h2 rfl).2 (by simp)
    subst e2
    have e3 : b42 = false := by cases b42; rfl; exact absurd (h3 rfl) (by simp)
    subst e3
    obtain ⟨g, rfl, hg⟩ := hF.2.1 rfl
    refine iv_call (n := some 66) [] rfl rfl (by cases b37 <;> kernel_rfl) (by kernel_rfl) Tryd.func44 (by kernel_rfl) rfl #[.slice Ar xs.length cr, .string wh, .agg #[.string d, .slice A l.length c], .slice (some ⟨g, 0, none⟩) 2 2] rfl rfl ?_ ?_
    ·focus ((try simp only [List.map_toArray, List.map_cons, List.map_nil]); first | done | rfl)
    ·refine (gate_c xs Ar cr wh d (.slice A l.length c) [⟨#[99, 110]⟩, t] _ 2 _ (Kd.C_below (Kd.C_below HCr.out HB2.out) hEc.2) hcr (made_ok HM.out) (by omega) rfl (str_two hg) (Nat.le_refl _) HGt.out).mono ?_
     rintro e w11 ⟨rfl, hb⟩
     refine ⟨_, rfl, fun h => below_step h hb, ?_⟩
     have hF2 := hF.step hb
     refine ⟨true, true, b37, false, false, .slice (some ⟨g, 0, none⟩) 2 2, .bool (gateB xs wh (keyB d).1 [⟨#[99, 110]⟩, t]), v71, v72, v73, v74, v75, v76, v77, v8, rfl, ?_, fun _ => rfl, fun h => Bool.noConfusion h, h3, hF2.1, hF2.2.1, hF2.2.2.1, fun _ => rfl, hF2.2.2.2.2⟩
     (simp only [Act.put, List.setIfInBounds_toArray, List.set_cons_zero, List.set_cons_succ])
   ·have e3 : b42 = false := by cases b42; rfl; exact absurd (h3 rfl) (by simp)
    subst e3
    have e1 : b31 = true := h1 rfl
    subst e1
    obtain ⟨g, rfl, hg⟩ := hF.2.2.1 rfl
    obtain rfl := hF.2.2.2.1 rfl
    refine iv_call (n := some 72) [(0,39,some 73),(0,40,some 74),(0,41,some 75)] rfl rfl okM38 (by kernel_rfl) Tryd.func45 (by kernel_rfl) rfl #[.slice Ar xs.length cr, .string wh, .agg #[.string d, .slice A l.length c], .slice (some ⟨g, 0, none⟩) 2 2] rfl rfl ?_ ?_
    ·focus ((try simp only [List.map_toArray, List.map_cons, List.map_nil]); first | done | rfl)
    ·refine (rgate_c xs Ar cr wh d (.slice A l.length c) [⟨#[99, 110]⟩, t] _ 2 _ (Kd.C_below (Kd.C_below HCr.out HB2.out) hEc.2) hcr (made_mod HM.out) hs rfl (str_two hg) (Nat.le_refl _) HGt.out).mono ?_
     rintro e w11 ⟨rfl, hb⟩
     rw [made_gate HM.out]
     refine ⟨_, rfl, fun h => below_step h hb, ?_⟩
     have hF2 := hF.step hb
     generalize gateB xs wh (keyB d).1 [⟨#[99, 110]⟩, t] = G at hF2 ⊢
     (simp only [Act.put, List.setIfInBounds_toArray, List.set_cons_zero, List.set_cons_succ])
     refine sqk rfl rfl (fun _ _ _ _ h => h) ⟨.bool true, fun w' => by go_simp, ?_⟩
     (simp only [Act.put, List.setIfInBounds_toArray, List.set_cons_zero, List.set_cons_succ])
     refine sqk rfl rfl (fun _ _ _ _ h => h) ⟨.bool true, fun w' => by go_simp, ?_⟩
     (simp only [Act.put, List.setIfInBounds_toArray, List.set_cons_zero, List.set_cons_succ])
     refine sqk rfl rfl (fun _ _ _ _ h => h) ⟨.bool true, fun w' => by go_simp, ?_⟩
     (simp only [Act.put, List.setIfInBounds_toArray, List.set_cons_zero, List.set_cons_succ])
     refine ⟨true, true, true, true, false, v65, .bool G, .slice (some ⟨g, 0, none⟩) 2 2, .bool G, .bool true, .bool true, .bool true, v76, v77, v8, rfl, ?_, fun _ => rfl, fun _ => ⟨rfl, rfl⟩, fun h => Bool.noConfusion h, hF2.1, hF2.2.1, hF2.2.2.1, fun _ => rfl, fun _ => rfl, fun h => Bool.noConfusion h⟩
     (simp only [Act.put, List.setIfInBounds_toArray, List.set_cons_zero, List.set_cons_succ])
   ·have e2 := h2 rfl
    obtain ⟨e1, e0⟩ := e2
    subst e1
    subst e0
    have e4 : b31 = true := h1 rfl
    subst e4
    obtain rfl := hF.2.2.2.2.1 rfl
    refine iv_call (n := some 76) [(0,43,some 77),(0,44,some 8)] rfl rfl okM42 (by kernel_rfl) Tryd.func36 (by kernel_rfl) rfl #[] rfl rfl ?_ ?_
    ·focus ((try simp only [List.map_toArray, List.map_cons, List.map_nil]); first | done | rfl)
    ·refine (awake_c _).mono ?_
     rintro e w11 ⟨rfl, hb⟩
     refine ⟨_, rfl, fun h => below_step h hb, ?_⟩
     have hF2 := hF.step hb
     (simp only [Act.put, List.setIfInBounds_toArray, List.set_cons_zero, List.set_cons_succ])
     refine sqk rfl rfl (fun _ _ _ _ h => h) ⟨.bool true, fun w' => by go_simp, ?_⟩
     (simp only [Act.put, List.setIfInBounds_toArray, List.set_cons_zero, List.set_cons_succ])
     refine sqk rfl rfl (fun _ _ _ _ h => h) ⟨.bool true, fun w' => by go_simp, ?_⟩
     (simp only [Act.put, List.setIfInBounds_toArray, List.set_cons_zero, List.set_cons_succ])
     refine ⟨true, true, true, true, true, v65, v66, v71, v72, v73, v74, .bool true, .bool true, .bool true, .bool true, rfl, ?_, fun _ => rfl, fun _ => ⟨rfl, rfl⟩, fun _ => rfl, hF2.1, hF2.2.1, hF2.2.2.1, hF2.2.2.2.1, fun _ => rfl, fun _ => rfl⟩
     (simp only [Act.put, List.setIfInBounds_toArray, List.set_cons_zero, List.set_cons_succ])
end Go.Proofs.YtflkghdndffacaaDoor.C
namespace Go.Proofs.YtflkghdndffacaaDoor.C
open Go.RowKit Go.Proofs.YtflkghdndffacaaDoor.Sq Go.Proofs.YtflkghdndffacaaDoor.H Go.Proofs.YtflkghdndffacaaDoor.PA Go.Proofs.YtflkghdndffacaaDoor.Pure Go.Proofs.YtflkghdndffacaaDoorW.PrintWords Go.Proofs.YtflkghdndffacaaDoorW.PrintLast Go.Proofs.YtflkghdndffacaaDoorW.PrintMore
set_option linter.unusedVariables false
set_option linter.unusedSimpArgs false
theorem view_take {rules : List S54} {who key : ByteArray} {l : List S69} {j : Nat} {a : S69} (h : l[j]? = some a) (hs : seesB rules who key a = true) : (viewB rules who key l)[((l.take j).filter (seesB rules who key)).length]? = some a := by
 have hj : j < l.length := (List.getElem?_eq_some_iff.1 h).1
 have e : l = l.take j ++ a :: l.drop (j + 1) := by
  rw [← (List.getElem?_eq_some_iff.1 h).2, List.getElem_cons_drop, List.take_append_drop]
 have e2 : viewB rules who key l = (l.take j).filter (seesB rules who key) ++ a :: (l.drop (j + 1)).filter (seesB rules who key) := by
  unfold viewB
  rw [e, List.filter_append, List.filter_cons_of_pos hs, ← e]
 rw [e2, List.getElem?_append_right (Nat.le_refl _), Nat.sub_self]
 rfl
theorem take_more {l : List S69} {j : Nat} {a : S69} (h : l[j]? = some a) (p : S69 → Bool) : ((l.take (j + 1)).filter p).length = ((l.take j).filter p).length + (if p a = true then 1 else 0) := by
 rw [List.take_add_one, h, List.filter_append, List.length_append]
 cases hp : p a <;> simp [hp]
theorem gate_all {rules : List S54} {who key : ByteArray} {ts : List ByteArray} (h : ∀ t ∈ ts, rightB rules who key t = 2) : gateB rules who key ts = true := by
 unfold gateB
 rw [List.all_eq_true]
 intro t ht
 rw [h t ht]
 rfl
theorem gate_none (who key t : ByteArray) : gateB [] who key [t] = false := rfl
theorem gate_nil (who key : ByteArray) : gateB [] who key [] = true := rfl
set_option maxHeartbeats 8000000 in
set_option maxRecDepth 100000 in
theorem views_c (i n who : Int) (ns : List Int) (As : Option Addr) (cs : Nat) (hi0 : 0 ≤ i) (hi1 : i ≤ 255) (hn0 : 0 ≤ n) (hn1 : n ≤ 255) (hw0 : 0 ≤ who) (hw1 : who ≤ 255) (w : World) (hr : Kd.C (Kd.int .u8) w As ns.length ns) (hc : ns.length ≤ cs) (hn : ∀ n ∈ ns, 0 ≤ n ∧ n ≤ 255) (hl : ns.length ≤ 140737488351232) :
  Calls Tryd.prog 14 #[.slice As ns.length cs, .int .u8 i, .int .u8 n, .int .u8 who] w fun e w' => e = .returned (.bool true) ∧ Below w.heap.size w w' := by
 have HR := Lib.hid hr
 have HN := Lib.hid hn
 clear hr hn
 have qi : IntKind.i64.wrap i = i := by rw [i64_w]; unfold wrap64; omega
 have hs := names_small (nm_mem hi0)
 go_enter Tryd.func14, Tryd.ntmps14
 go_wp2_with fail
 refine (make_c As cs ns _ HR.out hc HN.out hl).mono ?_
 rintro e w1 ⟨xs, v, rfl, hx, hm, hRx, hb1⟩
 obtain ⟨Ar, cr, rfl, hcr, hCr⟩ := Kd.R_reads hRx
 have HM := Lib.hid hm
 have HCr := Lib.hid hCr
 have HB1 := Lib.hid hb1
 clear hRx hCr hm hb1 hx HR HN hc hl
 go_wp2_with fail
 refine (entry_c i n hi0 hi1 hn0 hn1 _).mono ?_
 rintro e w2 ⟨l, hl3, hp, ha, A, c, rfl, hcc, hC1, hb2⟩
 have HAt := Lib.hid ha
 have HC1 := Lib.hid hC1
 have HB2 := Lib.hid hb2
 clear hl3 hp ha hC1 hb2 qi
 generalize nm i = d at *
 have HE0 : Hid (Env [(w2.heap.size, #[.string d, .slice A l.length c], 51)] w2 (w2.alloc (.cells #[.string d, .slice A l.length c] 51))) := Lib.hid ((Env.nil w2 w2 (Below.refl _ _)).alloc #[.string d, .slice A l.length c] 51)
 obtain ⟨j0, hj, hij, hnj⟩ := nm_some hw0
 have HNJ := Lib.hid hnj
 have hsw := names_small (nm_mem hw0)
 obtain ⟨wh, k2, hk⟩ := key_pair (nm who)
 have HK := Lib.hid (rkey_v hk hsw)
 have hf45 := field45_0
 clear hnj hk
 go_wp2_with fail
 refine (names_c _).mono ?_
 rintro e w3 ⟨v, rfl, hR, hb⟩
 obtain ⟨An, cn, rfl, hcn, hC⟩ := Kd.R_reads hR
 obtain ⟨adn, e1, hcell⟩ := str_at hC HNJ.out
 cases e1
 have hll : namesL.length = 12 := rfl
 have hj1 : (j0 : Int) < 12 := by omega
 have hj2 : (0 : Int) ≤ (j0 : Int) := by omega
 clear hR hC
 rw [hll] at hcn ⊢
 have HE1 := Lib.hid (HE0.out.step hb)
 clear hb HE0
 go_wp2_with fail
 refine (HK.out _).mono ?_
 rintro e w4 ⟨rfl, hb⟩
 have HE2 := Lib.hid (HE1.out.step hb)
 have x0 : w4.cell? ⟨w2.heap.size, 0, none⟩ = some (.string d) := blk_cell (HE2.out.at 0 rfl) 0
 have x1 : w4.cell? ⟨w2.heap.size, 1, none⟩ = some (.slice A l.length c) := blk_cell (HE2.out.at 0 rfl) 1
 clear hb HE1 HK hij hj1 hj2 hcell hcn HNJ hll
 go_wp2_with fail
 refine (view_c xs Ar cr wh d l A c _ (Kd.C_below (Kd.C_below HCr.out HB2.out) HE2.out.2) hcr (made_ok HM.out) (by omega) (Kd.C_below HC1.out HE2.out.2) hcc HAt.out).mono ?_
 rintro e w5 ⟨Av, cv, rfl, hcv, hCv, hb⟩
 have HE3 := Lib.hid (HE2.out.step hb)
 have HEv : Hid (Env [(w2.heap.size, #[.string d, .slice A l.length c], 51), (w5.heap.size, #[.string d, .slice Av (viewB xs wh (keyB d).1 l).length cv], 51)] w2 (w5.alloc (.cells #[.string d, .slice Av (viewB xs wh (keyB d).1 l).length cv] 51))) := Lib.hid (HE3.out.alloc #[.string d, .slice Av (viewB xs wh (keyB d).1 l).length cv] 51)
 have HCv := Lib.hid (Kd.C_below hCv (below_alloc (Below.refl _ _) (.cells #[.string d, .slice Av (viewB xs wh (keyB d).1 l).length cv] 51)))
 clear x0 x1 HE2 hb hCv HE3 hf45
 go_wp2
 have HL2 : Hid (Env [(w2.heap.size, #[.string d, .slice A l.length c], 51), (w5.heap.size, #[.string d, .slice Av (viewB xs wh (keyB d).1 l).length cv], 51)] (w5.alloc (.cells #[.string d, .slice Av (viewB xs wh (keyB d).1 l).length cv] 51)) (w5.alloc (.cells #[.string d, .slice Av (viewB xs wh (keyB d).1 l).length cv] 51))) := Lib.hid ⟨HEv.out.1, Below.refl _ _⟩
 have HBv := Lib.hid HEv.out.2
 have hvl : (w5.alloc (.cells #[.string d, .slice Av (viewB xs wh (keyB d).1 l).length cv] 51)).heap.size = (w5.alloc (.cells #[.string d, .slice Av (viewB xs wh (keyB d).1 l).length cv] 51)).heap.size := rfl
 generalize hwv : w5.alloc (.cells #[.string d, .slice Av (viewB xs wh (keyB d).1 l).length cv] 51) = wv at HL2 HCv HBv ⊢
 generalize w5.heap.size = gv at HL2 ⊢
 clear HEv hwv hvl
 go_loopw [13, 14, 15] (fun v13 v14 v15 wl => ∃ (j : Nat) (tys : List ByteArray), j ≤ l.length ∧ v15 = .int .i64 j ∧ v13 = .int .i64 ((l.take j).filter (seesB xs wh (keyB d).1)).length ∧ Hid ((∀ t ∈ tys, rightB xs wh (keyB d).1 t = 2 ∧ t.size ≤ 1000000000) ∧ tys.length ≤ j) ∧ Hid (Kd.R Kd.string 9 wl wv.heap.size (fun _ => True) v14 tys ∧ Env [(w2.heap.size, #[.string d, .slice A l.length c], 51), (gv, #[.string d, .slice Av (viewB xs wh (keyB d).1 l).length cv], 51)] wv wl)) (fun _ _ v15 _ => l.length - (intOf v15).toNat)
 case atStart => exact ⟨0, [], Nat.zero_le _, rfl, rfl, Lib.hid ⟨fun t ht => (by cases ht), Nat.le_refl _⟩, Lib.hid ⟨Kd.R_nil _ _ _ _ _, HL2.out⟩⟩
 case round =>
  obtain ⟨j, tys, hjl, rfl, rfl, HT, HW⟩ := hrel
  obtain ⟨wo, rfl⟩ : ∃ wo : World, wo = wr := ⟨_, rfl⟩
  have hlen := HAt.out.1
  have x0 : wo.cell? ⟨w2.heap.size, 0, none⟩ = some (.string d) := blk_cell (HW.out.2.at 0 rfl) 0
  have x1 : wo.cell? ⟨w2.heap.size, 1, none⟩ = some (.slice A l.length c) := blk_cell (HW.out.2.at 0 rfl) 1
  by_cases hlt : j < l.length
  ·obtain ⟨a, hy⟩ : ∃ r, l[j]? = some r := ⟨_, List.getElem?_eq_getElem hlt⟩
   obtain ⟨m1, m2⟩ := HAt.out.2 a (List.mem_of_getElem? hy)
   have HY := Lib.hid hy
   obtain ⟨ad, Aa, ca, e, y0, y1, hl4, hi4⟩ := attr_at (Kd.C_below HC1.out HBv.out) hy
   cases e
   have HC := Lib.hid (And.intro y0 y1)
   have HI := Lib.hid hi4
   have hlt' : (j : Int) < (l.length : Int) := by omega
   have h0 : (0 : Int) ≤ (j : Int) := by omega
   clear hy y0 y1 hi4
   go_upto_region 10 with (fail)
   clear x0 x1
   go_cut [16] (fun v16 wc => v16 = .int .i64 (rightB xs wh (keyB d).1 a.f0) ∧ Hid (Below wo.heap.size wo wc))
   case first =>
    refine sq_ (fun W => Below wo.heap.size wo W) [] [(0,0,some 41),(0,1,some 42),(1,2,some 43),(0,3,some 44),(1,4,some 45),(0,5,some 46),(0,6,some 47),(0,7,some 48),(1,8,some 49),(2,9,some 50),(0,10,some 16)] (by kernel_rfl) (by kernel_rfl) (below_drew (Below.refl _ _)) (fun hS => ?_)
    generalize wo.drew = W at hS ⊢
    repeat (first
     | (refine sq0 rfl ?_ (fun _ _ _ _ h => h) ?_; (focus rfl); apply Exists.intro; constructor; (focus (intro w'; go_simp; with_reducible rfl)); (simp only [Act.put, List.setIfInBounds_toArray, List.set_cons_zero, List.set_cons_succ]))
     | (refine sq1 rfl ?_ (fun _ _ _ _ h => h) hS ?_; (focus rfl); apply Exists.intro; constructor; (focus (intro w' hS'; have hE := HW.out.2.step hS'; have x0 : w'.cell? ⟨w2.heap.size, 0, none⟩ = some (.string d) := blk_cell (hE.at 0 rfl) 0; have x1 : w'.cell? ⟨w2.heap.size, 1, none⟩ = some (.slice (some ad) l.length c) := blk_cell (hE.at 0 rfl) 1; obtain ⟨y0, y1⟩ := attr_in HC.out hE.2; clear hE; go_simp; with_reducible rfl)); (simp only [Act.put, List.setIfInBounds_toArray, List.set_cons_zero, List.set_cons_succ])))
    refine sq_call rfl Tryd.func35 (by kernel_rfl) rfl #[.slice Ar xs.length cr, .string wh, .agg #[.string d, .slice (some ad) l.length c], .string a.f0] rfl ?_ rfl ?_ ?_
    focus rfl
    focus ((try simp only [List.map_toArray, List.map_cons, List.map_nil]); first | done | rfl)
    refine (right_c xs Ar cr wh d a.f0 (.slice (some ad) l.length c) _ (Kd.C_below (Kd.C_below HCr.out HB2.out) (below_step HBv.out (HW.out.2.step hS).2)) hcr (made_ok HM.out) (by omega) (by omega) rfl).mono ?_
    rintro e w6 ⟨rfl, hb⟩
    refine ⟨_, rfl, below_step hS hb, fun hS2 => ?_⟩
    clear hS hb
    (simp only [Act.put, List.setIfInBounds_toArray, List.set_cons_zero, List.set_cons_succ])
    repeat (first
     | (refine sq0 rfl ?_ (fun _ _ _ _ h => h) ?_; (focus rfl); apply Exists.intro; constructor; (focus (intro w'; go_simp; with_reducible rfl)); (simp only [Act.put, List.setIfInBounds_toArray, List.set_cons_zero, List.set_cons_succ])))
    refine sq_end ?_
    go_wp2
    go_meet
    case rel => exact ⟨rfl, Lib.hid hS2⟩
   case rest =>
    obtain ⟨rfl, HS⟩ := hcut
    obtain ⟨hR0, hR2⟩ := made_right HM.out wh (keyB d).1 a.f0
    have hsee : seesB xs wh (keyB d).1 a = decide (1 ≤ rightB xs wh (keyB d).1 a.f0) := rfl
    have HSee := Lib.hid hsee
    have HRt : Hid (∀ h : 2 ≤ rightB xs wh (keyB d).1 a.f0, rightB xs wh (keyB d).1 a.f0 = 2) := Lib.hid (fun h => by omega)
    clear hsee
    generalize hRR : rightB xs wh (keyB d).1 a.f0 = R at hR0 hR2 HSee HRt ⊢
    have HRR := Lib.hid hRR
    clear hRR
    go_upto_if 52 with (fail)
    go_cut [14] (fun v14 wd => ∃ tys', Hid ((∀ t ∈ tys', rightB xs wh (keyB d).1 t = 2 ∧ t.size ≤ 1000000000) ∧ tys'.length ≤ j + 1) ∧ Hid (Kd.R Kd.string 9 wd wv.heap.size (fun _ => True) v14 tys' ∧ Env [(w2.heap.size, #[.string d, .slice (some ad) l.length c], 51), (gv, #[.string d, .slice Av (viewB xs wh (keyB d).1 l).length cv], 51)] wv wd))
    case first =>
     by_cases h2 : 2 ≤ R
     ·have h2' : decide (2 ≤ R) = true := by simpa using h2
      have hE := HW.out.2.step HS.out
      have x1 : wc.cell? ⟨w2.heap.size, 1, none⟩ = some (.slice (some ad) l.length c) := blk_cell (hE.at 0 rfl) 1
      obtain ⟨y0, y1⟩ := attr_in HC.out hE.2
      have HV := Lib.hid (Kd.R_below HW.out.1 HS.out)
      have HBB := Lib.hid hE.2
      obtain ⟨A4, k4, rfl⟩ := Kd.R_slice HV.out
      have HTl := Lib.hid HT.out.2
      have hT16 : (tys.length + 1) * 16 ≤ 140737488355328 := by have := HT.out.2; omega
      have HT16 := Lib.hid hT16
      clear hE y1 hT16
      go_wp2_with (at_builtin; refine Kd.R_append Kd.string (w0 := wv) (W := wc) wv.heap.size rfl (.tmp 53) (.tmp 60) 28 9 (.string ⟨#[]⟩) 16 rfl Tryd.underlying28 PA.info9 rfl (by decide) (by decide) (.slice A4 tys.length k4) tys a.f0 [.string a.f0] (fun _ => True) (fun _ => False) rfl rfl rfl (fun _ h => h.elim) (fun _ _ => trivial) HV.out HBB.out HBB.out.size HT16.out ?_; intro v1 w5 hR5 hB5 hg5 _)
      go_meet
      case rel => exact ⟨tys ++ [a.f0], Lib.hid ⟨fun t ht => by rcases List.mem_append.1 ht with h | h; exact HT.out.1 t h; rw [List.mem_singleton] at h; rw [h]; exact ⟨HRR.out.trans (HRt.out h2), m1⟩, by rw [List.length_append, List.length_singleton]; have := HT.out.2; omega⟩, Lib.hid ⟨hR5, HL2.out.step hB5⟩⟩
     ·have h2' : decide (2 ≤ R) = false := by simpa using h2
      go_wp2
      go_meet
      case rel => exact ⟨tys, Lib.hid ⟨HT.out.1, Nat.le_succ_of_le HT.out.2⟩, Lib.hid ⟨Kd.R_below HW.out.1 HS.out, HW.out.2.step HS.out⟩⟩
    case rest =>
     obtain ⟨tys', HT', HV'⟩ := hcut
     clear HW HS HT
     go_upto_if 63 with (fail)
     by_cases h1 : R < 1
     ·have h1' : decide (R < 1) = true := by simpa using h1
      have hs0 : seesB xs wh (keyB d).1 a = false := by rw [HSee.out]; simp; omega
      have HS0 := Lib.hid hs0
      clear hs0
      go_wp2
      go_roundw
      case measure => simp [intOf]; omega
      case rel => exact ⟨j + 1, tys', by omega, by go_num, by rw [take_more HY.out, HS0.out]; rfl, HT', HV'⟩
     ·have h1' : decide (R < 1) = false := by simpa using h1
      have hs1 : seesB xs wh (keyB d).1 a = true := by rw [HSee.out]; simp; omega
      have HS1 := Lib.hid hs1
      have hvk := view_take HY.out hs1
      have hkl : ((l.take j).filter (seesB xs wh (keyB d).1)).length < (viewB xs wh (keyB d).1 l).length := (List.getElem?_eq_some_iff.1 hvk).1
      have hkk : ((l.take j).filter (seesB xs wh (keyB d).1)).length ≤ j := Nat.le_trans (List.length_filter_le _ _) (List.length_take_le _ _)
      have HTM := Lib.hid (take_more HY.out (seesB xs wh (keyB d).1))
      obtain ⟨av, Aw, cw, e, u0, u1, hl5, hi5⟩ := attr_at HCv.out hvk
      cases e
      have HCw := Lib.hid (And.intro u0 u1)
      have HIw := Lib.hid hi5
      clear hs1 hvk u0 u1 hi5
      generalize ((l.take j).filter (seesB xs wh (keyB d).1)).length = k at *
      generalize hvl : (viewB xs wh (keyB d).1 l).length = nv at *
      have hkl' : (k : Int) < (nv : Int) := by omega
      have hkn : ((nv : Int) ≤ (k : Int)) = False := by simp; omega
      have k0 : (0 : Int) ≤ (k : Int) := by omega
      go_upto_region 14 with (fail)
      go_cut [99] (fun v99 we => v99 = .bool false ∧ Hid (Below wc.heap.size wc we))
      case first =>
       refine sq_ (fun W => Below wc.heap.size wc W) [] [(0,0,some 64),(0,1,some 65),(1,2,some 66),(0,3,some 67),(0,4,some 68),(0,5,some 69),(0,6,some 70),(1,7,some 71),(0,8,some 72),(0,9,some 73),(0,10,some 74),(1,11,some 75),(0,12,some 76),(1,13,some 77),(0,14,some 78),(0,15,some 79),(0,16,some 80),(1,17,some 81),(0,18,some 82),(0,19,some 83),(0,20,some 84),(0,21,some 85),(1,22,some 86),(0,23,some 87),(0,24,some 88),(0,25,some 89),(1,26,some 90),(0,27,some 91),(1,28,some 92),(0,29,some 93),(0,30,some 94),(0,31,some 95),(1,32,some 96),(2,33,some 97),(0,34,some 98),(0,35,some 99)] (by kernel_rfl) (by kernel_rfl) (below_drew (Below.refl _ _)) (fun hS => ?_)
       generalize wc.drew = W at hS ⊢
       iterate 2 (refine sq0 rfl ?_ (fun _ _ _ _ h => h) ?_; (focus rfl); apply Exists.intro; constructor; (focus (intro w'; go_simp; with_reducible rfl)); (simp only [Act.put, List.setIfInBounds_toArray, List.set_cons_zero, List.set_cons_succ]))
       (refine sq1 rfl ?_ (fun _ _ _ _ h => h) hS ?_; (focus rfl); apply Exists.intro; constructor; (focus (intro w' hS'; have hE := HV'.out.2.step hS'; have x1 : w'.cell? ⟨w2.heap.size, 1, none⟩ = some (.slice (some ad) l.length c) := blk_cell (hE.at 0 rfl) 1; have v1 : w'.cell? ⟨gv, 1, none⟩ = some (.slice (some av) nv cv) := blk_cell (hE.at 1 rfl) 1; obtain ⟨y0, y1⟩ := attr_in HC.out hE.2; obtain ⟨u0, u1⟩ := attr_in HCw.out hE.2; clear hE; go_simp; with_reducible rfl)); (simp only [Act.put, List.setIfInBounds_toArray, List.set_cons_zero, List.set_cons_succ]))
       iterate 4 (refine sq0 rfl ?_ (fun _ _ _ _ h => h) ?_; (focus rfl); apply Exists.intro; constructor; (focus (intro w'; go_simp; with_reducible rfl)); (simp only [Act.put, List.setIfInBounds_toArray, List.set_cons_zero, List.set_cons_succ]))
       (refine sq1 rfl ?_ (fun _ _ _ _ h => h) hS ?_; (focus rfl); apply Exists.intro; constructor; (focus (intro w' hS'; have hE := HV'.out.2.step hS'; have x1 : w'.cell? ⟨w2.heap.size, 1, none⟩ = some (.slice (some ad) l.length c) := blk_cell (hE.at 0 rfl) 1; have v1 : w'.cell? ⟨gv, 1, none⟩ = some (.slice (some av) nv cv) := blk_cell (hE.at 1 rfl) 1; obtain ⟨y0, y1⟩ := attr_in HC.out hE.2; obtain ⟨u0, u1⟩ := attr_in HCw.out hE.2; clear hE; go_simp; with_reducible rfl)); (simp only [Act.put, List.setIfInBounds_toArray, List.set_cons_zero, List.set_cons_succ]))
       iterate 3 (refine sq0 rfl ?_ (fun _ _ _ _ h => h) ?_; (focus rfl); apply Exists.intro; constructor; (focus (intro w'; go_simp; with_reducible rfl)); (simp only [Act.put, List.setIfInBounds_toArray, List.set_cons_zero, List.set_cons_succ]))
       (refine sq1 rfl ?_ (fun _ _ _ _ h => h) hS ?_; (focus rfl); apply Exists.intro; constructor; (focus (intro w' hS'; have hE := HV'.out.2.step hS'; have x1 : w'.cell? ⟨w2.heap.size, 1, none⟩ = some (.slice (some ad) l.length c) := blk_cell (hE.at 0 rfl) 1; have v1 : w'.cell? ⟨gv, 1, none⟩ = some (.slice (some av) nv cv) := blk_cell (hE.at 1 rfl) 1; obtain ⟨y0, y1⟩ := attr_in HC.out hE.2; obtain ⟨u0, u1⟩ := attr_in HCw.out hE.2; clear hE; go_simp; with_reducible rfl)); (simp only [Act.put, List.setIfInBounds_toArray, List.set_cons_zero, List.set_cons_succ]))
       iterate 1 (refine sq0 rfl ?_ (fun _ _ _ _ h => h) ?_; (focus rfl); apply Exists.intro; constructor; (focus (intro w'; go_simp; with_reducible rfl)); (simp only [Act.put, List.setIfInBounds_toArray, List.set_cons_zero, List.set_cons_succ]))
       (refine sq1 rfl ?_ (fun _ _ _ _ h => h) hS ?_; (focus rfl); apply Exists.intro; constructor; (focus (intro w' hS'; have hE := HV'.out.2.step hS'; have x1 : w'.cell? ⟨w2.heap.size, 1, none⟩ = some (.slice (some ad) l.length c) := blk_cell (hE.at 0 rfl) 1; have v1 : w'.cell? ⟨gv, 1, none⟩ = some (.slice (some av) nv cv) := blk_cell (hE.at 1 rfl) 1; obtain ⟨y0, y1⟩ := attr_in HC.out hE.2; obtain ⟨u0, u1⟩ := attr_in HCw.out hE.2; clear hE; go_simp; with_reducible rfl)); (simp only [Act.put, List.setIfInBounds_toArray, List.set_cons_zero, List.set_cons_succ]))
       iterate 3 (refine sq0 rfl ?_ (fun _ _ _ _ h => h) ?_; (focus rfl); apply Exists.intro; constructor; (focus (intro w'; go_simp; with_reducible rfl)); (simp only [Act.put, List.setIfInBounds_toArray, List.set_cons_zero, List.set_cons_succ]))
       (refine sq1 rfl ?_ (fun _ _ _ _ h => h) hS ?_; (focus rfl); apply Exists.intro; constructor; (focus (intro w' hS'; have hE := HV'.out.2.step hS'; have x1 : w'.cell? ⟨w2.heap.size, 1, none⟩ = some (.slice (some ad) l.length c) := blk_cell (hE.at 0 rfl) 1; have v1 : w'.cell? ⟨gv, 1, none⟩ = some (.slice (some av) nv cv) := blk_cell (hE.at 1 rfl) 1; obtain ⟨y0, y1⟩ := attr_in HC.out hE.2; obtain ⟨u0, u1⟩ := attr_in HCw.out hE.2; clear hE; go_simp; with_reducible rfl)); (simp only [Act.put, List.setIfInBounds_toArray, List.set_cons_zero, List.set_cons_succ]))
       iterate 4 (refine sq0 rfl ?_ (fun _ _ _ _ h => h) ?_; (focus rfl); apply Exists.intro; constructor; (focus (intro w'; go_simp; with_reducible rfl)); (simp only [Act.put, List.setIfInBounds_toArray, List.set_cons_zero, List.set_cons_succ]))
       (refine sq1 rfl ?_ (fun _ _ _ _ h => h) hS ?_; (focus rfl); apply Exists.intro; constructor; (focus (intro w' hS'; have hE := HV'.out.2.step hS'; have x1 : w'.cell? ⟨w2.heap.size, 1, none⟩ = some (.slice (some ad) l.length c) := blk_cell (hE.at 0 rfl) 1; have v1 : w'.cell? ⟨gv, 1, none⟩ = some (.slice (some av) nv cv) := blk_cell (hE.at 1 rfl) 1; obtain ⟨y0, y1⟩ := attr_in HC.out hE.2; obtain ⟨u0, u1⟩ := attr_in HCw.out hE.2; clear hE; go_simp; with_reducible rfl)); (simp only [Act.put, List.setIfInBounds_toArray, List.set_cons_zero, List.set_cons_succ]))
       iterate 3 (refine sq0 rfl ?_ (fun _ _ _ _ h => h) ?_; (focus rfl); apply Exists.intro; constructor; (focus (intro w'; go_simp; with_reducible rfl)); (simp only [Act.put, List.setIfInBounds_toArray, List.set_cons_zero, List.set_cons_succ]))
       (refine sq1 rfl ?_ (fun _ _ _ _ h => h) hS ?_; (focus rfl); apply Exists.intro; constructor; (focus (intro w' hS'; have hE := HV'.out.2.step hS'; have x1 : w'.cell? ⟨w2.heap.size, 1, none⟩ = some (.slice (some ad) l.length c) := blk_cell (hE.at 0 rfl) 1; have v1 : w'.cell? ⟨gv, 1, none⟩ = some (.slice (some av) nv cv) := blk_cell (hE.at 1 rfl) 1; obtain ⟨y0, y1⟩ := attr_in HC.out hE.2; obtain ⟨u0, u1⟩ := attr_in HCw.out hE.2; clear hE; go_simp; with_reducible rfl)); (simp only [Act.put, List.setIfInBounds_toArray, List.set_cons_zero, List.set_cons_succ]))
       iterate 1 (refine sq0 rfl ?_ (fun _ _ _ _ h => h) ?_; (focus rfl); apply Exists.intro; constructor; (focus (intro w'; go_simp; with_reducible rfl)); (simp only [Act.put, List.setIfInBounds_toArray, List.set_cons_zero, List.set_cons_succ]))
       (refine sq1 rfl ?_ (fun _ _ _ _ h => h) hS ?_; (focus rfl); apply Exists.intro; constructor; (focus (intro w' hS'; have hE := HV'.out.2.step hS'; have x1 : w'.cell? ⟨w2.heap.size, 1, none⟩ = some (.slice (some ad) l.length c) := blk_cell (hE.at 0 rfl) 1; have v1 : w'.cell? ⟨gv, 1, none⟩ = some (.slice (some av) nv cv) := blk_cell (hE.at 1 rfl) 1; obtain ⟨y0, y1⟩ := attr_in HC.out hE.2; obtain ⟨u0, u1⟩ := attr_in HCw.out hE.2; clear hE; go_simp; with_reducible rfl)); (simp only [Act.put, List.setIfInBounds_toArray, List.set_cons_zero, List.set_cons_succ]))
       iterate 3 (refine sq0 rfl ?_ (fun _ _ _ _ h => h) ?_; (focus rfl); apply Exists.intro; constructor; (focus (intro w'; go_simp; with_reducible rfl)); (simp only [Act.put, List.setIfInBounds_toArray, List.set_cons_zero, List.set_cons_succ]))
       (refine sq1 rfl ?_ (fun _ _ _ _ h => h) hS ?_; (focus rfl); apply Exists.intro; constructor; (focus (intro w' hS'; have hE := HV'.out.2.step hS'; have x1 : w'.cell? ⟨w2.heap.size, 1, none⟩ = some (.slice (some ad) l.length c) := blk_cell (hE.at 0 rfl) 1; have v1 : w'.cell? ⟨gv, 1, none⟩ = some (.slice (some av) nv cv) := blk_cell (hE.at 1 rfl) 1; obtain ⟨y0, y1⟩ := attr_in HC.out hE.2; obtain ⟨u0, u1⟩ := attr_in HCw.out hE.2; clear hE; go_simp; with_reducible rfl)); (simp only [Act.put, List.setIfInBounds_toArray, List.set_cons_zero, List.set_cons_succ]))
       refine sq_call rfl Tryd.func46 (by kernel_rfl) rfl #[.slice Aw a.f1.length cw, .slice Aa a.f1.length ca] rfl ?_ rfl ?_ ?_
       focus rfl
       focus ((try simp only [List.map_toArray, List.map_cons, List.map_nil]); first | done | rfl)
       refine (texts_c Aw Aa cw ca a.f1 _ (Kd.C_below HIw.out (HV'.out.2.step hS).2) hl5 (Kd.C_below HI.out (HV'.out.2.step hS).2) hl4).mono ?_
       rintro e w7 ⟨rfl, hd7⟩
       refine ⟨_, rfl, below_step hS hd7.below, fun hS2 => ?_⟩
       clear hS hd7
       (simp only [Act.put, List.setIfInBounds_toArray, List.set_cons_zero, List.set_cons_succ])
       iterate 2 (refine sq0 rfl ?_ (fun _ _ _ _ h => h) ?_; (focus rfl); apply Exists.intro; constructor; (focus (intro w'; go_simp; with_reducible rfl)); (simp only [Act.put, List.setIfInBounds_toArray, List.set_cons_zero, List.set_cons_succ]))
       refine sq_end ?_
       go_wp2
       go_meet
       case rel => exact ⟨rfl, Lib.hid hS2⟩
      case rest =>
       obtain ⟨rfl, HS4⟩ := hcut
       go_wp2
       go_roundw
       case measure => simp [intOf]; omega
       case rel => exact ⟨_, _, _, _, ⟨j + 1, by omega, rfl, rfl, tys', HT', Lib.hid ⟨Kd.R_below HV'.out.1 HS4.out, HV'.out.2.step HS4.out⟩⟩, rfl, by rw [HTM.out, HS1.out]; simp, rfl, by simp⟩
  ·obtain rfl : j = l.length := by omega
   rw [List.take_length]
   have hvn : (l.filter (seesB xs wh (keyB d).1)).length = (viewB xs wh (keyB d).1 l).length := rfl
   rw [hvn]
   generalize (viewB xs wh (keyB d).1 l).length = nv at *
   obtain ⟨At, ct, rfl, hct, hCt⟩ := Kd.R_reads HW.out.1
   have HGa : Hid (gateB xs wh (keyB d).1 tys = true) := Lib.hid (gate_all (fun t ht => (HT.out.1 t ht).1))
   have HTk : Hid (TypesOk tys) := Lib.hid (fun t ht => by have := (HT.out.1 t ht).2; omega)
   have HCt := Lib.hid hCt
   have hv0 : wo.cell? ⟨gv, 0, none⟩ = some (.string d) := blk_cell (HW.out.2.at 1 rfl) 0
   have hv1 : wo.cell? ⟨gv, 1, none⟩ = some (.slice Av nv cv) := blk_cell (HW.out.2.at 1 rfl) 1
   clear hCt
   go_wp2_with fail
   refine (gate_c xs Ar cr wh d (.slice A l.length c) tys At ct wo (Kd.C_below (Kd.C_below HCr.out HB2.out) (below_step HBv.out HW.out.2.2)) hcr (made_ok HM.out) (by omega) rfl HCt.out hct HTk.out).mono ?_
   rintro e w6 ⟨rfl, hb⟩
   rw [HGa.out]
   have HE6 := Lib.hid (HW.out.2.step hb)
   clear x0 x1 hv0 hv1 hb HW
   have x0 : w6.cell? ⟨w2.heap.size, 0, none⟩ = some (.string d) := blk_cell (HE6.out.at 0 rfl) 0
   have x1 : w6.cell? ⟨w2.heap.size, 1, none⟩ = some (.slice A l.length c) := blk_cell (HE6.out.at 0 rfl) 1
   go_wp2_with fail
   refine (gate_c [] none 0 wh d (.slice A l.length c) [] none 0 _ (Kd.C_nil _ _) (Nat.le_refl _) (fun r hr => by cases hr) (by omega) rfl (Kd.C_nil _ _) (Nat.le_refl _) (fun t ht => by cases ht)).mono ?_
   rintro e w7 ⟨rfl, hb⟩
   rw [gate_nil]
   have HE7 := Lib.hid (HE6.out.step hb)
   clear x0 x1 hb HE6
   have x0 : w7.cell? ⟨w2.heap.size, 0, none⟩ = some (.string d) := blk_cell (HE7.out.at 0 rfl) 0
   have x1 : w7.cell? ⟨w2.heap.size, 1, none⟩ = some (.slice A l.length c) := blk_cell (HE7.out.at 0 rfl) 1
   go_wp2_with fail
   refine (gate_c [] none 0 wh d (.slice A l.length c) [⟨#[99, 110]⟩] _ 1 _ (Kd.C_nil _ _) (Nat.le_refl _) (fun r hr => by cases hr) (by omega) rfl (str_one (heap_alloc_new w7 _)) (Nat.le_refl _) (fun t ht => by rw [List.mem_singleton] at ht; subst ht; decide)).mono ?_
   rintro e w8 ⟨rfl, hb⟩
   rw [gate_none]
   have HE8 := Lib.hid ((HE7.out.step (below_alloc (Below.refl _ _) _)).step hb)
   clear x0 x1 hb HE7
   go_wp2_with fail
   refine (awake_c _).mono ?_
   rintro e w9 ⟨rfl, hb⟩
   have HE9 := Lib.hid (HE8.out.step hb)
   clear hb HE8
   go_wp2
   go_ret
   exact ⟨rfl, below_step HB1.out (below_step HB2.out (below_step HBv.out HE9.out.2))⟩
end Go.Proofs.YtflkghdndffacaaDoor.C
