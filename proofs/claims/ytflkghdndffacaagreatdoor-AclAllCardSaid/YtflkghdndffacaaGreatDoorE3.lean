/- Contract of the document's MayRules; what it reckons is what acl.May reckons. -/
import Derived.Test.YtflkghdndffacaaGreatDoorE2
namespace Go.Proofs.YtflkghdndffacaaGreatDoor.C
open Go.RowKit Go.Proofs.YtflkghdndffacaaGreatDoor.Sq Go.Proofs.YtflkghdndffacaaGreatDoor.H Go.Proofs.YtflkghdndffacaaGreatDoor.PA Go.Proofs.YtflkghdndffacaaGreatDoor.Pure Go.Proofs.YtflkghdndffacaaGreatDoorW.PrintWords Go.Proofs.YtflkghdndffacaaGreatDoorW.PrintLast Go.Proofs.YtflkghdndffacaaGreatDoorW.PrintMore
set_option linter.unusedVariables false
set_option linter.unusedSimpArgs false
def typeGood (s : ByteArray) : Bool := (s.toList == [101, 110, 116, 114, 121]) || (!(typeN (lowS s) == 0) && ((lowS s).toList == s.toList))
def badR (r : S54) : Bool := decide (r.f0 < 1) || (decide (4 < r.f0) || (((r.f0 == 4) != !(r.f1.toList == [])) || (!(keyB r.f1).2 || (!(keyB r.f2).2 || (decide (20 < r.f4.length) || (decide (r.f5 < 0) || decide (2 < r.f5)))))))
def rmayRB (r : S54) : Bool := !badR r && r.f4.all typeGood
def rmayB (l : List S54) : Bool := l.all rmayRB && decide (l.length ≤ 40)
def TR : Bool × List (List Nat × List Nat) := (true, [([], []), ([0], [0]), ([1], [1]), ([], []), ([3], [3]), ([4, 2], [4]), ([], []), ([], []), ([6, 2, 5, 0, 1, 2, 6, 7], [2, 6]), ([7, 5, 8, 0, 1, 2, 3, 4, 5, 6, 7, 8], [5, 7])])
abbrev LR (b2 b5 b6 b7 b8 b9 : Bool) : List Bool := [true, true, b2, true, true, b5, b6, b7, b8, b9]
set_option synthInstance.maxHeartbeats 2000000 in
set_option synthInstance.maxSize 100000 in
theorem readyR : ∀ b2 b5 b6 b7 b8 b9 : Bool, ∀ i : Fin 10, readyAt TR.2 (LR b2 b5 b6 b7 b8 b9) i.val = true → (i.val = 2 ∧ b2 = false) ∨ (i.val = 5 ∧ b2 = true ∧ b5 = false) ∨ (i.val = 6 ∧ b6 = false) ∨ (i.val = 7 ∧ b7 = false) ∨ (i.val = 8 ∧ b2 = true ∧ b5 = true ∧ b6 = true ∧ b7 = true ∧ b8 = false) ∨ (i.val = 9 ∧ b5 = true ∧ b7 = true ∧ b8 = true ∧ b9 = false) := by decide +kernel
set_option synthInstance.maxHeartbeats 2000000 in
set_option synthInstance.maxSize 100000 in
theorem doneR : ∀ b2 b5 b6 b7 b8 b9 : Bool, readyT TR.2 (LR b2 b5 b6 b7 b8 b9) = [] → b6 = true ∧ b7 = true ∧ b8 = true ∧ b9 = true := by decide +kernel
abbrev sz : Array Value := #[.string ⟨#[]⟩, .bool false]
abbrev sk (s : ByteArray) : Array Value := #[.string (keyB s).1, .bool (keyB s).2]
def FR (wA : World) (s1 s2 : ByteArray) (b2 b5 b6 b7 b8 b9 : Bool) (v20 v23 v5 v6 : Value) (W : World) : Prop :=
  Below wA.heap.size wA W ∧ (b2 = true → v20 = .agg (sk s1)) ∧ (b5 = true → v23 = .agg (sk s2)) ∧
    (b6 = true → ∃ g, v5 = .pointer (some ⟨g, 0, none⟩) ∧ wA.heap.size ≤ g ∧ (b7 = true → ∀ g', v6 = .pointer (some ⟨g', 0, none⟩) → g ≠ g') ∧ W.heap[g]? = some (.cells (if b8 = true then sk s1 else sz) 31 (0, 0))) ∧
    (b7 = true → ∃ g, v6 = .pointer (some ⟨g, 0, none⟩) ∧ wA.heap.size ≤ g ∧ W.heap[g]? = some (.cells (if b9 = true then sk s2 else sz) 31 (0, 0)))
theorem FR.step {wA W W1 : World} {s1 s2 : ByteArray} {b2 b5 b6 b7 b8 b9 : Bool} {v20 v23 v5 v6 : Value} (h : FR wA s1 s2 b2 b5 b6 b7 b8 b9 v20 v23 v5 v6 W) (hb : Below W.heap.size W W1) : FR wA s1 s2 b2 b5 b6 b7 b8 b9 v20 v23 v5 v6 W1 :=
  ⟨below_step h.1 hb, h.2.1, h.2.2.1, fun e => by obtain ⟨g, h1, h2, h3, h4⟩ := h.2.2.2.1 e; exact ⟨g, h1, h2, h3, blk_below h4 hb⟩, fun e => by obtain ⟨g, h1, h2, h3⟩ := h.2.2.2.2 e; exact ⟨g, h1, h2, blk_below h3 hb⟩⟩
def IR (wA : World) (s1 s2 : ByteArray) (a0 : Act) (l : List Bool) (act : Act) (W : World) : Prop :=
  ∃ (b2 b5 b6 b7 b8 b9 : Bool) (v20 v23 v5 v6 : Value), l = LR b2 b5 b6 b7 b8 b9 ∧ act = (((a0.put (some 20) v20).put (some 23) v23).put (some 5) v5).put (some 6) v6 ∧ (b8 = true → b6 = true ∧ b7 = true) ∧ (b9 = true → b8 = true) ∧ FR wA s1 s2 b2 b5 b6 b7 b8 b9 v20 v23 v5 v6 W
theorem IR.start {wA W : World} {s1 s2 : ByteArray} (a0 : Act) (h : Below wA.heap.size wA W) : IR wA s1 s2 a0 (LR false false false false false false) a0 W :=
  ⟨false, false, false, false, false, false, a0.tmps.getD 20 undef, a0.tmps.getD 23 undef, a0.tmps.getD 5 undef, a0.tmps.getD 6 undef, rfl, by simp only [put_self], fun h => Bool.noConfusion h, fun h => Bool.noConfusion h, h, fun h => Bool.noConfusion h, fun h => Bool.noConfusion h, fun h => Bool.noConfusion h, fun h => Bool.noConfusion h⟩
theorem all_here2 {l : List S54} {k : Nat} {r : S54} (h : l[k]? = some r) (hp : rmayRB r = false) : rmayB l = false := by
  unfold rmayB
  rw [all_here h hp]
  rfl
set_option maxHeartbeats 8000000 in
set_option maxRecDepth 100000 in
theorem rmay_c (A : Option Addr) (c : Nat) (rules : List S54) (w : World) (hr : Kd.C k54 w A rules.length rules) (hc : rules.length ≤ c) (hm : ∀ r ∈ rules, SmallR r) :
    Calls Tryz.prog 8 #[.slice A rules.length c] w fun e w' => e = .returned (.bool (rmayB rules)) ∧ Below w.heap.size w w' := by
  have hmax : rules.length ≤ 9223372036854775807 := hr.2.1
  have HR := Lib.hid hr
  have HM := Lib.hid hm
  clear hr hm
  go_enter Tryz.func8, Tryz.ntmps8
  go_wp2
  go_loopw [3] (fun v3 wr => ∃ k : Nat, k ≤ rules.length ∧ v3 = .int .i64 k ∧ Hid (∀ r ∈ rules.take k, rmayRB r = true) ∧ Hid (Below w.heap.size w wr)) (fun v3 _ => rules.length - (intOf v3).toNat)
  case atStart => exact ⟨0, Nat.zero_le _, rfl, Lib.hid (by simp), Lib.hid (Below.refl _ _)⟩
  case round =>
    obtain ⟨k, hk, rfl, HF, HB⟩ := hrel
    obtain ⟨wo, rfl⟩ : ∃ wo : World, wo = wr := ⟨_, rfl⟩
    have h0 : (0 : Int) ≤ (k : Int) := by omega
    by_cases hlt : k < rules.length
    · have hlt' : (k : Int) < (rules.length : Int) := by omega
      obtain ⟨r, hy⟩ : ∃ r, rules[k]? = some r := ⟨_, List.getElem?_eq_getElem hlt⟩
      have HY := Lib.hid hy
      obtain ⟨hm1, hm2, hm3, hm4⟩ := HM.out r (List.mem_of_getElem? hy)
      have HM4 := Lib.hid hm4
      obtain ⟨ad, A4, c4, e, x0, x1, x2, x3, x4, x5, hl4, hi4⟩ := rule_at (Kd.C_below HR.out HB.out) hy
      cases e
      have HI := Lib.hid hi4
      clear hy hi4 hm4
      go_upto_region 5 with (fail)
      clear x0 x1 x2 x3 x4 x5
      have hO0 : (wo.alloc (.cells #[.int .i64 r.f0, .string r.f1, .string r.f2, .bool r.f3, .slice A4 r.f4.length c4, .int .i64 r.f5] 40)).heap[wo.heap.size]? = some (.cells #[.int .i64 r.f0, .string r.f1, .string r.f2, .bool r.f3, .slice A4 r.f4.length c4, .int .i64 r.f5] 40 (0, 0)) := heap_alloc_new wo _
      have hB0 : Below wo.heap.size wo (wo.alloc (.cells #[.int .i64 r.f0, .string r.f1, .string r.f2, .bool r.f3, .slice A4 r.f4.length c4, .int .i64 r.f5] 40)) := below_alloc (Below.refl _ _) _
      generalize wo.alloc (.cells #[.int .i64 r.f0, .string r.f1, .string r.f2, .bool r.f3, .slice A4 r.f4.length c4, .int .i64 r.f5] 40) = wA at hO0 hB0 ⊢
      have HO := Lib.hid hO0
      have HBA := Lib.hid (below_step HB.out hB0)
      have hzA := blk_lt hO0
      have HB0 := Lib.hid hB0
      clear hO0 hB0
      go_cut [5, 6] (fun v5 v6 wc => ∃ g5 g6, v5 = .pointer (some ⟨g5, 0, none⟩) ∧ v6 = .pointer (some ⟨g6, 0, none⟩) ∧ Hid (Below wA.heap.size wA wc ∧ wc.heap[g5]? = some (.cells (sk r.f1) 31 (0, 0)) ∧ wc.heap[g6]? = some (.cells (sk r.f2) 31 (0, 0))))
      case first =>
        refine iv_ (fun W => Below wA.heap.size wA W) [8, 9] TR [(0,0,some 18),(1,1,some 19),(0,3,some 21),(1,4,some 22)] (LR false false false false false false) (by kernel_rfl) (by kernel_rfl) (by kernel_rfl) rfl (below_drew (Below.refl _ _)) (fun hS => ?_)
        generalize wA.drew = W at hS ⊢
        repeat (first
          | (refine sqi0 rfl ?_ (fun _ _ _ _ h => h) ?_; (focus rfl); apply Exists.intro; constructor; (focus (intro w'; go_simp; with_reducible rfl)); (simp only [Act.put, List.setIfInBounds_toArray, List.set_cons_zero, List.set_cons_succ]))
          | (refine sqi1 rfl ?_ (fun _ _ _ _ h => h) hS ?_; (focus rfl); apply Exists.intro; constructor; (focus (intro w' hS'; have hE := blk_below HO.out hS'; have s1 : w'.cell? ⟨wo.heap.size, 1, none⟩ = some (.string r.f1) := blk_cell hE 1; have s2 : w'.cell? ⟨wo.heap.size, 2, none⟩ = some (.string r.f2) := blk_cell hE 2; clear hE; go_simp; with_reducible rfl)); (simp only [Act.put, List.setIfInBounds_toArray, List.set_cons_zero, List.set_cons_succ])))
        generalize hA : (Act.mk _ _) = a0
        refine iv_go (IR wA r.f1 r.f2 a0) (IR.start a0 hS) ?_ ?_
        · rintro l' act W' ⟨b2, b5, b6, b7, b8, b9, v20, v23, v5, v6, rfl, hact, h8, h9, hF⟩ hrd
          obtain ⟨rfl, rfl, rfl, rfl⟩ := doneR b2 b5 b6 b7 b8 b9 hrd
          obtain ⟨g5, rfl, _, _, h5⟩ := hF.2.2.2.1 rfl
          obtain ⟨g6, rfl, _, h6⟩ := hF.2.2.2.2 rfl
          subst hA
          simp only [Act.put, List.setIfInBounds_toArray, List.set_cons_zero, List.set_cons_succ] at hact
          subst hact
          go_wp2
          go_meet
          case rel => exact ⟨g5, g6, rfl, rfl, Lib.hid ⟨hF.1, h5, h6⟩⟩
        · rintro l' act W' i' ⟨b2, b5, b6, b7, b8, b9, v20, v23, v5, v6, rfl, hact, h8, h9, hF⟩ hi hra
          have hx := readyR b2 b5 b6 b7 b8 b9 ⟨i', hi⟩ hra
          simp only at hx
          subst hA
          simp only [Act.put, List.setIfInBounds_toArray, List.set_cons_zero, List.set_cons_succ] at hact
          subst hact
          obtain ⟨rfl, rfl⟩ | ⟨rfl, rfl, rfl⟩ | ⟨rfl, rfl⟩ | ⟨rfl, rfl⟩ | ⟨rfl, rfl, rfl, rfl, rfl, rfl⟩ | ⟨rfl, rfl, rfl, rfl, rfl⟩ := hx
          · refine iv_call (n := some 20) [] rfl rfl rfl (by kernel_rfl) Tryz.func9 (by kernel_rfl) rfl #[.string r.f1] rfl rfl ?_ ?_
            · focus ((try simp only [List.map_toArray, List.map_cons, List.map_nil]); first | done | rfl)
            · refine (rkey_c r.f1 (by omega) _).mono ?_
              rintro e w11 ⟨rfl, hb⟩
              refine ⟨_, rfl, fun h => below_step h hb, ?_⟩
              have hF2 := hF.step hb
              refine ⟨true, b5, b6, b7, b8, b9, .agg (sk r.f1), v23, v5, v6, rfl, ?_, h8, h9, hF2.1, fun _ => rfl, hF2.2.2⟩
              (simp only [Act.put, List.setIfInBounds_toArray, List.set_cons_zero, List.set_cons_succ])
          · refine iv_call (n := some 23) [] rfl rfl rfl (by kernel_rfl) Tryz.func9 (by kernel_rfl) rfl #[.string r.f2] rfl rfl ?_ ?_
            · focus ((try simp only [List.map_toArray, List.map_cons, List.map_nil]); first | done | rfl)
            · refine (rkey_c r.f2 (by omega) _).mono ?_
              rintro e w11 ⟨rfl, hb⟩
              refine ⟨_, rfl, fun h => below_step h hb, ?_⟩
              have hF2 := hF.step hb
              refine ⟨true, true, b6, b7, b8, b9, v20, .agg (sk r.f2), v5, v6, rfl, ?_, h8, h9, hF2.1, hF2.2.1, fun _ => rfl, hF2.2.2.2⟩
              (simp only [Act.put, List.setIfInBounds_toArray, List.set_cons_zero, List.set_cons_succ])
          · have e8 : b8 = false := by cases b8; rfl; exact absurd (h8 rfl).1 (by simp)
            subst e8
            have e9 : b9 = false := by cases b9; rfl; exact absurd (h9 rfl) (by simp)
            subst e9
            have hb := below_alloc (Below.refl W'.heap.size W') (.cells sz 31)
            refine iv_value (n := some 5) [] (w1 := W'.alloc (.cells sz 31)) (v := .pointer (some ⟨W'.heap.size, 0, none⟩)) rfl rfl rfl (by kernel_rfl) rfl ?_ (fun h => below_step h hb) ?_
            · go_simp
            · have hF2 := hF.step hb
              refine ⟨b2, b5, true, b7, false, false, v20, v23, .pointer (some ⟨W'.heap.size, 0, none⟩), v6, rfl, ?_, fun h => Bool.noConfusion h, fun h => Bool.noConfusion h, hF2.1, hF2.2.1, hF2.2.2.1, fun _ => ⟨_, rfl, hF.1.size, fun h7 g' hg' => ?_, heap_alloc_new W' _⟩, hF2.2.2.2.2⟩
              · (simp only [Act.put, List.setIfInBounds_toArray, List.set_cons_zero, List.set_cons_succ])
              · obtain ⟨g, h1, _, h3⟩ := hF.2.2.2.2 h7
                rw [h1] at hg'
                cases hg'
                exact Nat.ne_of_gt (blk_lt h3)
          · have e8 : b8 = false := by cases b8; rfl; exact absurd (h8 rfl).2 (by simp)
            subst e8
            have e9 : b9 = false := by cases b9; rfl; exact absurd (h9 rfl) (by simp)
            subst e9
            have hb := below_alloc (Below.refl W'.heap.size W') (.cells sz 31)
            refine iv_value (n := some 6) [] (w1 := W'.alloc (.cells sz 31)) (v := .pointer (some ⟨W'.heap.size, 0, none⟩)) rfl rfl rfl (by kernel_rfl) rfl ?_ (fun h => below_step h hb) ?_
            · go_simp
            · have hF2 := hF.step hb
              refine ⟨b2, b5, b6, true, false, false, v20, v23, v5, .pointer (some ⟨W'.heap.size, 0, none⟩), rfl, ?_, fun h => Bool.noConfusion h, fun h => Bool.noConfusion h, hF2.1, hF2.2.1, hF2.2.2.1, fun h6 => ?_, fun _ => ⟨_, rfl, hF.1.size, heap_alloc_new W' _⟩⟩
              · (simp only [Act.put, List.setIfInBounds_toArray, List.set_cons_zero, List.set_cons_succ])
              · obtain ⟨g, h1, h2, h3, h4⟩ := hF.2.2.2.1 h6
                refine ⟨g, h1, h2, fun _ g' hg' => ?_, blk_alloc h4 _⟩
                cases hg'
                exact Nat.ne_of_lt (blk_lt h4)
          · have e9 : b9 = false := by cases b9; rfl; exact absurd (h9 rfl) (by simp)
            subst e9
            obtain rfl := hF.2.1 rfl
            obtain ⟨g5, rfl, hg5, hne, hc5⟩ := hF.2.2.2.1 rfl
            obtain ⟨g6, rfl, hg6, hc6⟩ := hF.2.2.2.2 rfl
            have hn := hne rfl g6 rfl
            have y0 : W'.cell? ⟨g5, 0, none⟩ = some (.string ⟨#[]⟩) := blk_cell hc5 0
            have y1 : W'.cell? ⟨g5, 1, none⟩ = some (.bool false) := blk_cell hc5 1
            have f0 := blk_frozen hc5 0
            have f1 := blk_frozen hc5 1
            refine iv_store (w1 := (W'.setCell ⟨g5, 0, none⟩ (.string (keyB r.f1).1)).setCell ⟨g5, 1, none⟩ (.bool (keyB r.f1).2)) rfl rfl (by decide) rfl (by go_simp) ?_
            refine ⟨true, true, true, true, true, false, .agg (sk r.f1), v23, .pointer (some ⟨g5, 0, none⟩), .pointer (some ⟨g6, 0, none⟩), rfl, ?_, fun _ => ⟨rfl, rfl⟩, fun h => Bool.noConfusion h, below_set (below_set hF.1 hg5) hg5, fun _ => rfl, hF.2.2.1, fun _ => ⟨g5, rfl, hg5, hne, blk_set (blk_set hc5 0 _) 1 _⟩, fun _ => ⟨g6, rfl, hg6, blk_far (blk_far hc6 (Ne.symm hn) _) (Ne.symm hn) _⟩⟩
            (simp only [Act.put, List.setIfInBounds_toArray, List.set_cons_zero, List.set_cons_succ])
          · obtain rfl := hF.2.2.1 rfl
            obtain ⟨e6, _⟩ := h8 rfl
            subst e6
            obtain ⟨g5, rfl, hg5, hne, hc5⟩ := hF.2.2.2.1 rfl
            obtain ⟨g6, rfl, hg6, hc6⟩ := hF.2.2.2.2 rfl
            have hn := hne rfl g6 rfl
            have y0 : W'.cell? ⟨g6, 0, none⟩ = some (.string ⟨#[]⟩) := blk_cell hc6 0
            have y1 : W'.cell? ⟨g6, 1, none⟩ = some (.bool false) := blk_cell hc6 1
            have f0 := blk_frozen hc6 0
            have f1 := blk_frozen hc6 1
            refine iv_store (w1 := (W'.setCell ⟨g6, 0, none⟩ (.string (keyB r.f2).1)).setCell ⟨g6, 1, none⟩ (.bool (keyB r.f2).2)) rfl rfl (by decide) rfl (by go_simp) ?_
            refine ⟨b2, true, true, true, true, true, v20, .agg (sk r.f2), .pointer (some ⟨g5, 0, none⟩), .pointer (some ⟨g6, 0, none⟩), rfl, ?_, fun _ => ⟨rfl, rfl⟩, fun _ => rfl, below_set (below_set hF.1 hg6) hg6, hF.2.1, fun _ => rfl, fun _ => ⟨g5, rfl, hg5, hne, blk_far (blk_far hc5 hn _) hn _⟩, fun _ => ⟨g6, rfl, hg6, blk_set (blk_set hc6 0 _) 1 _⟩⟩
            (simp only [Act.put, List.setIfInBounds_toArray, List.set_cons_zero, List.set_cons_succ])
      case rest =>
        obtain ⟨g5, g6, rfl, rfl, HC⟩ := hcut
        have HO2 := Lib.hid (blk_below HO.out HC.out.1)
        have s0 : wc.cell? ⟨wo.heap.size, 0, none⟩ = some (.int .i64 r.f0) := blk_cell HO2.out 0
        have s1 : wc.cell? ⟨wo.heap.size, 1, none⟩ = some (.string r.f1) := blk_cell HO2.out 1
        have s2 : wc.cell? ⟨wo.heap.size, 2, none⟩ = some (.string r.f2) := blk_cell HO2.out 2
        have s3 : wc.cell? ⟨wo.heap.size, 3, none⟩ = some (.bool r.f3) := blk_cell HO2.out 3
        have s4 : wc.cell? ⟨wo.heap.size, 4, none⟩ = some (.slice A4 r.f4.length c4) := blk_cell HO2.out 4
        have s5 : wc.cell? ⟨wo.heap.size, 5, none⟩ = some (.int .i64 r.f5) := blk_cell HO2.out 5
        have p0 : wc.cell? ⟨g5, 0, none⟩ = some (.string (keyB r.f1).1) := blk_cell HC.out.2.1 0
        have p1 : wc.cell? ⟨g5, 1, none⟩ = some (.bool (keyB r.f1).2) := blk_cell HC.out.2.1 1
        have t0 : wc.cell? ⟨g6, 0, none⟩ = some (.string (keyB r.f2).1) := blk_cell HC.out.2.2 0
        have t1 : wc.cell? ⟨g6, 1, none⟩ = some (.bool (keyB r.f2).2) := blk_cell HC.out.2.2 1
        go_upto_region 6 with (fail)
        go_cut [66] (fun v66 wd => v66 = .bool (badR r) ∧ wd = wc)
        case first =>
          by_cases c1 : r.f0 < 1
          · skip
            go_wp2
            go_meet
            case rel => exact ⟨by first | (simp [badR, c1]; done) | (simp [badR, c1]; omega), rfl⟩
          · skip
            by_cases c2 : 4 < r.f0
            · skip
              go_wp2
              go_meet
              case rel => exact ⟨by first | (simp [badR, c1, c2]; done) | (simp [badR, c1, c2]; omega), rfl⟩
            · skip
              cases ha : (r.f0 == 4)
              · cases hs : (r.f1.toList == [])
                · skip
                  go_wp2
                  go_meet
                  case rel => exact ⟨by first | (simp [badR, c1, c2, ha, hs]; done) | (simp [badR, c1, c2, ha, hs]; omega), rfl⟩
                · skip
                  cases c4 : (keyB r.f1).2
                  · skip
                    go_wp2
                    go_meet
                    case rel => exact ⟨by first | (simp [badR, c1, c2, ha, hs, c4]; done) | (simp [badR, c1, c2, ha, hs, c4]; omega), rfl⟩
                  · skip
                    cases c5 : (keyB r.f2).2
                    · skip
                      go_wp2
                      go_meet
                      case rel => exact ⟨by first | (simp [badR, c1, c2, ha, hs, c4, c5]; done) | (simp [badR, c1, c2, ha, hs, c4, c5]; omega), rfl⟩
                    · skip
                      by_cases c6 : 20 < (r.f4.length : Int)
                      · skip
                        go_wp2
                        go_meet
                        case rel => exact ⟨by first | (simp [badR, c1, c2, ha, hs, c4, c5, c6]; done) | (simp [badR, c1, c2, ha, hs, c4, c5, c6]; omega), rfl⟩
                      · skip
                        by_cases c7 : r.f5 < 0
                        · skip
                          go_wp2
                          go_meet
                          case rel => exact ⟨by first | (simp [badR, c1, c2, ha, hs, c4, c5, c6, c7]; done) | (simp [badR, c1, c2, ha, hs, c4, c5, c6, c7]; omega), rfl⟩
                        · skip
                          by_cases c8 : 2 < r.f5
                          · skip
                            go_wp2
                            go_meet
                            case rel => exact ⟨by first | (simp [badR, c1, c2, ha, hs, c4, c5, c6, c7, c8]; done) | (simp [badR, c1, c2, ha, hs, c4, c5, c6, c7, c8]; omega), rfl⟩
                          · skip
                            go_wp2
                            go_meet
                            case rel => exact ⟨by first | (simp [badR, c1, c2, ha, hs, c4, c5, c6, c7, c8]; done) | (simp [badR, c1, c2, ha, hs, c4, c5, c6, c7, c8]; omega), rfl⟩
              · cases hs : (r.f1.toList == [])
                · skip
                  cases c4 : (keyB r.f1).2
                  · skip
                    go_wp2
                    go_meet
                    case rel => exact ⟨by first | (simp [badR, c1, c2, ha, hs, c4]; done) | (simp [badR, c1, c2, ha, hs, c4]; omega), rfl⟩
                  · skip
                    cases c5 : (keyB r.f2).2
                    · skip
                      go_wp2
                      go_meet
                      case rel => exact ⟨by first | (simp [badR, c1, c2, ha, hs, c4, c5]; done) | (simp [badR, c1, c2, ha, hs, c4, c5]; omega), rfl⟩
                    · skip
                      by_cases c6 : 20 < (r.f4.length : Int)
                      · skip
                        go_wp2
                        go_meet
                        case rel => exact ⟨by first | (simp [badR, c1, c2, ha, hs, c4, c5, c6]; done) | (simp [badR, c1, c2, ha, hs, c4, c5, c6]; omega), rfl⟩
                      · skip
                        by_cases c7 : r.f5 < 0
                        · skip
                          go_wp2
                          go_meet
                          case rel => exact ⟨by first | (simp [badR, c1, c2, ha, hs, c4, c5, c6, c7]; done) | (simp [badR, c1, c2, ha, hs, c4, c5, c6, c7]; omega), rfl⟩
                        · skip
                          by_cases c8 : 2 < r.f5
                          · skip
                            go_wp2
                            go_meet
                            case rel => exact ⟨by first | (simp [badR, c1, c2, ha, hs, c4, c5, c6, c7, c8]; done) | (simp [badR, c1, c2, ha, hs, c4, c5, c6, c7, c8]; omega), rfl⟩
                          · skip
                            go_wp2
                            go_meet
                            case rel => exact ⟨by first | (simp [badR, c1, c2, ha, hs, c4, c5, c6, c7, c8]; done) | (simp [badR, c1, c2, ha, hs, c4, c5, c6, c7, c8]; omega), rfl⟩
                · skip
                  go_wp2
                  go_meet
                  case rel => exact ⟨by first | (simp [badR, c1, c2, ha, hs]; done) | (simp [badR, c1, c2, ha, hs]; omega), rfl⟩
        case rest =>
          obtain ⟨rfl, rfl⟩ := hcut
          cases hbad : badR r
          · go_wp2
            go_loopw [7] (fun v7 wl => ∃ j : Nat, j ≤ r.f4.length ∧ v7 = .int .i64 j ∧ Hid (∀ s ∈ r.f4.take j, typeGood s = true) ∧ Hid (Below wA.heap.size wA wl)) (fun v7 _ => r.f4.length - (intOf v7).toNat)
            case atStart => exact ⟨0, Nat.zero_le _, rfl, Lib.hid (by simp), Lib.hid HC.out.1⟩
            case round =>
              obtain ⟨j, hj, rfl, HJ, HBl⟩ := hrel
              obtain ⟨wi, rfl⟩ : ∃ wi : World, wi = wr := ⟨_, rfl⟩
              have HOl := Lib.hid (blk_below HO.out HBl.out)
              have q4 : wi.cell? ⟨wo.heap.size, 4, none⟩ = some (.slice A4 r.f4.length c4) := blk_cell HOl.out 4
              have h0j : (0 : Int) ≤ (j : Int) := by omega
              clear s0 s1 s2 s3 s4 s5 p0 p1 t0 t1
              by_cases hjl : j < r.f4.length
              · have hjl' : (j : Int) < (r.f4.length : Int) := by omega
                obtain ⟨s, hs⟩ : ∃ s, r.f4[j]? = some s := ⟨_, List.getElem?_eq_getElem hjl⟩
                have HS := Lib.hid hs
                have hss := HM4.out s (List.mem_of_getElem? hs)
                obtain ⟨sa, e, z0⟩ := str_at (Kd.C_below HI.out (below_step HB0.out HBl.out)) hs
                cases e
                have HZ := Lib.hid z0
                clear hs z0
                go_upto_region 11 with (fail)
                clear q4
                go_cut [102] (fun v102 wd => v102 = .bool (!typeGood s) ∧ Hid (Below wi.heap.size wi wd))
                case first =>
                  cases hen : (s.toList == [101, 110, 116, 114, 121])
                  · refine sq_ (fun W => Below wi.heap.size wi W) [] [(0,0,some 74),(1,1,some 75),(0,2,some 76),(0,3,some 77),(1,4,some 78),(0,5,some 79),(0,6,some 80),(0,7,some 81),(1,8,some 82),(0,9,some 83),(0,10,some 84),(1,11,some 85),(2,12,some 86),(0,13,some 87),(0,14,some 88),(0,15,some 89),(1,16,some 90),(0,17,some 91),(0,18,some 92),(1,19,some 93),(0,21,some 95),(1,22,some 96),(0,23,some 97),(0,24,some 98),(1,25,some 99),(2,20,some 94),(0,26,some 100),(0,27,some 101),(0,28,some 102)] (by kernel_rfl) (by kernel_rfl) (below_drew (Below.refl _ _)) (fun hS => ?_)
                    generalize wi.drew = W at hS ⊢
                    repeat (first
                      | (refine sq0 rfl ?_ (fun _ _ _ _ h => h) ?_; (focus rfl); apply Exists.intro; constructor; (focus (intro w'; go_simp; with_reducible rfl)); (simp only [Act.put, List.setIfInBounds_toArray, List.set_cons_zero, List.set_cons_succ]))
                      | (refine sq1 rfl ?_ (fun _ _ _ _ h => h) hS ?_; (focus rfl); apply Exists.intro; constructor; (focus (intro w' hS'; have q4 : w'.cell? ⟨wo.heap.size, 4, none⟩ = some (.slice (some sa) r.f4.length c4) := blk_cell (blk_below HOl.out hS') 4; have z0 : w'.cell? (sa.add j) = some (.string s) := pw_cell_below hS' HZ.out; go_simp; with_reducible rfl)); (simp only [Act.put, List.setIfInBounds_toArray, List.set_cons_zero, List.set_cons_succ]))
                      | (refine sq0_off rfl ?_ (fun _ _ _ _ h => h) ?_; (focus rfl); (simp only [Act.put, List.setIfInBounds_toArray, List.set_cons_zero, List.set_cons_succ]))
                      | (refine sq1_off rfl ?_ (fun _ _ _ _ h => h) hS ?_; (focus rfl); (simp only [Act.put, List.setIfInBounds_toArray, List.set_cons_zero, List.set_cons_succ]))
                      | (refine sq_off rfl ?_ hS ?_; (focus rfl); (simp only [Act.put, List.setIfInBounds_toArray, List.set_cons_zero, List.set_cons_succ])))
                    refine sq_call rfl Tryz.func21 (by kernel_rfl) rfl #[.string s] rfl ?_ rfl ?_ ?_
                    focus rfl
                    focus ((try simp only [List.map_toArray, List.map_cons, List.map_nil]); first | done | rfl)
                    refine (rrule_c s (by omega) _).mono ?_
                    rintro e w7 ⟨rfl, hb7⟩
                    refine ⟨_, rfl, below_step hS hb7, fun hS2 => ?_⟩
                    clear hS hb7
                    have hS := hS2
                    clear hS2
                    (simp only [Act.put, List.setIfInBounds_toArray, List.set_cons_zero, List.set_cons_succ])
                    cases htn : (typeN (lowS s) == 0)
                    · skip
                      repeat (first
                        | (refine sq0 rfl ?_ (fun _ _ _ _ h => h) ?_; (focus rfl); apply Exists.intro; constructor; (focus (intro w'; go_simp; with_reducible rfl)); (simp only [Act.put, List.setIfInBounds_toArray, List.set_cons_zero, List.set_cons_succ]))
                        | (refine sq1 rfl ?_ (fun _ _ _ _ h => h) hS ?_; (focus rfl); apply Exists.intro; constructor; (focus (intro w' hS'; have q4 : w'.cell? ⟨wo.heap.size, 4, none⟩ = some (.slice (some sa) r.f4.length c4) := blk_cell (blk_below HOl.out hS') 4; have z0 : w'.cell? (sa.add j) = some (.string s) := pw_cell_below hS' HZ.out; go_simp; with_reducible rfl)); (simp only [Act.put, List.setIfInBounds_toArray, List.set_cons_zero, List.set_cons_succ]))
                        | (refine sq0_off rfl ?_ (fun _ _ _ _ h => h) ?_; (focus rfl); (simp only [Act.put, List.setIfInBounds_toArray, List.set_cons_zero, List.set_cons_succ]))
                        | (refine sq1_off rfl ?_ (fun _ _ _ _ h => h) hS ?_; (focus rfl); (simp only [Act.put, List.setIfInBounds_toArray, List.set_cons_zero, List.set_cons_succ]))
                        | (refine sq_off rfl ?_ hS ?_; (focus rfl); (simp only [Act.put, List.setIfInBounds_toArray, List.set_cons_zero, List.set_cons_succ])))
                      refine sq_call rfl Tryz.func22 (by kernel_rfl) rfl #[.string s] rfl ?_ rfl ?_ ?_
                      focus rfl
                      focus ((try simp only [List.map_toArray, List.map_cons, List.map_nil]); first | done | rfl)
                      refine (lower_c s (by omega) _).mono ?_
                      rintro e w7 ⟨rfl, hb7⟩
                      refine ⟨_, rfl, below_step hS hb7, fun hS2 => ?_⟩
                      clear hS hb7
                      have hS := hS2
                      clear hS2
                      (simp only [Act.put, List.setIfInBounds_toArray, List.set_cons_zero, List.set_cons_succ])
                      have HTG : Hid (typeGood s = ((lowS s).toList == s.toList)) := Lib.hid (by unfold typeGood; rw [hen, htn]; rfl)
                      repeat (first
                        | (refine sq0 rfl ?_ (fun _ _ _ _ h => h) ?_; (focus rfl); apply Exists.intro; constructor; (focus (intro w'; go_simp; with_reducible rfl)); (simp only [Act.put, List.setIfInBounds_toArray, List.set_cons_zero, List.set_cons_succ]))
                        | (refine sq1 rfl ?_ (fun _ _ _ _ h => h) hS ?_; (focus rfl); apply Exists.intro; constructor; (focus (intro w' hS'; have q4 : w'.cell? ⟨wo.heap.size, 4, none⟩ = some (.slice (some sa) r.f4.length c4) := blk_cell (blk_below HOl.out hS') 4; have z0 : w'.cell? (sa.add j) = some (.string s) := pw_cell_below hS' HZ.out; go_simp; with_reducible rfl)); (simp only [Act.put, List.setIfInBounds_toArray, List.set_cons_zero, List.set_cons_succ]))
                        | (refine sq0_off rfl ?_ (fun _ _ _ _ h => h) ?_; (focus rfl); (simp only [Act.put, List.setIfInBounds_toArray, List.set_cons_zero, List.set_cons_succ]))
                        | (refine sq1_off rfl ?_ (fun _ _ _ _ h => h) hS ?_; (focus rfl); (simp only [Act.put, List.setIfInBounds_toArray, List.set_cons_zero, List.set_cons_succ]))
                        | (refine sq_off rfl ?_ hS ?_; (focus rfl); (simp only [Act.put, List.setIfInBounds_toArray, List.set_cons_zero, List.set_cons_succ])))
                      refine sq_end ?_
                      go_wp2
                      go_meet
                      case rel => exact ⟨by rw [HTG.out] <;> rfl, Lib.hid hS⟩
                    · have HTG : Hid (typeGood s = false) := Lib.hid (by unfold typeGood; rw [hen, htn]; rfl)
                      repeat (first
                        | (refine sq0 rfl ?_ (fun _ _ _ _ h => h) ?_; (focus rfl); apply Exists.intro; constructor; (focus (intro w'; go_simp; with_reducible rfl)); (simp only [Act.put, List.setIfInBounds_toArray, List.set_cons_zero, List.set_cons_succ]))
                        | (refine sq1 rfl ?_ (fun _ _ _ _ h => h) hS ?_; (focus rfl); apply Exists.intro; constructor; (focus (intro w' hS'; have q4 : w'.cell? ⟨wo.heap.size, 4, none⟩ = some (.slice (some sa) r.f4.length c4) := blk_cell (blk_below HOl.out hS') 4; have z0 : w'.cell? (sa.add j) = some (.string s) := pw_cell_below hS' HZ.out; go_simp; with_reducible rfl)); (simp only [Act.put, List.setIfInBounds_toArray, List.set_cons_zero, List.set_cons_succ]))
                        | (refine sq0_off rfl ?_ (fun _ _ _ _ h => h) ?_; (focus rfl); (simp only [Act.put, List.setIfInBounds_toArray, List.set_cons_zero, List.set_cons_succ]))
                        | (refine sq1_off rfl ?_ (fun _ _ _ _ h => h) hS ?_; (focus rfl); (simp only [Act.put, List.setIfInBounds_toArray, List.set_cons_zero, List.set_cons_succ]))
                        | (refine sq_off rfl ?_ hS ?_; (focus rfl); (simp only [Act.put, List.setIfInBounds_toArray, List.set_cons_zero, List.set_cons_succ])))
                      refine sq_end ?_
                      go_wp2
                      go_meet
                      case rel => exact ⟨by rw [HTG.out] <;> rfl, Lib.hid hS⟩
                  · have HTG : Hid (typeGood s = true) := Lib.hid (by unfold typeGood; rw [hen]; rfl)
                    refine sq_ (fun W => Below wi.heap.size wi W) [] [(0,0,some 74),(1,1,some 75),(0,2,some 76),(0,3,some 77),(1,4,some 78),(0,5,some 79),(0,6,some 80),(0,7,some 81),(1,8,some 82),(0,9,some 83),(0,10,some 84),(1,11,some 85),(2,12,some 86),(0,13,some 87),(0,14,some 88),(0,15,some 89),(1,16,some 90),(0,17,some 91),(0,18,some 92),(1,19,some 93),(0,21,some 95),(1,22,some 96),(0,23,some 97),(0,24,some 98),(1,25,some 99),(2,20,some 94),(0,26,some 100),(0,27,some 101),(0,28,some 102)] (by kernel_rfl) (by kernel_rfl) (below_drew (Below.refl _ _)) (fun hS => ?_)
                    generalize wi.drew = W at hS ⊢
                    repeat (first
                      | (refine sq0 rfl ?_ (fun _ _ _ _ h => h) ?_; (focus rfl); apply Exists.intro; constructor; (focus (intro w'; go_simp; with_reducible rfl)); (simp only [Act.put, List.setIfInBounds_toArray, List.set_cons_zero, List.set_cons_succ]))
                      | (refine sq1 rfl ?_ (fun _ _ _ _ h => h) hS ?_; (focus rfl); apply Exists.intro; constructor; (focus (intro w' hS'; have q4 : w'.cell? ⟨wo.heap.size, 4, none⟩ = some (.slice (some sa) r.f4.length c4) := blk_cell (blk_below HOl.out hS') 4; have z0 : w'.cell? (sa.add j) = some (.string s) := pw_cell_below hS' HZ.out; go_simp; with_reducible rfl)); (simp only [Act.put, List.setIfInBounds_toArray, List.set_cons_zero, List.set_cons_succ]))
                      | (refine sq0_off rfl ?_ (fun _ _ _ _ h => h) ?_; (focus rfl); (simp only [Act.put, List.setIfInBounds_toArray, List.set_cons_zero, List.set_cons_succ]))
                      | (refine sq1_off rfl ?_ (fun _ _ _ _ h => h) hS ?_; (focus rfl); (simp only [Act.put, List.setIfInBounds_toArray, List.set_cons_zero, List.set_cons_succ]))
                      | (refine sq_off rfl ?_ hS ?_; (focus rfl); (simp only [Act.put, List.setIfInBounds_toArray, List.set_cons_zero, List.set_cons_succ])))
                    refine sq_end ?_
                    go_wp2
                    go_meet
                    case rel => exact ⟨by rw [HTG.out] <;> rfl, Lib.hid hS⟩
                case rest =>
                  obtain ⟨rfl, HS4⟩ := hcut
                  cases hg : typeGood s
                  · have hb := all_here2 HY.out (show rmayRB r = false by unfold rmayRB; rw [all_here HS.out hg, Bool.and_false])
                    have HBD := Lib.hid hb
                    clear hb
                    go_wp2
                    go_ret
                    exact ⟨by rw [HBD.out] <;> rfl, below_step HBA.out (below_step HBl.out HS4.out)⟩
                  · have HG := Lib.hid hg
                    clear hg
                    go_wp2
                    go_roundw
                    case measure => simp [intOf]; omega
                    case rel => exact ⟨j + 1, by omega, by go_num, Lib.hid (pre_next HS.out HG.out HJ.out), Lib.hid (below_step HBl.out HS4.out)⟩
              · obtain rfl : j = r.f4.length := by omega
                have hgood : rmayRB r = true := by
                  unfold rmayRB
                  rw [hbad, List.all_eq_true.2 (by have h := HJ.out; rwa [List.take_length] at h)]
                  rfl
                have HGood := Lib.hid hgood
                clear hgood
                go_wp2
                go_roundw
                case measure => simp [intOf]; omega
                case rel => exact ⟨k + 1, by omega, by go_num, Lib.hid (pre_next HY.out HGood.out HF.out), Lib.hid (below_step HBA.out HBl.out)⟩
          · have hb := all_here2 HY.out (show rmayRB r = false by unfold rmayRB; rw [hbad]; rfl)
            have HBD := Lib.hid hb
            clear hb
            go_wp2
            go_ret
            exact ⟨by rw [HBD.out] <;> rfl, below_step HBA.out HC.out.1⟩
    · obtain rfl : k = rules.length := by omega
      have hall : rmayB rules = decide (rules.length ≤ 40) := by
        unfold rmayB
        rw [List.all_eq_true.2 (by have h := HF.out; rwa [List.take_length] at h)]
        rfl
      have HALL := Lib.hid hall
      clear hall
      have hle : decide ((rules.length : Int) ≤ 40) = decide (rules.length ≤ 40) := by rw [decide_eq_decide]; omega
      go_wp2
      go_ret
      exact ⟨by rw [HALL.out]; first | rfl | (rw [hle]), HB.out⟩
end Go.Proofs.YtflkghdndffacaaGreatDoor.C
