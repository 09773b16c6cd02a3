/- Words, functions' contracts and plain laws for the row of AclWho, part 5: cut out of this session's texts by a program of its own. No condition. -/
import Derived.Below
import Derived.Deep.Draws
import Derived.Deep.AppendLies
import Derived.Maps.AppendAt
import Derived.OwnWalk
import Derived.Laws.BytesArg
import Derived.Laws.MakeOwn
import Derived.Laws.OwnMore
import Derived.Deep.OwnRows
import Derived.Tactics
import Derived.Lib.ConvBytes
import Derived.Laws.Slices
import Derived.WalkKit
import Derived.KernelRfl
import Derived.RowKit3
import Derived.Deep.LoopGhost
import Derived.Deep.QuietTactic
import Derived.BigQuiet
import Derived.WideLaws
import Derived.Deep.DeepCutAuto
import Derived.Deep.CutBlock
import Derived.Deep.RegionHeld3
import Derived.Laws.Rows
import Derived.Lib.AppendStr
import Derived.ArgAppend
import Derived.Laws.IdiomCopy
import Derived.OrdersHeld
import Derived.Laws.BitsLemmas
import Derived.RowKit
import Derived.Lib.SliceRun
import Derived.Test.YtflkghdndffacaaDoorGWho4
namespace Go.Proofs.YtflkghdndffacaaDoor.PD
open Go.RowKit Go.Proofs.YtflkghdndffacaaDoor.H Go.Proofs.YtflkghdndffacaaDoorW.PrintWords Go.Proofs.YtflkghdndffacaaDoorW.PrintLast Go.Proofs.YtflkghdndffacaaDoorW.PrintMore
attribute [local go_sem] max2_int min2_int max_two min_two max_three min_three max_four min_four
set_option linter.unusedVariables false
set_option linter.unusedSimpArgs false
def brookref1_Key.l0 : Nat → List (S25) → Int → List (S25) → Bool → Option (ByteArray × Bool)
 | 0, _, _, _, _ => none
 | k + 1, x4, x5, x293000, x293001 => if x5 < (x293000.length : Int) then (if 0 ≤ x5 then ((brookref1_Lower.f ((rd_T25 x293000 x5).f0)).bind fun t295 => ((brookref1_Fold.f k ((rd_T25 x293000 x5).f1)).bind fun t297 => (if t297.toList = ([] : List UInt8) then (some ((⟨#[]⟩ : ByteArray), false)) else (if x4.length < 4398046511104 then (brookref1_Key.l0 k (x4 ++ [(⟨t295, t297⟩ : S25)]) (wrap64 (x5 + 1)) x293000 x293001) else (none))))) else (none)) else ((brookref1_TextDn.f k x4).bind fun t293 => (some (t293, true)))
def brookref1_Key.f (k : Nat) (a0 : ByteArray) : Option (ByteArray × Bool) := (brookref1_ParseDn.f k a0).bind fun bt288 => (if bt288.2 = true then (brookref1_Key.l0 k ([] : List (S25)) 0 bt288.1 bt288.2) else (some ((⟨#[]⟩ : ByteArray), false)))
theorem brookref1_Key.mono_l : ∀ k, (∀ y0 y1 y2 y3, LeO (brookref1_Key.l0 k y0 y1 y2 y3) (brookref1_Key.l0 (k + 1) y0 y1 y2 y3))
 | 0 => fun _ _ _ _ r h => by simp [brookref1_Key.l0] at h
 | k + 1 => by
  have ih0 := brookref1_Key.mono_l k
  ·intro y0 y1 y2 y3
   unfold brookref1_Key.l0
   repeat' first
   | (with_reducible exact ih0 _ _ _ _)
   | (with_reducible exact brookref1_Fold.mono _ _)
   | (with_reducible exact brookref1_ParseDn.mono _ _)
   | (with_reducible exact brookref1_TextDn.mono _ _)
   | (with_reducible exact LeO.refl _)
   | (with_reducible exact LeO.none _)
   | (with_reducible refine LeO.ite ?_ ?_)
   | (with_reducible refine LeO.bind ?_ (fun _ => ?_))
   | exact ih0 _ _ _ _
   | exact brookref1_Fold.mono _ _
   | exact brookref1_ParseDn.mono _ _
   | exact brookref1_TextDn.mono _ _
   | exact LeO.none _
   | refine LeO.ite ?_ ?_
   | refine LeO.bind ?_ (fun _ => ?_)
theorem brookref1_Key.mono : ∀ a0 k, LeO (brookref1_Key.f k a0) (brookref1_Key.f (k + 1) a0) := by
 intro a0 k
 have ih0 := brookref1_Key.mono_l k
 unfold brookref1_Key.f
 repeat' first
   | (with_reducible exact ih0 _ _ _ _)
   | (with_reducible exact brookref1_Fold.mono _ _)
   | (with_reducible exact brookref1_ParseDn.mono _ _)
   | (with_reducible exact brookref1_TextDn.mono _ _)
   | (with_reducible exact LeO.refl _)
   | (with_reducible exact LeO.none _)
   | (with_reducible refine LeO.ite ?_ ?_)
   | (with_reducible refine LeO.bind ?_ (fun _ => ?_))
   | exact ih0 _ _ _ _
   | exact brookref1_Fold.mono _ _
   | exact brookref1_ParseDn.mono _ _
   | exact brookref1_TextDn.mono _ _
   | exact LeO.none _
   | refine LeO.ite ?_ ?_
   | refine LeO.bind ?_ (fun _ => ?_)
def brookref1_Key.T8 : Bool × List (List Nat × List Nat) := (true, [([], []), ([0], [0]), ([], []), ([1, 2], [1, 2]), ([3], [3]), ([4], [4]), ([5], [5]), ([], []), ([7], [7]), ([], []), ([8, 9], [8, 9]), ([10], [10]), ([11], [11]), ([12, 6], [12]), ([6, 13], [6, 13]), ([], []), ([15, 14, 13, 0, 1, 2, 3, 4, 5, 6, 7, 8, 9, 10, 11, 12, 13, 14, 15], [14, 15])])
def brookref1_Key.B8 : List Nat := [0, 1, 0, 7, 15, 31, 63, 0, 128, 0, 896, 1920, 3968, 8191, 16383, 0, 65535]
theorem brookref1_Key.tab8 : rtab .any (opsOf Tryd.f27 8) = brookref1_Key.T8 := by kernel_rfl
theorem brookref1_Key.bits8 : waitsOk brookref1_Key.T8.2 brookref1_Key.B8 = true := by kernel_rfl
set_option maxHeartbeats 8000000 in
set_option maxRecDepth 100000 in
theorem brookref1_Key.calls (k : Nat) (a0 : ByteArray) (r1 : ByteArray) (r2 : Bool) (w : World) (h : brookref1_Key.f k a0 = some (r1, r2)) :
  Calls Tryd.prog 27 #[.string a0] w fun e w' => e = .returned (.agg #[.string r1, .bool r2]) ∧ Below w.heap.size w w' := by
 have hu45 := Tryd.underlying45
 have hu42 := Tryd.underlying42
 have hu25 := Tryd.underlying25
 have HB := Aside0.mk (Below.refl w.heap.size w)
 have H : ((brookref1_ParseDn.f k a0).bind fun bt288 => (if bt288.2 = true then (brookref1_Key.l0 k ([] : List (S25)) 0 bt288.1 bt288.2) else (some ((⟨#[]⟩ : ByteArray), false)))) = some (r1, r2) := h
 clear h
 replace H := Option.bind_eq_some_iff.mp H
 obtain ⟨⟨t288, t291⟩, A20, H⟩ := H
 replace H : (if t291 = true then (brookref1_Key.l0 k ([] : List (S25)) 0 t288 t291) else (some ((⟨#[]⟩ : ByteArray), false))) = some (r1, r2) := H
 have A2 := Aside0.mk A20
 clear A20
 by_cases c3 : t291 = true
 ·subst c3
  have H1 : (brookref1_Key.l0 k ([] : List (S25)) 0 t288 true) = some (r1, r2) := by rw [if_pos rfl] at H; exact H
  clear H
  have H := H1
  clear H1
  have H' := Aside0.mk H
  clear H
  go_enter Tryd.func27, Tryd.ntmps27
  go_wp2_with (first | ((with_reducible refine gate_dst (N := 2) rfl ?_); refine box_event ?hg (N := 2) ?hd (cs := #[.string (⟨#[]⟩ : ByteArray), .bool false]) (t := 45) ?hr ?_; (case hd => rfl); (case hg => rfl); (case hr => first | (go_simp; done) | (go_simp; rfl)); intro gb287 hg w4 hbox hb; have n0_ := Aside0.mk (below_step (by repeat (first | (with_reducible first | exact HB.out | apply below_alloc | apply pw_below_drewN | apply below_drew1) | exact HB.out)) hb); have n1_ := Aside0.mk (hbox); have n2_ := Aside0.mk ((by rw [hg]; exact (below_size (by repeat (first | (with_reducible first | exact HB.out | apply below_alloc | apply pw_below_drewN | apply below_drew1) | exact HB.out))) : w.heap.size ≤ gb287)); have n3_ := Aside0.mk ((by rw [hg]; exact (below_size (by repeat (first | (with_reducible first | exact HB.out | apply below_alloc | apply pw_below_drewN | apply below_drew1) | exact HB.out))) : w.heap.size ≤ gb287)); clear HB; have HB := n0_; have BK287 := n1_; have GW287 := n2_; have GE287 := n3_; clear n0_ n1_ n2_ n3_; clear hb hbox hg) | ((with_reducible refine gate_callee (f := 26) rfl ?_); refine goesL_ (some 8) rfl rfl Tryd.func26 (by kernel_rfl) rfl #[.string a0] rfl (by (try simp only [List.map_toArray, List.map_cons, List.map_nil]); first | done | rfl | (simp only [List.length_drop, List.length_take]; rfl)) ?_; (with_reducible refine (brookref1_ParseDn.calls k a0 t288 true _ A2.out).mono ?_); rintro e w5 ⟨v289, rfl, ho0, hb⟩; refine ⟨_, rfl, ?_⟩; have n0_ := Aside0.mk (Kd.R_lower ho0 (below_size (by repeat (first | (with_reducible first | exact HB.out | apply below_alloc | apply pw_below_drewN | apply below_drew1 | refine below_set ?_ GE287.out) | exact HB.out)))); have n1_ := Aside0.mk (blk_below (g := gb287) (o := .cells #[.string (⟨#[]⟩ : ByteArray), .bool false] 45 (0, 0)) (by (with_reducible repeat (first | refine blk_drewN ?_ _ | refine blk_drew ?_ | refine blk_alloc ?_ _)); exact BK287.out) hb); have n2_ := Aside0.mk (below_step (by repeat (first | (with_reducible first | exact HB.out | apply below_alloc | apply pw_below_drewN | apply below_drew1 | refine below_set ?_ GE287.out) | exact HB.out)) hb); clear BK287; clear HB; have HO290 := n0_; have BK287 := n1_; have HB := n2_; clear n0_ n1_ n2_; (try clear hb); (try clear hb2); (try clear hk); (try clear hi); (try clear ho0)) | ((with_reducible refine gate_dst (N := 3) rfl ?_); refine box_event ?hg (N := 3) ?hd (cs := #[.slice none 0 0, .bool false]) (t := 42) ?hr ?_; (case hd => rfl); (case hg => rfl); (case hr => first | (go_simp; done) | (go_simp; rfl)); intro gb292 hg w6 hbox hb; have n0_ := Aside0.mk (Kd.R_below (by (with_reducible repeat (first | apply Kd.R_alloc | apply Kd.R_drewN | apply Kd.R_drew)); exact HO290.out) hb); have n1_ := Aside0.mk (blk_below (g := gb287) (o := .cells #[.string (⟨#[]⟩ : ByteArray), .bool false] 45 (0, 0)) (by (with_reducible repeat (first | refine blk_drewN ?_ _ | refine blk_drew ?_ | refine blk_alloc ?_ _)); exact BK287.out) hb); have n2_ := Aside0.mk (below_step (by repeat (first | (with_reducible first | exact HB.out | apply below_alloc | apply pw_below_drewN | apply below_drew1 | refine below_set ?_ GE287.out) | exact HB.out)) hb); have n3_ := Aside0.mk (hbox); have n4_ := Aside0.mk ((by rw [hg]; exact (below_size (by repeat (first | (with_reducible first | exact HB.out | apply below_alloc | apply pw_below_drewN | apply below_drew1 | refine below_set ?_ GE287.out) | exact HB.out))) : w.heap.size ≤ gb292)); have n5_ := Aside0.mk ((by rw [hg]; exact (below_size (by repeat (first | (with_reducible first | exact HB.out | apply below_alloc | apply pw_below_drewN | apply below_drew1 | refine below_set ?_ GE287.out) | exact HB.out))) : w.heap.size ≤ gb292)); have n6_ := Aside0.mk ((by rw [hg]; exact Nat.ne_of_lt (blk_lt (g := gb287) (o := .cells #[.string (⟨#[]⟩ : ByteArray), .bool false] 45 (0, 0)) (by (with_reducible repeat (first | refine blk_drewN ?_ _ | refine blk_drew ?_ | refine blk_alloc ?_ _)); exact BK287.out)) : gb287 ≠ gb292)); have n7_ := Aside0.mk ((by rw [hg]; exact Nat.ne_of_gt (blk_lt (g := gb287) (o := .cells #[.string (⟨#[]⟩ : ByteArray), .bool false] 45 (0, 0)) (by (with_reducible repeat (first | refine blk_drewN ?_ _ | refine blk_drew ?_ | refine blk_alloc ?_ _)); exact BK287.out)) : gb292 ≠ gb287)); clear HO290; clear BK287; clear HB; have HO290 := n0_; have BK287 := n1_; have HB := n2_; have BK292 := n3_; have GW292 := n4_; have GE292 := n5_; have NB287_292 := n6_; have NB292_287 := n7_; clear n0_ n1_ n2_ n3_ n4_ n5_ n6_ n7_; clear hb hbox hg; obtain ⟨Ao7, co7, eo7⟩ := Kd.R_slice HO290.out; subst eo7; have hnb8 := NB292_287.out; have hnc8 := NB287_292.out; have hcz9_0 : w6.cell? ⟨gb292, 0, none⟩ = some (.slice none 0 0) := (blk_cell BK292.out 0).trans rfl; have hcz9_1 : w6.cell? ⟨gb292, 1, none⟩ = some (.bool false) := (blk_cell BK292.out 1).trans rfl; have hfz9_0 := blk_frozen BK292.out 0; have hfz9_1 := blk_frozen BK292.out 1))
  go_loopg [4, 5] k (fun kq v4 v5 w' => ∃ (x4_1 : List (S25)) (x5_1 : Int) (x288000_1 : ByteArray) (x288001_1 : Bool), v5 = .int .i64 x5_1 ∧ Aside0 (brookref1_Key.l0 kq x4_1 x5_1 t288 true = some (r1, r2)) ∧ Aside0 (kq ≤ k) ∧ Aside0 (Kd.R k25 25 w' w.heap.size (fun k_ => some k_ ≠ ((.slice Ao7 t288.length co7) : Value).ownBlock) v4 x4_1) ∧ Aside0 (Kd.R k25 25 w' w.heap.size (fun k_ => some k_ ≠ (v4 : Value).ownBlock) (.slice Ao7 t288.length co7) t288) ∧ Aside0 (w'.heap[gb287]? = some (.cells #[.string x288000_1, .bool x288001_1] 45 (0, 0))) ∧ Aside0 (w'.heap[gb292]? = some (.cells #[(.slice Ao7 t288.length co7), .bool true] 42 (0, 0))) ∧ Aside0 (Below w.heap.size w w'))
  case atStart => exact ⟨(([] : List (S25))), (0), ((⟨#[]⟩ : ByteArray)), (false), (by first | rfl | (simp; done) | (simp [*]; done) | (simp [u8_w, i64_w]; done) | (simp [isEmpty_bne]; done)), H', ⟨Nat.le_refl _⟩, ⟨by first | exact Kd.R_nil _ _ _ _ _ | exact Kd.N_nil _ _ _ _ _ | exact Kd.V_nil _ _ _ _ _ | exact Kd.Q_nil _ _ _ _ _ | exact Kd.S_nil _ _ _ _ _⟩, ⟨by (with_reducible repeat (first | apply Kd.R_alloc | apply Kd.R_drewN | apply Kd.R_drew)); exact Kd.R_mono (Kd.R_far (p := ⟨gb292, 1, none⟩) (Kd.R_far (p := ⟨gb292, 0, none⟩) (Kd.R_types HO290.out BK292.out (by decide)) (fun _ hk => hk.2) (.slice Ao7 t288.length co7)) (fun _ hk => hk.2) (.bool true)) (fun _ hk => (by simp [Value.ownBlock]))⟩, ⟨by (with_reducible repeat (first | refine blk_drewN ?_ _ | refine blk_drew ?_ | refine blk_alloc ?_ _)); refine blk_far ?_ NB287_292.out _; (with_reducible repeat (first | refine blk_drewN ?_ _ | refine blk_drew ?_ | refine blk_alloc ?_ _)); refine blk_far ?_ NB287_292.out _; (with_reducible repeat (first | refine blk_drewN ?_ _ | refine blk_drew ?_ | refine blk_alloc ?_ _)); exact BK287.out⟩, ⟨by (with_reducible repeat (first | refine blk_drewN ?_ _ | refine blk_drew ?_ | refine blk_alloc ?_ _)); refine blk_put (cs := #[.slice Ao7 t288.length co7, .bool false]) ?_ 1 _ rfl; (with_reducible repeat (first | refine blk_drewN ?_ _ | refine blk_drew ?_ | refine blk_alloc ?_ _)); refine blk_put (cs := #[.slice none 0 0, .bool false]) ?_ 0 _ rfl; (with_reducible repeat (first | refine blk_drewN ?_ _ | refine blk_drew ?_ | refine blk_alloc ?_ _)); exact BK292.out⟩, ⟨by repeat (first | (with_reducible first | exact HB.out | apply below_alloc | apply pw_below_drewN | apply below_drew1 | refine below_set ?_ GE287.out | refine below_set ?_ GE292.out) | exact HB.out)⟩⟩
  case round =>
   clear H'
   try clear c2
   try clear p2
   try clear c3
   try clear c8
   try clear hcz9_0
   try clear hcz9_1
   try clear hfz9_0
   try clear hfz9_1
   obtain ⟨x4_1, x5_1, x288000_1, x288001_1, rfl, HA, HK1, HO_4, HO_293000, BK287, BK292, HB⟩ := hrel
   cases gk with
   | zero => exact absurd HA.out (by simp [brookref1_Key.l0])
   | succ k1 =>
    have H := HA.out
    clear HA
    simp only [brookref1_Key.l0] at H
    by_cases c10 : x5_1 < (t288.length : Int)
    ·rw [if_pos c10] at H
     have c10b0 : decide (x5_1 < (t288.length : Int)) = true := decide_eq_true c10
     clear c10
     by_cases c11 : 0 ≤ x5_1
     ·rw [if_pos c11] at H
      have c11b0 : decide (0 ≤ x5_1) = true := decide_eq_true c11
      clear c11
      replace H := Option.bind_eq_some_iff.mp H
      obtain ⟨t295, A120, H⟩ := H
      replace H : ((brookref1_Fold.f k1 ((rd_T25 t288 x5_1).f1)).bind fun t297 => (if t297.toList = ([] : List UInt8) then (some ((⟨#[]⟩ : ByteArray), false)) else (if x4_1.length < 4398046511104 then (brookref1_Key.l0 k1 (x4_1 ++ [(⟨t295, t297⟩ : S25)]) (wrap64 (x5_1 + 1)) t288 true) else (none)))) = some (r1, r2) := H
      have A12 := Aside0.mk A120
      clear A120
      replace H := Option.bind_eq_some_iff.mp H
      obtain ⟨t297, A130, H⟩ := H
      replace H : (if t297.toList = ([] : List UInt8) then (some ((⟨#[]⟩ : ByteArray), false)) else (if x4_1.length < 4398046511104 then (brookref1_Key.l0 k1 (x4_1 ++ [(⟨t295, t297⟩ : S25)]) (wrap64 (x5_1 + 1)) t288 true) else (none))) = some (r1, r2) := H
      have A13 := Aside0.mk A130
      clear A130
      by_cases c14 : t297.toList = ([] : List UInt8)
      ·rw [if_pos c14] at H
       have c14b0 : (t297.toList == ([] : List UInt8)) = true := beq_iff_eq.mpr c14
       have c14b1 : (t297.toList != ([] : List UInt8)) = false := bne_eq_false_iff_eq.mpr c14
       clear c14
       simp only [Option.some.injEq, Prod.mk.injEq] at H
       obtain ⟨rfl, rfl⟩ := H
       have hnb15 := NB292_287.out
       have hnc15 := NB287_292.out
       have hcz16_0 : wr.cell? ⟨gb292, 0, none⟩ = some (.slice Ao7 t288.length co7) := (blk_cell BK292.out 0).trans rfl
       have hcz16_1 : wr.cell? ⟨gb292, 1, none⟩ = some (.bool true) := (blk_cell BK292.out 1).trans rfl
       have hfz16_0 := blk_frozen BK292.out 0
       have hfz16_1 := blk_frozen BK292.out 1
       try go_wp2
       have n0_ := Aside0.mk (Kd.R_drew HO_4.out)
       have n1_ := Aside0.mk (Kd.R_drew HO_293000.out)
       have n2_ := Aside0.mk (blk_drew BK287.out)
       have n3_ := Aside0.mk (blk_drew BK292.out)
       have n4_ := Aside0.mk (below_drew1 HB.out)
       clear HO_4
       clear HO_293000
       clear BK287
       clear BK292
       clear HB
       have HO_4 := n0_
       have HO_293000 := n1_
       have BK287 := n2_
       have BK292 := n3_
       have HB := n4_
       clear n0_ n1_ n2_ n3_ n4_
       have p294 : 0 ≤ (x5_1 : Int) := of_decide_eq_true (by first | (with_reducible assumption) | assumption)
       have q294 : x5_1 < (t288.length : Int) := of_decide_eq_true (by first | (with_reducible assumption) | assumption)
       obtain ⟨ad294, e294, hx294_0, hx294_1⟩ := at_T25 (Kd.R_reads' HO_293000.out).2.2 x5_1 p294 q294
       cases e294
       replace p294 := eq_true p294
       replace q294 := eq_true q294
       have p296 : 0 ≤ (x5_1 : Int) := of_decide_eq_true (by first | (with_reducible assumption) | assumption)
       have q296 : x5_1 < (t288.length : Int) := of_decide_eq_true (by first | (with_reducible assumption) | assumption)
       obtain ⟨ad296, e296, hx296_0, hx296_1⟩ := at_T25 (Kd.R_reads' HO_293000.out).2.2 x5_1 p296 q296
       obtain rfl : ad294 = ad296 := (by injection e296)
       replace p296 := eq_true p296
       replace q296 := eq_true q296
       refine start_ (n := 17) (S := fun w' => w'.cell? ⟨gb292, 0, none⟩ = some (.slice (some ad294) t288.length co7) ∧ w'.cell? ⟨gb292, 1, none⟩ = some (.bool true) ∧ w'.cell? (ad294.add ((x5_1).toNat * 2)) = some (.string ((rd_T25 t288 x5_1).f0)) ∧ w'.cell? ⟨(ad294.add ((x5_1).toNat * 2)).block, (ad294.add ((x5_1).toNat * 2)).off + 1, none⟩ = some (.string ((rd_T25 t288 x5_1).f1)) ∧ w'.cell? (ad294.add ((x5_1).toNat * 2)) = some (.string ((rd_T25 t288 x5_1).f0)) ∧ w'.cell? ⟨(ad294.add ((x5_1).toNat * 2)).block, (ad294.add ((x5_1).toNat * 2)).off + 1, none⟩ = some (.string ((rd_T25 t288 x5_1).f1))) (ds := []) #[false, false, false, false, false, false, false, false, false, false, false, false, false, false, false, false, false] (by kernel_rfl) rfl rfl ⟨(blk_cell BK292.out 0).trans rfl, (blk_cell BK292.out 1).trans rfl, hx294_0, hx294_1, hx296_0, hx296_1⟩ (fun hHeld => ?_); refine with_tabW brookref1_Key.tab8 brookref1_Key.bits8 (fun HT_ HW_ => ?_)
       generalize wr.drew = w17 at HO_4 HO_293000 BK287 BK292 HB hx294_0 hx294_1 hx296_0 hx296_1 hHeld ⊢
       refine pure_ (i := 0) (N := some 20) (v := ?_) (a' := ?_) #[true, false, false, false, false, false, false, false, false, false, false, false, false, false, false, false, false] rfl rfl (any_of HT_.out (by kernel_rfl)) (fun _ _ _ h => h) (Or.inl ⟨by rfl, ?_⟩) ?_ ?_
       rotate_left
       ·intro w'
        go_simp
        with_reducible rfl
       rotate_left
       ·simp only [Act.put, List.setIfInBounds_toArray, List.set_cons_zero, List.set_cons_succ, i64_w, i32_w]
        rfl
       refine pure_ (i := 2) (N := some 22) (v := ?_) (a' := ?_) #[true, false, true, false, false, false, false, false, false, false, false, false, false, false, false, false, false] rfl rfl (any_of HT_.out (by kernel_rfl)) (fun _ _ _ h => h) (Or.inl ⟨by rfl, ?_⟩) ?_ ?_
       rotate_left
       ·intro w'
        go_simp
        with_reducible rfl
       rotate_left
       ·simp only [Act.put, List.setIfInBounds_toArray, List.set_cons_zero, List.set_cons_succ, i64_w, i32_w]
        rfl
       refine pure_ (i := 7) (N := some 27) (v := ?_) (a' := ?_) #[true, false, true, false, false, false, false, true, false, false, false, false, false, false, false, false, false] rfl rfl (any_of HT_.out (by kernel_rfl)) (fun _ _ _ h => h) (Or.inl ⟨by rfl, ?_⟩) ?_ ?_
       rotate_left
       ·intro w'
        go_simp
        with_reducible rfl
       rotate_left
       ·simp only [Act.put, List.setIfInBounds_toArray, List.set_cons_zero, List.set_cons_succ, i64_w, i32_w]
        rfl
       refine pure_ (i := 9) (N := some 29) (v := ?_) (a' := ?_) #[true, false, true, false, false, false, false, true, false, true, false, false, false, false, false, false, false] rfl rfl (any_of HT_.out (by kernel_rfl)) (fun _ _ _ h => h) (Or.inl ⟨by rfl, ?_⟩) ?_ ?_
       rotate_left
       ·intro w'
        go_simp
        with_reducible rfl
       rotate_left
       ·simp only [Act.put, List.setIfInBounds_toArray, List.set_cons_zero, List.set_cons_succ, i64_w, i32_w]
        rfl
       refine take_ (i := 1) (N := some 21) (v := ?_) (a' := ?_) #[true, true, true, false, false, false, false, true, false, true, false, false, false, false, false, false, false] rfl rfl (take_ofW HT_.out HW_.out (by kernel_rfl)) (fun _ _ _ h => h) (Or.inl ⟨by rfl, ?_⟩) hHeld ?_ ?_
       rotate_left
       ·rintro w' ⟨s0, s1, s2, s3, s4, s5⟩
        go_simp
        with_reducible rfl
       rotate_left
       ·simp only [Act.put, List.setIfInBounds_toArray, List.set_cons_zero, List.set_cons_succ, i64_w, i32_w]
        rfl
       refine pure_ (i := 3) (N := some 23) (v := ?_) (a' := ?_) #[true, true, true, true, false, false, false, true, false, true, false, false, false, false, false, false, false] rfl rfl (any_of HT_.out (by kernel_rfl)) (fun _ _ _ h => h) (Or.inl ⟨by rfl, ?_⟩) ?_ ?_
       rotate_left
       ·intro w'
        go_simp
        with_reducible rfl
       rotate_left
       ·simp only [Act.put, List.setIfInBounds_toArray, List.set_cons_zero, List.set_cons_succ, i64_w, i32_w]
        rfl
       refine pure_ (i := 4) (N := some 24) (v := ?_) (a' := ?_) #[true, true, true, true, true, false, false, true, false, true, false, false, false, false, false, false, false] rfl rfl (any_of HT_.out (by kernel_rfl)) (fun _ _ _ h => h) (Or.inl ⟨by rfl, ?_⟩) ?_ ?_
       rotate_left
       ·intro w'
        go_simp
        with_reducible rfl
       rotate_left
       ·simp only [Act.put, List.setIfInBounds_toArray, List.set_cons_zero, List.set_cons_succ, i64_w, i32_w]
        rfl
       refine take_ (i := 5) (N := some 25) (v := ?_) (a' := ?_) #[true, true, true, true, true, true, false, true, false, true, false, false, false, false, false, false, false] rfl rfl (take_ofW HT_.out HW_.out (by kernel_rfl)) (fun _ _ _ h => h) (Or.inl ⟨by rfl, ?_⟩) hHeld ?_ ?_
       rotate_left
       ·rintro w' ⟨s0, s1, s2, s3, s4, s5⟩
        go_simp
        with_reducible rfl
       rotate_left
       ·simp only [Act.put, List.setIfInBounds_toArray, List.set_cons_zero, List.set_cons_succ, i64_w, i32_w]
        rfl
       refine take_ (i := 8) (N := some 28) (v := ?_) (a' := ?_) #[true, true, true, true, true, true, false, true, true, true, false, false, false, false, false, false, false] rfl rfl (take_ofW HT_.out HW_.out (by kernel_rfl)) (fun _ _ _ h => h) (Or.inl ⟨by rfl, ?_⟩) hHeld ?_ ?_
       rotate_left
       ·rintro w' ⟨s0, s1, s2, s3, s4, s5⟩
        go_simp
        with_reducible rfl
       rotate_left
       ·simp only [Act.put, List.setIfInBounds_toArray, List.set_cons_zero, List.set_cons_succ, i64_w, i32_w]
        rfl
       refine pure_ (i := 10) (N := some 30) (v := ?_) (a' := ?_) #[true, true, true, true, true, true, false, true, true, true, true, false, false, false, false, false, false] rfl rfl (any_of HT_.out (by kernel_rfl)) (fun _ _ _ h => h) (Or.inl ⟨by rfl, ?_⟩) ?_ ?_
       rotate_left
       ·intro w'
        go_simp
        with_reducible rfl
       rotate_left
       ·simp only [Act.put, List.setIfInBounds_toArray, List.set_cons_zero, List.set_cons_succ, i64_w, i32_w]
        rfl
       refine pure_ (i := 11) (N := some 31) (v := ?_) (a' := ?_) #[true, true, true, true, true, true, false, true, true, true, true, true, false, false, false, false, false] rfl rfl (any_of HT_.out (by kernel_rfl)) (fun _ _ _ h => h) (Or.inl ⟨by rfl, ?_⟩) ?_ ?_
       rotate_left
       ·intro w'
        go_simp
        with_reducible rfl
       rotate_left
       ·simp only [Act.put, List.setIfInBounds_toArray, List.set_cons_zero, List.set_cons_succ, i64_w, i32_w]
        rfl
       refine take_ (i := 12) (N := some 32) (v := ?_) (a' := ?_) #[true, true, true, true, true, true, false, true, true, true, true, true, true, false, false, false, false] rfl rfl (take_ofW HT_.out HW_.out (by kernel_rfl)) (fun _ _ _ h => h) (Or.inl ⟨by rfl, ?_⟩) hHeld ?_ ?_
       rotate_left
       ·rintro w' ⟨s0, s1, s2, s3, s4, s5⟩
        go_simp
        with_reducible rfl
       rotate_left
       ·simp only [Act.put, List.setIfInBounds_toArray, List.set_cons_zero, List.set_cons_succ, i64_w, i32_w]
        rfl
       refine join_ (σ := Nat) 1 #[true, true, true, true, true, true, true, true, true, true, true, true, true, true, true, true, false] (fun s_ => [(26, .string t295), (33, .string t297), (6, .pointer (some ⟨s_, 0, none⟩)), (34, .agg #[.string t295, .string t297])]) (fun s_ w' => (w'.cell? ⟨gb292, 0, none⟩ = some (.slice (some ad294) t288.length co7) ∧ w'.cell? ⟨gb292, 1, none⟩ = some (.bool true) ∧ w'.cell? (ad294.add ((x5_1).toNat * 2)) = some (.string ((rd_T25 t288 x5_1).f0)) ∧ w'.cell? ⟨(ad294.add ((x5_1).toNat * 2)).block, (ad294.add ((x5_1).toNat * 2)).off + 1, none⟩ = some (.string ((rd_T25 t288 x5_1).f1)) ∧ w'.cell? (ad294.add ((x5_1).toNat * 2)) = some (.string ((rd_T25 t288 x5_1).f0)) ∧ w'.cell? ⟨(ad294.add ((x5_1).toNat * 2)).block, (ad294.add ((x5_1).toNat * 2)).off + 1, none⟩ = some (.string ((rd_T25 t288 x5_1).f1))) ∧ (Kd.R k25 25 w' w.heap.size (fun k_ => some k_ ≠ (u4 : Value).ownBlock ∧ k_ ≠ s_) (.slice (some ad294) t288.length co7) t288) ∧ (Kd.R k25 25 w' w.heap.size (fun k_ => some k_ ≠ (.slice (some ad294) t288.length co7 : Value).ownBlock ∧ k_ ≠ s_) u4 x4_1) ∧ (w'.heap[gb287]? = some (.cells #[.string x288000_1, .bool x288001_1] 45 (0, 0))) ∧ (w'.heap[gb292]? = some (.cells #[.slice (some ad294) t288.length co7, .bool true] 42 (0, 0))) ∧ (w'.heap[s_]? = some (.cells #[.string (⟨#[]⟩ : ByteArray), .string (⟨#[]⟩ : ByteArray)] 25 (0, 0))) ∧ (w.heap.size ≤ s_) ∧ (w.heap.size ≤ s_) ∧ (gb287 ≠ s_) ∧ (s_ ≠ gb287) ∧ (gb292 ≠ s_) ∧ (s_ ≠ gb292) ∧ (Below w.heap.size w w')) ?_ ?_
       rotate_left
       ·intro hCont
        refine two_ (i := 6) (j := 15) (Ni := some 26) (Nj := some 6) #[true, true, true, true, true, true, true, true, true, true, true, true, true, false, false, false, false] #[true, true, true, true, true, true, false, true, true, true, true, true, true, false, false, true, false] rfl rfl rfl rfl (two_of HT_.out (by kernel_rfl)) (by decide) (by decide) (fun K hK => ?_) (fun K hK => ?_)
        ·skip
         refine goes_ Tryd.func24 (by kernel_rfl) rfl #[.string ((rd_T25 t288 x5_1).f0)] (by rfl) rfl rfl (by (try simp only [List.map_toArray, List.map_cons, List.map_nil]); first | done | rfl | (simp only [List.length_drop, List.length_take]; rfl)) ?_
         with_reducible refine (brookref1_Lower.calls ((rd_T25 t288 x5_1).f0) t295 _ A12.out).mono ?_
         rintro e w18 ⟨rfl, hb⟩
         have HS2_ := (hb.cell (World.block_lt_of_cell? _ _ (hHeld.2.2.1))).trans (hHeld.2.2.1)
         have HS3_ := (hb.cell (World.block_lt_of_cell? _ _ (hHeld.2.2.2.1))).trans (hHeld.2.2.2.1)
         have HS4_ := (hb.cell (World.block_lt_of_cell? _ _ (hHeld.2.2.2.2.1))).trans (hHeld.2.2.2.2.1)
         have HS5_ := (hb.cell (World.block_lt_of_cell? _ _ (hHeld.2.2.2.2.2))).trans (hHeld.2.2.2.2.2)
         refine ⟨_, rfl, ?_⟩
         have n0_ := Aside0.mk (Kd.R_below (by (with_reducible repeat (first | apply Kd.R_alloc | apply Kd.R_drewN | apply Kd.R_drew)); exact HO_4.out) hb)
         have n1_ := Aside0.mk (Kd.R_below (by (with_reducible repeat (first | apply Kd.R_alloc | apply Kd.R_drewN | apply Kd.R_drew)); exact HO_293000.out) hb)
         have n2_ := Aside0.mk (blk_below (g := gb287) (o := .cells #[.string x288000_1, .bool x288001_1] 45 (0, 0)) (by (with_reducible repeat (first | refine blk_drewN ?_ _ | refine blk_drew ?_ | refine blk_alloc ?_ _)); exact BK287.out) hb)
         have n3_ := Aside0.mk (blk_below (g := gb292) (o := .cells #[.slice (some ad294) t288.length co7, .bool true] 42 (0, 0)) (by (with_reducible repeat (first | refine blk_drewN ?_ _ | refine blk_drew ?_ | refine blk_alloc ?_ _)); exact BK292.out) hb)
         have n4_ := Aside0.mk (below_step (by repeat (first | (with_reducible first | exact HB.out | apply below_alloc | apply pw_below_drewN | apply below_drew1 | refine below_set ?_ GE287.out | refine below_set ?_ GE292.out) | exact HB.out)) hb)
         clear HO_4
         clear HO_293000
         clear BK287
         clear BK292
         clear HB
         have HO_4 := n0_
         have HO_293000 := n1_
         have BK287 := n2_
         have BK292 := n3_
         have HB := n4_
         clear n0_ n1_ n2_ n3_ n4_
         (try clear hb)
         (try clear hb2)
         (try clear hk)
         (try clear hi)
         refine hK.out _ _ ⟨(blk_cell BK292.out 0).trans rfl, (blk_cell BK292.out 1).trans rfl, HS2_, HS3_, HS4_, HS5_⟩ (fun hHeld => ?_)
         clear hK K
         refine norm_ (a' := ?_) ?_ ?_
         rotate_left
         ·show Act.put _ (some 26) _ = _
          simp only [Act.put, List.setIfInBounds_toArray, List.set_cons_zero, List.set_cons_succ, i64_w, i32_w]
          rfl
         refine two_ (i := 13) (j := 15) (Ni := some 33) (Nj := some 6) #[true, true, true, true, true, true, true, true, true, true, true, true, true, true, false, false, false] #[true, true, true, true, true, true, true, true, true, true, true, true, true, false, false, true, false] rfl rfl rfl rfl (two_of HT_.out (by kernel_rfl)) (by decide) (by decide) (fun K hK => ?_) (fun K hK => ?_)
         ·skip
          refine goes_ Tryd.func28 (by kernel_rfl) rfl #[.string ((rd_T25 t288 x5_1).f1)] (by rfl) rfl rfl (by (try simp only [List.map_toArray, List.map_cons, List.map_nil]); first | done | rfl | (simp only [List.length_drop, List.length_take]; rfl)) ?_
          with_reducible refine (brookref1_Fold.calls k1 ((rd_T25 t288 x5_1).f1) t297 _ A13.out).mono ?_
          rintro e w19 ⟨rfl, hb⟩
          have HS2_ := (hb.cell (World.block_lt_of_cell? _ _ (hHeld.2.2.1))).trans (hHeld.2.2.1)
          have HS3_ := (hb.cell (World.block_lt_of_cell? _ _ (hHeld.2.2.2.1))).trans (hHeld.2.2.2.1)
          have HS4_ := (hb.cell (World.block_lt_of_cell? _ _ (hHeld.2.2.2.2.1))).trans (hHeld.2.2.2.2.1)
          have HS5_ := (hb.cell (World.block_lt_of_cell? _ _ (hHeld.2.2.2.2.2))).trans (hHeld.2.2.2.2.2)
          refine ⟨_, rfl, ?_⟩
          have n0_ := Aside0.mk (Kd.R_below (by (with_reducible repeat (first | apply Kd.R_alloc | apply Kd.R_drewN | apply Kd.R_drew)); exact HO_4.out) hb)
          have n1_ := Aside0.mk (Kd.R_below (by (with_reducible repeat (first | apply Kd.R_alloc | apply Kd.R_drewN | apply Kd.R_drew)); exact HO_293000.out) hb)
          have n2_ := Aside0.mk (blk_below (g := gb287) (o := .cells #[.string x288000_1, .bool x288001_1] 45 (0, 0)) (by (with_reducible repeat (first | refine blk_drewN ?_ _ | refine blk_drew ?_ | refine blk_alloc ?_ _)); exact BK287.out) hb)
          have n3_ := Aside0.mk (blk_below (g := gb292) (o := .cells #[.slice (some ad294) t288.length co7, .bool true] 42 (0, 0)) (by (with_reducible repeat (first | refine blk_drewN ?_ _ | refine blk_drew ?_ | refine blk_alloc ?_ _)); exact BK292.out) hb)
          have n4_ := Aside0.mk (below_step (by repeat (first | (with_reducible first | exact HB.out | apply below_alloc | apply pw_below_drewN | apply below_drew1 | refine below_set ?_ GE287.out | refine below_set ?_ GE292.out) | exact HB.out)) hb)
          clear HO_4
          clear HO_293000
          clear BK287
          clear BK292
          clear HB
          have HO_4 := n0_
          have HO_293000 := n1_
          have BK287 := n2_
          have BK292 := n3_
          have HB := n4_
          clear n0_ n1_ n2_ n3_ n4_
          (try clear hb)
          (try clear hb2)
          (try clear hk)
          (try clear hi)
          refine hK.out _ _ ⟨(blk_cell BK292.out 0).trans rfl, (blk_cell BK292.out 1).trans rfl, HS2_, HS3_, HS4_, HS5_⟩ (fun hHeld => ?_)
          clear hK K
          refine norm_ (a' := ?_) ?_ ?_
          rotate_left
          ·show Act.put _ (some 33) _ = _
           simp only [Act.put, List.setIfInBounds_toArray, List.set_cons_zero, List.set_cons_succ, i64_w, i32_w]
           rfl
          refine pure_ (i := 14) (N := some 34) (v := ?_) (a' := ?_) #[true, true, true, true, true, true, true, true, true, true, true, true, true, true, true, false, false] rfl rfl (any_of HT_.out (by kernel_rfl)) (fun _ _ _ h => h) (Or.inl ⟨by rfl, ?_⟩) ?_ ?_
          rotate_left
          ·intro w'
           go_simp
           with_reducible rfl
          rotate_left
          ·simp only [Act.put, List.setIfInBounds_toArray, List.set_cons_zero, List.set_cons_succ, i64_w, i32_w]
           rfl
          refine one_ (i := 15) (N := some 6) #[true, true, true, true, true, true, true, true, true, true, true, true, true, true, true, true, false] rfl rfl (one_of HT_.out (by kernel_rfl)) (by decide) (fun K hK => ?_)
          refine box_step ?hg (N := 6) ?hd (cs := #[.string (⟨#[]⟩ : ByteArray), .string (⟨#[]⟩ : ByteArray)]) (t := 25) ?hr ?_; (case hd => rfl); (case hg => rfl); (case hr => first | (go_simp; done) | (go_simp; rfl))
          intro gb298 hg w20 hbox hb
          have HS2_ := (hb.cell (World.block_lt_of_cell? _ _ (hHeld.2.2.1))).trans (hHeld.2.2.1)
          have HS3_ := (hb.cell (World.block_lt_of_cell? _ _ (hHeld.2.2.2.1))).trans (hHeld.2.2.2.1)
          have HS4_ := (hb.cell (World.block_lt_of_cell? _ _ (hHeld.2.2.2.2.1))).trans (hHeld.2.2.2.2.1)
          have HS5_ := (hb.cell (World.block_lt_of_cell? _ _ (hHeld.2.2.2.2.2))).trans (hHeld.2.2.2.2.2)
          have n0_ := Aside0.mk (Kd.R_below (Kd.R_elderB (by (with_reducible repeat (first | apply Kd.R_alloc | apply Kd.R_drewN | apply Kd.R_drew)); exact HO_4.out) gb298 (Nat.le_of_eq hg.symm)) hb)
          have n1_ := Aside0.mk (Kd.R_below (Kd.R_elderB (by (with_reducible repeat (first | apply Kd.R_alloc | apply Kd.R_drewN | apply Kd.R_drew)); exact HO_293000.out) gb298 (Nat.le_of_eq hg.symm)) hb)
          have n2_ := Aside0.mk (blk_below (g := gb287) (o := .cells #[.string x288000_1, .bool x288001_1] 45 (0, 0)) (by (with_reducible repeat (first | refine blk_drewN ?_ _ | refine blk_drew ?_ | refine blk_alloc ?_ _)); exact BK287.out) hb)
          have n3_ := Aside0.mk (blk_below (g := gb292) (o := .cells #[.slice (some ad294) t288.length co7, .bool true] 42 (0, 0)) (by (with_reducible repeat (first | refine blk_drewN ?_ _ | refine blk_drew ?_ | refine blk_alloc ?_ _)); exact BK292.out) hb)
          have n4_ := Aside0.mk (below_step (by repeat (first | (with_reducible first | exact HB.out | apply below_alloc | apply pw_below_drewN | apply below_drew1 | refine below_set ?_ GE287.out | refine below_set ?_ GE292.out) | exact HB.out)) hb)
          have n5_ := Aside0.mk (hbox)
          have n6_ := Aside0.mk ((by rw [hg]; exact (below_size (by repeat (first | (with_reducible first | exact HB.out | apply below_alloc | apply pw_below_drewN | apply below_drew1 | refine below_set ?_ GE287.out | refine below_set ?_ GE292.out) | exact HB.out))) : w.heap.size ≤ gb298))
          have n7_ := Aside0.mk ((by rw [hg]; exact (below_size (by repeat (first | (with_reducible first | exact HB.out | apply below_alloc | apply pw_below_drewN | apply below_drew1 | refine below_set ?_ GE287.out | refine below_set ?_ GE292.out) | exact HB.out))) : w.heap.size ≤ gb298))
          have n8_ := Aside0.mk ((by rw [hg]; exact Nat.ne_of_lt (blk_lt (g := gb287) (o := .cells #[.string x288000_1, .bool x288001_1] 45 (0, 0)) (by (with_reducible repeat (first | refine blk_drewN ?_ _ | refine blk_drew ?_ | refine blk_alloc ?_ _)); exact BK287.out)) : gb287 ≠ gb298))
          have n9_ := Aside0.mk ((by rw [hg]; exact Nat.ne_of_gt (blk_lt (g := gb287) (o := .cells #[.string x288000_1, .bool x288001_1] 45 (0, 0)) (by (with_reducible repeat (first | refine blk_drewN ?_ _ | refine blk_drew ?_ | refine blk_alloc ?_ _)); exact BK287.out)) : gb298 ≠ gb287))
          have n10_ := Aside0.mk ((by rw [hg]; exact Nat.ne_of_lt (blk_lt (g := gb292) (o := .cells #[.slice (some ad294) t288.length co7, .bool true] 42 (0, 0)) (by (with_reducible repeat (first | refine blk_drewN ?_ _ | refine blk_drew ?_ | refine blk_alloc ?_ _)); exact BK292.out)) : gb292 ≠ gb298))
          have n11_ := Aside0.mk ((by rw [hg]; exact Nat.ne_of_gt (blk_lt (g := gb292) (o := .cells #[.slice (some ad294) t288.length co7, .bool true] 42 (0, 0)) (by (with_reducible repeat (first | refine blk_drewN ?_ _ | refine blk_drew ?_ | refine blk_alloc ?_ _)); exact BK292.out)) : gb298 ≠ gb292))
          clear HO_4
          clear HO_293000
          clear BK287
          clear BK292
          clear HB
          have HO_4 := n0_
          have HO_293000 := n1_
          have BK287 := n2_
          have BK292 := n3_
          have HB := n4_
          have BK298 := n5_
          have GW298 := n6_
          have GE298 := n7_
          have NB287_298 := n8_
          have NB298_287 := n9_
          have NB292_298 := n10_
          have NB298_292 := n11_
          clear n0_ n1_ n2_ n3_ n4_ n5_ n6_ n7_ n8_ n9_ n10_ n11_
          clear hb hbox hg
          refine hK.out _ _ ⟨(blk_cell BK292.out 0).trans rfl, (blk_cell BK292.out 1).trans rfl, HS2_, HS3_, HS4_, HS5_⟩ (fun hHeld => ?_)
          clear hK K
          refine norm_ (a' := ?_) ?_ ?_
          rotate_left
          ·show Act.put _ (some 6) _ = _
           simp only [Act.put, List.setIfInBounds_toArray, List.set_cons_zero, List.set_cons_succ, i64_w, i32_w]
           rfl
          exact norm_ (by simp only [putAll, Act.put, List.setIfInBounds_toArray, List.set_cons_zero, List.set_cons_succ]) (hCont (gb298) _ ⟨hHeld, (by (with_reducible repeat (first | apply Kd.R_alloc | apply Kd.R_drewN | apply Kd.R_drew)); exact HO_293000.out), (by (with_reducible repeat (first | apply Kd.R_alloc | apply Kd.R_drewN | apply Kd.R_drew)); exact HO_4.out), (by (with_reducible repeat (first | refine blk_drewN ?_ _ | refine blk_drew ?_ | refine blk_alloc ?_ _)); exact BK287.out), (by (with_reducible repeat (first | refine blk_drewN ?_ _ | refine blk_drew ?_ | refine blk_alloc ?_ _)); exact BK292.out), (by (with_reducible repeat (first | refine blk_drewN ?_ _ | refine blk_drew ?_ | refine blk_alloc ?_ _)); exact BK298.out), GW298.out, GE298.out, NB287_298.out, NB298_287.out, NB292_298.out, NB298_292.out, (by repeat (first | (with_reducible first | exact HB.out | apply below_alloc | apply pw_below_drewN | apply below_drew1 | refine below_set ?_ GE287.out | refine below_set ?_ GE292.out | refine below_set ?_ GE298.out) | exact HB.out))⟩)
         ·skip
          refine box_step ?hg (N := 6) ?hd (cs := #[.string (⟨#[]⟩ : ByteArray), .string (⟨#[]⟩ : ByteArray)]) (t := 25) ?hr ?_; (case hd => rfl); (case hg => rfl); (case hr => first | (go_simp; done) | (go_simp; rfl))
          intro gb298 hg w19 hbox hb
          have HS2_ := (hb.cell (World.block_lt_of_cell? _ _ (hHeld.2.2.1))).trans (hHeld.2.2.1)
          have HS3_ := (hb.cell (World.block_lt_of_cell? _ _ (hHeld.2.2.2.1))).trans (hHeld.2.2.2.1)
          have HS4_ := (hb.cell (World.block_lt_of_cell? _ _ (hHeld.2.2.2.2.1))).trans (hHeld.2.2.2.2.1)
          have HS5_ := (hb.cell (World.block_lt_of_cell? _ _ (hHeld.2.2.2.2.2))).trans (hHeld.2.2.2.2.2)
          have n0_ := Aside0.mk (Kd.R_below (Kd.R_elderB (by (with_reducible repeat (first | apply Kd.R_alloc | apply Kd.R_drewN | apply Kd.R_drew)); exact HO_4.out) gb298 (Nat.le_of_eq hg.symm)) hb)
          have n1_ := Aside0.mk (Kd.R_below (Kd.R_elderB (by (with_reducible repeat (first | apply Kd.R_alloc | apply Kd.R_drewN | apply Kd.R_drew)); exact HO_293000.out) gb298 (Nat.le_of_eq hg.symm)) hb)
          have n2_ := Aside0.mk (blk_below (g := gb287) (o := .cells #[.string x288000_1, .bool x288001_1] 45 (0, 0)) (by (with_reducible repeat (first | refine blk_drewN ?_ _ | refine blk_drew ?_ | refine blk_alloc ?_ _)); exact BK287.out) hb)
          have n3_ := Aside0.mk (blk_below (g := gb292) (o := .cells #[.slice (some ad294) t288.length co7, .bool true] 42 (0, 0)) (by (with_reducible repeat (first | refine blk_drewN ?_ _ | refine blk_drew ?_ | refine blk_alloc ?_ _)); exact BK292.out) hb)
          have n4_ := Aside0.mk (below_step (by repeat (first | (with_reducible first | exact HB.out | apply below_alloc | apply pw_below_drewN | apply below_drew1 | refine below_set ?_ GE287.out | refine below_set ?_ GE292.out) | exact HB.out)) hb)
          have n5_ := Aside0.mk (hbox)
          have n6_ := Aside0.mk ((by rw [hg]; exact (below_size (by repeat (first | (with_reducible first | exact HB.out | apply below_alloc | apply pw_below_drewN | apply below_drew1 | refine below_set ?_ GE287.out | refine below_set ?_ GE292.out) | exact HB.out))) : w.heap.size ≤ gb298))
          have n7_ := Aside0.mk ((by rw [hg]; exact (below_size (by repeat (first | (with_reducible first | exact HB.out | apply below_alloc | apply pw_below_drewN | apply below_drew1 | refine below_set ?_ GE287.out | refine below_set ?_ GE292.out) | exact HB.out))) : w.heap.size ≤ gb298))
          have n8_ := Aside0.mk ((by rw [hg]; exact Nat.ne_of_lt (blk_lt (g := gb287) (o := .cells #[.string x288000_1, .bool x288001_1] 45 (0, 0)) (by (with_reducible repeat (first | refine blk_drewN ?_ _ | refine blk_drew ?_ | refine blk_alloc ?_ _)); exact BK287.out)) : gb287 ≠ gb298))
          have n9_ := Aside0.mk ((by rw [hg]; exact Nat.ne_of_gt (blk_lt (g := gb287) (o := .cells #[.string x288000_1, .bool x288001_1] 45 (0, 0)) (by (with_reducible repeat (first | refine blk_drewN ?_ _ | refine blk_drew ?_ | refine blk_alloc ?_ _)); exact BK287.out)) : gb298 ≠ gb287))
          have n10_ := Aside0.mk ((by rw [hg]; exact Nat.ne_of_lt (blk_lt (g := gb292) (o := .cells #[.slice (some ad294) t288.length co7, .bool true] 42 (0, 0)) (by (with_reducible repeat (first | refine blk_drewN ?_ _ | refine blk_drew ?_ | refine blk_alloc ?_ _)); exact BK292.out)) : gb292 ≠ gb298))
          have n11_ := Aside0.mk ((by rw [hg]; exact Nat.ne_of_gt (blk_lt (g := gb292) (o := .cells #[.slice (some ad294) t288.length co7, .bool true] 42 (0, 0)) (by (with_reducible repeat (first | refine blk_drewN ?_ _ | refine blk_drew ?_ | refine blk_alloc ?_ _)); exact BK292.out)) : gb298 ≠ gb292))
          clear HO_4
          clear HO_293000
          clear BK287
          clear BK292
          clear HB
          have HO_4 := n0_
          have HO_293000 := n1_
          have BK287 := n2_
          have BK292 := n3_
          have HB := n4_
          have BK298 := n5_
          have GW298 := n6_
          have GE298 := n7_
          have NB287_298 := n8_
          have NB298_287 := n9_
          have NB292_298 := n10_
          have NB298_292 := n11_
          clear n0_ n1_ n2_ n3_ n4_ n5_ n6_ n7_ n8_ n9_ n10_ n11_
          clear hb hbox hg
          refine hK.out _ _ ⟨(blk_cell BK292.out 0).trans rfl, (blk_cell BK292.out 1).trans rfl, HS2_, HS3_, HS4_, HS5_⟩ (fun hHeld => ?_)
          clear hK K
          refine norm_ (a' := ?_) ?_ ?_
          rotate_left
          ·show Act.put _ (some 6) _ = _
           simp only [Act.put, List.setIfInBounds_toArray, List.set_cons_zero, List.set_cons_succ, i64_w, i32_w]
           rfl
          refine one_ (i := 13) (N := some 33) #[true, true, true, true, true, true, true, true, true, true, true, true, true, true, false, true, false] rfl rfl (one_of HT_.out (by kernel_rfl)) (by decide) (fun K hK => ?_)
          refine goes_ Tryd.func28 (by kernel_rfl) rfl #[.string ((rd_T25 t288 x5_1).f1)] (by rfl) rfl rfl (by (try simp only [List.map_toArray, List.map_cons, List.map_nil]); first | done | rfl | (simp only [List.length_drop, List.length_take]; rfl)) ?_
          with_reducible refine (brookref1_Fold.calls k1 ((rd_T25 t288 x5_1).f1) t297 _ A13.out).mono ?_
          rintro e w20 ⟨rfl, hb⟩
          have HS2_ := (hb.cell (World.block_lt_of_cell? _ _ (hHeld.2.2.1))).trans (hHeld.2.2.1)
          have HS3_ := (hb.cell (World.block_lt_of_cell? _ _ (hHeld.2.2.2.1))).trans (hHeld.2.2.2.1)
          have HS4_ := (hb.cell (World.block_lt_of_cell? _ _ (hHeld.2.2.2.2.1))).trans (hHeld.2.2.2.2.1)
          have HS5_ := (hb.cell (World.block_lt_of_cell? _ _ (hHeld.2.2.2.2.2))).trans (hHeld.2.2.2.2.2)
          refine ⟨_, rfl, ?_⟩
          have n0_ := Aside0.mk (Kd.R_below (by (with_reducible repeat (first | apply Kd.R_alloc | apply Kd.R_drewN | apply Kd.R_drew)); exact HO_4.out) hb)
          have n1_ := Aside0.mk (Kd.R_below (by (with_reducible repeat (first | apply Kd.R_alloc | apply Kd.R_drewN | apply Kd.R_drew)); exact HO_293000.out) hb)
          have n2_ := Aside0.mk (blk_below (g := gb287) (o := .cells #[.string x288000_1, .bool x288001_1] 45 (0, 0)) (by (with_reducible repeat (first | refine blk_drewN ?_ _ | refine blk_drew ?_ | refine blk_alloc ?_ _)); exact BK287.out) hb)
          have n3_ := Aside0.mk (blk_below (g := gb292) (o := .cells #[.slice (some ad294) t288.length co7, .bool true] 42 (0, 0)) (by (with_reducible repeat (first | refine blk_drewN ?_ _ | refine blk_drew ?_ | refine blk_alloc ?_ _)); exact BK292.out) hb)
          have n4_ := Aside0.mk (blk_below (g := gb298) (o := .cells #[.string (⟨#[]⟩ : ByteArray), .string (⟨#[]⟩ : ByteArray)] 25 (0, 0)) (by (with_reducible repeat (first | refine blk_drewN ?_ _ | refine blk_drew ?_ | refine blk_alloc ?_ _)); exact BK298.out) hb)
          have n5_ := Aside0.mk (below_step (by repeat (first | (with_reducible first | exact HB.out | apply below_alloc | apply pw_below_drewN | apply below_drew1 | refine below_set ?_ GE287.out | refine below_set ?_ GE292.out | refine below_set ?_ GE298.out) | exact HB.out)) hb)
          clear HO_4
          clear HO_293000
          clear BK287
          clear BK292
          clear BK298
          clear HB
          have HO_4 := n0_
          have HO_293000 := n1_
          have BK287 := n2_
          have BK292 := n3_
          have BK298 := n4_
          have HB := n5_
          clear n0_ n1_ n2_ n3_ n4_ n5_
          (try clear hb)
          (try clear hb2)
          (try clear hk)
          (try clear hi)
          refine hK.out _ _ ⟨(blk_cell BK292.out 0).trans rfl, (blk_cell BK292.out 1).trans rfl, HS2_, HS3_, HS4_, HS5_⟩ (fun hHeld => ?_)
          clear hK K
          refine norm_ (a' := ?_) ?_ ?_
          rotate_left
          ·show Act.put _ (some 33) _ = _
           simp only [Act.put, List.setIfInBounds_toArray, List.set_cons_zero, List.set_cons_succ, i64_w, i32_w]
           rfl
          refine pure_ (i := 14) (N := some 34) (v := ?_) (a' := ?_) #[true, true, true, true, true, true, true, true, true, true, true, true, true, true, true, true, false] rfl rfl (any_of HT_.out (by kernel_rfl)) (fun _ _ _ h => h) (Or.inl ⟨by rfl, ?_⟩) ?_ ?_
          rotate_left
          ·intro w'
           go_simp
           with_reducible rfl
          rotate_left
          ·simp only [Act.put, List.setIfInBounds_toArray, List.set_cons_zero, List.set_cons_succ, i64_w, i32_w]
           rfl
          exact norm_ (by simp only [putAll, Act.put, List.setIfInBounds_toArray, List.set_cons_zero, List.set_cons_succ]) (hCont (gb298) _ ⟨hHeld, (by (with_reducible repeat (first | apply Kd.R_alloc | apply Kd.R_drewN | apply Kd.R_drew)); exact HO_293000.out), (by (with_reducible repeat (first | apply Kd.R_alloc | apply Kd.R_drewN | apply Kd.R_drew)); exact HO_4.out), (by (with_reducible repeat (first | refine blk_drewN ?_ _ | refine blk_drew ?_ | refine blk_alloc ?_ _)); exact BK287.out), (by (with_reducible repeat (first | refine blk_drewN ?_ _ | refine blk_drew ?_ | refine blk_alloc ?_ _)); exact BK292.out), (by (with_reducible repeat (first | refine blk_drewN ?_ _ | refine blk_drew ?_ | refine blk_alloc ?_ _)); exact BK298.out), GW298.out, GE298.out, NB287_298.out, NB298_287.out, NB292_298.out, NB298_292.out, (by repeat (first | (with_reducible first | exact HB.out | apply below_alloc | apply pw_below_drewN | apply below_drew1 | refine below_set ?_ GE287.out | refine below_set ?_ GE292.out | refine below_set ?_ GE298.out) | exact HB.out))⟩)
        ·skip
         refine box_step ?hg (N := 6) ?hd (cs := #[.string (⟨#[]⟩ : ByteArray), .string (⟨#[]⟩ : ByteArray)]) (t := 25) ?hr ?_; (case hd => rfl); (case hg => rfl); (case hr => first | (go_simp; done) | (go_simp; rfl))
         intro gb298 hg w18 hbox hb
         have HS2_ := (hb.cell (World.block_lt_of_cell? _ _ (hHeld.2.2.1))).trans (hHeld.2.2.1)
         have HS3_ := (hb.cell (World.block_lt_of_cell? _ _ (hHeld.2.2.2.1))).trans (hHeld.2.2.2.1)
         have HS4_ := (hb.cell (World.block_lt_of_cell? _ _ (hHeld.2.2.2.2.1))).trans (hHeld.2.2.2.2.1)
         have HS5_ := (hb.cell (World.block_lt_of_cell? _ _ (hHeld.2.2.2.2.2))).trans (hHeld.2.2.2.2.2)
         have n0_ := Aside0.mk (Kd.R_below (Kd.R_elderB (by (with_reducible repeat (first | apply Kd.R_alloc | apply Kd.R_drewN | apply Kd.R_drew)); exact HO_4.out) gb298 (Nat.le_of_eq hg.symm)) hb)
         have n1_ := Aside0.mk (Kd.R_below (Kd.R_elderB (by (with_reducible repeat (first | apply Kd.R_alloc | apply Kd.R_drewN | apply Kd.R_drew)); exact HO_293000.out) gb298 (Nat.le_of_eq hg.symm)) hb)
         have n2_ := Aside0.mk (blk_below (g := gb287) (o := .cells #[.string x288000_1, .bool x288001_1] 45 (0, 0)) (by (with_reducible repeat (first | refine blk_drewN ?_ _ | refine blk_drew ?_ | refine blk_alloc ?_ _)); exact BK287.out) hb)
         have n3_ := Aside0.mk (blk_below (g := gb292) (o := .cells #[.slice (some ad294) t288.length co7, .bool true] 42 (0, 0)) (by (with_reducible repeat (first | refine blk_drewN ?_ _ | refine blk_drew ?_ | refine blk_alloc ?_ _)); exact BK292.out) hb)
         have n4_ := Aside0.mk (below_step (by repeat (first | (with_reducible first | exact HB.out | apply below_alloc | apply pw_below_drewN | apply below_drew1 | refine below_set ?_ GE287.out | refine below_set ?_ GE292.out) | exact HB.out)) hb)
         have n5_ := Aside0.mk (hbox)
         have n6_ := Aside0.mk ((by rw [hg]; exact (below_size (by repeat (first | (with_reducible first | exact HB.out | apply below_alloc | apply pw_below_drewN | apply below_drew1 | refine below_set ?_ GE287.out | refine below_set ?_ GE292.out) | exact HB.out))) : w.heap.size ≤ gb298))
         have n7_ := Aside0.mk ((by rw [hg]; exact (below_size (by repeat (first | (with_reducible first | exact HB.out | apply below_alloc | apply pw_below_drewN | apply below_drew1 | refine below_set ?_ GE287.out | refine below_set ?_ GE292.out) | exact HB.out))) : w.heap.size ≤ gb298))
         have n8_ := Aside0.mk ((by rw [hg]; exact Nat.ne_of_lt (blk_lt (g := gb287) (o := .cells #[.string x288000_1, .bool x288001_1] 45 (0, 0)) (by (with_reducible repeat (first | refine blk_drewN ?_ _ | refine blk_drew ?_ | refine blk_alloc ?_ _)); exact BK287.out)) : gb287 ≠ gb298))
         have n9_ := Aside0.mk ((by rw [hg]; exact Nat.ne_of_gt (blk_lt (g := gb287) (o := .cells #[.string x288000_1, .bool x288001_1] 45 (0, 0)) (by (with_reducible repeat (first | refine blk_drewN ?_ _ | refine blk_drew ?_ | refine blk_alloc ?_ _)); exact BK287.out)) : gb298 ≠ gb287))
         have n10_ := Aside0.mk ((by rw [hg]; exact Nat.ne_of_lt (blk_lt (g := gb292) (o := .cells #[.slice (some ad294) t288.length co7, .bool true] 42 (0, 0)) (by (with_reducible repeat (first | refine blk_drewN ?_ _ | refine blk_drew ?_ | refine blk_alloc ?_ _)); exact BK292.out)) : gb292 ≠ gb298))
         have n11_ := Aside0.mk ((by rw [hg]; exact Nat.ne_of_gt (blk_lt (g := gb292) (o := .cells #[.slice (some ad294) t288.length co7, .bool true] 42 (0, 0)) (by (with_reducible repeat (first | refine blk_drewN ?_ _ | refine blk_drew ?_ | refine blk_alloc ?_ _)); exact BK292.out)) : gb298 ≠ gb292))
         clear HO_4
         clear HO_293000
         clear BK287
         clear BK292
         clear HB
         have HO_4 := n0_
         have HO_293000 := n1_
         have BK287 := n2_
         have BK292 := n3_
         have HB := n4_
         have BK298 := n5_
         have GW298 := n6_
         have GE298 := n7_
         have NB287_298 := n8_
         have NB298_287 := n9_
         have NB292_298 := n10_
         have NB298_292 := n11_
         clear n0_ n1_ n2_ n3_ n4_ n5_ n6_ n7_ n8_ n9_ n10_ n11_
         clear hb hbox hg
         refine hK.out _ _ ⟨(blk_cell BK292.out 0).trans rfl, (blk_cell BK292.out 1).trans rfl, HS2_, HS3_, HS4_, HS5_⟩ (fun hHeld => ?_)
         clear hK K
         refine norm_ (a' := ?_) ?_ ?_
         rotate_left
         ·show Act.put _ (some 6) _ = _
          simp only [Act.put, List.setIfInBounds_toArray, List.set_cons_zero, List.set_cons_succ, i64_w, i32_w]
          rfl
         refine one_ (i := 6) (N := some 26) #[true, true, true, true, true, true, true, true, true, true, true, true, true, false, false, true, false] rfl rfl (one_of HT_.out (by kernel_rfl)) (by decide) (fun K hK => ?_)
         refine goes_ Tryd.func24 (by kernel_rfl) rfl #[.string ((rd_T25 t288 x5_1).f0)] (by rfl) rfl rfl (by (try simp only [List.map_toArray, List.map_cons, List.map_nil]); first | done | rfl | (simp only [List.length_drop, List.length_take]; rfl)) ?_
         with_reducible refine (brookref1_Lower.calls ((rd_T25 t288 x5_1).f0) t295 _ A12.out).mono ?_
         rintro e w19 ⟨rfl, hb⟩
         have HS2_ := (hb.cell (World.block_lt_of_cell? _ _ (hHeld.2.2.1))).trans (hHeld.2.2.1)
         have HS3_ := (hb.cell (World.block_lt_of_cell? _ _ (hHeld.2.2.2.1))).trans (hHeld.2.2.2.1)
         have HS4_ := (hb.cell (World.block_lt_of_cell? _ _ (hHeld.2.2.2.2.1))).trans (hHeld.2.2.2.2.1)
         have HS5_ := (hb.cell (World.block_lt_of_cell? _ _ (hHeld.2.2.2.2.2))).trans (hHeld.2.2.2.2.2)
         refine ⟨_, rfl, ?_⟩
         have n0_ := Aside0.mk (Kd.R_below (by (with_reducible repeat (first | apply Kd.R_alloc | apply Kd.R_drewN | apply Kd.R_drew)); exact HO_4.out) hb)
         have n1_ := Aside0.mk (Kd.R_below (by (with_reducible repeat (first | apply Kd.R_alloc | apply Kd.R_drewN | apply Kd.R_drew)); exact HO_293000.out) hb)
         have n2_ := Aside0.mk (blk_below (g := gb287) (o := .cells #[.string x288000_1, .bool x288001_1] 45 (0, 0)) (by (with_reducible repeat (first | refine blk_drewN ?_ _ | refine blk_drew ?_ | refine blk_alloc ?_ _)); exact BK287.out) hb)
         have n3_ := Aside0.mk (blk_below (g := gb292) (o := .cells #[.slice (some ad294) t288.length co7, .bool true] 42 (0, 0)) (by (with_reducible repeat (first | refine blk_drewN ?_ _ | refine blk_drew ?_ | refine blk_alloc ?_ _)); exact BK292.out) hb)
         have n4_ := Aside0.mk (blk_below (g := gb298) (o := .cells #[.string (⟨#[]⟩ : ByteArray), .string (⟨#[]⟩ : ByteArray)] 25 (0, 0)) (by (with_reducible repeat (first | refine blk_drewN ?_ _ | refine blk_drew ?_ | refine blk_alloc ?_ _)); exact BK298.out) hb)
         have n5_ := Aside0.mk (below_step (by repeat (first | (with_reducible first | exact HB.out | apply below_alloc | apply pw_below_drewN | apply below_drew1 | refine below_set ?_ GE287.out | refine below_set ?_ GE292.out | refine below_set ?_ GE298.out) | exact HB.out)) hb)
         clear HO_4
         clear HO_293000
         clear BK287
         clear BK292
         clear BK298
         clear HB
         have HO_4 := n0_
         have HO_293000 := n1_
         have BK287 := n2_
         have BK292 := n3_
         have BK298 := n4_
         have HB := n5_
         clear n0_ n1_ n2_ n3_ n4_ n5_
         (try clear hb)
         (try clear hb2)
         (try clear hk)
         (try clear hi)
         refine hK.out _ _ ⟨(blk_cell BK292.out 0).trans rfl, (blk_cell BK292.out 1).trans rfl, HS2_, HS3_, HS4_, HS5_⟩ (fun hHeld => ?_)
         clear hK K
         refine norm_ (a' := ?_) ?_ ?_
         rotate_left
         ·show Act.put _ (some 26) _ = _
          simp only [Act.put, List.setIfInBounds_toArray, List.set_cons_zero, List.set_cons_succ, i64_w, i32_w]
          rfl
         refine one_ (i := 13) (N := some 33) #[true, true, true, true, true, true, true, true, true, true, true, true, true, true, false, true, false] rfl rfl (one_of HT_.out (by kernel_rfl)) (by decide) (fun K hK => ?_)
         refine goes_ Tryd.func28 (by kernel_rfl) rfl #[.string ((rd_T25 t288 x5_1).f1)] (by rfl) rfl rfl (by (try simp only [List.map_toArray, List.map_cons, List.map_nil]); first | done | rfl | (simp only [List.length_drop, List.length_take]; rfl)) ?_
         with_reducible refine (brookref1_Fold.calls k1 ((rd_T25 t288 x5_1).f1) t297 _ A13.out).mono ?_
         rintro e w20 ⟨rfl, hb⟩
         have HS2_ := (hb.cell (World.block_lt_of_cell? _ _ (hHeld.2.2.1))).trans (hHeld.2.2.1)
         have HS3_ := (hb.cell (World.block_lt_of_cell? _ _ (hHeld.2.2.2.1))).trans (hHeld.2.2.2.1)
         have HS4_ := (hb.cell (World.block_lt_of_cell? _ _ (hHeld.2.2.2.2.1))).trans (hHeld.2.2.2.2.1)
         have HS5_ := (hb.cell (World.block_lt_of_cell? _ _ (hHeld.2.2.2.2.2))).trans (hHeld.2.2.2.2.2)
         refine ⟨_, rfl, ?_⟩
         have n0_ := Aside0.mk (Kd.R_below (by (with_reducible repeat (first | apply Kd.R_alloc | apply Kd.R_drewN | apply Kd.R_drew)); exact HO_4.out) hb)
         have n1_ := Aside0.mk (Kd.R_below (by (with_reducible repeat (first | apply Kd.R_alloc | apply Kd.R_drewN | apply Kd.R_drew)); exact HO_293000.out) hb)
         have n2_ := Aside0.mk (blk_below (g := gb287) (o := .cells #[.string x288000_1, .bool x288001_1] 45 (0, 0)) (by (with_reducible repeat (first | refine blk_drewN ?_ _ | refine blk_drew ?_ | refine blk_alloc ?_ _)); exact BK287.out) hb)
         have n3_ := Aside0.mk (blk_below (g := gb292) (o := .cells #[.slice (some ad294) t288.length co7, .bool true] 42 (0, 0)) (by (with_reducible repeat (first | refine blk_drewN ?_ _ | refine blk_drew ?_ | refine blk_alloc ?_ _)); exact BK292.out) hb)
         have n4_ := Aside0.mk (blk_below (g := gb298) (o := .cells #[.string (⟨#[]⟩ : ByteArray), .string (⟨#[]⟩ : ByteArray)] 25 (0, 0)) (by (with_reducible repeat (first | refine blk_drewN ?_ _ | refine blk_drew ?_ | refine blk_alloc ?_ _)); exact BK298.out) hb)
         have n5_ := Aside0.mk (below_step (by repeat (first | (with_reducible first | exact HB.out | apply below_alloc | apply pw_below_drewN | apply below_drew1 | refine below_set ?_ GE287.out | refine below_set ?_ GE292.out | refine below_set ?_ GE298.out) | exact HB.out)) hb)
         clear HO_4
         clear HO_293000
         clear BK287
         clear BK292
         clear BK298
         clear HB
         have HO_4 := n0_
         have HO_293000 := n1_
         have BK287 := n2_
         have BK292 := n3_
         have BK298 := n4_
         have HB := n5_
         clear n0_ n1_ n2_ n3_ n4_ n5_
         (try clear hb)
         (try clear hb2)
         (try clear hk)
         (try clear hi)
         refine hK.out _ _ ⟨(blk_cell BK292.out 0).trans rfl, (blk_cell BK292.out 1).trans rfl, HS2_, HS3_, HS4_, HS5_⟩ (fun hHeld => ?_)
         clear hK K
         refine norm_ (a' := ?_) ?_ ?_
         rotate_left
         ·show Act.put _ (some 33) _ = _
          simp only [Act.put, List.setIfInBounds_toArray, List.set_cons_zero, List.set_cons_succ, i64_w, i32_w]
          rfl
         refine pure_ (i := 14) (N := some 34) (v := ?_) (a' := ?_) #[true, true, true, true, true, true, true, true, true, true, true, true, true, true, true, true, false] rfl rfl (any_of HT_.out (by kernel_rfl)) (fun _ _ _ h => h) (Or.inl ⟨by rfl, ?_⟩) ?_ ?_
         rotate_left
         ·intro w'
          go_simp
          with_reducible rfl
         rotate_left
         ·simp only [Act.put, List.setIfInBounds_toArray, List.set_cons_zero, List.set_cons_succ, i64_w, i32_w]
          rfl
         exact norm_ (by simp only [putAll, Act.put, List.setIfInBounds_toArray, List.set_cons_zero, List.set_cons_succ]) (hCont (gb298) _ ⟨hHeld, (by (with_reducible repeat (first | apply Kd.R_alloc | apply Kd.R_drewN | apply Kd.R_drew)); exact HO_293000.out), (by (with_reducible repeat (first | apply Kd.R_alloc | apply Kd.R_drewN | apply Kd.R_drew)); exact HO_4.out), (by (with_reducible repeat (first | refine blk_drewN ?_ _ | refine blk_drew ?_ | refine blk_alloc ?_ _)); exact BK287.out), (by (with_reducible repeat (first | refine blk_drewN ?_ _ | refine blk_drew ?_ | refine blk_alloc ?_ _)); exact BK292.out), (by (with_reducible repeat (first | refine blk_drewN ?_ _ | refine blk_drew ?_ | refine blk_alloc ?_ _)); exact BK298.out), GW298.out, GE298.out, NB287_298.out, NB298_287.out, NB292_298.out, NB298_292.out, (by repeat (first | (with_reducible first | exact HB.out | apply below_alloc | apply pw_below_drewN | apply below_drew1 | refine below_set ?_ GE287.out | refine below_set ?_ GE292.out | refine below_set ?_ GE298.out) | exact HB.out))⟩)
       rintro gb298 w21 ⟨hS_, h0_, h1_, h2_, h3_, h4_, h5_, h6_, h7_, h8_, h9_, h10_, h11_⟩
       have n0_ : Aside0 (Kd.R k25 25 w21 w.heap.size (fun k_ => some k_ ≠ (u4 : Value).ownBlock ∧ k_ ≠ gb298) (.slice (some ad294) t288.length co7) t288) := ⟨h0_⟩
       have n1_ : Aside0 (Kd.R k25 25 w21 w.heap.size (fun k_ => some k_ ≠ (.slice (some ad294) t288.length co7 : Value).ownBlock ∧ k_ ≠ gb298) u4 x4_1) := ⟨h1_⟩
       have n2_ : Aside0 (w21.heap[gb287]? = some (.cells #[.string x288000_1, .bool x288001_1] 45 (0, 0))) := ⟨h2_⟩
       have n3_ : Aside0 (w21.heap[gb292]? = some (.cells #[.slice (some ad294) t288.length co7, .bool true] 42 (0, 0))) := ⟨h3_⟩
       have n4_ : Aside0 (w21.heap[gb298]? = some (.cells #[.string (⟨#[]⟩ : ByteArray), .string (⟨#[]⟩ : ByteArray)] 25 (0, 0))) := ⟨h4_⟩
       have n5_ : Aside0 (w.heap.size ≤ gb298) := ⟨h5_⟩
       have n6_ : Aside0 (w.heap.size ≤ gb298) := ⟨h6_⟩
       have n7_ : Aside0 (gb287 ≠ gb298) := ⟨h7_⟩
       have n8_ : Aside0 (gb298 ≠ gb287) := ⟨h8_⟩
       have n9_ : Aside0 (gb292 ≠ gb298) := ⟨h9_⟩
       have n10_ : Aside0 (gb298 ≠ gb292) := ⟨h10_⟩
       have n11_ : Aside0 (Below w.heap.size w w21) := ⟨h11_⟩
       clear HO_4
       clear HO_293000
       clear BK287
       clear BK292
       clear HB
       clear h0_ h1_ h2_ h3_ h4_ h5_ h6_ h7_ h8_ h9_ h10_ h11_
       have HO_293000 := n0_
       have HO_4 := n1_
       have BK287 := n2_
       have BK292 := n3_
       have BK298 := n4_
       have GW298 := n5_
       have GE298 := n6_
       have NB287_298 := n7_
       have NB298_287 := n8_
       have NB292_298 := n9_
       have NB298_292 := n10_
       have HB := n11_
       clear n0_ n1_ n2_ n3_ n4_ n5_ n6_ n7_ n8_ n9_ n10_ n11_
       have hHeld : w21.cell? ⟨gb292, 0, none⟩ = some (.slice (some ad294) t288.length co7) ∧ w21.cell? ⟨gb292, 1, none⟩ = some (.bool true) ∧ w21.cell? (ad294.add ((x5_1).toNat * 2)) = some (.string ((rd_T25 t288 x5_1).f0)) ∧ w21.cell? ⟨(ad294.add ((x5_1).toNat * 2)).block, (ad294.add ((x5_1).toNat * 2)).off + 1, none⟩ = some (.string ((rd_T25 t288 x5_1).f1)) ∧ w21.cell? (ad294.add ((x5_1).toNat * 2)) = some (.string ((rd_T25 t288 x5_1).f0)) ∧ w21.cell? ⟨(ad294.add ((x5_1).toNat * 2)).block, (ad294.add ((x5_1).toNat * 2)).off + 1, none⟩ = some (.string ((rd_T25 t288 x5_1).f1)) := hS_
       refine norm_ (a' := ?_) ?_ ?_
       rotate_left
       ·simp only [putAll, Act.put, List.setIfInBounds_toArray, List.set_cons_zero, List.set_cons_succ]
        rfl
       refine one_ (i := 16) (N := none) #[true, true, true, true, true, true, true, true, true, true, true, true, true, true, true, true, true] rfl rfl (one_of HT_.out (by kernel_rfl)) (by decide) (fun K hK => ?_)
       have hs22 : w21.cell? ⟨gb298, 0, none⟩ = some (.string (⟨#[]⟩ : ByteArray)) := (blk_cell BK298.out 0).trans rfl
       have hfs22 := blk_frozen BK298.out 0
       have hns22_0 := NB287_298.out
       have hns22_1 := NB292_298.out
       have hms22_0 := NB298_287.out
       have hms22_1 := NB298_292.out
       have hs23 : w21.cell? ⟨gb298, 1, none⟩ = some (.string (⟨#[]⟩ : ByteArray)) := (blk_cell BK298.out 1).trans rfl
       have hfs23 := blk_frozen BK298.out 1
       have hns23_0 := NB287_298.out
       have hns23_1 := NB292_298.out
       have hms23_0 := NB298_287.out
       have hms23_1 := NB298_292.out
       refine skip_ (w1 := ?_) (by rfl) rfl ?_ ?_
       rotate_left
       ·go_simp
        rfl
       refine hK.out _ _ ⟨((cell_far (p := ⟨gb298, _, none⟩) NB292_298.out _).trans (((cell_far (p := ⟨gb298, _, none⟩) NB292_298.out _).trans (hHeld.1)))), ((cell_far (p := ⟨gb298, _, none⟩) NB292_298.out _).trans (((cell_far (p := ⟨gb298, _, none⟩) NB292_298.out _).trans (hHeld.2.1)))), ((cell_far (p := ⟨gb298, _, none⟩) (by first | exact Kd.own_blk (Kd.R_away HO_293000.out (fun _ hk => hk.2)) | (rw [add_block]; exact Kd.own_blk (Kd.R_away HO_293000.out (fun _ hk => hk.2))) | (show (Addr.add _ _).block ≠ _; rw [add_block]; exact Kd.own_blk (Kd.R_away HO_293000.out (fun _ hk => hk.2))) | (dsimp only; exact Kd.own_blk (Kd.R_away HO_293000.out (fun _ hk => hk.2)))) _).trans (((cell_far (p := ⟨gb298, _, none⟩) (by first | exact Kd.own_blk (Kd.R_away HO_293000.out (fun _ hk => hk.2)) | (rw [add_block]; exact Kd.own_blk (Kd.R_away HO_293000.out (fun _ hk => hk.2))) | (show (Addr.add _ _).block ≠ _; rw [add_block]; exact Kd.own_blk (Kd.R_away HO_293000.out (fun _ hk => hk.2))) | (dsimp only; exact Kd.own_blk (Kd.R_away HO_293000.out (fun _ hk => hk.2)))) _).trans (hHeld.2.2.1)))), ((cell_far (p := ⟨gb298, _, none⟩) (by first | exact Kd.own_blk (Kd.R_away HO_293000.out (fun _ hk => hk.2)) | (rw [add_block]; exact Kd.own_blk (Kd.R_away HO_293000.out (fun _ hk => hk.2))) | (show (Addr.add _ _).block ≠ _; rw [add_block]; exact Kd.own_blk (Kd.R_away HO_293000.out (fun _ hk => hk.2))) | (dsimp only; exact Kd.own_blk (Kd.R_away HO_293000.out (fun _ hk => hk.2)))) _).trans (((cell_far (p := ⟨gb298, _, none⟩) (by first | exact Kd.own_blk (Kd.R_away HO_293000.out (fun _ hk => hk.2)) | (rw [add_block]; exact Kd.own_blk (Kd.R_away HO_293000.out (fun _ hk => hk.2))) | (show (Addr.add _ _).block ≠ _; rw [add_block]; exact Kd.own_blk (Kd.R_away HO_293000.out (fun _ hk => hk.2))) | (dsimp only; exact Kd.own_blk (Kd.R_away HO_293000.out (fun _ hk => hk.2)))) _).trans (hHeld.2.2.2.1)))), ((cell_far (p := ⟨gb298, _, none⟩) (by first | exact Kd.own_blk (Kd.R_away HO_293000.out (fun _ hk => hk.2)) | (rw [add_block]; exact Kd.own_blk (Kd.R_away HO_293000.out (fun _ hk => hk.2))) | (show (Addr.add _ _).block ≠ _; rw [add_block]; exact Kd.own_blk (Kd.R_away HO_293000.out (fun _ hk => hk.2))) | (dsimp only; exact Kd.own_blk (Kd.R_away HO_293000.out (fun _ hk => hk.2)))) _).trans (((cell_far (p := ⟨gb298, _, none⟩) (by first | exact Kd.own_blk (Kd.R_away HO_293000.out (fun _ hk => hk.2)) | (rw [add_block]; exact Kd.own_blk (Kd.R_away HO_293000.out (fun _ hk => hk.2))) | (show (Addr.add _ _).block ≠ _; rw [add_block]; exact Kd.own_blk (Kd.R_away HO_293000.out (fun _ hk => hk.2))) | (dsimp only; exact Kd.own_blk (Kd.R_away HO_293000.out (fun _ hk => hk.2)))) _).trans (hHeld.2.2.2.2.1)))), ((cell_far (p := ⟨gb298, _, none⟩) (by first | exact Kd.own_blk (Kd.R_away HO_293000.out (fun _ hk => hk.2)) | (rw [add_block]; exact Kd.own_blk (Kd.R_away HO_293000.out (fun _ hk => hk.2))) | (show (Addr.add _ _).block ≠ _; rw [add_block]; exact Kd.own_blk (Kd.R_away HO_293000.out (fun _ hk => hk.2))) | (dsimp only; exact Kd.own_blk (Kd.R_away HO_293000.out (fun _ hk => hk.2)))) _).trans (((cell_far (p := ⟨gb298, _, none⟩) (by first | exact Kd.own_blk (Kd.R_away HO_293000.out (fun _ hk => hk.2)) | (rw [add_block]; exact Kd.own_blk (Kd.R_away HO_293000.out (fun _ hk => hk.2))) | (show (Addr.add _ _).block ≠ _; rw [add_block]; exact Kd.own_blk (Kd.R_away HO_293000.out (fun _ hk => hk.2))) | (dsimp only; exact Kd.own_blk (Kd.R_away HO_293000.out (fun _ hk => hk.2)))) _).trans (hHeld.2.2.2.2.2))))⟩ (fun hHeld => ?_)
       clear hK K
       refine done_ (done_of HT_.out (by kernel_rfl)) ?_
       have hnb24 := NB298_287.out
       have hnc24 := NB287_298.out
       have hnb25 := NB298_292.out
       have hnc25 := NB292_298.out
       have hcz26_0 : w21.cell? ⟨gb298, 0, none⟩ = some (.string (⟨#[]⟩ : ByteArray)) := (blk_cell BK298.out 0).trans rfl
       have hcz26_1 : w21.cell? ⟨gb298, 1, none⟩ = some (.string (⟨#[]⟩ : ByteArray)) := (blk_cell BK298.out 1).trans rfl
       have hfz26_0 := blk_frozen BK298.out 0
       have hfz26_1 := blk_frozen BK298.out 1
       have hcz27_0 : w21.cell? ⟨gb287, 0, none⟩ = some (.string x288000_1) := (blk_cell BK287.out 0).trans rfl
       have hcz27_1 : w21.cell? ⟨gb287, 1, none⟩ = some (.bool x288001_1) := (blk_cell BK287.out 1).trans rfl
       have hfz27_0 := blk_frozen BK287.out 0
       have hfz27_1 := blk_frozen BK287.out 1
       try go_wp2
       refine bodyPost_ret (results_cell_row rfl _ _ gb287 45 #[.string (⟨#[]⟩ : ByteArray), .bool false] (0, 0) _ rfl (by (with_reducible repeat (first | refine blk_drewN ?_ _ | refine blk_drew ?_ | refine blk_alloc ?_ _)); refine blk_put (cs := #[.string (⟨#[]⟩ : ByteArray), .bool x288001_1]) ?_ 1 _ rfl; (with_reducible repeat (first | refine blk_drewN ?_ _ | refine blk_drew ?_ | refine blk_alloc ?_ _)); refine blk_put (cs := #[.string x288000_1, .bool x288001_1]) ?_ 0 _ rfl; (with_reducible repeat (first | refine blk_drewN ?_ _ | refine blk_drew ?_ | refine blk_alloc ?_ _)); refine blk_far ?_ NB287_298.out _; (with_reducible repeat (first | refine blk_drewN ?_ _ | refine blk_drew ?_ | refine blk_alloc ?_ _)); refine blk_far ?_ NB287_298.out _; (with_reducible repeat (first | refine blk_drewN ?_ _ | refine blk_drew ?_ | refine blk_alloc ?_ _)); exact BK287.out) Tryd.underlying45 rfl (by kernel_rfl)) rfl ?_
       exact ⟨by first | rfl | (simp [errW_none, errW_some] <;> rfl) | (simp [*, errW_none, errW_some] <;> rfl), by repeat (first | (with_reducible first | exact HB.out | apply below_alloc | apply pw_below_drewN | apply below_drew1 | refine below_set ?_ GE287.out | refine below_set ?_ GE292.out | refine below_set ?_ GE298.out) | exact HB.out)⟩
      ·rw [if_neg c14] at H
       have c14b0 : (t297.toList == ([] : List UInt8)) = false := beq_eq_false_iff_ne.mpr c14
       have c14b1 : (t297.toList != ([] : List UInt8)) = true := bne_iff_ne.mpr c14
       by_cases c28 : x4_1.length < 4398046511104
       ·rw [if_pos c28] at H
        have LMc28 := Aside0.mk c28
        clear c28
        obtain ⟨y299, hy299⟩ : ∃ y_ : List (S25), y_ = (x4_1 ++ [(⟨t295, t297⟩ : S25)]) := ⟨_, rfl⟩
        replace H : (brookref1_Key.l0 k1 y299 (wrap64 (x5_1 + 1)) t288 true) = some (r1, r2) := by first | (rw [hy299]; with_reducible exact H) | (have H2_ := (Option.bind_some _ _).symm.trans H; rw [hy299]; with_reducible exact H2_) | (have H2_ := (Option.bind_some _ _).symm.trans H; with_reducible exact H2_) | with_reducible exact H | (rw [hy299]; exact H) | exact H
        have Ny299 := Aside0.mk hy299
        clear hy299
        have H' := Aside0.mk H
        clear H
        have hnb29 := NB292_287.out
        have hnc29 := NB287_292.out
        have hcz30_0 : wr.cell? ⟨gb292, 0, none⟩ = some (.slice Ao7 t288.length co7) := (blk_cell BK292.out 0).trans rfl
        have hcz30_1 : wr.cell? ⟨gb292, 1, none⟩ = some (.bool true) := (blk_cell BK292.out 1).trans rfl
        have hfz30_0 := blk_frozen BK292.out 0
        have hfz30_1 := blk_frozen BK292.out 1
        try go_wp2
        have n0_ := Aside0.mk (Kd.R_drew HO_4.out)
        have n1_ := Aside0.mk (Kd.R_drew HO_293000.out)
        have n2_ := Aside0.mk (blk_drew BK287.out)
        have n3_ := Aside0.mk (blk_drew BK292.out)
        have n4_ := Aside0.mk (below_drew1 HB.out)
        clear HO_4
        clear HO_293000
        clear BK287
        clear BK292
        clear HB
        have HO_4 := n0_
        have HO_293000 := n1_
        have BK287 := n2_
        have BK292 := n3_
        have HB := n4_
        clear n0_ n1_ n2_ n3_ n4_
        have p294 : 0 ≤ (x5_1 : Int) := of_decide_eq_true (by first | (with_reducible assumption) | assumption)
        have q294 : x5_1 < (t288.length : Int) := of_decide_eq_true (by first | (with_reducible assumption) | assumption)
        obtain ⟨ad294, e294, hx294_0, hx294_1⟩ := at_T25 (Kd.R_reads' HO_293000.out).2.2 x5_1 p294 q294
        cases e294
        replace p294 := eq_true p294
        replace q294 := eq_true q294
        have p296 : 0 ≤ (x5_1 : Int) := of_decide_eq_true (by first | (with_reducible assumption) | assumption)
        have q296 : x5_1 < (t288.length : Int) := of_decide_eq_true (by first | (with_reducible assumption) | assumption)
        obtain ⟨ad296, e296, hx296_0, hx296_1⟩ := at_T25 (Kd.R_reads' HO_293000.out).2.2 x5_1 p296 q296
        obtain rfl : ad294 = ad296 := (by injection e296)
        replace p296 := eq_true p296
        replace q296 := eq_true q296
        refine start_ (n := 17) (S := fun w' => w'.cell? ⟨gb292, 0, none⟩ = some (.slice (some ad294) t288.length co7) ∧ w'.cell? ⟨gb292, 1, none⟩ = some (.bool true) ∧ w'.cell? (ad294.add ((x5_1).toNat * 2)) = some (.string ((rd_T25 t288 x5_1).f0)) ∧ w'.cell? ⟨(ad294.add ((x5_1).toNat * 2)).block, (ad294.add ((x5_1).toNat * 2)).off + 1, none⟩ = some (.string ((rd_T25 t288 x5_1).f1)) ∧ w'.cell? (ad294.add ((x5_1).toNat * 2)) = some (.string ((rd_T25 t288 x5_1).f0)) ∧ w'.cell? ⟨(ad294.add ((x5_1).toNat * 2)).block, (ad294.add ((x5_1).toNat * 2)).off + 1, none⟩ = some (.string ((rd_T25 t288 x5_1).f1))) (ds := []) #[false, false, false, false, false, false, false, false, false, false, false, false, false, false, false, false, false] (by kernel_rfl) rfl rfl ⟨(blk_cell BK292.out 0).trans rfl, (blk_cell BK292.out 1).trans rfl, hx294_0, hx294_1, hx296_0, hx296_1⟩ (fun hHeld => ?_); refine with_tabW brookref1_Key.tab8 brookref1_Key.bits8 (fun HT_ HW_ => ?_)
        generalize wr.drew = w31 at HO_4 HO_293000 BK287 BK292 HB hx294_0 hx294_1 hx296_0 hx296_1 hHeld ⊢
        refine pure_ (i := 0) (N := some 20) (v := ?_) (a' := ?_) #[true, false, false, false, false, false, false, false, false, false, false, false, false, false, false, false, false] rfl rfl (any_of HT_.out (by kernel_rfl)) (fun _ _ _ h => h) (Or.inl ⟨by rfl, ?_⟩) ?_ ?_
        rotate_left
        ·intro w'
         go_simp
         with_reducible rfl
        rotate_left
        ·simp only [Act.put, List.setIfInBounds_toArray, List.set_cons_zero, List.set_cons_succ, i64_w, i32_w]
         rfl
        refine pure_ (i := 2) (N := some 22) (v := ?_) (a' := ?_) #[true, false, true, false, false, false, false, false, false, false, false, false, false, false, false, false, false] rfl rfl (any_of HT_.out (by kernel_rfl)) (fun _ _ _ h => h) (Or.inl ⟨by rfl, ?_⟩) ?_ ?_
        rotate_left
        ·intro w'
         go_simp
         with_reducible rfl
        rotate_left
        ·simp only [Act.put, List.setIfInBounds_toArray, List.set_cons_zero, List.set_cons_succ, i64_w, i32_w]
         rfl
        refine pure_ (i := 7) (N := some 27) (v := ?_) (a' := ?_) #[true, false, true, false, false, false, false, true, false, false, false, false, false, false, false, false, false] rfl rfl (any_of HT_.out (by kernel_rfl)) (fun _ _ _ h => h) (Or.inl ⟨by rfl, ?_⟩) ?_ ?_
        rotate_left
        ·intro w'
         go_simp
         with_reducible rfl
        rotate_left
        ·simp only [Act.put, List.setIfInBounds_toArray, List.set_cons_zero, List.set_cons_succ, i64_w, i32_w]
         rfl
        refine pure_ (i := 9) (N := some 29) (v := ?_) (a' := ?_) #[true, false, true, false, false, false, false, true, false, true, false, false, false, false, false, false, false] rfl rfl (any_of HT_.out (by kernel_rfl)) (fun _ _ _ h => h) (Or.inl ⟨by rfl, ?_⟩) ?_ ?_
        rotate_left
        ·intro w'
         go_simp
         with_reducible rfl
        rotate_left
        ·simp only [Act.put, List.setIfInBounds_toArray, List.set_cons_zero, List.set_cons_succ, i64_w, i32_w]
         rfl
        refine take_ (i := 1) (N := some 21) (v := ?_) (a' := ?_) #[true, true, true, false, false, false, false, true, false, true, false, false, false, false, false, false, false] rfl rfl (take_ofW HT_.out HW_.out (by kernel_rfl)) (fun _ _ _ h => h) (Or.inl ⟨by rfl, ?_⟩) hHeld ?_ ?_
        rotate_left
        ·rintro w' ⟨s0, s1, s2, s3, s4, s5⟩
         go_simp
         with_reducible rfl
        rotate_left
        ·simp only [Act.put, List.setIfInBounds_toArray, List.set_cons_zero, List.set_cons_succ, i64_w, i32_w]
         rfl
        refine pure_ (i := 3) (N := some 23) (v := ?_) (a' := ?_) #[true, true, true, true, false, false, false, true, false, true, false, false, false, false, false, false, false] rfl rfl (any_of HT_.out (by kernel_rfl)) (fun _ _ _ h => h) (Or.inl ⟨by rfl, ?_⟩) ?_ ?_
        rotate_left
        ·intro w'
         go_simp
         with_reducible rfl
        rotate_left
        ·simp only [Act.put, List.setIfInBounds_toArray, List.set_cons_zero, List.set_cons_succ, i64_w, i32_w]
         rfl
        refine pure_ (i := 4) (N := some 24) (v := ?_) (a' := ?_) #[true, true, true, true, true, false, false, true, false, true, false, false, false, false, false, false, false] rfl rfl (any_of HT_.out (by kernel_rfl)) (fun _ _ _ h => h) (Or.inl ⟨by rfl, ?_⟩) ?_ ?_
        rotate_left
        ·intro w'
         go_simp
         with_reducible rfl
        rotate_left
        ·simp only [Act.put, List.setIfInBounds_toArray, List.set_cons_zero, List.set_cons_succ, i64_w, i32_w]
         rfl
        refine take_ (i := 5) (N := some 25) (v := ?_) (a' := ?_) #[true, true, true, true, true, true, false, true, false, true, false, false, false, false, false, false, false] rfl rfl (take_ofW HT_.out HW_.out (by kernel_rfl)) (fun _ _ _ h => h) (Or.inl ⟨by rfl, ?_⟩) hHeld ?_ ?_
        rotate_left
        ·rintro w' ⟨s0, s1, s2, s3, s4, s5⟩
         go_simp
         with_reducible rfl
        rotate_left
        ·simp only [Act.put, List.setIfInBounds_toArray, List.set_cons_zero, List.set_cons_succ, i64_w, i32_w]
         rfl
        refine take_ (i := 8) (N := some 28) (v := ?_) (a' := ?_) #[true, true, true, true, true, true, false, true, true, true, false, false, false, false, false, false, false] rfl rfl (take_ofW HT_.out HW_.out (by kernel_rfl)) (fun _ _ _ h => h) (Or.inl ⟨by rfl, ?_⟩) hHeld ?_ ?_
        rotate_left
        ·rintro w' ⟨s0, s1, s2, s3, s4, s5⟩
         go_simp
         with_reducible rfl
        rotate_left
        ·simp only [Act.put, List.setIfInBounds_toArray, List.set_cons_zero, List.set_cons_succ, i64_w, i32_w]
         rfl
        refine pure_ (i := 10) (N := some 30) (v := ?_) (a' := ?_) #[true, true, true, true, true, true, false, true, true, true, true, false, false, false, false, false, false] rfl rfl (any_of HT_.out (by kernel_rfl)) (fun _ _ _ h => h) (Or.inl ⟨by rfl, ?_⟩) ?_ ?_
        rotate_left
        ·intro w'
         go_simp
         with_reducible rfl
        rotate_left
        ·simp only [Act.put, List.setIfInBounds_toArray, List.set_cons_zero, List.set_cons_succ, i64_w, i32_w]
         rfl
        refine pure_ (i := 11) (N := some 31) (v := ?_) (a' := ?_) #[true, true, true, true, true, true, false, true, true, true, true, true, false, false, false, false, false] rfl rfl (any_of HT_.out (by kernel_rfl)) (fun _ _ _ h => h) (Or.inl ⟨by rfl, ?_⟩) ?_ ?_
        rotate_left
        ·intro w'
         go_simp
         with_reducible rfl
        rotate_left
        ·simp only [Act.put, List.setIfInBounds_toArray, List.set_cons_zero, List.set_cons_succ, i64_w, i32_w]
         rfl
        refine take_ (i := 12) (N := some 32) (v := ?_) (a' := ?_) #[true, true, true, true, true, true, false, true, true, true, true, true, true, false, false, false, false] rfl rfl (take_ofW HT_.out HW_.out (by kernel_rfl)) (fun _ _ _ h => h) (Or.inl ⟨by rfl, ?_⟩) hHeld ?_ ?_
        rotate_left
        ·rintro w' ⟨s0, s1, s2, s3, s4, s5⟩
         go_simp
         with_reducible rfl
        rotate_left
        ·simp only [Act.put, List.setIfInBounds_toArray, List.set_cons_zero, List.set_cons_succ, i64_w, i32_w]
         rfl
        refine join_ (σ := Nat) 1 #[true, true, true, true, true, true, true, true, true, true, true, true, true, true, true, true, false] (fun s_ => [(26, .string t295), (33, .string t297), (6, .pointer (some ⟨s_, 0, none⟩)), (34, .agg #[.string t295, .string t297])]) (fun s_ w' => (w'.cell? ⟨gb292, 0, none⟩ = some (.slice (some ad294) t288.length co7) ∧ w'.cell? ⟨gb292, 1, none⟩ = some (.bool true) ∧ w'.cell? (ad294.add ((x5_1).toNat * 2)) = some (.string ((rd_T25 t288 x5_1).f0)) ∧ w'.cell? ⟨(ad294.add ((x5_1).toNat * 2)).block, (ad294.add ((x5_1).toNat * 2)).off + 1, none⟩ = some (.string ((rd_T25 t288 x5_1).f1)) ∧ w'.cell? (ad294.add ((x5_1).toNat * 2)) = some (.string ((rd_T25 t288 x5_1).f0)) ∧ w'.cell? ⟨(ad294.add ((x5_1).toNat * 2)).block, (ad294.add ((x5_1).toNat * 2)).off + 1, none⟩ = some (.string ((rd_T25 t288 x5_1).f1))) ∧ (Kd.R k25 25 w' w.heap.size (fun k_ => some k_ ≠ (u4 : Value).ownBlock ∧ k_ ≠ s_) (.slice (some ad294) t288.length co7) t288) ∧ (Kd.R k25 25 w' w.heap.size (fun k_ => some k_ ≠ (.slice (some ad294) t288.length co7 : Value).ownBlock ∧ k_ ≠ s_) u4 x4_1) ∧ (w'.heap[gb287]? = some (.cells #[.string x288000_1, .bool x288001_1] 45 (0, 0))) ∧ (w'.heap[gb292]? = some (.cells #[.slice (some ad294) t288.length co7, .bool true] 42 (0, 0))) ∧ (w'.heap[s_]? = some (.cells #[.string (⟨#[]⟩ : ByteArray), .string (⟨#[]⟩ : ByteArray)] 25 (0, 0))) ∧ (w.heap.size ≤ s_) ∧ (w.heap.size ≤ s_) ∧ (gb287 ≠ s_) ∧ (s_ ≠ gb287) ∧ (gb292 ≠ s_) ∧ (s_ ≠ gb292) ∧ (Below w.heap.size w w')) ?_ ?_
        rotate_left
        ·intro hCont
         refine two_ (i := 6) (j := 15) (Ni := some 26) (Nj := some 6) #[true, true, true, true, true, true, true, true, true, true, true, true, true, false, false, false, false] #[true, true, true, true, true, true, false, true, true, true, true, true, true, false, false, true, false] rfl rfl rfl rfl (two_of HT_.out (by kernel_rfl)) (by decide) (by decide) (fun K hK => ?_) (fun K hK => ?_)
         ·skip
          refine goes_ Tryd.func24 (by kernel_rfl) rfl #[.string ((rd_T25 t288 x5_1).f0)] (by rfl) rfl rfl (by (try simp only [List.map_toArray, List.map_cons, List.map_nil]); first | done | rfl | (simp only [List.length_drop, List.length_take]; rfl)) ?_
          with_reducible refine (brookref1_Lower.calls ((rd_T25 t288 x5_1).f0) t295 _ A12.out).mono ?_
          rintro e w32 ⟨rfl, hb⟩
          have HS2_ := (hb.cell (World.block_lt_of_cell? _ _ (hHeld.2.2.1))).trans (hHeld.2.2.1)
          have HS3_ := (hb.cell (World.block_lt_of_cell? _ _ (hHeld.2.2.2.1))).trans (hHeld.2.2.2.1)
          have HS4_ := (hb.cell (World.block_lt_of_cell? _ _ (hHeld.2.2.2.2.1))).trans (hHeld.2.2.2.2.1)
          have HS5_ := (hb.cell (World.block_lt_of_cell? _ _ (hHeld.2.2.2.2.2))).trans (hHeld.2.2.2.2.2)
          refine ⟨_, rfl, ?_⟩
          have n0_ := Aside0.mk (Kd.R_below (by (with_reducible repeat (first | apply Kd.R_alloc | apply Kd.R_drewN | apply Kd.R_drew)); exact HO_4.out) hb)
          have n1_ := Aside0.mk (Kd.R_below (by (with_reducible repeat (first | apply Kd.R_alloc | apply Kd.R_drewN | apply Kd.R_drew)); exact HO_293000.out) hb)
          have n2_ := Aside0.mk (blk_below (g := gb287) (o := .cells #[.string x288000_1, .bool x288001_1] 45 (0, 0)) (by (with_reducible repeat (first | refine blk_drewN ?_ _ | refine blk_drew ?_ | refine blk_alloc ?_ _)); exact BK287.out) hb)
          have n3_ := Aside0.mk (blk_below (g := gb292) (o := .cells #[.slice (some ad294) t288.length co7, .bool true] 42 (0, 0)) (by (with_reducible repeat (first | refine blk_drewN ?_ _ | refine blk_drew ?_ | refine blk_alloc ?_ _)); exact BK292.out) hb)
          have n4_ := Aside0.mk (below_step (by repeat (first | (with_reducible first | exact HB.out | apply below_alloc | apply pw_below_drewN | apply below_drew1 | refine below_set ?_ GE287.out | refine below_set ?_ GE292.out) | exact HB.out)) hb)
          clear HO_4
          clear HO_293000
          clear BK287
          clear BK292
          clear HB
          have HO_4 := n0_
          have HO_293000 := n1_
          have BK287 := n2_
          have BK292 := n3_
          have HB := n4_
          clear n0_ n1_ n2_ n3_ n4_
          (try clear hb)
          (try clear hb2)
          (try clear hk)
          (try clear hi)
          refine hK.out _ _ ⟨(blk_cell BK292.out 0).trans rfl, (blk_cell BK292.out 1).trans rfl, HS2_, HS3_, HS4_, HS5_⟩ (fun hHeld => ?_)
          clear hK K
          refine norm_ (a' := ?_) ?_ ?_
          rotate_left
          ·show Act.put _ (some 26) _ = _
           simp only [Act.put, List.setIfInBounds_toArray, List.set_cons_zero, List.set_cons_succ, i64_w, i32_w]
           rfl
          refine two_ (i := 13) (j := 15) (Ni := some 33) (Nj := some 6) #[true, true, true, true, true, true, true, true, true, true, true, true, true, true, false, false, false] #[true, true, true, true, true, true, true, true, true, true, true, true, true, false, false, true, false] rfl rfl rfl rfl (two_of HT_.out (by kernel_rfl)) (by decide) (by decide) (fun K hK => ?_) (fun K hK => ?_)
          ·skip
           refine goes_ Tryd.func28 (by kernel_rfl) rfl #[.string ((rd_T25 t288 x5_1).f1)] (by rfl) rfl rfl (by (try simp only [List.map_toArray, List.map_cons, List.map_nil]); first | done | rfl | (simp only [List.length_drop, List.length_take]; rfl)) ?_
           with_reducible refine (brookref1_Fold.calls k1 ((rd_T25 t288 x5_1).f1) t297 _ A13.out).mono ?_
           rintro e w33 ⟨rfl, hb⟩
           have HS2_ := (hb.cell (World.block_lt_of_cell? _ _ (hHeld.2.2.1))).trans (hHeld.2.2.1)
           have HS3_ := (hb.cell (World.block_lt_of_cell? _ _ (hHeld.2.2.2.1))).trans (hHeld.2.2.2.1)
           have HS4_ := (hb.cell (World.block_lt_of_cell? _ _ (hHeld.2.2.2.2.1))).trans (hHeld.2.2.2.2.1)
           have HS5_ := (hb.cell (World.block_lt_of_cell? _ _ (hHeld.2.2.2.2.2))).trans (hHeld.2.2.2.2.2)
           refine ⟨_, rfl, ?_⟩
           have n0_ := Aside0.mk (Kd.R_below (by (with_reducible repeat (first | apply Kd.R_alloc | apply Kd.R_drewN | apply Kd.R_drew)); exact HO_4.out) hb)
           have n1_ := Aside0.mk (Kd.R_below (by (with_reducible repeat (first | apply Kd.R_alloc | apply Kd.R_drewN | apply Kd.R_drew)); exact HO_293000.out) hb)
           have n2_ := Aside0.mk (blk_below (g := gb287) (o := .cells #[.string x288000_1, .bool x288001_1] 45 (0, 0)) (by (with_reducible repeat (first | refine blk_drewN ?_ _ | refine blk_drew ?_ | refine blk_alloc ?_ _)); exact BK287.out) hb)
           have n3_ := Aside0.mk (blk_below (g := gb292) (o := .cells #[.slice (some ad294) t288.length co7, .bool true] 42 (0, 0)) (by (with_reducible repeat (first | refine blk_drewN ?_ _ | refine blk_drew ?_ | refine blk_alloc ?_ _)); exact BK292.out) hb)
           have n4_ := Aside0.mk (below_step (by repeat (first | (with_reducible first | exact HB.out | apply below_alloc | apply pw_below_drewN | apply below_drew1 | refine below_set ?_ GE287.out | refine below_set ?_ GE292.out) | exact HB.out)) hb)
           clear HO_4
           clear HO_293000
           clear BK287
           clear BK292
           clear HB
           have HO_4 := n0_
           have HO_293000 := n1_
           have BK287 := n2_
           have BK292 := n3_
           have HB := n4_
           clear n0_ n1_ n2_ n3_ n4_
           (try clear hb)
           (try clear hb2)
           (try clear hk)
           (try clear hi)
           refine hK.out _ _ ⟨(blk_cell BK292.out 0).trans rfl, (blk_cell BK292.out 1).trans rfl, HS2_, HS3_, HS4_, HS5_⟩ (fun hHeld => ?_)
           clear hK K
           refine norm_ (a' := ?_) ?_ ?_
           rotate_left
           ·show Act.put _ (some 33) _ = _
            simp only [Act.put, List.setIfInBounds_toArray, List.set_cons_zero, List.set_cons_succ, i64_w, i32_w]
            rfl
           refine pure_ (i := 14) (N := some 34) (v := ?_) (a' := ?_) #[true, true, true, true, true, true, true, true, true, true, true, true, true, true, true, false, false] rfl rfl (any_of HT_.out (by kernel_rfl)) (fun _ _ _ h => h) (Or.inl ⟨by rfl, ?_⟩) ?_ ?_
           rotate_left
           ·intro w'
            go_simp
            with_reducible rfl
           rotate_left
           ·simp only [Act.put, List.setIfInBounds_toArray, List.set_cons_zero, List.set_cons_succ, i64_w, i32_w]
            rfl
           refine one_ (i := 15) (N := some 6) #[true, true, true, true, true, true, true, true, true, true, true, true, true, true, true, true, false] rfl rfl (one_of HT_.out (by kernel_rfl)) (by decide) (fun K hK => ?_)
           refine box_step ?hg (N := 6) ?hd (cs := #[.string (⟨#[]⟩ : ByteArray), .string (⟨#[]⟩ : ByteArray)]) (t := 25) ?hr ?_; (case hd => rfl); (case hg => rfl); (case hr => first | (go_simp; done) | (go_simp; rfl))
           intro gb298 hg w34 hbox hb
           have HS2_ := (hb.cell (World.block_lt_of_cell? _ _ (hHeld.2.2.1))).trans (hHeld.2.2.1)
           have HS3_ := (hb.cell (World.block_lt_of_cell? _ _ (hHeld.2.2.2.1))).trans (hHeld.2.2.2.1)
           have HS4_ := (hb.cell (World.block_lt_of_cell? _ _ (hHeld.2.2.2.2.1))).trans (hHeld.2.2.2.2.1)
           have HS5_ := (hb.cell (World.block_lt_of_cell? _ _ (hHeld.2.2.2.2.2))).trans (hHeld.2.2.2.2.2)
           have n0_ := Aside0.mk (Kd.R_below (Kd.R_elderB (by (with_reducible repeat (first | apply Kd.R_alloc | apply Kd.R_drewN | apply Kd.R_drew)); exact HO_4.out) gb298 (Nat.le_of_eq hg.symm)) hb)
           have n1_ := Aside0.mk (Kd.R_below (Kd.R_elderB (by (with_reducible repeat (first | apply Kd.R_alloc | apply Kd.R_drewN | apply Kd.R_drew)); exact HO_293000.out) gb298 (Nat.le_of_eq hg.symm)) hb)
           have n2_ := Aside0.mk (blk_below (g := gb287) (o := .cells #[.string x288000_1, .bool x288001_1] 45 (0, 0)) (by (with_reducible repeat (first | refine blk_drewN ?_ _ | refine blk_drew ?_ | refine blk_alloc ?_ _)); exact BK287.out) hb)
           have n3_ := Aside0.mk (blk_below (g := gb292) (o := .cells #[.slice (some ad294) t288.length co7, .bool true] 42 (0, 0)) (by (with_reducible repeat (first | refine blk_drewN ?_ _ | refine blk_drew ?_ | refine blk_alloc ?_ _)); exact BK292.out) hb)
           have n4_ := Aside0.mk (below_step (by repeat (first | (with_reducible first | exact HB.out | apply below_alloc | apply pw_below_drewN | apply below_drew1 | refine below_set ?_ GE287.out | refine below_set ?_ GE292.out) | exact HB.out)) hb)
           have n5_ := Aside0.mk (hbox)
           have n6_ := Aside0.mk ((by rw [hg]; exact (below_size (by repeat (first | (with_reducible first | exact HB.out | apply below_alloc | apply pw_below_drewN | apply below_drew1 | refine below_set ?_ GE287.out | refine below_set ?_ GE292.out) | exact HB.out))) : w.heap.size ≤ gb298))
           have n7_ := Aside0.mk ((by rw [hg]; exact (below_size (by repeat (first | (with_reducible first | exact HB.out | apply below_alloc | apply pw_below_drewN | apply below_drew1 | refine below_set ?_ GE287.out | refine below_set ?_ GE292.out) | exact HB.out))) : w.heap.size ≤ gb298))
           have n8_ := Aside0.mk ((by rw [hg]; exact Nat.ne_of_lt (blk_lt (g := gb287) (o := .cells #[.string x288000_1, .bool x288001_1] 45 (0, 0)) (by (with_reducible repeat (first | refine blk_drewN ?_ _ | refine blk_drew ?_ | refine blk_alloc ?_ _)); exact BK287.out)) : gb287 ≠ gb298))
           have n9_ := Aside0.mk ((by rw [hg]; exact Nat.ne_of_gt (blk_lt (g := gb287) (o := .cells #[.string x288000_1, .bool x288001_1] 45 (0, 0)) (by (with_reducible repeat (first | refine blk_drewN ?_ _ | refine blk_drew ?_ | refine blk_alloc ?_ _)); exact BK287.out)) : gb298 ≠ gb287))
           have n10_ := Aside0.mk ((by rw [hg]; exact Nat.ne_of_lt (blk_lt (g := gb292) (o := .cells #[.slice (some ad294) t288.length co7, .bool true] 42 (0, 0)) (by (with_reducible repeat (first | refine blk_drewN ?_ _ | refine blk_drew ?_ | refine blk_alloc ?_ _)); exact BK292.out)) : gb292 ≠ gb298))
           have n11_ := Aside0.mk ((by rw [hg]; exact Nat.ne_of_gt (blk_lt (g := gb292) (o := .cells #[.slice (some ad294) t288.length co7, .bool true] 42 (0, 0)) (by (with_reducible repeat (first | refine blk_drewN ?_ _ | refine blk_drew ?_ | refine blk_alloc ?_ _)); exact BK292.out)) : gb298 ≠ gb292))
           clear HO_4
           clear HO_293000
           clear BK287
           clear BK292
           clear HB
           have HO_4 := n0_
           have HO_293000 := n1_
           have BK287 := n2_
           have BK292 := n3_
           have HB := n4_
           have BK298 := n5_
           have GW298 := n6_
           have GE298 := n7_
           have NB287_298 := n8_
           have NB298_287 := n9_
           have NB292_298 := n10_
           have NB298_292 := n11_
           clear n0_ n1_ n2_ n3_ n4_ n5_ n6_ n7_ n8_ n9_ n10_ n11_
           clear hb hbox hg
           refine hK.out _ _ ⟨(blk_cell BK292.out 0).trans rfl, (blk_cell BK292.out 1).trans rfl, HS2_, HS3_, HS4_, HS5_⟩ (fun hHeld => ?_)
           clear hK K
           refine norm_ (a' := ?_) ?_ ?_
           rotate_left
           ·show Act.put _ (some 6) _ = _
            simp only [Act.put, List.setIfInBounds_toArray, List.set_cons_zero, List.set_cons_succ, i64_w, i32_w]
            rfl
           exact norm_ (by simp only [putAll, Act.put, List.setIfInBounds_toArray, List.set_cons_zero, List.set_cons_succ]) (hCont (gb298) _ ⟨hHeld, (by (with_reducible repeat (first | apply Kd.R_alloc | apply Kd.R_drewN | apply Kd.R_drew)); exact HO_293000.out), (by (with_reducible repeat (first | apply Kd.R_alloc | apply Kd.R_drewN | apply Kd.R_drew)); exact HO_4.out), (by (with_reducible repeat (first | refine blk_drewN ?_ _ | refine blk_drew ?_ | refine blk_alloc ?_ _)); exact BK287.out), (by (with_reducible repeat (first | refine blk_drewN ?_ _ | refine blk_drew ?_ | refine blk_alloc ?_ _)); exact BK292.out), (by (with_reducible repeat (first | refine blk_drewN ?_ _ | refine blk_drew ?_ | refine blk_alloc ?_ _)); exact BK298.out), GW298.out, GE298.out, NB287_298.out, NB298_287.out, NB292_298.out, NB298_292.out, (by repeat (first | (with_reducible first | exact HB.out | apply below_alloc | apply pw_below_drewN | apply below_drew1 | refine below_set ?_ GE287.out | refine below_set ?_ GE292.out | refine below_set ?_ GE298.out) | exact HB.out))⟩)
          ·skip
           refine box_step ?hg (N := 6) ?hd (cs := #[.string (⟨#[]⟩ : ByteArray), .string (⟨#[]⟩ : ByteArray)]) (t := 25) ?hr ?_; (case hd => rfl); (case hg => rfl); (case hr => first | (go_simp; done) | (go_simp; rfl))
           intro gb298 hg w33 hbox hb
           have HS2_ := (hb.cell (World.block_lt_of_cell? _ _ (hHeld.2.2.1))).trans (hHeld.2.2.1)
           have HS3_ := (hb.cell (World.block_lt_of_cell? _ _ (hHeld.2.2.2.1))).trans (hHeld.2.2.2.1)
           have HS4_ := (hb.cell (World.block_lt_of_cell? _ _ (hHeld.2.2.2.2.1))).trans (hHeld.2.2.2.2.1)
           have HS5_ := (hb.cell (World.block_lt_of_cell? _ _ (hHeld.2.2.2.2.2))).trans (hHeld.2.2.2.2.2)
           have n0_ := Aside0.mk (Kd.R_below (Kd.R_elderB (by (with_reducible repeat (first | apply Kd.R_alloc | apply Kd.R_drewN | apply Kd.R_drew)); exact HO_4.out) gb298 (Nat.le_of_eq hg.symm)) hb)
           have n1_ := Aside0.mk (Kd.R_below (Kd.R_elderB (by (with_reducible repeat (first | apply Kd.R_alloc | apply Kd.R_drewN | apply Kd.R_drew)); exact HO_293000.out) gb298 (Nat.le_of_eq hg.symm)) hb)
           have n2_ := Aside0.mk (blk_below (g := gb287) (o := .cells #[.string x288000_1, .bool x288001_1] 45 (0, 0)) (by (with_reducible repeat (first | refine blk_drewN ?_ _ | refine blk_drew ?_ | refine blk_alloc ?_ _)); exact BK287.out) hb)
           have n3_ := Aside0.mk (blk_below (g := gb292) (o := .cells #[.slice (some ad294) t288.length co7, .bool true] 42 (0, 0)) (by (with_reducible repeat (first | refine blk_drewN ?_ _ | refine blk_drew ?_ | refine blk_alloc ?_ _)); exact BK292.out) hb)
           have n4_ := Aside0.mk (below_step (by repeat (first | (with_reducible first | exact HB.out | apply below_alloc | apply pw_below_drewN | apply below_drew1 | refine below_set ?_ GE287.out | refine below_set ?_ GE292.out) | exact HB.out)) hb)
           have n5_ := Aside0.mk (hbox)
           have n6_ := Aside0.mk ((by rw [hg]; exact (below_size (by repeat (first | (with_reducible first | exact HB.out | apply below_alloc | apply pw_below_drewN | apply below_drew1 | refine below_set ?_ GE287.out | refine below_set ?_ GE292.out) | exact HB.out))) : w.heap.size ≤ gb298))
           have n7_ := Aside0.mk ((by rw [hg]; exact (below_size (by repeat (first | (with_reducible first | exact HB.out | apply below_alloc | apply pw_below_drewN | apply below_drew1 | refine below_set ?_ GE287.out | refine below_set ?_ GE292.out) | exact HB.out))) : w.heap.size ≤ gb298))
           have n8_ := Aside0.mk ((by rw [hg]; exact Nat.ne_of_lt (blk_lt (g := gb287) (o := .cells #[.string x288000_1, .bool x288001_1] 45 (0, 0)) (by (with_reducible repeat (first | refine blk_drewN ?_ _ | refine blk_drew ?_ | refine blk_alloc ?_ _)); exact BK287.out)) : gb287 ≠ gb298))
           have n9_ := Aside0.mk ((by rw [hg]; exact Nat.ne_of_gt (blk_lt (g := gb287) (o := .cells #[.string x288000_1, .bool x288001_1] 45 (0, 0)) (by (with_reducible repeat (first | refine blk_drewN ?_ _ | refine blk_drew ?_ | refine blk_alloc ?_ _)); exact BK287.out)) : gb298 ≠ gb287))
           have n10_ := Aside0.mk ((by rw [hg]; exact Nat.ne_of_lt (blk_lt (g := gb292) (o := .cells #[.slice (some ad294) t288.length co7, .bool true] 42 (0, 0)) (by (with_reducible repeat (first | refine blk_drewN ?_ _ | refine blk_drew ?_ | refine blk_alloc ?_ _)); exact BK292.out)) : gb292 ≠ gb298))
           have n11_ := Aside0.mk ((by rw [hg]; exact Nat.ne_of_gt (blk_lt (g := gb292) (o := .cells #[.slice (some ad294) t288.length co7, .bool true] 42 (0, 0)) (by (with_reducible repeat (first | refine blk_drewN ?_ _ | refine blk_drew ?_ | refine blk_alloc ?_ _)); exact BK292.out)) : gb298 ≠ gb292))
           clear HO_4
           clear HO_293000
           clear BK287
           clear BK292
           clear HB
           have HO_4 := n0_
           have HO_293000 := n1_
           have BK287 := n2_
           have BK292 := n3_
           have HB := n4_
           have BK298 := n5_
           have GW298 := n6_
           have GE298 := n7_
           have NB287_298 := n8_
           have NB298_287 := n9_
           have NB292_298 := n10_
           have NB298_292 := n11_
           clear n0_ n1_ n2_ n3_ n4_ n5_ n6_ n7_ n8_ n9_ n10_ n11_
           clear hb hbox hg
           refine hK.out _ _ ⟨(blk_cell BK292.out 0).trans rfl, (blk_cell BK292.out 1).trans rfl, HS2_, HS3_, HS4_, HS5_⟩ (fun hHeld => ?_)
           clear hK K
           refine norm_ (a' := ?_) ?_ ?_
           rotate_left
           ·show Act.put _ (some 6) _ = _
            simp only [Act.put, List.setIfInBounds_toArray, List.set_cons_zero, List.set_cons_succ, i64_w, i32_w]
            rfl
           refine one_ (i := 13) (N := some 33) #[true, true, true, true, true, true, true, true, true, true, true, true, true, true, false, true, false] rfl rfl (one_of HT_.out (by kernel_rfl)) (by decide) (fun K hK => ?_)
           refine goes_ Tryd.func28 (by kernel_rfl) rfl #[.string ((rd_T25 t288 x5_1).f1)] (by rfl) rfl rfl (by (try simp only [List.map_toArray, List.map_cons, List.map_nil]); first | done | rfl | (simp only [List.length_drop, List.length_take]; rfl)) ?_
           with_reducible refine (brookref1_Fold.calls k1 ((rd_T25 t288 x5_1).f1) t297 _ A13.out).mono ?_
           rintro e w34 ⟨rfl, hb⟩
           have HS2_ := (hb.cell (World.block_lt_of_cell? _ _ (hHeld.2.2.1))).trans (hHeld.2.2.1)
           have HS3_ := (hb.cell (World.block_lt_of_cell? _ _ (hHeld.2.2.2.1))).trans (hHeld.2.2.2.1)
           have HS4_ := (hb.cell (World.block_lt_of_cell? _ _ (hHeld.2.2.2.2.1))).trans (hHeld.2.2.2.2.1)
           have HS5_ := (hb.cell (World.block_lt_of_cell? _ _ (hHeld.2.2.2.2.2))).trans (hHeld.2.2.2.2.2)
           refine ⟨_, rfl, ?_⟩
           have n0_ := Aside0.mk (Kd.R_below (by (with_reducible repeat (first | apply Kd.R_alloc | apply Kd.R_drewN | apply Kd.R_drew)); exact HO_4.out) hb)
           have n1_ := Aside0.mk (Kd.R_below (by (with_reducible repeat (first | apply Kd.R_alloc | apply Kd.R_drewN | apply Kd.R_drew)); exact HO_293000.out) hb)
           have n2_ := Aside0.mk (blk_below (g := gb287) (o := .cells #[.string x288000_1, .bool x288001_1] 45 (0, 0)) (by (with_reducible repeat (first | refine blk_drewN ?_ _ | refine blk_drew ?_ | refine blk_alloc ?_ _)); exact BK287.out) hb)
           have n3_ := Aside0.mk (blk_below (g := gb292) (o := .cells #[.slice (some ad294) t288.length co7, .bool true] 42 (0, 0)) (by (with_reducible repeat (first | refine blk_drewN ?_ _ | refine blk_drew ?_ | refine blk_alloc ?_ _)); exact BK292.out) hb)
           have n4_ := Aside0.mk (blk_below (g := gb298) (o := .cells #[.string (⟨#[]⟩ : ByteArray), .string (⟨#[]⟩ : ByteArray)] 25 (0, 0)) (by (with_reducible repeat (first | refine blk_drewN ?_ _ | refine blk_drew ?_ | refine blk_alloc ?_ _)); exact BK298.out) hb)
           have n5_ := Aside0.mk (below_step (by repeat (first | (with_reducible first | exact HB.out | apply below_alloc | apply pw_below_drewN | apply below_drew1 | refine below_set ?_ GE287.out | refine below_set ?_ GE292.out | refine below_set ?_ GE298.out) | exact HB.out)) hb)
           clear HO_4
           clear HO_293000
           clear BK287
           clear BK292
           clear BK298
           clear HB
           have HO_4 := n0_
           have HO_293000 := n1_
           have BK287 := n2_
           have BK292 := n3_
           have BK298 := n4_
           have HB := n5_
           clear n0_ n1_ n2_ n3_ n4_ n5_
           (try clear hb)
           (try clear hb2)
           (try clear hk)
           (try clear hi)
           refine hK.out _ _ ⟨(blk_cell BK292.out 0).trans rfl, (blk_cell BK292.out 1).trans rfl, HS2_, HS3_, HS4_, HS5_⟩ (fun hHeld => ?_)
           clear hK K
           refine norm_ (a' := ?_) ?_ ?_
           rotate_left
           ·show Act.put _ (some 33) _ = _
            simp only [Act.put, List.setIfInBounds_toArray, List.set_cons_zero, List.set_cons_succ, i64_w, i32_w]
            rfl
           refine pure_ (i := 14) (N := some 34) (v := ?_) (a' := ?_) #[true, true, true, true, true, true, true, true, true, true, true, true, true, true, true, true, false] rfl rfl (any_of HT_.out (by kernel_rfl)) (fun _ _ _ h => h) (Or.inl ⟨by rfl, ?_⟩) ?_ ?_
           rotate_left
           ·intro w'
            go_simp
            with_reducible rfl
           rotate_left
           ·simp only [Act.put, List.setIfInBounds_toArray, List.set_cons_zero, List.set_cons_succ, i64_w, i32_w]
            rfl
           exact norm_ (by simp only [putAll, Act.put, List.setIfInBounds_toArray, List.set_cons_zero, List.set_cons_succ]) (hCont (gb298) _ ⟨hHeld, (by (with_reducible repeat (first | apply Kd.R_alloc | apply Kd.R_drewN | apply Kd.R_drew)); exact HO_293000.out), (by (with_reducible repeat (first | apply Kd.R_alloc | apply Kd.R_drewN | apply Kd.R_drew)); exact HO_4.out), (by (with_reducible repeat (first | refine blk_drewN ?_ _ | refine blk_drew ?_ | refine blk_alloc ?_ _)); exact BK287.out), (by (with_reducible repeat (first | refine blk_drewN ?_ _ | refine blk_drew ?_ | refine blk_alloc ?_ _)); exact BK292.out), (by (with_reducible repeat (first | refine blk_drewN ?_ _ | refine blk_drew ?_ | refine blk_alloc ?_ _)); exact BK298.out), GW298.out, GE298.out, NB287_298.out, NB298_287.out, NB292_298.out, NB298_292.out, (by repeat (first | (with_reducible first | exact HB.out | apply below_alloc | apply pw_below_drewN | apply below_drew1 | refine below_set ?_ GE287.out | refine below_set ?_ GE292.out | refine below_set ?_ GE298.out) | exact HB.out))⟩)
         ·skip
          refine box_step ?hg (N := 6) ?hd (cs := #[.string (⟨#[]⟩ : ByteArray), .string (⟨#[]⟩ : ByteArray)]) (t := 25) ?hr ?_; (case hd => rfl); (case hg => rfl); (case hr => first | (go_simp; done) | (go_simp; rfl))
          intro gb298 hg w32 hbox hb
          have HS2_ := (hb.cell (World.block_lt_of_cell? _ _ (hHeld.2.2.1))).trans (hHeld.2.2.1)
          have HS3_ := (hb.cell (World.block_lt_of_cell? _ _ (hHeld.2.2.2.1))).trans (hHeld.2.2.2.1)
          have HS4_ := (hb.cell (World.block_lt_of_cell? _ _ (hHeld.2.2.2.2.1))).trans (hHeld.2.2.2.2.1)
          have HS5_ := (hb.cell (World.block_lt_of_cell? _ _ (hHeld.2.2.2.2.2))).trans (hHeld.2.2.2.2.2)
          have n0_ := Aside0.mk (Kd.R_below (Kd.R_elderB (by (with_reducible repeat (first | apply Kd.R_alloc | apply Kd.R_drewN | apply Kd.R_drew)); exact HO_4.out) gb298 (Nat.le_of_eq hg.symm)) hb)
          have n1_ := Aside0.mk (Kd.R_below (Kd.R_elderB (by (with_reducible repeat (first | apply Kd.R_alloc | apply Kd.R_drewN | apply Kd.R_drew)); exact HO_293000.out) gb298 (Nat.le_of_eq hg.symm)) hb)
          have n2_ := Aside0.mk (blk_below (g := gb287) (o := .cells #[.string x288000_1, .bool x288001_1] 45 (0, 0)) (by (with_reducible repeat (first | refine blk_drewN ?_ _ | refine blk_drew ?_ | refine blk_alloc ?_ _)); exact BK287.out) hb)
          have n3_ := Aside0.mk (blk_below (g := gb292) (o := .cells #[.slice (some ad294) t288.length co7, .bool true] 42 (0, 0)) (by (with_reducible repeat (first | refine blk_drewN ?_ _ | refine blk_drew ?_ | refine blk_alloc ?_ _)); exact BK292.out) hb)
          have n4_ := Aside0.mk (below_step (by repeat (first | (with_reducible first | exact HB.out | apply below_alloc | apply pw_below_drewN | apply below_drew1 | refine below_set ?_ GE287.out | refine below_set ?_ GE292.out) | exact HB.out)) hb)
          have n5_ := Aside0.mk (hbox)
          have n6_ := Aside0.mk ((by rw [hg]; exact (below_size (by repeat (first | (with_reducible first | exact HB.out | apply below_alloc | apply pw_below_drewN | apply below_drew1 | refine below_set ?_ GE287.out | refine below_set ?_ GE292.out) | exact HB.out))) : w.heap.size ≤ gb298))
          have n7_ := Aside0.mk ((by rw [hg]; exact (below_size (by repeat (first | (with_reducible first | exact HB.out | apply below_alloc | apply pw_below_drewN | apply below_drew1 | refine below_set ?_ GE287.out | refine below_set ?_ GE292.out) | exact HB.out))) : w.heap.size ≤ gb298))
          have n8_ := Aside0.mk ((by rw [hg]; exact Nat.ne_of_lt (blk_lt (g := gb287) (o := .cells #[.string x288000_1, .bool x288001_1] 45 (0, 0)) (by (with_reducible repeat (first | refine blk_drewN ?_ _ | refine blk_drew ?_ | refine blk_alloc ?_ _)); exact BK287.out)) : gb287 ≠ gb298))
          have n9_ := Aside0.mk ((by rw [hg]; exact Nat.ne_of_gt (blk_lt (g := gb287) (o := .cells #[.string x288000_1, .bool x288001_1] 45 (0, 0)) (by (with_reducible repeat (first | refine blk_drewN ?_ _ | refine blk_drew ?_ | refine blk_alloc ?_ _)); exact BK287.out)) : gb298 ≠ gb287))
          have n10_ := Aside0.mk ((by rw [hg]; exact Nat.ne_of_lt (blk_lt (g := gb292) (o := .cells #[.slice (some ad294) t288.length co7, .bool true] 42 (0, 0)) (by (with_reducible repeat (first | refine blk_drewN ?_ _ | refine blk_drew ?_ | refine blk_alloc ?_ _)); exact BK292.out)) : gb292 ≠ gb298))
          have n11_ := Aside0.mk ((by rw [hg]; exact Nat.ne_of_gt (blk_lt (g := gb292) (o := .cells #[.slice (some ad294) t288.length co7, .bool true] 42 (0, 0)) (by (with_reducible repeat (first | refine blk_drewN ?_ _ | refine blk_drew ?_ | refine blk_alloc ?_ _)); exact BK292.out)) : gb298 ≠ gb292))
          clear HO_4
          clear HO_293000
          clear BK287
          clear BK292
          clear HB
          have HO_4 := n0_
          have HO_293000 := n1_
          have BK287 := n2_
          have BK292 := n3_
          have HB := n4_
          have BK298 := n5_
          have GW298 := n6_
          have GE298 := n7_
          have NB287_298 := n8_
          have NB298_287 := n9_
          have NB292_298 := n10_
          have NB298_292 := n11_
          clear n0_ n1_ n2_ n3_ n4_ n5_ n6_ n7_ n8_ n9_ n10_ n11_
          clear hb hbox hg
          refine hK.out _ _ ⟨(blk_cell BK292.out 0).trans rfl, (blk_cell BK292.out 1).trans rfl, HS2_, HS3_, HS4_, HS5_⟩ (fun hHeld => ?_)
          clear hK K
          refine norm_ (a' := ?_) ?_ ?_
          rotate_left
          ·show Act.put _ (some 6) _ = _
           simp only [Act.put, List.setIfInBounds_toArray, List.set_cons_zero, List.set_cons_succ, i64_w, i32_w]
           rfl
          refine one_ (i := 6) (N := some 26) #[true, true, true, true, true, true, true, true, true, true, true, true, true, false, false, true, false] rfl rfl (one_of HT_.out (by kernel_rfl)) (by decide) (fun K hK => ?_)
          refine goes_ Tryd.func24 (by kernel_rfl) rfl #[.string ((rd_T25 t288 x5_1).f0)] (by rfl) rfl rfl (by (try simp only [List.map_toArray, List.map_cons, List.map_nil]); first | done | rfl | (simp only [List.length_drop, List.length_take]; rfl)) ?_
          with_reducible refine (brookref1_Lower.calls ((rd_T25 t288 x5_1).f0) t295 _ A12.out).mono ?_
          rintro e w33 ⟨rfl, hb⟩
          have HS2_ := (hb.cell (World.block_lt_of_cell? _ _ (hHeld.2.2.1))).trans (hHeld.2.2.1)
          have HS3_ := (hb.cell (World.block_lt_of_cell? _ _ (hHeld.2.2.2.1))).trans (hHeld.2.2.2.1)
          have HS4_ := (hb.cell (World.block_lt_of_cell? _ _ (hHeld.2.2.2.2.1))).trans (hHeld.2.2.2.2.1)
          have HS5_ := (hb.cell (World.block_lt_of_cell? _ _ (hHeld.2.2.2.2.2))).trans (hHeld.2.2.2.2.2)
          refine ⟨_, rfl, ?_⟩
          have n0_ := Aside0.mk (Kd.R_below (by (with_reducible repeat (first | apply Kd.R_alloc | apply Kd.R_drewN | apply Kd.R_drew)); exact HO_4.out) hb)
          have n1_ := Aside0.mk (Kd.R_below (by (with_reducible repeat (first | apply Kd.R_alloc | apply Kd.R_drewN | apply Kd.R_drew)); exact HO_293000.out) hb)
          have n2_ := Aside0.mk (blk_below (g := gb287) (o := .cells #[.string x288000_1, .bool x288001_1] 45 (0, 0)) (by (with_reducible repeat (first | refine blk_drewN ?_ _ | refine blk_drew ?_ | refine blk_alloc ?_ _)); exact BK287.out) hb)
          have n3_ := Aside0.mk (blk_below (g := gb292) (o := .cells #[.slice (some ad294) t288.length co7, .bool true] 42 (0, 0)) (by (with_reducible repeat (first | refine blk_drewN ?_ _ | refine blk_drew ?_ | refine blk_alloc ?_ _)); exact BK292.out) hb)
          have n4_ := Aside0.mk (blk_below (g := gb298) (o := .cells #[.string (⟨#[]⟩ : ByteArray), .string (⟨#[]⟩ : ByteArray)] 25 (0, 0)) (by (with_reducible repeat (first | refine blk_drewN ?_ _ | refine blk_drew ?_ | refine blk_alloc ?_ _)); exact BK298.out) hb)
          have n5_ := Aside0.mk (below_step (by repeat (first | (with_reducible first | exact HB.out | apply below_alloc | apply pw_below_drewN | apply below_drew1 | refine below_set ?_ GE287.out | refine below_set ?_ GE292.out | refine below_set ?_ GE298.out) | exact HB.out)) hb)
          clear HO_4
          clear HO_293000
          clear BK287
          clear BK292
          clear BK298
          clear HB
          have HO_4 := n0_
          have HO_293000 := n1_
          have BK287 := n2_
          have BK292 := n3_
          have BK298 := n4_
          have HB := n5_
          clear n0_ n1_ n2_ n3_ n4_ n5_
          (try clear hb)
          (try clear hb2)
          (try clear hk)
          (try clear hi)
          refine hK.out _ _ ⟨(blk_cell BK292.out 0).trans rfl, (blk_cell BK292.out 1).trans rfl, HS2_, HS3_, HS4_, HS5_⟩ (fun hHeld => ?_)
          clear hK K
          refine norm_ (a' := ?_) ?_ ?_
          rotate_left
          ·show Act.put _ (some 26) _ = _
           simp only [Act.put, List.setIfInBounds_toArray, List.set_cons_zero, List.set_cons_succ, i64_w, i32_w]
           rfl
          refine one_ (i := 13) (N := some 33) #[true, true, true, true, true, true, true, true, true, true, true, true, true, true, false, true, false] rfl rfl (one_of HT_.out (by kernel_rfl)) (by decide) (fun K hK => ?_)
          refine goes_ Tryd.func28 (by kernel_rfl) rfl #[.string ((rd_T25 t288 x5_1).f1)] (by rfl) rfl rfl (by (try simp only [List.map_toArray, List.map_cons, List.map_nil]); first | done | rfl | (simp only [List.length_drop, List.length_take]; rfl)) ?_
          with_reducible refine (brookref1_Fold.calls k1 ((rd_T25 t288 x5_1).f1) t297 _ A13.out).mono ?_
          rintro e w34 ⟨rfl, hb⟩
          have HS2_ := (hb.cell (World.block_lt_of_cell? _ _ (hHeld.2.2.1))).trans (hHeld.2.2.1)
          have HS3_ := (hb.cell (World.block_lt_of_cell? _ _ (hHeld.2.2.2.1))).trans (hHeld.2.2.2.1)
          have HS4_ := (hb.cell (World.block_lt_of_cell? _ _ (hHeld.2.2.2.2.1))).trans (hHeld.2.2.2.2.1)
          have HS5_ := (hb.cell (World.block_lt_of_cell? _ _ (hHeld.2.2.2.2.2))).trans (hHeld.2.2.2.2.2)
          refine ⟨_, rfl, ?_⟩
          have n0_ := Aside0.mk (Kd.R_below (by (with_reducible repeat (first | apply Kd.R_alloc | apply Kd.R_drewN | apply Kd.R_drew)); exact HO_4.out) hb)
          have n1_ := Aside0.mk (Kd.R_below (by (with_reducible repeat (first | apply Kd.R_alloc | apply Kd.R_drewN | apply Kd.R_drew)); exact HO_293000.out) hb)
          have n2_ := Aside0.mk (blk_below (g := gb287) (o := .cells #[.string x288000_1, .bool x288001_1] 45 (0, 0)) (by (with_reducible repeat (first | refine blk_drewN ?_ _ | refine blk_drew ?_ | refine blk_alloc ?_ _)); exact BK287.out) hb)
          have n3_ := Aside0.mk (blk_below (g := gb292) (o := .cells #[.slice (some ad294) t288.length co7, .bool true] 42 (0, 0)) (by (with_reducible repeat (first | refine blk_drewN ?_ _ | refine blk_drew ?_ | refine blk_alloc ?_ _)); exact BK292.out) hb)
          have n4_ := Aside0.mk (blk_below (g := gb298) (o := .cells #[.string (⟨#[]⟩ : ByteArray), .string (⟨#[]⟩ : ByteArray)] 25 (0, 0)) (by (with_reducible repeat (first | refine blk_drewN ?_ _ | refine blk_drew ?_ | refine blk_alloc ?_ _)); exact BK298.out) hb)
          have n5_ := Aside0.mk (below_step (by repeat (first | (with_reducible first | exact HB.out | apply below_alloc | apply pw_below_drewN | apply below_drew1 | refine below_set ?_ GE287.out | refine below_set ?_ GE292.out | refine below_set ?_ GE298.out) | exact HB.out)) hb)
          clear HO_4
          clear HO_293000
          clear BK287
          clear BK292
          clear BK298
          clear HB
          have HO_4 := n0_
          have HO_293000 := n1_
          have BK287 := n2_
          have BK292 := n3_
          have BK298 := n4_
          have HB := n5_
          clear n0_ n1_ n2_ n3_ n4_ n5_
          (try clear hb)
          (try clear hb2)
          (try clear hk)
          (try clear hi)
          refine hK.out _ _ ⟨(blk_cell BK292.out 0).trans rfl, (blk_cell BK292.out 1).trans rfl, HS2_, HS3_, HS4_, HS5_⟩ (fun hHeld => ?_)
          clear hK K
          refine norm_ (a' := ?_) ?_ ?_
          rotate_left
          ·show Act.put _ (some 33) _ = _
           simp only [Act.put, List.setIfInBounds_toArray, List.set_cons_zero, List.set_cons_succ, i64_w, i32_w]
           rfl
          refine pure_ (i := 14) (N := some 34) (v := ?_) (a' := ?_) #[true, true, true, true, true, true, true, true, true, true, true, true, true, true, true, true, false] rfl rfl (any_of HT_.out (by kernel_rfl)) (fun _ _ _ h => h) (Or.inl ⟨by rfl, ?_⟩) ?_ ?_
          rotate_left
          ·intro w'
           go_simp
           with_reducible rfl
          rotate_left
          ·simp only [Act.put, List.setIfInBounds_toArray, List.set_cons_zero, List.set_cons_succ, i64_w, i32_w]
           rfl
          exact norm_ (by simp only [putAll, Act.put, List.setIfInBounds_toArray, List.set_cons_zero, List.set_cons_succ]) (hCont (gb298) _ ⟨hHeld, (by (with_reducible repeat (first | apply Kd.R_alloc | apply Kd.R_drewN | apply Kd.R_drew)); exact HO_293000.out), (by (with_reducible repeat (first | apply Kd.R_alloc | apply Kd.R_drewN | apply Kd.R_drew)); exact HO_4.out), (by (with_reducible repeat (first | refine blk_drewN ?_ _ | refine blk_drew ?_ | refine blk_alloc ?_ _)); exact BK287.out), (by (with_reducible repeat (first | refine blk_drewN ?_ _ | refine blk_drew ?_ | refine blk_alloc ?_ _)); exact BK292.out), (by (with_reducible repeat (first | refine blk_drewN ?_ _ | refine blk_drew ?_ | refine blk_alloc ?_ _)); exact BK298.out), GW298.out, GE298.out, NB287_298.out, NB298_287.out, NB292_298.out, NB298_292.out, (by repeat (first | (with_reducible first | exact HB.out | apply below_alloc | apply pw_below_drewN | apply below_drew1 | refine below_set ?_ GE287.out | refine below_set ?_ GE292.out | refine below_set ?_ GE298.out) | exact HB.out))⟩)
        rintro gb298 w35 ⟨hS_, h0_, h1_, h2_, h3_, h4_, h5_, h6_, h7_, h8_, h9_, h10_, h11_⟩
        have n0_ : Aside0 (Kd.R k25 25 w35 w.heap.size (fun k_ => some k_ ≠ (u4 : Value).ownBlock ∧ k_ ≠ gb298) (.slice (some ad294) t288.length co7) t288) := ⟨h0_⟩
        have n1_ : Aside0 (Kd.R k25 25 w35 w.heap.size (fun k_ => some k_ ≠ (.slice (some ad294) t288.length co7 : Value).ownBlock ∧ k_ ≠ gb298) u4 x4_1) := ⟨h1_⟩
        have n2_ : Aside0 (w35.heap[gb287]? = some (.cells #[.string x288000_1, .bool x288001_1] 45 (0, 0))) := ⟨h2_⟩
        have n3_ : Aside0 (w35.heap[gb292]? = some (.cells #[.slice (some ad294) t288.length co7, .bool true] 42 (0, 0))) := ⟨h3_⟩
        have n4_ : Aside0 (w35.heap[gb298]? = some (.cells #[.string (⟨#[]⟩ : ByteArray), .string (⟨#[]⟩ : ByteArray)] 25 (0, 0))) := ⟨h4_⟩
        have n5_ : Aside0 (w.heap.size ≤ gb298) := ⟨h5_⟩
        have n6_ : Aside0 (w.heap.size ≤ gb298) := ⟨h6_⟩
        have n7_ : Aside0 (gb287 ≠ gb298) := ⟨h7_⟩
        have n8_ : Aside0 (gb298 ≠ gb287) := ⟨h8_⟩
        have n9_ : Aside0 (gb292 ≠ gb298) := ⟨h9_⟩
        have n10_ : Aside0 (gb298 ≠ gb292) := ⟨h10_⟩
        have n11_ : Aside0 (Below w.heap.size w w35) := ⟨h11_⟩
        clear HO_4
        clear HO_293000
        clear BK287
        clear BK292
        clear HB
        clear h0_ h1_ h2_ h3_ h4_ h5_ h6_ h7_ h8_ h9_ h10_ h11_
        have HO_293000 := n0_
        have HO_4 := n1_
        have BK287 := n2_
        have BK292 := n3_
        have BK298 := n4_
        have GW298 := n5_
        have GE298 := n6_
        have NB287_298 := n7_
        have NB298_287 := n8_
        have NB292_298 := n9_
        have NB298_292 := n10_
        have HB := n11_
        clear n0_ n1_ n2_ n3_ n4_ n5_ n6_ n7_ n8_ n9_ n10_ n11_
        have hHeld : w35.cell? ⟨gb292, 0, none⟩ = some (.slice (some ad294) t288.length co7) ∧ w35.cell? ⟨gb292, 1, none⟩ = some (.bool true) ∧ w35.cell? (ad294.add ((x5_1).toNat * 2)) = some (.string ((rd_T25 t288 x5_1).f0)) ∧ w35.cell? ⟨(ad294.add ((x5_1).toNat * 2)).block, (ad294.add ((x5_1).toNat * 2)).off + 1, none⟩ = some (.string ((rd_T25 t288 x5_1).f1)) ∧ w35.cell? (ad294.add ((x5_1).toNat * 2)) = some (.string ((rd_T25 t288 x5_1).f0)) ∧ w35.cell? ⟨(ad294.add ((x5_1).toNat * 2)).block, (ad294.add ((x5_1).toNat * 2)).off + 1, none⟩ = some (.string ((rd_T25 t288 x5_1).f1)) := hS_
        refine norm_ (a' := ?_) ?_ ?_
        rotate_left
        ·simp only [putAll, Act.put, List.setIfInBounds_toArray, List.set_cons_zero, List.set_cons_succ]
         rfl
        refine one_ (i := 16) (N := none) #[true, true, true, true, true, true, true, true, true, true, true, true, true, true, true, true, true] rfl rfl (one_of HT_.out (by kernel_rfl)) (by decide) (fun K hK => ?_)
        have hs36 : w35.cell? ⟨gb298, 0, none⟩ = some (.string (⟨#[]⟩ : ByteArray)) := (blk_cell BK298.out 0).trans rfl
        have hfs36 := blk_frozen BK298.out 0
        have hns36_0 := NB287_298.out
        have hns36_1 := NB292_298.out
        have hms36_0 := NB298_287.out
        have hms36_1 := NB298_292.out
        have hs37 : w35.cell? ⟨gb298, 1, none⟩ = some (.string (⟨#[]⟩ : ByteArray)) := (blk_cell BK298.out 1).trans rfl
        have hfs37 := blk_frozen BK298.out 1
        have hns37_0 := NB287_298.out
        have hns37_1 := NB292_298.out
        have hms37_0 := NB298_287.out
        have hms37_1 := NB298_292.out
        refine skip_ (w1 := ?_) (by rfl) rfl ?_ ?_
        rotate_left
        ·go_simp
         rfl
        refine hK.out _ _ ⟨((cell_far (p := ⟨gb298, _, none⟩) NB292_298.out _).trans (((cell_far (p := ⟨gb298, _, none⟩) NB292_298.out _).trans (hHeld.1)))), ((cell_far (p := ⟨gb298, _, none⟩) NB292_298.out _).trans (((cell_far (p := ⟨gb298, _, none⟩) NB292_298.out _).trans (hHeld.2.1)))), ((cell_far (p := ⟨gb298, _, none⟩) (by first | exact Kd.own_blk (Kd.R_away HO_293000.out (fun _ hk => hk.2)) | (rw [add_block]; exact Kd.own_blk (Kd.R_away HO_293000.out (fun _ hk => hk.2))) | (show (Addr.add _ _).block ≠ _; rw [add_block]; exact Kd.own_blk (Kd.R_away HO_293000.out (fun _ hk => hk.2))) | (dsimp only; exact Kd.own_blk (Kd.R_away HO_293000.out (fun _ hk => hk.2)))) _).trans (((cell_far (p := ⟨gb298, _, none⟩) (by first | exact Kd.own_blk (Kd.R_away HO_293000.out (fun _ hk => hk.2)) | (rw [add_block]; exact Kd.own_blk (Kd.R_away HO_293000.out (fun _ hk => hk.2))) | (show (Addr.add _ _).block ≠ _; rw [add_block]; exact Kd.own_blk (Kd.R_away HO_293000.out (fun _ hk => hk.2))) | (dsimp only; exact Kd.own_blk (Kd.R_away HO_293000.out (fun _ hk => hk.2)))) _).trans (hHeld.2.2.1)))), ((cell_far (p := ⟨gb298, _, none⟩) (by first | exact Kd.own_blk (Kd.R_away HO_293000.out (fun _ hk => hk.2)) | (rw [add_block]; exact Kd.own_blk (Kd.R_away HO_293000.out (fun _ hk => hk.2))) | (show (Addr.add _ _).block ≠ _; rw [add_block]; exact Kd.own_blk (Kd.R_away HO_293000.out (fun _ hk => hk.2))) | (dsimp only; exact Kd.own_blk (Kd.R_away HO_293000.out (fun _ hk => hk.2)))) _).trans (((cell_far (p := ⟨gb298, _, none⟩) (by first | exact Kd.own_blk (Kd.R_away HO_293000.out (fun _ hk => hk.2)) | (rw [add_block]; exact Kd.own_blk (Kd.R_away HO_293000.out (fun _ hk => hk.2))) | (show (Addr.add _ _).block ≠ _; rw [add_block]; exact Kd.own_blk (Kd.R_away HO_293000.out (fun _ hk => hk.2))) | (dsimp only; exact Kd.own_blk (Kd.R_away HO_293000.out (fun _ hk => hk.2)))) _).trans (hHeld.2.2.2.1)))), ((cell_far (p := ⟨gb298, _, none⟩) (by first | exact Kd.own_blk (Kd.R_away HO_293000.out (fun _ hk => hk.2)) | (rw [add_block]; exact Kd.own_blk (Kd.R_away HO_293000.out (fun _ hk => hk.2))) | (show (Addr.add _ _).block ≠ _; rw [add_block]; exact Kd.own_blk (Kd.R_away HO_293000.out (fun _ hk => hk.2))) | (dsimp only; exact Kd.own_blk (Kd.R_away HO_293000.out (fun _ hk => hk.2)))) _).trans (((cell_far (p := ⟨gb298, _, none⟩) (by first | exact Kd.own_blk (Kd.R_away HO_293000.out (fun _ hk => hk.2)) | (rw [add_block]; exact Kd.own_blk (Kd.R_away HO_293000.out (fun _ hk => hk.2))) | (show (Addr.add _ _).block ≠ _; rw [add_block]; exact Kd.own_blk (Kd.R_away HO_293000.out (fun _ hk => hk.2))) | (dsimp only; exact Kd.own_blk (Kd.R_away HO_293000.out (fun _ hk => hk.2)))) _).trans (hHeld.2.2.2.2.1)))), ((cell_far (p := ⟨gb298, _, none⟩) (by first | exact Kd.own_blk (Kd.R_away HO_293000.out (fun _ hk => hk.2)) | (rw [add_block]; exact Kd.own_blk (Kd.R_away HO_293000.out (fun _ hk => hk.2))) | (show (Addr.add _ _).block ≠ _; rw [add_block]; exact Kd.own_blk (Kd.R_away HO_293000.out (fun _ hk => hk.2))) | (dsimp only; exact Kd.own_blk (Kd.R_away HO_293000.out (fun _ hk => hk.2)))) _).trans (((cell_far (p := ⟨gb298, _, none⟩) (by first | exact Kd.own_blk (Kd.R_away HO_293000.out (fun _ hk => hk.2)) | (rw [add_block]; exact Kd.own_blk (Kd.R_away HO_293000.out (fun _ hk => hk.2))) | (show (Addr.add _ _).block ≠ _; rw [add_block]; exact Kd.own_blk (Kd.R_away HO_293000.out (fun _ hk => hk.2))) | (dsimp only; exact Kd.own_blk (Kd.R_away HO_293000.out (fun _ hk => hk.2)))) _).trans (hHeld.2.2.2.2.2))))⟩ (fun hHeld => ?_)
        clear hK K
        refine done_ (done_of HT_.out (by kernel_rfl)) ?_
        have hnb38 := NB298_287.out
        have hnc38 := NB287_298.out
        have hnb39 := NB298_292.out
        have hnc39 := NB292_298.out
        have hcz40_0 : w35.cell? ⟨gb298, 0, none⟩ = some (.string (⟨#[]⟩ : ByteArray)) := (blk_cell BK298.out 0).trans rfl
        have hcz40_1 : w35.cell? ⟨gb298, 1, none⟩ = some (.string (⟨#[]⟩ : ByteArray)) := (blk_cell BK298.out 1).trans rfl
        have hfz40_0 := blk_frozen BK298.out 0
        have hfz40_1 := blk_frozen BK298.out 1
        try go_wp2_with (first | ((with_reducible refine gate_builtin (b := .append) (xs := #[.tmp 39, .tmp 41]) rfl ?_); at_builtin; refine Kd.R_append k25 (w0 := w) w.heap.size rfl (.tmp 39) (.tmp 41) 22 25 (.agg #[(.string ⟨#[]⟩), (.string ⟨#[]⟩)]) 32 rfl Tryd.underlying22 info25 rfl (by decide) (by omega) u4 x4_1 (⟨t295, t297⟩ : S25) [.string t295, .string t297] (fun k_ => some k_ ≠ (.slice (some ad294) t288.length co7 : Value).ownBlock ∧ k_ ≠ gb298) (fun _ => False) rfl (by first | (go_simp; done) | (go_simp; rfl)) ?aP (fun _ hk => hk.elim) ?aF ?aO ?aB ?aS ?aL ?_; (case aP => exact k25_mkM _ _ _ (⟨t295, t297⟩ : S25)); (case aB => exact (by repeat (first | (with_reducible first | exact HB.out | apply below_alloc | apply pw_below_drewN | apply below_drew1 | refine below_set ?_ GE287.out | refine below_set ?_ GE292.out | refine below_set ?_ GE298.out) | exact HB.out))); (case aF => exact (fun k_ hk => ⟨Kd.fresh' (Kd.R_lt (by (with_reducible repeat (first | apply Kd.R_alloc | apply Kd.R_drewN | apply Kd.R_drew)); exact (Kd.R_mono (Kd.R_far (p := ⟨gb298, 1, none⟩) (Kd.R_far (p := ⟨gb298, 0, none⟩) (Kd.R_mono HO_293000.out (fun k_ hk => (⟨hk, hk.2⟩ : _ ∧ k_ ≠ gb298))) (fun _ hk => hk.2) (.string t295)) (fun _ hk => hk.2) (.string t297)) (fun _ h_ => h_.1)))) k_ hk, Kd.freshB (g := gb298) (o := .cells #[.string t295, .string t297] 25 (0, 0)) (by (with_reducible repeat (first | refine blk_drewN ?_ _ | refine blk_drew ?_ | refine blk_alloc ?_ _)); refine blk_put (cs := #[.string t295, .string (⟨#[]⟩ : ByteArray)]) ?_ 1 _ rfl; (with_reducible repeat (first | refine blk_drewN ?_ _ | refine blk_drew ?_ | refine blk_alloc ?_ _)); refine blk_put (cs := #[.string (⟨#[]⟩ : ByteArray), .string (⟨#[]⟩ : ByteArray)]) ?_ 0 _ rfl; (with_reducible repeat (first | refine blk_drewN ?_ _ | refine blk_drew ?_ | refine blk_alloc ?_ _)); exact BK298.out) k_ hk⟩)); (case aO => exact (by (with_reducible repeat (first | apply Kd.R_alloc | apply Kd.R_drewN | apply Kd.R_drew)); exact Kd.R_mono (Kd.R_far (p := ⟨gb298, 1, none⟩) (Kd.R_far (p := ⟨gb298, 0, none⟩) (Kd.R_mono HO_4.out (fun k_ hk => (⟨hk, hk.2⟩ : _ ∧ k_ ≠ gb298))) (fun _ hk => hk.2) (.string t295)) (fun _ hk => hk.2) (.string t297)) (fun _ hk => ⟨hk.1.1, hk.1.2⟩))); (case aS => exact (below_size (by repeat (first | (with_reducible first | exact HB.out | apply below_alloc | apply pw_below_drewN | apply below_drew1 | refine below_set ?_ GE287.out | refine below_set ?_ GE292.out | refine below_set ?_ GE298.out) | exact HB.out)))); (case aL => have := LMc28.out; omega); intro v300 w41 ho hb hg hat; rw [← Ny299.out] at ho; have n0_ := Aside0.mk (Kd.R_after (ok := (fun k_ => k_ ≠ gb298)) (by (with_reducible repeat (first | apply Kd.R_alloc | apply Kd.R_drewN | apply Kd.R_drew)); exact Kd.R_mono (Kd.R_far (p := ⟨gb298, 1, none⟩) (Kd.R_far (p := ⟨gb298, 0, none⟩) (Kd.R_mono HO_293000.out (fun k_ hk => (⟨hk, hk.2⟩ : _ ∧ k_ ≠ gb298))) (fun _ hk => hk.2) (.string t295)) (fun _ hk => hk.2) (.string t297)) (fun _ hk => ⟨hk.1.2, hk.1.1⟩)) hg hat); have n1_ := Aside0.mk (blk_grown (g := gb287) (o := .cells #[.string x288000_1, .bool x288001_1] 45 (0, 0)) (by (with_reducible repeat (first | refine blk_drewN ?_ _ | refine blk_drew ?_ | refine blk_alloc ?_ _)); refine blk_far ?_ NB287_298.out _; (with_reducible repeat (first | refine blk_drewN ?_ _ | refine blk_drew ?_ | refine blk_alloc ?_ _)); refine blk_far ?_ NB287_298.out _; (with_reducible repeat (first | refine blk_drewN ?_ _ | refine blk_drew ?_ | refine blk_alloc ?_ _)); exact BK287.out) hg (Kd.R_ne HO_4.out BK287.out (by decide))); have n2_ := Aside0.mk (blk_grown (g := gb292) (o := .cells #[.slice (some ad294) t288.length co7, .bool true] 42 (0, 0)) (by (with_reducible repeat (first | refine blk_drewN ?_ _ | refine blk_drew ?_ | refine blk_alloc ?_ _)); refine blk_far ?_ NB292_298.out _; (with_reducible repeat (first | refine blk_drewN ?_ _ | refine blk_drew ?_ | refine blk_alloc ?_ _)); refine blk_far ?_ NB292_298.out _; (with_reducible repeat (first | refine blk_drewN ?_ _ | refine blk_drew ?_ | refine blk_alloc ?_ _)); exact BK292.out) hg (Kd.R_ne HO_4.out BK292.out (by decide))); have n3_ := Aside0.mk (blk_grown (g := gb298) (o := .cells #[.string t295, .string t297] 25 (0, 0)) (by (with_reducible repeat (first | refine blk_drewN ?_ _ | refine blk_drew ?_ | refine blk_alloc ?_ _)); refine blk_put (cs := #[.string t295, .string (⟨#[]⟩ : ByteArray)]) ?_ 1 _ rfl; (with_reducible repeat (first | refine blk_drewN ?_ _ | refine blk_drew ?_ | refine blk_alloc ?_ _)); refine blk_put (cs := #[.string (⟨#[]⟩ : ByteArray), .string (⟨#[]⟩ : ByteArray)]) ?_ 0 _ rfl; (with_reducible repeat (first | refine blk_drewN ?_ _ | refine blk_drew ?_ | refine blk_alloc ?_ _)); exact BK298.out) hg (Kd.R_away HO_4.out (fun _ hk => hk.2))); have n4_ := Aside0.mk (hb); have n5_ := Aside0.mk (ho); clear HO_293000; clear BK287; clear BK292; clear BK298; clear HB; clear HO_4; have HO_293000 := n0_; have BK287 := n1_; have BK292 := n2_; have BK298 := n3_; have HB := n4_; have HO301 := n5_; clear n0_ n1_ n2_ n3_ n4_ n5_; clear ho hb hg hat))
        go_roundg k1
        case measure => have := HK1.out; omega
        case rel => exact ⟨(y299), (wrap64 (x5_1 + 1)), (x288000_1), (x288001_1), (by first | rfl | (simp; done) | (simp [*]; done) | (simp [u8_w, i64_w]; done) | (simp [isEmpty_bne]; done)), H', ⟨by have := HK1.out; omega⟩, ⟨by (with_reducible repeat (first | apply Kd.R_alloc | apply Kd.R_drewN | apply Kd.R_drew)); exact Kd.R_mono HO301.out (fun _ hk => hk.1)⟩, ⟨by (with_reducible repeat (first | apply Kd.R_alloc | apply Kd.R_drewN | apply Kd.R_drew)); exact Kd.R_mono HO_293000.out (fun _ hk => hk.2)⟩, ⟨by (with_reducible repeat (first | refine blk_drewN ?_ _ | refine blk_drew ?_ | refine blk_alloc ?_ _)); exact BK287.out⟩, ⟨by (with_reducible repeat (first | refine blk_drewN ?_ _ | refine blk_drew ?_ | refine blk_alloc ?_ _)); exact BK292.out⟩, ⟨by repeat (first | (with_reducible first | exact HB.out | apply below_alloc | apply pw_below_drewN | apply below_drew1 | refine below_set ?_ GE287.out | refine below_set ?_ GE292.out | refine below_set ?_ GE298.out) | exact HB.out)⟩⟩
       ·rw [if_neg c28] at H
        exact absurd H (by simp)
     ·rw [if_neg c11] at H
      exact absurd H (by simp)
    ·rw [if_neg c10] at H
     have c10b0 : decide (x5_1 < (t288.length : Int)) = false := decide_eq_false c10
     clear c10
     replace H := Option.bind_eq_some_iff.mp H
     obtain ⟨t293, A420, H⟩ := H
     replace H : (some (t293, true)) = some (r1, r2) := H
     have A42 := Aside0.mk A420
     clear A420
     simp only [Option.some.injEq, Prod.mk.injEq] at H
     obtain ⟨rfl, rfl⟩ := H
     have hnb43 := NB292_287.out
     have hnc43 := NB287_292.out
     have hcz44_0 : wr.cell? ⟨gb292, 0, none⟩ = some (.slice Ao7 t288.length co7) := (blk_cell BK292.out 0).trans rfl
     have hcz44_1 : wr.cell? ⟨gb292, 1, none⟩ = some (.bool true) := (blk_cell BK292.out 1).trans rfl
     have hfz44_0 := blk_frozen BK292.out 0
     have hfz44_1 := blk_frozen BK292.out 1
     obtain ⟨Ao45, co45, eo45⟩ := Kd.R_slice HO_4.out
     subst eo45
     go_wp2_with (first | ((with_reducible refine gate_callee (f := 19) rfl ?_); refine goesL_ (some 44) rfl rfl Tryd.func19 (by kernel_rfl) rfl #[.slice Ao45 x4_1.length co45] rfl (by (try simp only [List.map_toArray, List.map_cons, List.map_nil]); first | done | rfl | (simp only [List.length_drop, List.length_take]; rfl)) ?_; (with_reducible refine (brookref1_TextDn.calls k1 _ _ x4_1 t293 _ ?side1 ?side2 A42.out).mono ?_); (case side1 => repeat (first | exact (Kd.R_reads' HO_4.out).2.2 | (with_reducible refine Kd.C_alloc ?_ _) | (with_reducible refine Kd.C_drewN ?_ _) | (with_reducible refine Kd.C_drew ?_))); (case side2 => exact (Kd.R_reads' HO_4.out).2.1); rintro e w' ⟨rfl, ⟨nd, rfl⟩⟩; refine ⟨_, rfl, ?_⟩; (try (rw [drewN_self wr]; generalize hq_ : World.drewN wr _ = wr; have n0_ : Aside0 (Kd.R k25 25 wr w.heap.size (fun k_ => some k_ ≠ (.slice Ao45 x4_1.length co45 : Value).ownBlock) (.slice Ao7 t288.length co7) t288) := ⟨by rw [← hq_]; exact (by (with_reducible repeat (first | apply Kd.R_alloc | apply Kd.R_drewN | apply Kd.R_drew)); exact HO_293000.out)⟩; have n1_ : Aside0 (Kd.R k25 25 wr w.heap.size (fun k_ => some k_ ≠ (.slice Ao7 t288.length co7 : Value).ownBlock) (.slice Ao45 x4_1.length co45) x4_1) := ⟨by rw [← hq_]; exact (by (with_reducible repeat (first | apply Kd.R_alloc | apply Kd.R_drewN | apply Kd.R_drew)); exact HO_4.out)⟩; have n2_ : Aside0 (wr.heap[gb287]? = some (.cells #[.string x288000_1, .bool x288001_1] 45 (0, 0))) := ⟨by rw [← hq_]; exact (by (with_reducible repeat (first | refine blk_drewN ?_ _ | refine blk_drew ?_ | refine blk_alloc ?_ _)); exact BK287.out)⟩; have n3_ : Aside0 (wr.heap[gb292]? = some (.cells #[.slice Ao7 t288.length co7, .bool true] 42 (0, 0))) := ⟨by rw [← hq_]; exact (by (with_reducible repeat (first | refine blk_drewN ?_ _ | refine blk_drew ?_ | refine blk_alloc ?_ _)); exact BK292.out)⟩; have n4_ : Aside0 (Below w.heap.size w wr) := ⟨by rw [← hq_]; exact (by repeat (first | (with_reducible first | exact HB.out | apply below_alloc | apply pw_below_drewN | apply below_drew1 | refine below_set ?_ GE287.out | refine below_set ?_ GE292.out) | exact HB.out))⟩; clear HO_293000 HO_4 BK287 BK292 HB hq_; have HO_293000 := n0_; have HO_4 := n1_; have BK287 := n2_; have BK292 := n3_; have HB := n4_; clear n0_ n1_ n2_ n3_ n4_)); have hcz46_0 : wr.cell? ⟨gb287, 0, none⟩ = some (.string x288000_1) := (blk_cell BK287.out 0).trans rfl; have hcz46_1 : wr.cell? ⟨gb287, 1, none⟩ = some (.bool x288001_1) := (blk_cell BK287.out 1).trans rfl; have hfz46_0 := blk_frozen BK287.out 0; have hfz46_1 := blk_frozen BK287.out 1))
     refine bodyPost_ret (results_cell_row rfl _ _ gb287 45 #[.string t293, .bool true] (0, 0) _ rfl (by (with_reducible repeat (first | refine blk_drewN ?_ _ | refine blk_drew ?_ | refine blk_alloc ?_ _)); refine blk_put (cs := #[.string t293, .bool x288001_1]) ?_ 1 _ rfl; (with_reducible repeat (first | refine blk_drewN ?_ _ | refine blk_drew ?_ | refine blk_alloc ?_ _)); refine blk_put (cs := #[.string x288000_1, .bool x288001_1]) ?_ 0 _ rfl; (with_reducible repeat (first | refine blk_drewN ?_ _ | refine blk_drew ?_ | refine blk_alloc ?_ _)); exact BK287.out) Tryd.underlying45 rfl (by kernel_rfl)) rfl ?_
     exact ⟨by first | rfl | (simp [errW_none, errW_some] <;> rfl) | (simp [*, errW_none, errW_some] <;> rfl), by repeat (first | (with_reducible first | exact HB.out | apply below_alloc | apply pw_below_drewN | apply below_drew1 | refine below_set ?_ GE287.out | refine below_set ?_ GE292.out) | exact HB.out)⟩
 ·replace c3 := Bool.eq_false_iff.mpr c3
  subst c3
  have H1 : (some ((⟨#[]⟩ : ByteArray), false)) = some (r1, r2) := by rw [if_neg (show ¬ (false = true) by decide)] at H; exact H
  clear H
  have H := H1
  clear H1
  simp only [Option.some.injEq, Prod.mk.injEq] at H
  obtain ⟨rfl, rfl⟩ := H
  go_enter Tryd.func27, Tryd.ntmps27
  go_wp2_with (first | ((with_reducible refine gate_dst (N := 2) rfl ?_); refine box_event ?hg (N := 2) ?hd (cs := #[.string (⟨#[]⟩ : ByteArray), .bool false]) (t := 45) ?hr ?_; (case hd => rfl); (case hg => rfl); (case hr => first | (go_simp; done) | (go_simp; rfl)); intro gb287 hg w47 hbox hb; have n0_ := Aside0.mk (below_step (by repeat (first | (with_reducible first | exact HB.out | apply below_alloc | apply pw_below_drewN | apply below_drew1) | exact HB.out)) hb); have n1_ := Aside0.mk (hbox); have n2_ := Aside0.mk ((by rw [hg]; exact (below_size (by repeat (first | (with_reducible first | exact HB.out | apply below_alloc | apply pw_below_drewN | apply below_drew1) | exact HB.out))) : w.heap.size ≤ gb287)); have n3_ := Aside0.mk ((by rw [hg]; exact (below_size (by repeat (first | (with_reducible first | exact HB.out | apply below_alloc | apply pw_below_drewN | apply below_drew1) | exact HB.out))) : w.heap.size ≤ gb287)); clear HB; have HB := n0_; have BK287 := n1_; have GW287 := n2_; have GE287 := n3_; clear n0_ n1_ n2_ n3_; clear hb hbox hg) | ((with_reducible refine gate_callee (f := 26) rfl ?_); refine goesL_ (some 8) rfl rfl Tryd.func26 (by kernel_rfl) rfl #[.string a0] rfl (by (try simp only [List.map_toArray, List.map_cons, List.map_nil]); first | done | rfl | (simp only [List.length_drop, List.length_take]; rfl)) ?_; (with_reducible refine (brookref1_ParseDn.calls k a0 t288 false _ A2.out).mono ?_); rintro e w48 ⟨v289, rfl, ho0, hb⟩; refine ⟨_, rfl, ?_⟩; have n0_ := Aside0.mk (Kd.R_lower ho0 (below_size (by repeat (first | (with_reducible first | exact HB.out | apply below_alloc | apply pw_below_drewN | apply below_drew1 | refine below_set ?_ GE287.out) | exact HB.out)))); have n1_ := Aside0.mk (blk_below (g := gb287) (o := .cells #[.string (⟨#[]⟩ : ByteArray), .bool false] 45 (0, 0)) (by (with_reducible repeat (first | refine blk_drewN ?_ _ | refine blk_drew ?_ | refine blk_alloc ?_ _)); exact BK287.out) hb); have n2_ := Aside0.mk (below_step (by repeat (first | (with_reducible first | exact HB.out | apply below_alloc | apply pw_below_drewN | apply below_drew1 | refine below_set ?_ GE287.out) | exact HB.out)) hb); clear BK287; clear HB; have HO290 := n0_; have BK287 := n1_; have HB := n2_; clear n0_ n1_ n2_; (try clear hb); (try clear hb2); (try clear hk); (try clear hi); (try clear ho0)) | ((with_reducible refine gate_dst (N := 3) rfl ?_); refine box_event ?hg (N := 3) ?hd (cs := #[.slice none 0 0, .bool false]) (t := 42) ?hr ?_; (case hd => rfl); (case hg => rfl); (case hr => first | (go_simp; done) | (go_simp; rfl)); intro gb292 hg w49 hbox hb; have n0_ := Aside0.mk (Kd.R_below (by (with_reducible repeat (first | apply Kd.R_alloc | apply Kd.R_drewN | apply Kd.R_drew)); exact HO290.out) hb); have n1_ := Aside0.mk (blk_below (g := gb287) (o := .cells #[.string (⟨#[]⟩ : ByteArray), .bool false] 45 (0, 0)) (by (with_reducible repeat (first | refine blk_drewN ?_ _ | refine blk_drew ?_ | refine blk_alloc ?_ _)); exact BK287.out) hb); have n2_ := Aside0.mk (below_step (by repeat (first | (with_reducible first | exact HB.out | apply below_alloc | apply pw_below_drewN | apply below_drew1 | refine below_set ?_ GE287.out) | exact HB.out)) hb); have n3_ := Aside0.mk (hbox); have n4_ := Aside0.mk ((by rw [hg]; exact (below_size (by repeat (first | (with_reducible first | exact HB.out | apply below_alloc | apply pw_below_drewN | apply below_drew1 | refine below_set ?_ GE287.out) | exact HB.out))) : w.heap.size ≤ gb292)); have n5_ := Aside0.mk ((by rw [hg]; exact (below_size (by repeat (first | (with_reducible first | exact HB.out | apply below_alloc | apply pw_below_drewN | apply below_drew1 | refine below_set ?_ GE287.out) | exact HB.out))) : w.heap.size ≤ gb292)); have n6_ := Aside0.mk ((by rw [hg]; exact Nat.ne_of_lt (blk_lt (g := gb287) (o := .cells #[.string (⟨#[]⟩ : ByteArray), .bool false] 45 (0, 0)) (by (with_reducible repeat (first | refine blk_drewN ?_ _ | refine blk_drew ?_ | refine blk_alloc ?_ _)); exact BK287.out)) : gb287 ≠ gb292)); have n7_ := Aside0.mk ((by rw [hg]; exact Nat.ne_of_gt (blk_lt (g := gb287) (o := .cells #[.string (⟨#[]⟩ : ByteArray), .bool false] 45 (0, 0)) (by (with_reducible repeat (first | refine blk_drewN ?_ _ | refine blk_drew ?_ | refine blk_alloc ?_ _)); exact BK287.out)) : gb292 ≠ gb287)); clear HO290; clear BK287; clear HB; have HO290 := n0_; have BK287 := n1_; have HB := n2_; have BK292 := n3_; have GW292 := n4_; have GE292 := n5_; have NB287_292 := n6_; have NB292_287 := n7_; clear n0_ n1_ n2_ n3_ n4_ n5_ n6_ n7_; clear hb hbox hg; obtain ⟨Ao50, co50, eo50⟩ := Kd.R_slice HO290.out; subst eo50; have hnb51 := NB292_287.out; have hnc51 := NB287_292.out; have hcz52_0 : w49.cell? ⟨gb292, 0, none⟩ = some (.slice none 0 0) := (blk_cell BK292.out 0).trans rfl; have hcz52_1 : w49.cell? ⟨gb292, 1, none⟩ = some (.bool false) := (blk_cell BK292.out 1).trans rfl; have hfz52_0 := blk_frozen BK292.out 0; have hfz52_1 := blk_frozen BK292.out 1; have hcz53_0 : w49.cell? ⟨gb287, 0, none⟩ = some (.string (⟨#[]⟩ : ByteArray)) := (blk_cell BK287.out 0).trans rfl; have hcz53_1 : w49.cell? ⟨gb287, 1, none⟩ = some (.bool false) := (blk_cell BK287.out 1).trans rfl; have hfz53_0 := blk_frozen BK287.out 0; have hfz53_1 := blk_frozen BK287.out 1))
  refine bodyPost_ret (results_cell_row rfl _ _ gb287 45 #[.string (⟨#[]⟩ : ByteArray), .bool false] (0, 0) _ rfl (by (with_reducible repeat (first | refine blk_drewN ?_ _ | refine blk_drew ?_ | refine blk_alloc ?_ _)); refine blk_put (cs := #[.string (⟨#[]⟩ : ByteArray), .bool false]) ?_ 1 _ rfl; (with_reducible repeat (first | refine blk_drewN ?_ _ | refine blk_drew ?_ | refine blk_alloc ?_ _)); refine blk_put (cs := #[.string (⟨#[]⟩ : ByteArray), .bool false]) ?_ 0 _ rfl; (with_reducible repeat (first | refine blk_drewN ?_ _ | refine blk_drew ?_ | refine blk_alloc ?_ _)); refine blk_far ?_ NB287_292.out _; (with_reducible repeat (first | refine blk_drewN ?_ _ | refine blk_drew ?_ | refine blk_alloc ?_ _)); refine blk_far ?_ NB287_292.out _; (with_reducible repeat (first | refine blk_drewN ?_ _ | refine blk_drew ?_ | refine blk_alloc ?_ _)); exact BK287.out) Tryd.underlying45 rfl (by kernel_rfl)) rfl ?_
  exact ⟨by first | rfl | (simp [errW_none, errW_some] <;> rfl) | (simp [*, errW_none, errW_some] <;> rfl), by repeat (first | (with_reducible first | exact HB.out | apply below_alloc | apply pw_below_drewN | apply below_drew1 | refine below_set ?_ GE287.out | refine below_set ?_ GE292.out) | exact HB.out)⟩
end Go.Proofs.YtflkghdndffacaaDoor.PD
namespace Go.Proofs.YtflkghdndffacaaDoor.Pure
open Go.RowKit Go.Proofs.YtflkghdndffacaaDoor.PD Go.Proofs.YtflkghdndffacaaDoor.H Go.Proofs.YtflkghdndffacaaDoorW.PrintWords Go.Proofs.YtflkghdndffacaaDoorW.PrintLast
def pvS (first : Bool) (acc : List UInt8) (sp : Bool) : List UInt8 → Option (List UInt8)
  | [] => if sp = true then none else some acc
  | c :: r => if c = 92 then match escAt r with
      | none => none
      | some (b, n) => pvS false (acc ++ [b]) false (r.drop n)
    else if badC first c = true then none else pvS false (acc ++ [c]) (c == 32) r
termination_by l => l.length
decreasing_by all_goals (simp; try omega)
def resO : Option (List UInt8) → ByteArray × Bool
  | none => (B [], false)
  | some v => (B v, true)
theorem hex_fin : ∀ n : Fin 256, brookref1_hex.f 4 (((UInt8.ofNat n.val).toNat : Nat) : Int) = some (digB (UInt8.ofNat n.val)) := by decide +kernel
theorem hex_ev (c : UInt8) : Ev (fun k => brookref1_hex.f k (c.toNat : Int)) (digB c) :=
  Ev.of (fun k => brookref1_hex.mono _ k) (u8_all (P := fun c => brookref1_hex.f 4 (c.toNat : Int) = some (digB c)) hex_fin c)
theorem pair_fin : ∀ h l : Fin 16, (wrap64 (wrap64 ((h.val : Int) * 16) + (l.val : Int))) % 256 = ((h.val * 16 + l.val).toUInt8.toNat : Int) := by decide +kernel
theorem pair_val {h l : Int} (h0 : 0 ≤ h) (h1 : h ≤ 15) (l0 : 0 ≤ l) (l1 : l ≤ 15) : (wrap64 (wrap64 (h * 16) + l)) % 256 = (((h.toNat * 16 + l.toNat).toUInt8).toNat : Int) := by
  have := pair_fin ⟨h.toNat, by omega⟩ ⟨l.toNat, by omega⟩
  simpa only [Int.toNat_of_nonneg h0, Int.toNat_of_nonneg l0] using this
theorem one_fin : ∀ n : Fin 256, decide ((UInt8.ofNat n.val) ∈ ([44, 43, 34, 92, 60, 62, 59, 61, 35, 32] : List UInt8)) = oneB (UInt8.ofNat n.val) := by decide +kernel
theorem one_ev (c : UInt8) : Ev (fun k => brookref1_in.f k (⟨#[44, 43, 34, 92, 60, 62, 59, 61, 35, 32]⟩ : ByteArray) (c.toNat : Int)) (oneB c) := by
  have h := in_l0 [44, 43, 34, 92, 60, 62, 59, 61, 35, 32] (by simp) c [44, 43, 34, 92, 60, 62, 59, 61, 35, 32] [] rfl
  rw [u8_all (P := fun c => decide (c ∈ ([44, 43, 34, 92, 60, 62, 59, 61, 35, 32] : List UInt8)) = oneB c) one_fin c] at h
  exact h
theorem raw_fin : ∀ n : Fin 256, UInt8.ofNat n.val ≠ 92 → decide ((UInt8.ofNat n.val) ∈ ([44, 43, 34, 60, 62, 59] : List UInt8)) = specialB (UInt8.ofNat n.val) := by decide +kernel
theorem raw_ev (c : UInt8) (hc : c ≠ 92) : Ev (fun k => brookref1_in.f k (⟨#[44, 43, 34, 60, 62, 59]⟩ : ByteArray) (c.toNat : Int)) (specialB c) := by
  have h := in_l0 [44, 43, 34, 60, 62, 59] (by simp) c [44, 43, 34, 60, 62, 59] [] rfl
  rw [u8_all (P := fun c => c ≠ 92 → decide (c ∈ ([44, 43, 34, 60, 62, 59] : List UInt8)) = specialB c) raw_fin c hc] at h
  exact h
theorem digit_one_fin : ∀ n : Fin 256, 0 ≤ digB (UInt8.ofNat n.val) → oneB (UInt8.ofNat n.val) = false ∧ UInt8.ofNat n.val ≠ 92 ∧ UInt8.ofNat n.val ≠ 44 := by decide +kernel
theorem digit_one {c : UInt8} (h : 0 ≤ digB c) : oneB c = false ∧ c ≠ 92 ∧ c ≠ 44 := u8_all (P := fun c => 0 ≤ digB c → oneB c = false ∧ c ≠ 92 ∧ c ≠ 44) digit_one_fin c h
theorem lt_big {n : Nat} (h : n < 200000000) : n < 9223372036854775807 := by omega
theorem wrap_two {n : Nat} (h : n < 200000000) : wrap64 ((n : Int) + 2) = ((n + 2 : Nat) : Int) := by rw [wrap64_small (by omega)]; omega
theorem rvalue_l0 (l : List UInt8) (hl : l.length ≤ 100000000) : ∀ n (q p acc : List UInt8) (sp : Bool), q.length ≤ n → l = p ++ q → acc.length ≤ p.length → (sp = true → q ≠ []) →
    Ev (fun k => brookref1_value.l0 k (B l) (bi acc) (p.length : Int)) (resO (pvS p.isEmpty acc sp q)) := by
  intro n
  induction n with
  | zero =>
    intro q p acc sp hq hp ha hsp
    obtain rfl : q = [] := List.length_eq_zero_iff.1 (by omega)
    obtain rfl : l = p := by simpa using hp
    have : sp = false := by cases sp with
      | false => rfl
      | true => exact absurd rfl (hsp rfl)
    subst this
    refine Ev.step (fun k => by rw [brookref1_value.l0]) ?_
    refine Ev.neg (by rw [B_size]; omega) ?_
    rw [pvS, str_bi]
    exact Ev.now _
  | succ n ih =>
    intro q p acc sp hq hp ha hsp
    cases q with
    | nil =>
      obtain rfl : l = p := by simpa using hp
      have : sp = false := by cases sp with
        | false => rfl
        | true => exact absurd rfl (hsp rfl)
      subst this
      refine Ev.step (fun k => by rw [brookref1_value.l0]) ?_
      refine Ev.neg (by rw [B_size]; omega) ?_
      rw [pvS, str_bi]
      exact Ev.now _
    | cons c q =>
      have hlen : p.length + 1 + q.length = l.length := by rw [hp]; simp; omega
      have hb : bt (B l) (p.length : Int) = (c.toNat : Int) := by rw [hp]; exact bt_pre p c q
      have h92 : ((c.toNat : Int) = 92) ↔ c = 92 := u8_int_inj (n := 92) (by omega)
      have h35 : ((c.toNat : Int) = 35) ↔ c = 35 := u8_int_inj (n := 35) (by omega)
      have h32 : ((c.toNat : Int) = 32) ↔ c = 32 := u8_int_inj (n := 32) (by omega)
      have hbl : (bi acc).length ≤ p.length := by rw [bi_length]; exact ha
      have hsm : p.length < 200000000 := by omega
      refine Ev.step (fun k => by rw [brookref1_value.l0]) ?_
      refine Ev.pos (by rw [B_size]; omega) ?_
      refine Ev.pos (by first | exact Int.natCast_nonneg _ | omega) ?_
      simp only [wrap_succ (lt_big hsm), wrap_two hsm, hb]
      rw [pvS]
      by_cases c92 : c = 92
      · rw [if_pos c92]
        refine Ev.pos (h92.2 c92) ?_
        have jt : Ev (fun k => brookref1_value.j2 k (B l) (bi acc) (p.length : Int) true) (resO none) := by
          refine Ev.step (fun k => by rw [brookref1_value.j2]) ?_
          exact Ev.pos rfl (Ev.now _)
        cases q with
        | nil =>
          have e : escAt [] = none := rfl
          rw [e]
          simp only [List.length_nil] at hlen
          refine Ev.neg (by rw [B_size]; omega) ?_
          refine Ev.step (fun k => by rw [brookref1_value.j1]) ?_
          refine Ev.neg (by simp) ?_
          rw [wrap_succ (lt_big hsm)]
          refine Ev.pos (by rw [B_size]; omega) ?_
          exact jt
        | cons d q =>
          have hd : bt (B l) ((p.length + 1 : Nat) : Int) = (d.toNat : Int) := bt_at' (by rw [hp]; simp)
          simp only [List.length_cons] at hlen hq
          have jf : oneB d = true ∨ escAt (d :: q) = none → Ev (fun k => brookref1_value.j1 k (B l) (bi acc) (p.length : Int) false) (resO (match escAt (d :: q) with
              | none => none
              | some (b, n) => pvS false (acc ++ [b]) false ((d :: q).drop n))) := by
            intro ho
            refine Ev.step (fun k => by rw [brookref1_value.j1]) ?_
            refine Ev.neg (by simp) ?_
            rw [wrap_succ (lt_big hsm)]
            refine Ev.neg (by rw [B_size]; omega) ?_
            refine Ev.pos (by first | exact Int.natCast_nonneg _ | omega) ?_
            refine Ev.pos (by rw [B_size]; omega) ?_
            rw [hd]
            refine Ev.bind (one_ev d) ?_
            by_cases h1 : oneB d = true
            · rw [escAt_one h1, h1]
              refine Ev.step (fun k => by rw [brookref1_value.j2]) ?_
              refine Ev.neg (by simp) ?_
              rw [wrap_succ (lt_big hsm)]
              refine Ev.pos (by first | exact Int.natCast_nonneg _ | omega) ?_
              refine Ev.pos (by rw [B_size]; omega) ?_
              refine Ev.pos (by first | exact Int.natCast_nonneg _ | omega) ?_
              rw [hd, bi_snoc, wrap_succ (by omega)]
              have := ih q (p ++ [c, d]) (acc ++ [d]) false (by omega) (by rw [hp]; simp) (by simp; omega) (by simp)
              rw [show (p ++ [c, d]).isEmpty = false by simp, show (p ++ [c, d]).length = p.length + 1 + 1 by simp] at this
              exact this
            · have he : escAt (d :: q) = none := ho.resolve_left h1
              rw [he, show (!oneB d) = true by simp [h1]]
              exact jt
          cases q with
          | nil =>
            simp only [List.length_nil] at hlen
            refine Ev.neg (by rw [B_size]; omega) ?_
            refine jf ?_
            by_cases h1 : oneB d = true
            · exact .inl h1
            · exact .inr (escAt_lone h1)
          | cons e q =>
            have he : bt (B l) ((p.length + 2 : Nat) : Int) = (e.toNat : Int) := bt_at' (by rw [hp]; simp)
            simp only [List.length_cons] at hlen hq
            refine Ev.pos (by rw [B_size]; omega) ?_
            refine Ev.pos (by first | exact Int.natCast_nonneg _ | omega) ?_
            refine Ev.pos (by rw [B_size]; omega) ?_
            rw [hd]
            refine Ev.bind (hex_ev d) ?_
            by_cases h1 : 0 ≤ digB d
            · refine Ev.pos h1 ?_
              refine Ev.pos (by first | exact Int.natCast_nonneg _ | omega) ?_
              rw [he]
              refine Ev.bind (hex_ev e) ?_
              have hno : ¬ oneB d = true := by simp [(digit_one h1).1]
              by_cases h2 : 0 ≤ digB e
              · rw [escAt_two hno ⟨h1, h2⟩]
                refine Ev.step (fun k => by rw [brookref1_value.j1]) ?_
                refine Ev.pos (by simpa using h2) ?_
                simp only [wrap_succ (lt_big hsm), wrap_two hsm]
                refine Ev.pos (by first | exact Int.natCast_nonneg _ | omega) ?_
                refine Ev.pos (by rw [B_size]; omega) ?_
                rw [hd, he]
                refine Ev.bind (hex_ev d) ?_
                refine Ev.pos (by first | exact Int.natCast_nonneg _ | omega) ?_
                refine Ev.pos (by rw [B_size]; omega) ?_
                refine Ev.bind (hex_ev e) ?_
                refine Ev.pos (by first | exact Int.natCast_nonneg _ | omega) ?_
                rw [pair_val h1 (digB_rng d).2 h2 (digB_rng e).2, bi_snoc, wrap_succ (by omega)]
                have := ih q (p ++ [c, d, e]) (acc ++ [((digB d).toNat * 16 + (digB e).toNat).toUInt8]) false (by omega) (by rw [hp]; simp) (by simp; omega) (by simp)
                rw [show (p ++ [c, d, e]).isEmpty = false by simp, show (p ++ [c, d, e]).length = p.length + 2 + 1 by simp] at this
                exact this
              · have hn := escAt_not (r := q) hno (fun h => h2 h.2)
                rw [show decide (digB e ≥ 0) = false by simpa using h2]
                exact jf (.inr hn)
            · refine Ev.neg h1 ?_
              refine jf ?_
              by_cases h3 : oneB d = true
              · exact .inl h3
              · exact .inr (escAt_not h3 (fun h => h1 h.1))
      · rw [if_neg c92]
        refine Ev.neg (fun e => c92 (h92.1 e)) ?_
        have hgo : badC p.isEmpty c = false → (c = 32 → q ≠ []) → Ev (fun k => brookref1_value.l0 k (B l) (bi acc ++ [(c.toNat : Int)]) ((p.length + 1 : Nat) : Int)) (resO (if badC p.isEmpty c = true then none else pvS false (acc ++ [c]) (c == 32) q)) := fun hbad hq0 => by
          rw [if_neg (by simp [hbad]), bi_snoc]
          have := ih q (p ++ [c]) (acc ++ [c]) (c == 32) (by simp at hq; omega) (by rw [hp]; simp) (by simp; omega) (by simpa using hq0)
          rw [show (p ++ [c]).isEmpty = false by simp, show (p ++ [c]).length = p.length + 1 by simp] at this
          exact this
        have hno : badC p.isEmpty c = true ∨ (c = 32 ∧ q = []) → Ev (fun _ => some ((⟨#[]⟩ : ByteArray), false)) (resO (if badC p.isEmpty c = true then none else pvS false (acc ++ [c]) (c == 32) q)) := fun hbad => by
          by_cases hb1 : badC p.isEmpty c = true
          · rw [if_pos hb1]; exact Ev.now _
          · obtain ⟨rfl, rfl⟩ := hbad.resolve_left hb1
            rw [if_neg hb1, pvS]; exact Ev.now _
        have hlast : wrap64 (((B l).size : Int) - 1) = ((l.length - 1 : Nat) : Int) := by rw [B_size, wrap64_small (by omega)]; omega
        rw [hlast]
        by_cases b1 : c.toNat < 32
        · exact Ev.pos (by first | exact Int.natCast_nonneg _ | omega) (hno (.inl (by unfold badC; simp [b1])))
        · refine Ev.neg (by omega) ?_
          by_cases b2 : 126 < c.toNat
          · exact Ev.pos (by first | exact Int.natCast_nonneg _ | omega) (hno (.inl (by unfold badC; simp [b2])))
          · refine Ev.neg (by omega) ?_
            refine Ev.bind (raw_ev c c92) ?_
            by_cases b3 : specialB c = true
            · exact Ev.pos b3 (hno (.inl (by unfold badC; simp [b3])))
            · refine Ev.neg b3 ?_
              by_cases b4 : p = []
              · subst b4
                refine Ev.pos (by simp) ?_
                by_cases b5 : c = 35
                · exact Ev.pos (h35.2 b5) (hno (.inl (by unfold badC; simp [b5])))
                · refine Ev.neg (fun e => b5 (h35.1 e)) ?_
                  by_cases b6 : c = 32
                  · exact Ev.pos (h32.2 b6) (hno (.inl (by unfold badC; simp [b6])))
                  · refine Ev.neg (fun e => b6 (h32.1 e)) ?_
                    have hg := hgo (by unfold badC; simp [b1, b2, b3, b5, b6]) (fun e => absurd e b6)
                    by_cases b7 : q = []
                    · subst b7
                      simp only [List.length_nil] at hlen
                      refine Ev.pos (by simp only [List.length_nil] at hlen ⊢; omega) ?_
                      exact Ev.pos (by simp only [List.length_nil] at hbl ⊢; omega) hg
                    · have : 0 < q.length := List.length_pos_iff.2 b7
                      refine Ev.neg (by simp only [List.length_nil] at hlen ⊢; omega) ?_
                      exact Ev.pos (by simp only [List.length_nil] at hbl ⊢; omega) hg
              · have : 0 < p.length := List.length_pos_iff.2 b4
                refine Ev.neg (by omega) ?_
                by_cases b7 : q = []
                · subst b7
                  simp only [List.length_nil] at hlen
                  refine Ev.pos (by first | exact Int.natCast_nonneg _ | omega) ?_
                  by_cases b6 : c = 32
                  · exact Ev.pos (h32.2 b6) (hno (.inr ⟨b6, rfl⟩))
                  · refine Ev.neg (fun e => b6 (h32.1 e)) ?_
                    exact Ev.pos (by first | exact Int.natCast_nonneg _ | omega) (hgo (by unfold badC; simp [b1, b2, b3, b4]) (fun e => absurd e b6))
                · have : 0 < q.length := List.length_pos_iff.2 b7
                  refine Ev.neg (by omega) ?_
                  exact Ev.pos (by first | exact Int.natCast_nonneg _ | omega) (hgo (by unfold badC; simp [b1, b2, b3, b4]) (fun _ => b7))
theorem rvalue_ev (l : List UInt8) (hl : l.length ≤ 100000000) : Ev (fun k => brookref1_value.f k (B l)) (resO (pvS true [] false l)) :=
  rvalue_l0 l hl l.length l [] [] false (Nat.le_refl _) rfl (by simp) (by simp)
def firstCut : List UInt8 → List UInt8 × List UInt8
  | [] => ([], [])
  | c :: r => if c = 92 then (c :: (r.take 1 ++ (firstCut (r.drop 1)).1), (firstCut (r.drop 1)).2)
    else if c = 44 then ([], c :: r) else (c :: (firstCut r).1, (firstCut r).2)
termination_by l => l.length
decreasing_by all_goals (simp; try omega)
theorem firstCut_nil : firstCut [] = ([], []) := by rw [firstCut]
theorem firstCut_92 (r : List UInt8) : firstCut (92 :: r) = (92 :: (r.take 1 ++ (firstCut (r.drop 1)).1), (firstCut (r.drop 1)).2) := by rw [firstCut, if_pos rfl]
theorem firstCut_44 (r : List UInt8) : firstCut (44 :: r) = ([], 44 :: r) := by rw [firstCut, if_neg (by decide), if_pos rfl]
theorem firstCut_raw {c : UInt8} (r : List UInt8) (h : c ≠ 92) (h1 : c ≠ 44) : firstCut (c :: r) = (c :: (firstCut r).1, (firstCut r).2) := by rw [firstCut, if_neg h, if_neg h1]
theorem firstCut_eq : ∀ n (q : List UInt8), q.length ≤ n → q = (firstCut q).1 ++ (firstCut q).2 ∧ ((firstCut q).2 = [] ∨ (firstCut q).2.head? = some 44) := by
  intro n
  induction n with
  | zero =>
    intro q h
    obtain rfl : q = [] := List.length_eq_zero_iff.1 (by omega)
    rw [firstCut_nil]; exact ⟨rfl, .inl rfl⟩
  | succ n ih =>
    intro q h
    cases q with
    | nil => rw [firstCut_nil]; exact ⟨rfl, .inl rfl⟩
    | cons c r =>
      simp only [List.length_cons] at h
      by_cases h92 : c = 92
      · subst h92
        obtain ⟨h1, h2⟩ := ih (r.drop 1) (by simp; omega)
        rw [firstCut_92]
        refine ⟨?_, h2⟩
        simp only [List.cons_append, List.append_assoc]
        rw [← h1, List.take_append_drop]
      · by_cases h44 : c = 44
        · subst h44
          rw [firstCut_44]
          exact ⟨rfl, .inr rfl⟩
        · obtain ⟨h1, h2⟩ := ih r (by omega)
          rw [firstCut_raw r h92 h44]
          refine ⟨?_, h2⟩
          simp only [List.cons_append]
          rw [← h1]
theorem piece_val : ∀ n (q : List UInt8), q.length ≤ n → ∀ (first : Bool) (acc : List UInt8) (sp : Bool),
    (∀ v, pvS first acc sp (firstCut q).1 = some v → valS first acc sp q = (v, (firstCut q).2, true)) ∧ (pvS first acc sp (firstCut q).1 = none → (valS first acc sp q).2.2 = false) := by
  intro n
  induction n with
  | zero =>
    intro q h first acc sp
    obtain rfl : q = [] := List.length_eq_zero_iff.1 (by omega)
    rw [firstCut_nil, pvS, valS]
    cases sp <;> simp
  | succ n ih =>
    intro q h first acc sp
    cases q with
    | nil =>
      rw [firstCut_nil, pvS, valS]
      cases sp <;> simp
    | cons c r =>
      simp only [List.length_cons] at h
      by_cases h92 : c = 92
      · subst h92
        rw [firstCut_92, pvS, valS, if_pos rfl, if_neg (by decide), if_pos rfl]
        cases r with
        | nil =>
          have e1 : escAt [] = none := rfl
          simp [firstCut_nil, e1]
        | cons d r =>
          simp only [List.take_succ_cons, List.take_zero, List.drop_succ_cons, List.drop_zero, List.cons_append, List.nil_append, List.length_cons] at h ⊢
          by_cases h1 : oneB d = true
          · rw [escAt_one h1, escAt_one h1]
            exact ih r (by omega) false (acc ++ [d]) false
          · cases r with
            | nil => rw [firstCut_nil, escAt_lone h1]; simp
            | cons e r =>
              by_cases h2 : 0 ≤ digB d ∧ 0 ≤ digB e
              · obtain ⟨_, e92, e44⟩ := digit_one h2.2
                rw [firstCut_raw r e92 e44, escAt_two h1 h2, escAt_two h1 h2]
                simp only [List.length_cons] at h
                exact ih r (by omega) false _ false
              · rw [escAt_not h1 h2]
                have : escAt (d :: (firstCut (e :: r)).1) = none := by
                  by_cases e92 : e = 92
                  · subst e92
                    rw [firstCut_92]
                    exact escAt_not h1 (fun hh => (digit_one hh.2).2.1 rfl)
                  · by_cases e44 : e = 44
                    · subst e44
                      rw [firstCut_44]
                      exact escAt_lone h1
                    · rw [firstCut_raw r e92 e44]
                      exact escAt_not h1 h2
                rw [this]; simp
      · by_cases h44 : c = 44
        · subst h44
          rw [firstCut_44, pvS, valS, if_pos rfl]
          cases sp <;> simp
        · rw [firstCut_raw r h92 h44, pvS, valS, if_neg h44, if_neg h92, if_neg h92]
          by_cases hb : badC first c = true
          · rw [if_pos hb, if_pos hb]; simp
          · rw [if_neg hb, if_neg hb]
            exact ih r (by omega) false _ _
def cutC (cur : List UInt8) : List UInt8 → List (List UInt8)
  | [] => [cur]
  | c :: r => if c = 92 then cutC (cur ++ (c :: r.take 1)) (r.drop 1) else if c = 44 then cur :: cutC [] r else cutC (cur ++ [c]) r
termination_by l => l.length
decreasing_by all_goals (simp; try omega)
theorem cutC_first : ∀ n (q cur : List UInt8), q.length ≤ n → cutC cur q = (cur ++ (firstCut q).1) :: (if (firstCut q).2 = [] then [] else cutC [] ((firstCut q).2.drop 1)) := by
  intro n
  induction n with
  | zero =>
    intro q cur h
    obtain rfl : q = [] := List.length_eq_zero_iff.1 (by omega)
    rw [cutC, firstCut_nil]; simp
  | succ n ih =>
    intro q cur h
    cases q with
    | nil => rw [cutC, firstCut_nil]; simp
    | cons c r =>
      simp only [List.length_cons] at h
      rw [cutC]
      by_cases h92 : c = 92
      · subst h92
        rw [if_pos rfl, firstCut_92, ih (r.drop 1) _ (by simp; omega)]
        simp
      · by_cases h44 : c = 44
        · subst h44
          rw [if_neg h92, if_pos rfl, firstCut_44]; simp
        · rw [if_neg h92, if_neg h44, firstCut_raw r h92 h44, ih r _ (by omega)]
          simp
theorem cut_l0 (l : List UInt8) (hl : l.length ≤ 1000000) : ∀ n (i a : Nat) (acc : List ByteArray), l.length + 1 - i ≤ n → i ≤ l.length + 1 → a ≤ i → a ≤ l.length → acc.length ≤ a →
    Ev (fun k => brookref1_cut.l0 k (B l) acc (a : Int) (i : Int)) (acc ++ (cutC ((l.take i).drop a) (l.drop i)).map B) := by
  intro n
  induction n with
  | zero =>
    intro i a acc hn hi ha hal hacc
    refine Ev.step (fun k => by rw [brookref1_cut.l0]) ?_
    refine Ev.neg (by rw [B_size]; omega) ?_
    refine Ev.pos (by omega) ?_
    refine Ev.pos (by rw [B_size]; omega) ?_
    refine Ev.pos (by omega) ?_
    rw [List.drop_eq_nil_of_le (by omega : l.length ≤ i), cutC, List.take_of_length_le (by omega : l.length ≤ i), B_extract, B_size, List.take_of_length_le (by simp)]
    exact Ev.now _
  | succ n ih =>
    intro i a acc hn hi ha hal hacc
    refine Ev.step (fun k => by rw [brookref1_cut.l0]) ?_
    by_cases h : i < l.length
    · obtain ⟨c, hc⟩ : ∃ c, l[i]? = some c := ⟨l[i], List.getElem?_eq_getElem h⟩
      have hd : l.drop i = c :: l.drop (i + 1) := by rw [List.drop_eq_getElem_cons h]; congr 1; exact Option.some.inj ((List.getElem?_eq_getElem h).symm.trans hc)
      have h44 : ((c.toNat : Int) = 44) ↔ c = 44 := u8_int_inj (n := 44) (by omega)
      have h92 : ((c.toNat : Int) = 92) ↔ c = 92 := u8_int_inj (n := 92) (by omega)
      have htk : (l.take (i + 1)).drop a = (l.take i).drop a ++ [c] := by
        rw [List.take_add_one, hc, List.drop_append_of_le_length (by simp; omega)]; rfl
      refine Ev.pos (by rw [B_size]; omega) ?_
      refine Ev.pos (by omega) ?_
      rw [bt_at' hc, wrap_succ (by omega), wrap_succ (by omega), hd, cutC]
      by_cases c92 : c = 92
      · rw [if_pos c92]
        refine Ev.pos (h92.2 c92) ?_
        have := ih (i + 1 + 1) a acc (by omega) (by omega) (by omega) hal hacc
        have e : (l.take (i + 1 + 1)).drop a = (l.take i).drop a ++ (c :: (l.drop (i + 1)).take 1) := by
          rw [List.take_add_one, List.drop_append_of_le_length (by simp; omega), htk, List.append_assoc]
          congr 1
          cases hx : l[i + 1]? with
          | none =>
            rw [List.drop_eq_nil_of_le (by have := List.getElem?_eq_none_iff.1 hx; omega)]; rfl
          | some d =>
            have hlt := (List.getElem?_eq_some_iff.1 hx).1
            rw [List.drop_eq_getElem_cons hlt]
            have hd2 : l[i + 1] = d := (List.getElem?_eq_some_iff.1 hx).2
            rw [hd2]
            simp
        rw [e] at this
        rw [List.drop_drop]
        exact this
      · rw [if_neg c92]
        refine Ev.neg (fun e => c92 (h92.1 e)) ?_
        by_cases c44 : c = 44
        · rw [if_pos c44]
          refine Ev.pos (h44.2 c44) ?_
          refine Ev.pos (by omega) ?_
          refine Ev.pos (by omega) ?_
          refine Ev.pos (by rw [B_size]; omega) ?_
          refine Ev.pos (by omega) ?_
          have e : (B l).extract (a : Int).toNat (i : Int).toNat = B ((l.take i).drop a) := by
            rw [B_extract, List.drop_take]; rfl
          rw [e]
          have := ih (i + 1) (i + 1) (acc ++ [B ((l.take i).drop a)]) (by omega) (by omega) (by omega) (by omega) (by simp; omega)
          rw [List.drop_eq_nil_of_le (by rw [List.length_take]; omega : (l.take (i + 1)).length ≤ i + 1)] at this
          simpa using this
        · rw [if_neg c44]
          refine Ev.neg (fun e => c44 (h44.1 e)) ?_
          have := ih (i + 1) a acc (by omega) (by omega) (by omega) hal hacc
          rw [htk] at this
          exact this
    · refine Ev.neg (by rw [B_size]; omega) ?_
      refine Ev.pos (by omega) ?_
      refine Ev.pos (by rw [B_size]; omega) ?_
      refine Ev.pos (by omega) ?_
      rw [List.drop_eq_nil_of_le (by omega : l.length ≤ i), cutC, List.take_of_length_le (by omega : l.length ≤ i), B_extract, B_size, List.take_of_length_le (by simp)]
      exact Ev.now _
theorem rcut_ev (l : List UInt8) (hl : l.length ≤ 1000000) : Ev (fun k => brookref1_cut.f k (B l)) ((cutC [] l).map B) := by
  exact cut_l0 l hl (l.length + 1) 0 0 [] (by omega) (by omega) (by omega) (by omega) (by simp)
theorem cutC_small : ∀ n (q cur : List UInt8), q.length ≤ n → (cutC cur q).length ≤ q.length + 1 ∧ ∀ p ∈ cutC cur q, p.length ≤ cur.length + q.length := by
  intro n
  induction n with
  | zero =>
    intro q cur h
    obtain rfl : q = [] := List.length_eq_zero_iff.1 (by omega)
    rw [cutC]; simp
  | succ n ih =>
    intro q cur h
    cases q with
    | nil => rw [cutC]; simp
    | cons c r =>
      simp only [List.length_cons] at h ⊢
      rw [cutC]
      split
      · obtain ⟨h1, h2⟩ := ih (r.drop 1) (cur ++ (c :: r.take 1)) (by simp; omega)
        simp only [List.length_drop, List.length_append, List.length_cons, List.length_take] at h1 h2
        exact ⟨by omega, fun p hp => by have := h2 p hp; omega⟩
      · split
        · obtain ⟨h1, h2⟩ := ih r [] (by omega)
          refine ⟨by simp; omega, fun p hp => ?_⟩
          rcases List.mem_cons.1 hp with rfl | hp
          · omega
          · have := h2 p hp; simp at this; omega
        · obtain ⟨h1, h2⟩ := ih r (cur ++ [c]) (by omega)
          exact ⟨by omega, fun p hp => by have := h2 p hp; simp at this; omega⟩
def partOf (p : List UInt8) : Option S25 := match cutS p with
  | none => none
  | some (a, b) => (pvS true [] false b).map fun v => ⟨B a, B v⟩
def partsOf : List (List UInt8) → Option (List S25)
  | [] => some []
  | p :: ps => match partOf p with
    | none => none
    | some r => (partsOf ps).map fun rs => r :: rs
def endS (acc : List S25) : Option (List S25) → List S25 × Bool
  | none => ([], false)
  | some l => if mayB (acc ++ l) = true then (acc ++ l, true) else ([], false)
theorem j2_at (ps : List (List UInt8)) (acc : List S25) (i n : Nat) (p : List UInt8) (hp : (rdOf ByteArray.empty (ps.map B) (i : Int)) = B p) (hi : i < ps.length) (hps : ps.length ≤ 1000001) (hpl : p.length ≤ 1000001) (hacc : acc.length ≤ 1000001) (x : List S25 × Bool)
    (hc : cutS p = none → n = p.length ∧ x = ([], false)) (hs : ∀ a b, cutS p = some (a, b) → n = a.length ∧
      ((pvS true [] false b = none → x = ([], false)) ∧ ∀ v, pvS true [] false b = some v → Ev (fun k => brookref1_ParseDn.l0 k (acc ++ [⟨B a, B v⟩]) (ps.map B) ((i + 1 : Nat) : Int)) x)) :
    Ev (fun k => brookref1_ParseDn.j2 k acc (ps.map B) (i : Int) (n : Int)) x := by
  refine Ev.step (fun k => by rw [brookref1_ParseDn.j2]) ?_
  rw [hp]
  refine Ev.pos (by omega) ?_
  refine Ev.pos (by rw [List.length_map]; omega) ?_
  rcases cutS_index p with ⟨h1, _⟩ | ⟨a, b, h1, _, h3⟩
  · obtain ⟨rfl, rfl⟩ := hc h1
    exact Ev.pos (by rw [B_size]) (Ev.now _)
  · obtain ⟨rfl, h4, h5⟩ := hs a b h1
    have hlen : a.length + 1 + b.length = p.length := by rw [h3]; simp; omega
    refine Ev.neg (by rw [B_size]; omega) ?_
    rw [wrap_succ (by omega), wrap_succ (by omega)]
    refine Ev.pos (by omega) ?_
    refine Ev.pos (by rw [B_size]; omega) ?_
    have e1 : (B p).extract (((a.length + 1 : Nat) : Int)).toNat (B p).size = B b := by
      rw [B_extract, B_size, List.take_of_length_le (by simp), h3]
      simp
    have e2 : (B p).extract 0 (a.length : Int).toNat = B a := by rw [B_extract, h3]; simp
    rw [e1, e2]
    refine Ev.bind (rvalue_ev b (by omega)) ?_
    cases hv : pvS true [] false b with
    | none =>
      rw [h4 hv]
      exact Ev.neg (by simp [resO]) (Ev.now _)
    | some v =>
      refine Ev.pos rfl ?_
      refine Ev.pos (by omega) ?_
      refine Ev.pos (by rw [B_size]; omega) ?_
      refine Ev.pos (by omega) ?_
      exact h5 v hv
theorem l1_at (ps : List (List UInt8)) (acc : List S25) (i : Nat) (p : List UInt8) (hp : (rdOf ByteArray.empty (ps.map B) (i : Int)) = B p) (hi : i < ps.length) (hpl : p.length ≤ 1000001) (x : List S25 × Bool)
    (h : ∀ n : Nat, (cutS p = none → n = p.length) → (∀ a b, cutS p = some (a, b) → n = a.length) → Ev (fun k => brookref1_ParseDn.j2 k acc (ps.map B) (i : Int) (n : Int)) x) :
    ∀ q u : List UInt8, p = u ++ q → 61 ∉ u → Ev (fun k => brookref1_ParseDn.l1 k acc (ps.map B) (i : Int) (u.length : Int)) x := by
  intro q
  induction q with
  | nil =>
    intro u hu h61
    obtain rfl : p = u := by simpa using hu
    refine Ev.step (fun k => by rw [brookref1_ParseDn.l1]) ?_
    rw [hp]
    refine Ev.pos (by omega) ?_
    refine Ev.pos (by rw [List.length_map]; omega) ?_
    refine Ev.neg (by rw [B_size]; omega) ?_
    refine h p.length (fun _ => rfl) (fun a b hab => ?_)
    rcases cutS_index p with ⟨h1, _⟩ | ⟨a', b', h1, _, h3⟩
    · rw [h1] at hab; cases hab
    · exact absurd (by rw [h3]; simp) h61
  | cons c q ih =>
    intro u hu h61
    have hlen : u.length + 1 + q.length = p.length := by rw [hu]; simp; omega
    have hb : bt (B p) (u.length : Int) = (c.toNat : Int) := by rw [hu]; exact bt_pre u c q
    have h61' : ((c.toNat : Int) = 61) ↔ c = 61 := u8_int_inj (n := 61) (by omega)
    refine Ev.step (fun k => by rw [brookref1_ParseDn.l1]) ?_
    rw [hp]
    refine Ev.pos (by omega) ?_
    refine Ev.pos (by rw [List.length_map]; omega) ?_
    refine Ev.pos (by rw [B_size]; omega) ?_
    refine Ev.pos (by omega) ?_
    rw [hb, wrap_succ (by omega)]
    by_cases hc : c = 61
    · refine Ev.pos (h61'.2 hc) ?_
      subst hc
      have hcut := cutS_at u q h61
      rw [← hu] at hcut
      refine h u.length (fun hn => ?_) (fun a b hab => ?_)
      · rw [hcut] at hn; cases hn
      · rw [hcut] at hab; cases hab; rfl
    · refine Ev.neg (fun e => hc (h61'.1 e)) ?_
      have := ih (u ++ [c]) (by rw [hu]; simp) (by simp [h61]; exact fun e => hc e.symm)
      rw [show (u ++ [c]).length = u.length + 1 by simp] at this
      exact this
theorem pdn_l0 (ps : List (List UInt8)) (hps : ps.length ≤ 1000001) (hpl : ∀ p ∈ ps, p.length ≤ 1000001) : ∀ qs us : List (List UInt8), ps = us ++ qs → ∀ acc : List S25, acc.length = us.length →
    Ev (fun k => brookref1_ParseDn.l0 k acc (ps.map B) (us.length : Int)) (endS acc (partsOf qs)) := by
  intro qs
  induction qs with
  | nil =>
    intro us hu acc ha
    obtain rfl : ps = us := by simpa using hu
    refine Ev.step (fun k => by rw [brookref1_ParseDn.l0]) ?_
    refine Ev.neg (by rw [List.length_map]; omega) ?_
    refine Ev.bind (mayDn_ev acc (by omega)) ?_
    simp only [partsOf, endS, List.append_nil]
    by_cases hm : mayB acc = true
    · simp only [if_pos hm]; exact Ev.now _
    · simp only [if_neg hm]; exact Ev.now _
  | cons p qs ih =>
    intro us hu acc ha
    have hlen : us.length + 1 + qs.length = ps.length := by rw [hu]; simp; omega
    have hp : rdOf ByteArray.empty (ps.map B) (us.length : Int) = B p := by rw [hu]; simp [rdOf]
    have hpp := hpl p (by rw [hu]; simp)
    refine Ev.step (fun k => by rw [brookref1_ParseDn.l0]) ?_
    refine Ev.pos (by rw [List.length_map]; omega) ?_
    refine l1_at ps acc us.length p hp (by omega) hpp _ ?_ p [] rfl (by simp)
    intro n hn1 hn2
    refine j2_at ps acc us.length n p hp (by omega) hps hpp (by omega) _ ?_ ?_
    · intro hc
      refine ⟨hn1 hc, ?_⟩
      simp only [partsOf, partOf, hc, endS]
    · intro a b hc
      refine ⟨hn2 a b hc, fun hv => ?_, fun v hv => ?_⟩
      · simp only [partsOf, partOf, hc, hv, Option.map_none, endS]
      · have := ih (us ++ [p]) (by rw [hu]; simp) (acc ++ [⟨B a, B v⟩]) (by simp [ha])
        rw [show (us ++ [p]).length = us.length + 1 by simp] at this
        have e : endS acc (partsOf (p :: qs)) = endS (acc ++ [⟨B a, B v⟩]) (partsOf qs) := by
          simp only [partsOf, partOf, hc, hv, Option.map_some]
          cases partsOf qs with
          | none => rfl
          | some rs => simp [endS]
        rw [e]
        exact this
theorem mayB_mid {acc l : List S25} {r : S25} (h : partB r = false) : mayB (acc ++ r :: l) = false := by
  cases e : mayB (acc ++ r :: l) with
  | false => rfl
  | true => have := (mayB_iff.1 e).1 r (by simp); rw [h] at this; cases this
theorem cutS_piece {s a b : List UInt8} (h : cutS s = some (a, b)) : cutS (firstCut s).1 = none ∨ ∃ b', cutS (firstCut s).1 = some (a, b') := by
  obtain ⟨h1, _⟩ := firstCut_eq s.length s (Nat.le_refl _)
  rcases cutS_index (firstCut s).1 with ⟨h2, _⟩ | ⟨a', b', h2, _, h3⟩
  · exact .inl h2
  · right
    rcases cutS_index s with ⟨g1, _⟩ | ⟨a'', b'', g1, g2, g3⟩
    · rw [g1] at h; cases h
    · rw [g1] at h
      simp only [Option.some.injEq, Prod.mk.injEq] at h
      refine ⟨b', ?_⟩
      have : ∀ (x y : List UInt8) (c : List UInt8), cutS (x ++ 61 :: y) = none → False := fun x y c hh => by
        rcases cutS_index (x ++ 61 :: y) with ⟨_, k2⟩ | ⟨_, _, k1, _, _⟩
        · have hx : ∀ x : List UInt8, Lib.indexByte (x ++ 61 :: y) 61 ≠ -1 := by
            intro x
            induction x with
            | nil => simp [Lib.indexByte]
            | cons d x ihx =>
              have i1 : (Lib.indexByte (x ++ 61 :: y) 61 == -1) = false := by simpa using ihx
              have hrange : ∀ l : List UInt8, -1 ≤ Lib.indexByte l 61 := by
                intro l
                induction l with
                | nil => simp [Lib.indexByte]
                | cons f l ihl =>
                  rw [Lib.indexByte]
                  split
                  · omega
                  · split
                    · omega
                    · next hh => have : Lib.indexByte l 61 ≠ -1 := by simpa using hh
                                 omega
              have := hrange (x ++ 61 :: y)
              rw [List.cons_append, Lib.indexByte]
              split
              · omega
              · rw [i1]
                simp only [Bool.false_eq_true, if_false]
                omega
          exact hx x k2
        · rw [k1] at hh; cases hh
      have h61 : ∀ {s a b : List UInt8}, cutS s = some (a, b) → 61 ∉ a := by
        intro s
        induction s with
        | nil => intro a b hh; simp [cutS] at hh
        | cons d s ihs =>
          intro a b hh
          by_cases hd : d = 61
          · simp [cutS, hd] at hh
            rw [hh.1]; simp
          · simp only [cutS, if_neg hd, Option.map_eq_some_iff] at hh
            obtain ⟨⟨a1, b1⟩, e1, e2⟩ := hh
            simp only [Prod.mk.injEq] at e2
            rw [← e2.1]
            simp only [List.mem_cons, not_or]
            exact ⟨fun e => hd e.symm, ihs e1⟩
      have e1 : s = a' ++ 61 :: (b' ++ (firstCut s).2) := by
        conv => lhs; rw [h1, h3]
        simp
      have e2 := cutS_at a' (b' ++ (firstCut s).2) (h61 h2)
      rw [← e1, g1] at e2
      have : a'' = a' := by have := congrArg (fun o : Option (List UInt8 × List UInt8) => o.map Prod.fst) e2; simpa using this
      rw [h2, ← h.1, this]
theorem firstCut_typed : ∀ (a b : List UInt8), (∀ c ∈ a, typeC c = true) → firstCut (a ++ 61 :: b) = (a ++ 61 :: (firstCut b).1, (firstCut b).2) := by
  intro a
  induction a with
  | nil => intro b _; rw [List.nil_append, firstCut_raw b (by decide) (by decide)]; rfl
  | cons c a ih =>
    intro b h
    have hc := typeC_rng (h c (by simp))
    rw [List.cons_append, firstCut_raw _ hc.2.2.2.2.1 hc.2.2.2.1, ih b (fun d hd => h d (by simp [hd]))]
    rfl
theorem parts_first (s : List UInt8) : partsOf (cutC [] s) = match partOf (firstCut s).1 with
    | none => none
    | some r => (if (firstCut s).2 = [] then some [] else partsOf (cutC [] ((firstCut s).2.drop 1))).map fun rs => r :: rs := by
  rw [cutC_first s.length s [] (Nat.le_refl _), partsOf, List.nil_append]
  cases partOf (firstCut s).1 with
  | none => rfl
  | some r =>
    by_cases h : (firstCut s).2 = []
    · simp only [if_pos h]; rfl
    · simp only [if_neg h]
theorem parse_same : ∀ (n : Nat) (s : List UInt8) (acc : List S25), acc.length + n = 8 → parseS n s acc true = endS acc (partsOf (cutC [] s)) := by
  intro n
  induction n with
  | zero =>
    intro s acc hn
    rw [parseS_zero, parts_first]
    cases partOf (firstCut s).1 with
    | none => rfl
    | some r =>
      simp only
      cases (if (firstCut s).2 = [] then some [] else partsOf (cutC [] ((firstCut s).2.drop 1))) with
      | none => rfl
      | some rs =>
        simp only [Option.map_some, endS]
        have : mayB (acc ++ r :: rs) = false := by
          cases e : mayB (acc ++ r :: rs) with
          | false => rfl
          | true => have := (mayB_iff.1 e).2; simp at this; omega
        rw [this]; rfl
  | succ n ih =>
    intro s acc hn
    rw [parts_first]
    cases hc : cutS s with
    | none =>
      rw [parseS_none _ _ _ hc]
      have : partOf (firstCut s).1 = none := by
        unfold partOf
        obtain ⟨h1, _⟩ := firstCut_eq s.length s (Nat.le_refl _)
        rcases cutS_index (firstCut s).1 with ⟨h2, _⟩ | ⟨a', b', h2, _, h3⟩
        · rw [h2]
        · exfalso
          have hn61 : ∀ s : List UInt8, cutS s = none → 61 ∉ s := by
            intro s
            induction s with
            | nil => intro _; simp
            | cons d s ihs =>
              intro hh
              by_cases hd : d = 61
              · simp [cutS, hd] at hh
              · simp only [cutS, if_neg hd, Option.map_eq_none_iff] at hh
                simp only [List.mem_cons, not_or]
                exact ⟨fun e => hd e.symm, ihs hh⟩
          refine hn61 s hc ?_
          rw [h1, h3]; simp
      rw [this]; rfl
    | some x =>
      obtain ⟨a, b⟩ := x
      rw [parseS_some _ _ _ _ _ hc]
      by_cases ht : typedB a = true
      · rw [if_neg (by simp [ht])]
        have hs : s = a ++ 61 :: b := by
          rcases cutS_index s with ⟨h1, _⟩ | ⟨a', b', h1, _, h3⟩
          · rw [h1] at hc; cases hc
          · rw [h1] at hc; cases hc; exact h3
        have hf := firstCut_typed a b (typed_all ht)
        rw [← hs] at hf
        obtain ⟨hv1, hv2⟩ := piece_val b.length b (Nat.le_refl _) true [] false
        have hpart : partOf (firstCut s).1 = (pvS true [] false (firstCut b).1).map fun v => ⟨B a, B v⟩ := by
          unfold partOf
          rw [hf, cutS_at _ _ (typed_61 ht)]
        rw [hpart, hf]
        cases hv : pvS true [] false (firstCut b).1 with
        | none => rw [if_pos (hv2 hv)]; rfl
        | some v =>
          rw [hv1 v hv]
          simp only [Option.map_some]
          rw [if_neg (by simp)]
          by_cases hr : (firstCut b).2 = []
          · rw [hr, if_pos rfl]
            simp only [Option.map_some, endS]
            rw [show (([] : List UInt8) != []) = false from rfl, parseS_done]
          · rw [if_neg hr, show ((firstCut b).2 != []) = true by simpa using hr, ih _ _ (by simp; omega)]
            cases partsOf (cutC [] ((firstCut b).2.drop 1)) with
            | none => rfl
            | some rs => simp [endS]
      · have htf : typedB a = false := by simpa using ht
        rw [if_pos htf]
        rcases cutS_piece hc with h2 | ⟨b', h2⟩
        · have : partOf (firstCut s).1 = none := by unfold partOf; rw [h2]
          rw [this]; rfl
        · have : partOf (firstCut s).1 = (pvS true [] false b').map fun v => ⟨B a, B v⟩ := by unfold partOf; rw [h2]
          rw [this]
          cases pvS true [] false b' with
          | none => rfl
          | some v =>
            simp only [Option.map_some]
            cases (if (firstCut s).2 = [] then some [] else partsOf (cutC [] ((firstCut s).2.drop 1))) with
            | none => rfl
            | some rs =>
              simp only [Option.map_some, endS]
              rw [mayB_mid (by unfold partB; rw [B_data, htf]; rfl)]
              rfl
theorem parseDn_ev (s : List UInt8) (hs : s.length ≤ 1000000) : Ev (fun k => brookref1_ParseDn.f k (B s)) (parseL s) := by
  unfold brookref1_ParseDn.f parseL
  simp only [B_toList]
  cases s with
  | nil =>
    rw [show (([] : List UInt8) != []) = false from rfl, parseS_done]
    exact Ev.pos rfl (Ev.now _)
  | cons c s =>
    refine Ev.neg (by simp) ?_
    rw [show ((c :: s) != []) = true by simp, parse_same 8 (c :: s) [] rfl]
    refine Ev.bind (rcut_ev (c :: s) hs) ?_
    obtain ⟨h1, h2⟩ := cutC_small (c :: s).length (c :: s) [] (Nat.le_refl _)
    exact pdn_l0 (cutC [] (c :: s)) (by omega) (fun p hp => by have := h2 p hp; simp only [List.length_nil] at this; omega) (cutC [] (c :: s)) [] rfl [] rfl
def rF (out : List UInt8) (pend : Bool) : List UInt8 → List UInt8
  | [] => out
  | c :: r => if c = 32 then rF out (out != []) r else rF (out ++ (if pend = true then [32] else []) ++ [c]) false r
def strip (x : List UInt8) : List UInt8 := if x.getLast? = some 32 then x.dropLast else x
theorem strip_snoc (x : List UInt8) : strip (x ++ [32]) = x := by unfold strip; simp
theorem strip_not {x : List UInt8} (h : x.getLast? ≠ some 32) : strip x = x := by unfold strip; rw [if_neg h]
theorem sq_ne {l : List UInt8} (h : l ≠ []) : sq l ≠ [] := by
  intro e
  have := sq_head l
  rw [e] at this
  cases l with
  | nil => exact h rfl
  | cons a l => simp at this
theorem all_of_drop {p : List UInt8} (h : p.dropWhile (· == 32) = []) : ∀ c ∈ p, c = 32 := by
  induction p with
  | nil => simp
  | cons a p ih =>
    rw [List.dropWhile_cons] at h
    split at h
    · next ha =>
      intro c hc
      rcases List.mem_cons.1 hc with rfl | hc
      · simpa using ha
      · exact ih h c hc
    · cases h
theorem drop_snoc (p m : List UInt8) (h : p.dropWhile (· == 32) ≠ []) : (p ++ m).dropWhile (· == 32) = p.dropWhile (· == 32) ++ m := by
  refine drop_snoc_some ?_
  refine Classical.byContradiction fun hn => h ?_
  have h' : ∀ c ∈ p, c = 32 := fun c hc => Classical.not_not.1 fun he => hn ⟨c, hc, he⟩
  have := drop_snoc_all (m := []) h'
  simpa using this
theorem rF_sq : ∀ (q p out : List UInt8) (pend : Bool), out ++ (if pend = true then [32] else []) = sq (p.dropWhile (· == 32)) → out.getLast? ≠ some 32 → rF out pend q = strip (sq ((p ++ q).dropWhile (· == 32))) := by
  intro q
  induction q with
  | nil =>
    intro p out pend h hl
    rw [List.append_nil, ← h, rF]
    cases pend with
    | true => rw [if_pos rfl, strip_snoc]
    | false => rw [if_neg (by simp), List.append_nil, strip_not hl]
  | cons c q ih =>
    intro p out pend h hl
    rw [rF]
    by_cases hc : c = 32
    · subst hc
      rw [if_pos rfl]
      have hp : p ++ 32 :: q = (p ++ [32]) ++ q := by simp
      rw [hp]
      by_cases ho : out = []
      · subst ho
        have hpf : pend = false := by
          cases pend with
          | false => rfl
          | true =>
            have h1 := sq_head (p.dropWhile (· == 32))
            rw [← h] at h1
            have h3 : (p.dropWhile (· == 32)).head? = some 32 := by rw [← h1]; rfl
            have h2 := dropWhile_head h3
            simp at h2
        subst hpf
        have hd : p.dropWhile (· == 32) = [] := Classical.byContradiction fun hn => sq_ne hn (by rw [← h]; simp)
        refine ih (p ++ [32]) [] _ ?_ hl
        rw [drop_snoc_all (all_of_drop hd)]
        simp [sq]
      · have hd : p.dropWhile (· == 32) ≠ [] := by
          intro e
          rw [e] at h
          simp [sq] at h
          exact ho h.1
        refine ih (p ++ [32]) out _ ?_ hl
        rw [drop_snoc _ _ hd, sq_cons_last, ← h, show (out != []) = true by simpa using ho, if_pos rfl]
        unfold sqStep
        cases pend with
        | true => simp
        | false => simp [hl]
    · rw [if_neg hc]
      have hp : p ++ c :: q = (p ++ [c]) ++ q := by simp
      rw [hp]
      refine ih (p ++ [c]) _ false ?_ (by simpa using hc)
      have hd : (p ++ [c]).dropWhile (· == 32) = p.dropWhile (· == 32) ++ [c] := by
        by_cases hd : p.dropWhile (· == 32) = []
        · rw [drop_snoc_all (all_of_drop hd), hd, List.dropWhile_cons_of_neg (by simpa using hc)]; rfl
        · exact drop_snoc _ _ hd
      have he : sqStep (sq (p.dropWhile (· == 32))) c = sq (p.dropWhile (· == 32)) ++ [c] := by
        unfold sqStep
        rw [if_neg (fun hh => hc hh.1)]
      rw [hd, sq_cons_last, he, ← h]
      simp
theorem strip_trim (s : List UInt8) : strip (sq (s.dropWhile (· == 32))) = sq (Lib.trimB s 32) := by
  induction s using snocRec with
  | nil => rfl
  | snoc s c ih =>
    have hrev : (s ++ [c]).reverse = c :: s.reverse := by simp
    by_cases hc : c = 32
    · subst hc
      have e1 : Lib.trimB (s ++ [32]) 32 = Lib.trimB s 32 := by
        unfold Lib.trimB Lib.trimRightB
        rw [hrev, List.dropWhile_cons_of_pos (by simp)]
      rw [e1, ← ih]
      by_cases hd : s.dropWhile (· == 32) = []
      · rw [drop_snoc_all (all_of_drop hd), hd]; rfl
      · rw [drop_snoc _ _ hd, sq_cons_last]
        unfold sqStep
        by_cases hl : (sq (s.dropWhile (· == 32))).getLast? = some 32
        · rw [if_pos ⟨rfl, hl⟩]
        · rw [if_neg (fun hh => hl hh.2), strip_snoc, strip_not hl]
    · have e1 : Lib.trimB (s ++ [c]) 32 = (s ++ [c]).dropWhile (· == 32) := by
        unfold Lib.trimB Lib.trimRightB Lib.trimLeftB
        rw [hrev, List.dropWhile_cons_of_neg (by simpa using hc), ← hrev, List.reverse_reverse]
      rw [e1]
      refine strip_not ?_
      rw [sq_last]
      refine dropWhile_last ?_
      simpa using hc
theorem rF_fold (l : List UInt8) : rF [] false (lowL l) = foldL l := by
  rw [rF_sq (lowL l) [] [] false rfl (by simp), List.nil_append, strip_trim, trimB_low]
  rfl
theorem rfold_l0 (s : List UInt8) (hs : s.length ≤ 100000000) : ∀ (q p out : List UInt8) (pend : Bool), s = p ++ q → out.length + (if pend = true then 1 else 0) ≤ p.length →
    Ev (fun k => brookref1_Fold.l0 k (B s) (B out) pend (p.length : Int)) (B (rF out pend q)) := by
  intro q
  induction q with
  | nil =>
    intro p out pend hp _
    obtain rfl : s = p := by simpa using hp
    refine Ev.step (fun k => by rw [brookref1_Fold.l0]) ?_
    refine Ev.neg (by rw [B_size]; omega) ?_
    exact Ev.now _
  | cons c q ih =>
    intro p out pend hp ho
    have hlen : p.length + 1 + q.length = s.length := by rw [hp]; simp; omega
    have hb : bt (B s) (p.length : Int) = (c.toNat : Int) := by rw [hp]; exact bt_pre p c q
    have h32 : ((c.toNat : Int) = 32) ↔ c = 32 := u8_int_inj (n := 32) (by omega)
    have hx : (B s).extract (p.length : Int).toNat (((p.length + 1 : Nat) : Int)).toNat = B [c] := by rw [hp]; exact cut_pre p c q
    have hsm : p.length < 200000000 := by omega
    have hn : (p ++ [c]).length = p.length + 1 := by simp
    refine Ev.step (fun k => by rw [brookref1_Fold.l0]) ?_
    refine Ev.pos (by rw [B_size]; omega) ?_
    refine Ev.pos (by omega) ?_
    simp only [wrap_succ (lt_big hsm), hb, hx, B_toList]
    rw [rF]
    by_cases hc : c = 32
    · rw [if_pos hc]
      refine Ev.pos (h32.2 hc) ?_
      have := ih (p ++ [c]) out (out != []) (by rw [hp]; simp) (by rw [hn]; split <;> split at ho <;> omega)
      rw [hn] at this
      exact this
    · rw [if_neg hc]
      refine Ev.neg (fun e => hc (h32.1 e)) ?_
      cases pend with
      | true =>
        rw [if_pos rfl] at ho ⊢
        refine Ev.pos rfl ?_
        rw [show (⟨#[32]⟩ : ByteArray) = B [32] from rfl]
        simp only [B_append]
        refine Ev.pos (by rw [B_size]; omega) ?_
        refine Ev.pos (by omega) ?_
        refine Ev.pos (by rw [B_size]; omega) ?_
        refine Ev.pos (by rw [B_size, B_size]; simp; omega) ?_
        have := ih (p ++ [c]) (out ++ [32] ++ [c]) false (by rw [hp]; simp) (by rw [hn]; simp; omega)
        rw [hn] at this
        exact this
      | false =>
        rw [if_neg (by simp)] at ho ⊢
        refine Ev.neg (by simp) ?_
        simp only [B_append]
        refine Ev.pos (by omega) ?_
        refine Ev.pos (by rw [B_size]; omega) ?_
        refine Ev.pos (by rw [B_size, B_size]; simp; omega) ?_
        have := ih (p ++ [c]) (out ++ [] ++ [c]) false (by rw [hp]; simp) (by rw [hn]; simp; omega)
        rw [hn, List.append_nil] at this
        rw [List.append_nil]
        exact this
theorem rfold_ev (l : List UInt8) (hl : l.length ≤ 100000000) : Ev (fun k => brookref1_Fold.f k (B l)) (B (foldL l)) := by
  unfold brookref1_Fold.f
  refine Ev.fix (lower_B (by omega)) ?_
  have := rfold_l0 (lowL l) (by rw [lowL_length]; exact hl) (lowL l) [] [] false rfl (by simp)
  rw [rF_fold] at this
  exact this
theorem rkey_l0 (l : List S25) (hm : Modest l) (ok : Bool) : ∀ q p : List S25, l = p ++ q →
    Ev (fun k => brookref1_Key.l0 k (keyL p) (p.length : Int) l ok) (if q.all foldOk = true then (B (text (keyL l)), true) else (B [], false)) := by
  intro q
  induction q with
  | nil =>
    intro p hp
    obtain rfl : l = p := by simpa using hp
    refine Ev.step (fun k => by rw [brookref1_Key.l0]) ?_
    refine Ev.neg (by omega) ?_
    have := textDn_ev (keyL l) (keyL_modest hm)
    rw [text_up] at this
    refine Ev.bind this ?_
    exact Ev.now _
  | cons r q ih =>
    intro p hp
    have hlen : p.length + 1 + q.length = l.length := by rw [hp]; simp; omega
    have hl := hm.1
    obtain ⟨h1, h2⟩ := hm.2 r (by rw [hp]; simp)
    rw [Lib.size_eq] at h1 h2
    have hkl := keyL_length p
    have hb : rd_T25 l (p.length : Int) = r := by rw [hp]; exact rd_pre p r q
    refine Ev.step (fun k => by rw [brookref1_Key.l0]) ?_
    refine Ev.pos (by omega) ?_
    refine Ev.pos (by omega) ?_
    rw [hb, wrap_succ (by omega)]
    refine Ev.fix (v := B (lowL r.f0.data.toList)) (by rw [← lower_B (by omega), B_of]) ?_
    have hf := rfold_ev r.f1.data.toList (by omega)
    rw [B_of] at hf
    refine Ev.bind hf ?_
    simp only [B_toList]
    by_cases hf : foldL r.f1.data.toList = []
    · have : foldOk r = false := by unfold foldOk; simp [hf]
      rw [List.all_cons, this]
      exact Ev.pos hf (Ev.now _)
    · have : foldOk r = true := by unfold foldOk; simp [hf]
      rw [List.all_cons, this, Bool.true_and]
      refine Ev.neg hf ?_
      refine Ev.pos (by omega) ?_
      have hi := ih (p ++ [r]) (by rw [hp]; simp)
      rw [keyL_append, show (p ++ [r]).length = p.length + 1 by simp] at hi
      exact hi
theorem rkey_ev (s : List UInt8) (hs : s.length ≤ 1000000) : Ev (fun k => brookref1_Key.f k (B s)) (keyS s) := by
  unfold brookref1_Key.f keyS
  refine Ev.bind (parseDn_ev s hs) ?_
  by_cases h : (parseL s).2 = true
  · rw [if_pos h]
    refine Ev.pos h ?_
    have hm : mayB (parseL s).1 = true := parseS_may 8 s [] (s != []) _ (by rw [← h]; rfl)
    exact rkey_l0 _ (may_modest hm) _ _ [] rfl
  · rw [if_neg h]
    exact Ev.neg h (Ev.now _)
theorem rup_l0 (l : List UInt8) (hl : l.length ≤ 1000000000) : ∀ n (i : Nat), l.length + 1 - i ≤ n → i ≤ l.length + 1 → Ev (fun k => brookref1_Up.l0 k (B l) (i : Int)) (B (upS (l.drop i))) := by
  intro n
  induction n with
  | zero =>
    intro i hn hi
    refine Ev.step (fun k => by rw [brookref1_Up.l0]) ?_
    refine Ev.neg (by rw [B_size]; omega) ?_
    rw [List.drop_eq_nil_of_le (by omega), upS]
    exact Ev.now _
  | succ n ih =>
    intro i hn hi
    refine Ev.step (fun k => by rw [brookref1_Up.l0]) ?_
    by_cases h : i < l.length
    · obtain ⟨c, hc⟩ : ∃ c, l[i]? = some c := ⟨l[i], List.getElem?_eq_getElem h⟩
      have hd : l.drop i = c :: l.drop (i + 1) := by rw [List.drop_eq_getElem_cons h]; congr 1; exact Option.some.inj ((List.getElem?_eq_getElem h).symm.trans hc)
      have h44 : ((c.toNat : Int) = 44) ↔ c = 44 := u8_int_inj (n := 44) (by omega)
      have h92 : ((c.toNat : Int) = 92) ↔ c = 92 := u8_int_inj (n := 92) (by omega)
      refine Ev.pos (by rw [B_size]; omega) ?_
      refine Ev.pos (by omega) ?_
      rw [bt_at' hc, wrap_succ (by omega), wrap_succ (by omega), hd, upS]
      by_cases c92 : c = 92
      · rw [if_pos c92]
        refine Ev.pos (h92.2 c92) ?_
        have := ih (i + 1 + 1) (by omega) (by omega)
        rw [List.drop_drop]
        exact this
      · rw [if_neg c92]
        refine Ev.neg (fun e => c92 (h92.1 e)) ?_
        by_cases c44 : c = 44
        · rw [if_pos c44]
          refine Ev.pos (h44.2 c44) ?_
          refine Ev.pos (by omega) ?_
          refine Ev.pos (by rw [B_size]; omega) ?_
          have : (B l).extract (((i + 1 : Nat) : Int)).toNat (B l).size = B (l.drop (i + 1)) := by
            rw [B_extract, B_size, List.take_of_length_le (by simp)]
            congr 2
          rw [this]
          exact Ev.now _
        · rw [if_neg c44]
          refine Ev.neg (fun e => c44 (h44.1 e)) ?_
          exact ih (i + 1) (by omega) (by omega)
    · refine Ev.neg (by rw [B_size]; omega) ?_
      rw [List.drop_eq_nil_of_le (by omega), upS]
      exact Ev.now _
theorem rup_ev (l : List UInt8) (hl : l.length ≤ 1000000000) : Ev (fun k => brookref1_Up.f k (B l)) (B (upS l)) := by
  exact rup_l0 l hl (l.length + 1) 0 (by omega) (by omega)
theorem runder_l0 (y : List UInt8) : ∀ n (x : List UInt8), x.length ≤ n → n ≤ 1000000000 → Ev (fun k => brookref1_Under.l0 k (B x) (B y)) (underS x y) := by
  intro n
  induction n with
  | zero =>
    intro x hx _
    obtain rfl : x = [] := List.length_eq_zero_iff.1 (by omega)
    refine Ev.step (fun k => by rw [brookref1_Under.l0]) ?_
    simp only [B_toList]
    rw [underS]
    by_cases h : [] = y
    · rw [if_pos h]; exact Ev.pos h (Ev.now _)
    · rw [if_neg h]
      refine Ev.neg h ?_
      simp only [if_true]
      exact Ev.now _
  | succ n ih =>
    intro x hx hn
    refine Ev.step (fun k => by rw [brookref1_Under.l0]) ?_
    simp only [B_toList]
    rw [underS]
    by_cases h : x = y
    · rw [if_pos h]; exact Ev.pos h (Ev.now _)
    · rw [if_neg h]
      refine Ev.neg h ?_
      by_cases h2 : x = []
      · rw [dif_pos h2]; exact Ev.pos h2 (Ev.now _)
      · rw [dif_neg h2]
        refine Ev.neg h2 ?_
        refine Ev.bind (rup_ev x (by omega)) ?_
        have := upS_len x.length x (Nat.le_refl _)
        exact ih (upS x) (by omega) (by omega)
theorem runder_ev (x y : List UInt8) (hx : x.length ≤ 1000000000) : Ev (fun k => brookref1_Under.f k (B x) (B y)) (underS x y) := runder_l0 y x.length x (Nat.le_refl _) hx
end Go.Proofs.YtflkghdndffacaaDoor.Pure
namespace Go.Proofs.YtflkghdndffacaaDoor.C
open Go.RowKit Go.Proofs.YtflkghdndffacaaDoor.H Go.Proofs.YtflkghdndffacaaDoor.PD Go.Proofs.YtflkghdndffacaaDoor.Pure Go.Proofs.YtflkghdndffacaaDoorW.PrintWords Go.Proofs.YtflkghdndffacaaDoorW.PrintLast Go.Proofs.YtflkghdndffacaaDoorW.PrintMore
set_option linter.unusedVariables false
abbrev bl (s : ByteArray) : List UInt8 := s.data.toList
theorem bl_len (s : ByteArray) : (bl s).length = s.size := (Lib.size_eq s).symm
theorem ev_get {α : Type} {g : Nat → Option α} {r : α} (h : Ev g r) : ∃ k, g k = some r := by
  obtain ⟨n, h⟩ := h
  exact ⟨n, h n (Nat.le_refl _)⟩
def keyB (s : ByteArray) : ByteArray × Bool := keyS (bl s)
theorem key_c (s : ByteArray) (hs : s.size ≤ 100000000) (w : World) : Calls Tryd.prog 23 #[.string s] w fun e w' => e = .returned (.tuple #[.string (keyB s).1, .bool (keyB s).2]) ∧ Below w.heap.size w w' := by
  obtain ⟨k, h⟩ := ev_get (key_ev (bl s) (by rw [bl_len]; exact hs))
  rw [B_of] at h
  exact dn_Key.calls k s _ _ w h
theorem rkey_c (s : ByteArray) (hs : s.size ≤ 1000000) (w : World) : Calls Tryd.prog 27 #[.string s] w fun e w' => e = .returned (.agg #[.string (keyB s).1, .bool (keyB s).2]) ∧ Below w.heap.size w w' := by
  obtain ⟨k, h⟩ := ev_get (rkey_ev (bl s) (by rw [bl_len]; exact hs))
  rw [B_of] at h
  exact brookref1_Key.calls k s _ _ w h
def underB (a b : ByteArray) : Bool := underS (bl a) (bl b)
theorem under_c (a b : ByteArray) (hs : a.size ≤ 1000000000) (w : World) : Calls Tryd.prog 31 #[.string a, .string b] w fun e w' => e = .returned (.bool (underB a b)) ∧ Drawn0 w w' := by
  obtain ⟨k, h⟩ := ev_get (under_ev (bl a) (bl b) (by rw [bl_len]; exact hs))
  rw [B_of, B_of] at h
  exact dn_Under.calls k a b _ w h
theorem runder_c (a b : ByteArray) (hs : a.size ≤ 1000000000) (w : World) : Calls Tryd.prog 32 #[.string a, .string b] w fun e w' => e = .returned (.bool (underB a b)) ∧ Drawn0 w w' := by
  obtain ⟨k, h⟩ := ev_get (runder_ev (bl a) (bl b) (by rw [bl_len]; exact hs))
  rw [B_of, B_of] at h
  exact brookref1_Under.calls k a b _ w h
theorem parseDn_c (s : ByteArray) (hs : s.size ≤ 1000000) (w : World) : Calls Tryd.prog 26 #[.string s] w fun e w' => ∃ v : Value, e = .returned (.agg #[v, .bool (parseL (bl s)).2]) ∧ Kd.R k25 25 w' w.heap.size (fun _ => True) v (parseL (bl s)).1 ∧ Below w.heap.size w w' := by
  obtain ⟨k, h⟩ := ev_get (parseDn_ev (bl s) (by rw [bl_len]; exact hs))
  rw [B_of] at h
  exact brookref1_ParseDn.calls k s _ _ w h
theorem textDn_c (A : Option Addr) (c : Nat) (l : List S25) (w : World) (hr : Kd.C k25 w A l.length l) (hc : l.length ≤ c) (h : Pure.Modest l) : Calls Tryd.prog 19 #[.slice A l.length c] w fun e w' => e = .returned (.string (B (text l))) ∧ Drawn0 w w' := by
  obtain ⟨k, h⟩ := ev_get (textDn_ev l h)
  rw [text_up] at h
  exact brookref1_TextDn.calls k A c l _ w hr hc h
end Go.Proofs.YtflkghdndffacaaDoor.C
namespace Go.Proofs.YtflkghdndffacaaDoor.C
open Go.RowKit Go.Proofs.YtflkghdndffacaaDoor.H Go.Proofs.YtflkghdndffacaaDoor.Pure Go.Proofs.YtflkghdndffacaaDoorW.PrintWords Go.Proofs.YtflkghdndffacaaDoorW.PrintLast Go.Proofs.YtflkghdndffacaaDoorW.PrintMore
set_option linter.unusedVariables false
def memB (l : List ByteArray) (x : ByteArray) : Bool := l.any fun y => x.toList == y.toList
def idxB (l : List ByteArray) (x : ByteArray) : Int := if memB l x then ((l.findIdx fun y => x.toList == y.toList : Nat) : Int) else -1
theorem ret_int {k : IntKind} {a b : Int} (h : a = b) : Ending.returned (.int k a) = .returned (.int k b) := by rw [h]
theorem ret_bool {a b : Bool} (h : a = b) : Ending.returned (.bool a) = .returned (.bool b) := by rw [h]
theorem str_at {w : World} {A : Option Addr} {n : Nat} {xs : List ByteArray} (h : Kd.C Kd.string w A n xs) {k : Nat} {y : ByteArray} (hy : xs[k]? = some y) : ∃ ad, A = some ad ∧ w.cell? (ad.add k) = some (.string y) := by
 have hk : k < xs.length := (List.getElem?_eq_some_iff.1 hy).1
 have hn : xs.length = n := h.1
 obtain ⟨ad, e, hc⟩ := Kd.at_string h (k : Int) (by omega) (by omega)
 refine ⟨ad, e, ?_⟩
 simpa [rdOf, List.getD_eq_getElem?_getD, hy] using hc
theorem idx_here {l : List ByteArray} {x y : ByteArray} {k : Nat} (hy : l[k]? = some y) (he : (x.toList == y.toList) = true) (HF : ∀ z ∈ l.take k, (x.toList == z.toList) = false) : idxB l x = k := by
 have hk : k < l.length := (List.getElem?_eq_some_iff.1 hy).1
 have hm : memB l x = true := List.any_eq_true.2 ⟨y, List.mem_of_getElem? hy, he⟩
 unfold idxB
 rw [if_pos hm]
 congr 1
 apply (List.findIdx_eq hk).2
 refine ⟨by rw [(List.getElem?_eq_some_iff.1 hy).2]; exact he, fun j hj => ?_⟩
 have : l[j] ∈ l.take k := by rw [List.mem_take_iff_getElem]; exact ⟨j, by omega, rfl⟩
 simpa using HF _ this
theorem idx_none {l : List ByteArray} {x : ByteArray} (HF : ∀ z ∈ l.take l.length, (x.toList == z.toList) = false) : idxB l x = -1 := by
 unfold idxB
 rw [if_neg]
 intro h
 obtain ⟨y, hy, he⟩ := List.any_eq_true.1 h
 rw [List.take_length] at HF
 rw [HF y hy] at he
 cases he
theorem idx_sign (l : List ByteArray) (x : ByteArray) : decide (0 ≤ idxB l x) = memB l x := by
 unfold idxB
 split <;> simp_all
set_option maxHeartbeats 1000000 in
theorem index_c (A : Option Addr) (c : Nat) (l : List ByteArray) (x : ByteArray) (w : World) (hr : Kd.C Kd.string w A l.length l) (hc : l.length ≤ c) :
  Calls Tryd.prog 103 #[.slice A l.length c, .string x] w fun e w' => e = .returned (.int .i64 (idxB l x)) ∧ w = w' := by
 have hmax : l.length ≤ 9223372036854775807 := hr.2.1
 have HR := Lib.hid hr
 clear hr
 go_enter Tryd.func103, Tryd.ntmps103
 go_wp2
 go_loop [8] (fun i => ∃ k : Nat, k ≤ l.length ∧ i = .int .i64 k ∧ Hid (∀ y ∈ l.take k, (x.toList == y.toList) = false)) (fun i => l.length - (intOf i).toNat)
 case atStart => exact ⟨0, Nat.zero_le _, rfl, Lib.hid (by simp)⟩
 case round =>
  obtain ⟨k, hk, rfl, HF⟩ := hrel
  by_cases hlt : k < l.length
  ·obtain ⟨y, hy⟩ : ∃ y, l[k]? = some y := ⟨_, List.getElem?_eq_getElem hlt⟩
   obtain ⟨ad, e, hcell⟩ := str_at HR.out hy
   cases e
   have HY := Lib.hid hy
   clear hy
   have hlt' : (k : Int) < (l.length : Int) := by omega
   by_cases he : (x.toList == y.toList) = true
   ·go_wp2
    go_ret
    exact ⟨ret_int (idx_here HY.out he HF.out).symm, rfl⟩
   ·replace he := Bool.eq_false_iff.mpr he
    go_wp2
    go_round
    case measure => simp [intOf]; omega
    case rel =>
     refine ⟨k + 1, by omega, by go_num, Lib.hid ?_⟩
     rw [List.take_add_one, HY.out]
     intro z hz
     rcases List.mem_append.1 hz with hz | hz
     ·exact HF.out z hz
     ·obtain rfl : z = y := by simpa using hz
      exact he
  ·obtain rfl : k = l.length := by omega
   go_wp2
   go_ret
   exact ⟨ret_int (idx_none HF.out).symm, rfl⟩
theorem contains_c (A : Option Addr) (c : Nat) (l : List ByteArray) (x : ByteArray) (w : World) (hr : Kd.C Kd.string w A l.length l) (hc : l.length ≤ c) :
  Calls Tryd.prog 87 #[.slice A l.length c, .string x] w fun e w' => e = .returned (.bool (memB l x)) ∧ w = w' := by
 have HS := Lib.hid (idx_sign l x)
 have HR := Lib.hid hr
 clear hr
 go_enter Tryd.func87, Tryd.ntmps87
 go_wp2_with (go_at_call 103; refine (index_c _ _ _ _ _ HR.out hc).mono ?_; rintro e w' ⟨rfl, rfl⟩)
 go_ret
 exact ⟨ret_bool HS.out, rfl⟩
end Go.Proofs.YtflkghdndffacaaDoor.C
namespace Go.Proofs.YtflkghdndffacaaDoor.PA
open Go.RowKit Go.Proofs.YtflkghdndffacaaDoor.H Go.Proofs.YtflkghdndffacaaDoor.PD Go.Proofs.YtflkghdndffacaaDoorW.PrintWords Go.Proofs.YtflkghdndffacaaDoorW.PrintLast Go.Proofs.YtflkghdndffacaaDoorW.PrintMore
attribute [local go_sem] max2_int min2_int max_two min_two max_three min_three max_four min_four
set_option linter.unusedVariables false
set_option linter.unusedSimpArgs false
def errW : Option Int → Value
 | none => .nilIface
 | some c => .iface 0 (.int .i64 c)
theorem errW_none : errW none = .nilIface := rfl
theorem errW_some (c : Int) : errW (some c) = .iface 0 (.int .i64 c) := rfl
theorem info9 : (Tryd.prog.info? 9).map (fun i => (i.zero, i.size, i.bytes)) = some (some (.string ⟨#[]⟩), 1, 16) := by kernel_rfl
theorem info69 : (Tryd.prog.info? 69).map (fun i => (i.zero, i.size, i.bytes)) = some (some (.agg #[(.string ⟨#[]⟩), (.slice none 0 0)]), 2, 40) := by kernel_rfl
structure S54 where
 f0 : Int
 f1 : ByteArray
 f2 : ByteArray
 f3 : Bool
 f4 : (List ByteArray)
 f5 : Int
def z54 : S54 := ⟨(0 : Int), (⟨#[]⟩ : ByteArray), (⟨#[]⟩ : ByteArray), false, ([] : List ByteArray), (0 : Int)⟩
def k54 : Kd S54 := Kd.iso (Kd.pair (Kd.int .i64) (Kd.pair Kd.string (Kd.pair Kd.string (Kd.pair Kd.bool (Kd.pair (Kd.slice 9 Kd.string) (Kd.int .i64)))))) (fun x : S54 => (x.f0, x.f1, x.f2, x.f3, x.f4, x.f5))
theorem k54_open {w : World} {x : S54} {cs : List Value} (h : k54.K w x cs) : ∃ A4 c4, cs = [.int .i64 x.f0, .string x.f1, .string x.f2, .bool x.f3, .slice A4 x.f4.length c4, .int .i64 x.f5] ∧ x.f4.length ≤ c4 ∧ Kd.string.C w A4 x.f4.length x.f4 := by
 obtain ⟨_, _, rfl, rfl, ⟨_, _, rfl, rfl, ⟨_, _, rfl, rfl, ⟨_, _, rfl, rfl, ⟨_, _, rfl, ⟨A4, c4, rfl, l4, g4⟩, rfl⟩⟩⟩⟩⟩ := h
 exact ⟨A4, c4, rfl, l4, g4⟩
theorem k54_mk (w : World) (x : S54) {A4 : Option Addr} {c4 : Nat} (l4 : x.f4.length ≤ c4) (g4 : Kd.string.C w A4 x.f4.length x.f4) : k54.K w x [.int .i64 x.f0, .string x.f1, .string x.f2, .bool x.f3, .slice A4 x.f4.length c4, .int .i64 x.f5] := ⟨[.int .i64 x.f0], [.string x.f1, .string x.f2, .bool x.f3, .slice A4 x.f4.length c4, .int .i64 x.f5], rfl, rfl, ⟨[.string x.f1], [.string x.f2, .bool x.f3, .slice A4 x.f4.length c4, .int .i64 x.f5], rfl, rfl, ⟨[.string x.f2], [.bool x.f3, .slice A4 x.f4.length c4, .int .i64 x.f5], rfl, rfl, ⟨[.bool x.f3], [.slice A4 x.f4.length c4, .int .i64 x.f5], rfl, rfl, ⟨[.slice A4 x.f4.length c4], [.int .i64 x.f5], rfl, ⟨A4, c4, rfl, l4, g4⟩, rfl⟩⟩⟩⟩⟩
def rd_T54 (xs : List S54) (i : Int) : S54 := xs.getD i.toNat z54
theorem at_T54 {w : World} {A : Option Addr} {n : Nat} {xs : List S54} (h : Kd.C k54 w A n xs) (i : Int) (h0 : 0 ≤ i) (h1 : i < n) : ∃ ad A4 c4, A = some ad ∧ w.cell? (ad.add (i.toNat * 6)) = some (.int .i64 (rd_T54 xs i).f0) ∧ w.cell? ⟨(ad.add (i.toNat * 6)).block, (ad.add (i.toNat * 6)).off + 1, none⟩ = some (.string (rd_T54 xs i).f1) ∧ w.cell? ⟨(ad.add (i.toNat * 6)).block, (ad.add (i.toNat * 6)).off + 2, none⟩ = some (.string (rd_T54 xs i).f2) ∧ w.cell? ⟨(ad.add (i.toNat * 6)).block, (ad.add (i.toNat * 6)).off + 3, none⟩ = some (.bool (rd_T54 xs i).f3) ∧ w.cell? ⟨(ad.add (i.toNat * 6)).block, (ad.add (i.toNat * 6)).off + 4, none⟩ = some (.slice A4 (rd_T54 xs i).f4.length c4) ∧ w.cell? ⟨(ad.add (i.toNat * 6)).block, (ad.add (i.toNat * 6)).off + 5, none⟩ = some (.int .i64 (rd_T54 xs i).f5) ∧ (rd_T54 xs i).f4.length ≤ c4 ∧ Kd.string.C w A4 (rd_T54 xs i).f4.length (rd_T54 xs i).f4 := by
 obtain ⟨ad, c, e, _, hK, hc0⟩ := Kd.C_get h z54 i h0 h1
 have hc : ∀ j u, c[j]? = some u → w.cell? (ad.add (i.toNat * 6 + j)) = some u := hc0
 obtain ⟨A4, c4, rfl, l4, g4⟩ := k54_open hK
 exact ⟨ad, A4, c4, e, hc 0 _ rfl, by rw [← add_field _ _ 1 (by omega)]; exact hc 1 _ rfl, by rw [← add_field _ _ 2 (by omega)]; exact hc 2 _ rfl, by rw [← add_field _ _ 3 (by omega)]; exact hc 3 _ rfl, by rw [← add_field _ _ 4 (by omega)]; exact hc 4 _ rfl, by rw [← add_field _ _ 5 (by omega)]; exact hc 5 _ rfl, l4, g4⟩
structure S69 where
 f0 : ByteArray
 f1 : (List ByteArray)
def z69 : S69 := ⟨(⟨#[]⟩ : ByteArray), ([] : List ByteArray)⟩
def k69 : Kd S69 := Kd.iso (Kd.pair Kd.string (Kd.slice 9 Kd.string)) (fun x : S69 => (x.f0, x.f1))
theorem k69_open {w : World} {x : S69} {cs : List Value} (h : k69.K w x cs) : ∃ A1 c1, cs = [.string x.f0, .slice A1 x.f1.length c1] ∧ x.f1.length ≤ c1 ∧ Kd.string.C w A1 x.f1.length x.f1 := by
 obtain ⟨_, _, rfl, rfl, ⟨A1, c1, rfl, l1, g1⟩⟩ := h
 exact ⟨A1, c1, rfl, l1, g1⟩
theorem k69_mkM (w : World) (base : Nat) (ok : Nat → Prop) (x : S69) {v1 : Value} (g1 : Kd.string.R 9 w base ok v1 x.f1) : k69.M w base ok x [.string x.f0, v1] := ⟨[.string x.f0], [v1], rfl, rfl, ⟨v1, rfl, g1⟩⟩
def rd_T69 (xs : List S69) (i : Int) : S69 := xs.getD i.toNat z69
theorem at_T69 {w : World} {A : Option Addr} {n : Nat} {xs : List S69} (h : Kd.C k69 w A n xs) (i : Int) (h0 : 0 ≤ i) (h1 : i < n) : ∃ ad A1 c1, A = some ad ∧ w.cell? (ad.add (i.toNat * 2)) = some (.string (rd_T69 xs i).f0) ∧ w.cell? ⟨(ad.add (i.toNat * 2)).block, (ad.add (i.toNat * 2)).off + 1, none⟩ = some (.slice A1 (rd_T69 xs i).f1.length c1) ∧ (rd_T69 xs i).f1.length ≤ c1 ∧ Kd.string.C w A1 (rd_T69 xs i).f1.length (rd_T69 xs i).f1 := by
 obtain ⟨ad, c, e, _, hK, hc0⟩ := Kd.C_get h z69 i h0 h1
 have hc : ∀ j u, c[j]? = some u → w.cell? (ad.add (i.toNat * 2 + j)) = some u := hc0
 obtain ⟨A1, c1, rfl, l1, g1⟩ := k69_open hK
 exact ⟨ad, A1, c1, e, hc 0 _ rfl, by rw [← add_field _ _ 1 (by omega)]; exact hc 1 _ rfl, l1, g1⟩
end Go.Proofs.YtflkghdndffacaaDoor.PA
namespace Go.Proofs.YtflkghdndffacaaDoor.C
open Go.RowKit Go.Proofs.YtflkghdndffacaaDoor.Sq Go.Proofs.YtflkghdndffacaaDoor.H Go.Proofs.YtflkghdndffacaaDoor.PA Go.Proofs.YtflkghdndffacaaDoor.Pure Go.Proofs.YtflkghdndffacaaDoorW.PrintWords Go.Proofs.YtflkghdndffacaaDoorW.PrintLast Go.Proofs.YtflkghdndffacaaDoorW.PrintMore
set_option linter.unusedVariables false
def ruleV (r : S54) (A : Option Addr) (c : Nat) : Array Value := #[.int .i64 r.f0, .string r.f1, .string r.f2, .bool r.f3, .slice A r.f4.length c, .int .i64 r.f5]
def notHereB (r : S54) (key typ : ByteArray) : Bool := (!(key.toList == (keyB r.f2).1.toList) && !(r.f3 && underB key (keyB r.f2).1)) || (decide (0 < r.f4.length) && !memB r.f4 (lowS typ))
def whoB (r : S54) (who key : ByteArray) : Bool := if r.f0 = 2 then who.toList != [] else if r.f0 = 3 then who.toList == key.toList else if r.f0 = 4 then who.toList == (keyB r.f1).1.toList else true
def speaksB (r : S54) (who key typ : ByteArray) : Bool := !notHereB r key typ && whoB r who key
theorem lowered_c (s : ByteArray) (hs : s.size ≤ 9223372036854775806) (w : World) : Calls Tryd.prog 88 #[.string s] w fun e w' => e = .returned (.string (lowS s)) ∧ Below w.heap.size w w' := acl_lowered.calls s _ w (by unfold acl_lowered.f; rw [if_pos hs])
def Own (w : World) (g : Nat) (o : Obj) (W : World) : Prop := W.heap[g]? = some o ∧ Below w.heap.size w W
theorem Own.step {w W w1 : World} {g : Nat} {o : Obj} (h : Own w g o W) (hb : Below W.heap.size W w1) : Own w g o w1 := ⟨blk_below h.1 hb, below_step h.2 hb⟩
theorem Own.drew {w W : World} {g : Nat} {o : Obj} (h : Own w g o W) : Own w g o W.drew := ⟨h.1, h.2.drew⟩
theorem rule_cells {W : World} {g : Nat} {r : S54} {A : Option Addr} {c : Nat} (h : W.heap[g]? = some (.cells (ruleV r A c) 54 (0, 0))) : W.cell? ⟨g, 0, none⟩ = some (.int .i64 r.f0) ∧ W.cell? ⟨g, 1, none⟩ = some (.string r.f1) ∧ W.cell? ⟨g, 2, none⟩ = some (.string r.f2) ∧ W.cell? ⟨g, 3, none⟩ = some (.bool r.f3) ∧ W.cell? ⟨g, 4, none⟩ = some (.slice A r.f4.length c) ∧ W.cell? ⟨g, 5, none⟩ = some (.int .i64 r.f5) := ⟨blk_cell h 0, blk_cell h 1, blk_cell h 2, blk_cell h 3, blk_cell h 4, blk_cell h 5⟩
theorem six {p : Prop} (b1 b2 b3 b4 : Bool) (h1 : b1 = true → b4 = false → p) (h2 : b1 = true → b4 = true → p) (h3 : b1 = false → b2 = false → p) (h4 : b1 = false → b2 = true → b3 = false → p) (h5 : b1 = false → b2 = true → b3 = true → b4 = false → p) (h6 : b1 = false → b2 = true → b3 = true → b4 = true → p) : p := by
 cases b1 <;> cases b2 <;> cases b3 <;> cases b4 <;> simp_all
set_option maxHeartbeats 4000000 in
theorem speaks_c (r : S54) (A : Option Addr) (c : Nat) (who key typ : ByteArray) (w : World) (hr : Kd.string.C w A r.f4.length r.f4) (hc : r.f4.length ≤ c) (h1 : r.f1.size ≤ 100000000) (h2 : r.f2.size ≤ 100000000) (hk : key.size ≤ 1000000000) (ht : typ.size ≤ 9223372036854775806) :
  Calls Tryd.prog 63 #[.agg (ruleV r A c), .string who, .string key, .string typ] w fun e w' => e = .returned (.bool (speaksB r who key typ)) ∧ Below w.heap.size w w' := by
 unfold ruleV
 have HR := Lib.hid hr
 clear hr
 go_enter Tryd.func63, Tryd.ntmps63
 go_wp2_with fail
 refine (key_c _ h2 _).mono ?_
 rintro e w1 ⟨rfl, hb⟩
 have HO : Own w w.heap.size (.cells (ruleV r A c) 54 (0, 0)) w1 := Own.step ⟨heap_alloc_new w _, (Below.refl _ _).alloc (Nat.le_refl _) _⟩ hb
 clear hb
 go_upto_region 2 with (fail)
 go_cut [45] (fun v wc => v = .bool (notHereB r key typ) ∧ Own w w.heap.size (.cells (ruleV r A c) 54 (0, 0)) wc)
 case first =>
  refine sq_ (Own w w.heap.size (.cells (ruleV r A c) 54 (0, 0))) [] [(0,0,some 19),(0,1,some 20),(0,2,some 21),(0,3,some 22),(0,4,some 23),(1,5,some 24),(0,6,some 25),(0,7,some 26),(0,8,some 27),(2,9,some 28),(0,10,some 29),(0,11,some 30),(0,12,some 31),(0,13,some 32),(0,14,some 33),(1,15,some 34),(0,16,some 35),(0,17,some 36),(0,18,some 37),(0,19,some 38),(1,20,some 39),(0,21,some 40),(2,22,some 41),(2,23,some 42),(0,24,some 43),(0,25,some 44),(0,26,some 45)] (by kernel_rfl) (by kernel_rfl) HO.drew (fun hS => ?_)
  generalize w1.drew = W at hS ⊢
  refine six (key.toList == (keyB r.f2).1.toList) r.f3 (underB key (keyB r.f2).1) (decide (0 < r.f4.length)) ?_ ?_ ?_ ?_ ?_ ?_
  all_goals
   intros
   repeat (first
    | (refine sq0 rfl ?_ (fun _ _ _ _ h => h) ?_; (focus rfl); apply Exists.intro; constructor; (focus (intro w'; go_simp; with_reducible rfl)); (simp only [Act.put, List.setIfInBounds_toArray, List.set_cons_zero, List.set_cons_succ]))
    | (refine sq0_off rfl ?_ (fun _ _ _ _ h => h) ?_; (focus rfl); (simp only [Act.put, List.setIfInBounds_toArray, List.set_cons_zero, List.set_cons_succ]))
    | (refine sq1 rfl ?_ (fun _ _ _ _ h => h) hS ?_; (focus rfl); apply Exists.intro; constructor; (focus (intro w' hS'; obtain ⟨s0, s1, s2, s3, s4, s5⟩ := rule_cells hS'.1; go_simp; with_reducible rfl)); (simp only [Act.put, List.setIfInBounds_toArray, List.set_cons_zero, List.set_cons_succ]))
    | (refine sq1_off rfl ?_ (fun _ _ _ _ h => h) hS ?_; (focus rfl); (simp only [Act.put, List.setIfInBounds_toArray, List.set_cons_zero, List.set_cons_succ]))
    | (refine sq_call rfl Tryd.func31 (by kernel_rfl) rfl #[.string key, .string (keyB r.f2).1] rfl ?_ rfl ?_ ?_; (focus rfl); (focus ((try simp only [List.map_toArray, List.map_cons, List.map_nil]); first | done | rfl)); refine (under_c _ _ hk _).mono ?_; rintro e w2 ⟨rfl, hd⟩; refine ⟨_, rfl, Own.step hS hd.below, fun hS2 => ?_⟩; clear hd hS; have hS := hS2; clear hS2; (simp only [Act.put, List.setIfInBounds_toArray, List.set_cons_zero, List.set_cons_succ]))
    | (refine sq_call rfl Tryd.func88 (by kernel_rfl) rfl #[.string typ] rfl ?_ rfl ?_ ?_; (focus rfl); (focus ((try simp only [List.map_toArray, List.map_cons, List.map_nil]); first | done | rfl)); refine (lowered_c _ ht _).mono ?_; rintro e w2 ⟨rfl, hb⟩; refine ⟨_, rfl, Own.step hS hb, fun hS2 => ?_⟩; clear hb hS; have hS := hS2; clear hS2; (simp only [Act.put, List.setIfInBounds_toArray, List.set_cons_zero, List.set_cons_succ]))
    | (refine sq_call rfl Tryd.func87 (by kernel_rfl) rfl #[.slice A r.f4.length c, .string (lowS typ)] rfl ?_ rfl ?_ ?_; (focus rfl); (focus ((try simp only [List.map_toArray, List.map_cons, List.map_nil]); first | done | rfl)); refine (contains_c _ _ _ _ _ (Kd.C_below HR.out hS.2) hc).mono ?_; rintro e w2 ⟨rfl, rfl⟩; refine ⟨_, rfl, hS, fun hS2 => ?_⟩; clear hS2; (simp only [Act.put, List.setIfInBounds_toArray, List.set_cons_zero, List.set_cons_succ]))
    | (refine sq_off rfl ?_ hS ?_; (focus rfl); (simp only [Act.put, List.setIfInBounds_toArray, List.set_cons_zero, List.set_cons_succ])))
   refine sq_end ?_
   go_wp2
   go_meet
   case rel => exact ⟨by simp [notHereB, *], hS⟩
 case rest =>
  obtain ⟨rfl, hO⟩ := hcut
  cases hn : notHereB r key typ
  case true =>
   go_wp2
   go_ret
   exact ⟨ret_bool (by simp [speaksB, hn]), hO.2⟩
  obtain ⟨s0, s1, s2, s3, s4, s5⟩ := rule_cells hO.1
  have HS : Hid (speaksB r who key typ = whoB r who key) := Lib.hid (by simp [speaksB, hn])
  clear hn s2 s3 s4 s5
  by_cases e2 : r.f0 = 2
  ·have e2b : (r.f0 == 2) = true := by simp [e2]
   have HW : Hid (whoB r who key = (who.toList != [])) := Lib.hid (by simp [whoB, e2])
   clear e2
   go_wp2
   go_ret
   exact ⟨ret_bool (by rw [HS.out, HW.out]; cases who.toList <;> rfl), hO.2⟩
  have e2b : (r.f0 == 2) = false := by simp [e2]
  by_cases e3 : r.f0 = 3
  ·have e3b : (r.f0 == 3) = true := by simp [e3]
   have HW : Hid (whoB r who key = (who.toList == key.toList)) := Lib.hid (by simp [whoB, e3])
   clear e2 e3
   go_wp2
   go_ret
   exact ⟨ret_bool (by rw [HS.out, HW.out]), hO.2⟩
  have e3b : (r.f0 == 3) = false := by simp [e3]
  by_cases e4 : r.f0 = 4
  ·have e4b : (r.f0 == 4) = true := by simp [e4]
   have HW : Hid (whoB r who key = (who.toList == (keyB r.f1).1.toList)) := Lib.hid (by simp [whoB, e4])
   clear e2 e3 e4
   go_wp2_with (go_at_call 23; refine (key_c _ h1 _).mono ?_; rintro e w2 ⟨rfl, hb2⟩)
   go_ret
   exact ⟨ret_bool (by rw [HS.out, HW.out]), (hO.step hb2).2⟩
  have e4b : (r.f0 == 4) = false := by simp [e4]
  have HW : Hid (whoB r who key = true) := Lib.hid (by simp [whoB, e2, e3, e4])
  clear e2 e3 e4
  go_wp2
  go_ret
  exact ⟨ret_bool (by rw [HS.out, HW.out]), hO.2⟩
end Go.Proofs.YtflkghdndffacaaDoor.C
namespace Go.Proofs.YtflkghdndffacaaDoor.C
open Go.RowKit Go.Proofs.YtflkghdndffacaaDoor.Sq Go.Proofs.YtflkghdndffacaaDoor.H Go.Proofs.YtflkghdndffacaaDoor.PA Go.Proofs.YtflkghdndffacaaDoor.Pure Go.Proofs.YtflkghdndffacaaDoorW.PrintWords Go.Proofs.YtflkghdndffacaaDoorW.PrintLast Go.Proofs.YtflkghdndffacaaDoorW.PrintMore
set_option linter.unusedVariables false
theorem keyS_size (s : List UInt8) : (keyS s).1.size ≤ 1000000000 := by
 unfold keyS
 split
 ·rename_i h
  split
  ·have hm : mayB (parseL s).1 = true := parseS_may 8 s [] (s != []) (parseL s).1 (by rw [← h]; rfl)
   have h1 := text_len (keyL_modest (may_modest hm))
   have h2 := (mayB_iff.1 hm).2
   rw [keyL_length] at h1
   rw [B_size]
   show _ ≤ _
   omega
  ·simp [B_size]
 ·simp [B_size]
theorem keyB_size (s : ByteArray) : (keyB s).1.size ≤ 1000000000 := keyS_size _
theorem rule_at {w : World} {A : Option Addr} {n : Nat} {xs : List S54} (h : Kd.C k54 w A n xs) {k : Nat} {r : S54} (hr : xs[k]? = some r) : ∃ ad A4 c4, A = some ad ∧ w.cell? (ad.add (k * 6)) = some (.int .i64 r.f0) ∧ w.cell? ⟨(ad.add (k * 6)).block, (ad.add (k * 6)).off + 1, none⟩ = some (.string r.f1) ∧ w.cell? ⟨(ad.add (k * 6)).block, (ad.add (k * 6)).off + 2, none⟩ = some (.string r.f2) ∧ w.cell? ⟨(ad.add (k * 6)).block, (ad.add (k * 6)).off + 3, none⟩ = some (.bool r.f3) ∧ w.cell? ⟨(ad.add (k * 6)).block, (ad.add (k * 6)).off + 4, none⟩ = some (.slice A4 r.f4.length c4) ∧ w.cell? ⟨(ad.add (k * 6)).block, (ad.add (k * 6)).off + 5, none⟩ = some (.int .i64 r.f5) ∧ r.f4.length ≤ c4 ∧ Kd.string.C w A4 r.f4.length r.f4 := by
 have hk : k < xs.length := (List.getElem?_eq_some_iff.1 hr).1
 have hn : xs.length = n := h.1
 have e : rd_T54 xs (k : Int) = r := by simp [rd_T54, List.getD_eq_getElem?_getD, hr]
 have := at_T54 h (k : Int) (by omega) (by omega)
 rw [e] at this
 exact this
def rightB (rules : List S54) (who key typ : ByteArray) : Int := match rules.find? fun r => speaksB r who key typ with
 | some r => r.f5
 | none => 0
theorem right_here {rules : List S54} {who key typ : ByteArray} {k : Nat} {r : S54} (hr : rules[k]? = some r) (h : speaksB r who key typ = true) (HF : ∀ x ∈ rules.take k, speaksB x who key typ = false) : rightB rules who key typ = r.f5 := by
 have hk : k < rules.length := (List.getElem?_eq_some_iff.1 hr).1
 have e : rules = rules.take k ++ r :: rules.drop (k + 1) := by
  rw [← (List.getElem?_eq_some_iff.1 hr).2, List.getElem_cons_drop, List.take_append_drop]
 unfold rightB
 rw [e, List.find?_append, List.find?_eq_none.2 (by simpa using HF)]
 simp [h]
theorem right_none {rules : List S54} {who key typ : ByteArray} (HF : ∀ x ∈ rules.take rules.length, speaksB x who key typ = false) : rightB rules who key typ = 0 := by
 unfold rightB
 rw [List.take_length] at HF
 rw [List.find?_eq_none.2 (by simpa using HF)]
def RulesOk (rules : List S54) : Prop := ∀ r ∈ rules, r.f1.size ≤ 100000000 ∧ r.f2.size ≤ 100000000
set_option maxHeartbeats 2000000 in
theorem right_c (rules : List S54) (A : Option Addr) (c : Nat) (who dn typ : ByteArray) (at1 : Value) (w : World) (hr : Kd.C k54 w A rules.length rules) (hc : rules.length ≤ c) (hm : RulesOk rules) (hd : dn.size ≤ 100000000) (ht : typ.size ≤ 9223372036854775806) (h1 : at1.oneCell' = true) :
  Calls Tryd.prog 35 #[.slice A rules.length c, .string who, .agg #[.string dn, at1], .string typ] w fun e w' => e = .returned (.int .i64 (rightB rules who (keyB dn).1 typ)) ∧ Below w.heap.size w w' := by
 have hmax : rules.length ≤ 9223372036854775807 := hr.2.1
 have HR := Lib.hid hr
 clear hr
 have HM := Lib.hid hm
 clear hm
 go_enter Tryd.func35, Tryd.ntmps35
 go_wp2_with fail
 refine (key_c _ hd _).mono ?_
 rintro e w1 ⟨rfl, hb⟩
 have HB := Lib.hid (below_step ((Below.refl _ _).alloc (Nat.le_refl _) _) hb)
 have hks := keyB_size dn
 clear hb
 go_wp2
 go_loopw [21] (fun i wr => ∃ k : Nat, k ≤ rules.length ∧ i = .int .i64 k ∧ Hid (∀ x ∈ rules.take k, speaksB x who (keyB dn).1 typ = false) ∧ Hid (Below w.heap.size w wr)) (fun i _ => rules.length - (intOf i).toNat)
 case atStart => exact ⟨0, Nat.zero_le _, rfl, Lib.hid (by simp), HB⟩
 case round =>
  clear HB
  obtain ⟨k, hk, rfl, HF, HB⟩ := hrel
  by_cases hlt : k < rules.length
  ·obtain ⟨r, hy⟩ : ∃ r, rules[k]? = some r := ⟨_, List.getElem?_eq_getElem hlt⟩
   obtain ⟨m1, m2⟩ := HM.out r (List.mem_of_getElem? hy)
   obtain ⟨ad, A4, c4, e, x0, x1, x2, x3, x4, x5, hl4, hi4⟩ := rule_at (Kd.C_below HR.out HB.out) hy
   cases e
   have HY := Lib.hid hy
   clear hy
   have hlt' : (k : Int) < (rules.length : Int) := by omega
   go_wp2_with fail
   refine (speaks_c r A4 c4 who _ typ _ (Kd.C_below hi4 (below_alloc (Below.refl _ _) _)) hl4 m1 m2 hks ht).mono ?_
   rintro e w2 ⟨rfl, hb2⟩
   have HO : Own wr wr.heap.size (.cells (ruleV r A4 c4) 54 (0, 0)) w2 := Own.step ⟨heap_alloc_new wr _, (Below.refl _ _).alloc (Nat.le_refl _) _⟩ hb2
   have HB2 := Lib.hid (below_step HB.out HO.2)
   obtain ⟨s0, s1, s2, s3, s4, s5⟩ := rule_cells HO.1
   clear hb2 x0 x1 x2 x3 x4 x5 hl4 hi4 s0 s1 s2 s3 s4 HO HB
   cases hs : speaksB r who (keyB dn).1 typ
   ·go_wp2
    go_roundw
    case measure => simp [intOf]; omega
    case rel =>
     refine ⟨k + 1, by omega, by go_num, Lib.hid ?_, HB2⟩
     rw [List.take_add_one, HY.out]
     intro z hz
     rcases List.mem_append.1 hz with hz | hz
     ·exact HF.out z hz
     ·obtain rfl : z = r := by simpa using hz
      exact hs
   ·go_wp2
    go_ret
    exact ⟨ret_int (right_here HY.out hs HF.out).symm, HB2.out⟩
  ·obtain rfl : k = rules.length := by omega
   go_wp2
   go_ret
   exact ⟨ret_int (right_none HF.out).symm, HB.out⟩
end Go.Proofs.YtflkghdndffacaaDoor.C
namespace Go.Proofs.YtflkghdndffacaaDoor.C
open Go.RowKit Go.Proofs.YtflkghdndffacaaDoor.Sq Go.Proofs.YtflkghdndffacaaDoor.H Go.Proofs.YtflkghdndffacaaDoor.PA Go.Proofs.YtflkghdndffacaaDoor.PM Go.Proofs.YtflkghdndffacaaDoor.Pure Go.Proofs.YtflkghdndffacaaDoorW.PrintWords Go.Proofs.YtflkghdndffacaaDoorW.PrintLast Go.Proofs.YtflkghdndffacaaDoorW.PrintMore
set_option linter.unusedVariables false
def typeN (s : ByteArray) : Int := (match_rules.f s).getD 0
theorem rules_some (s : ByteArray) : match_rules.f s = some (typeN s) := by
 unfold typeN match_rules.f
 repeat' (split; · rfl)
 rfl
def canonB (s : ByteArray) : ByteArray × Bool := if typeN (lowS s) = 0 then (⟨#[]⟩, false) else (lowS s, true)
theorem canon_c (s : ByteArray) (hs : s.size ≤ 9223372036854775806) (w : World) : Calls Tryd.prog 92 #[.string s] w fun e w' => e = .returned (.tuple #[.string (canonB s).1, .bool (canonB s).2]) ∧ Below w.heap.size w w' := by
 refine match_Canon.calls s _ _ w ?_
 unfold match_Canon.f canonB
 rw [if_pos hs, rules_some]
 simp only [Option.bind_some]
 split <;> rfl
def whoOk (r : S54) : Bool := if r.f0 = 1 ∨ r.f0 = 2 ∨ r.f0 = 3 then r.f1.toList.isEmpty else if r.f0 = 4 then (keyB r.f1).2 && !r.f1.toList.isEmpty else false
set_option maxHeartbeats 2000000 in
theorem mayWho_c (r : S54) (A : Option Addr) (c : Nat) (w : World) (h1 : r.f1.size ≤ 100000000) : Calls Tryd.prog 93 #[.agg (ruleV r A c)] w fun e w' => e = .returned (.bool (whoOk r)) ∧ Below w.heap.size w w' := by
 unfold ruleV
 have HB := fun o => Lib.hid (below_alloc (Below.refl w.heap.size w) o)
 by_cases e1 : r.f0 = 1 ∨ r.f0 = 2 ∨ r.f0 = 3
 ·have HW : Hid (whoOk r = r.f1.toList.isEmpty) := Lib.hid (by unfold whoOk; rw [if_pos e1])
  rcases e1 with e1 | e1 | e1
  all_goals
   go_enter Tryd.func93, Tryd.ntmps93
   go_wp2
   go_ret
   exact ⟨ret_bool HW.out.symm, (HB _).out⟩
 ·have n1 : (r.f0 == 1) = false := by simp; omega
  have n2 : (r.f0 == 2) = false := by simp; omega
  have n3 : (r.f0 == 3) = false := by simp; omega
  by_cases e4 : r.f0 = 4
  ·have n4 : (r.f0 == 4) = true := by simp [e4]
   have HW : Hid (whoOk r = ((keyB r.f1).2 && !r.f1.toList.isEmpty)) := Lib.hid (by unfold whoOk; rw [if_neg e1, if_pos e4])
   clear e1 e4
   go_enter Tryd.func93, Tryd.ntmps93
   go_wp2_with fail
   refine (key_c _ h1 _).mono ?_
   rintro e w1 ⟨rfl, hb⟩
   have HO : Own w w.heap.size (.cells (ruleV r A c) 54 (0, 0)) w1 := Own.step ⟨heap_alloc_new w _, (Below.refl _ _).alloc (Nat.le_refl _) _⟩ hb
   obtain ⟨s0, s1, s2, s3, s4, s5⟩ := rule_cells HO.1
   clear hb
   cases hk : (keyB r.f1).2
   all_goals
    go_wp2
    go_ret
    exact ⟨ret_bool (by rw [HW.out, hk]; rfl), HO.2⟩
  ·have n4 : (r.f0 == 4) = false := by simp [e4]
   have HW : Hid (whoOk r = false) := Lib.hid (by unfold whoOk; rw [if_neg e1, if_neg e4])
   clear e1 e4
   go_enter Tryd.func93, Tryd.ntmps93
   go_wp2
   go_ret
   exact ⟨ret_bool HW.out.symm, (HB _).out⟩
def typeBad (s : ByteArray) : Bool := !(s.toList == [101, 110, 116, 114, 121]) && !((canonB s).2 && (canonB s).1.toList == s.toList)
set_option maxHeartbeats 2000000 in
theorem bad_c (s : ByteArray) (hs : s.size ≤ 9223372036854775806) (w : World) : Calls Tryd.prog 91 #[.string s] w fun e w' => e = .returned (.bool (typeBad s)) ∧ Below w.heap.size w w' := by
 have HT : Hid (typeBad s = (!(s.toList == [101, 110, 116, 114, 121]) && !((canonB s).2 && (canonB s).1.toList == s.toList))) := Lib.hid rfl
 cases h1 : s.toList == [101, 110, 116, 114, 121] <;> cases h2 : (canonB s).2
 all_goals
  go_enter Tryd.func91, Tryd.ntmps91
  go_wp2_with (go_at_call 92; refine (canon_c _ hs _).mono ?_; rintro e w2 ⟨rfl, hb2⟩)
  go_ret
  exact ⟨ret_bool (by rw [HT.out, h1, h2]; first | rfl | simp), hb2⟩
end Go.Proofs.YtflkghdndffacaaDoor.C
namespace Go.Proofs.YtflkghdndffacaaDoor.C
open Go.RowKit Go.Proofs.YtflkghdndffacaaDoor.Sq Go.Proofs.YtflkghdndffacaaDoor.H Go.Proofs.YtflkghdndffacaaDoor.PA Go.Proofs.YtflkghdndffacaaDoor.Pure Go.Proofs.YtflkghdndffacaaDoorW.PrintWords Go.Proofs.YtflkghdndffacaaDoorW.PrintLast Go.Proofs.YtflkghdndffacaaDoorW.PrintMore
set_option linter.unusedVariables false
def idxF {α : Type} (l : List α) (p : α → Bool) : Int := if l.any p then ((l.findIdx p : Nat) : Int) else -1
theorem idxF_here {α : Type} {l : List α} {p : α → Bool} {k : Nat} {y : α} (hy : l[k]? = some y) (he : p y = true) (HF : ∀ z ∈ l.take k, p z = false) : idxF l p = k := by
 have hk : k < l.length := (List.getElem?_eq_some_iff.1 hy).1
 have hm : l.any p = true := List.any_eq_true.2 ⟨y, List.mem_of_getElem? hy, he⟩
 unfold idxF
 rw [if_pos hm]
 congr 1
 apply (List.findIdx_eq hk).2
 refine ⟨by rw [(List.getElem?_eq_some_iff.1 hy).2]; exact he, fun j hj => ?_⟩
 have : l[j] ∈ l.take k := by rw [List.mem_take_iff_getElem]; exact ⟨j, by omega, rfl⟩
 simpa using HF _ this
theorem idxF_none {α : Type} {l : List α} {p : α → Bool} (HF : ∀ z ∈ l.take l.length, p z = false) : idxF l p = -1 := by
 unfold idxF
 rw [if_neg]
 intro h
 obtain ⟨y, hy, he⟩ := List.any_eq_true.1 h
 rw [List.take_length] at HF
 rw [HF y hy] at he
 cases he
theorem idxF_sign {α : Type} (l : List α) (p : α → Bool) : decide (0 ≤ idxF l p) = l.any p := by
 unfold idxF
 split <;> simp_all
theorem none_next {α : Type} {l : List α} {p : α → Bool} {k : Nat} {y : α} (hy : l[k]? = some y) (he : p y = false) (HF : ∀ z ∈ l.take k, p z = false) : ∀ z ∈ l.take (k + 1), p z = false := by
 rw [List.take_add_one, hy]
 intro z hz
 rcases List.mem_append.1 hz with hz | hz
 ·exact HF z hz
 ·obtain rfl : z = y := by simpa using hz
  exact he
set_option maxHeartbeats 2000000 in
theorem indexBad_c (A : Option Addr) (c : Nat) (l : List ByteArray) (w : World) (hr : Kd.C Kd.string w A l.length l) (hc : l.length ≤ c) (ht : ∀ s ∈ l, s.size ≤ 9223372036854775806) :
  Calls Tryd.prog 104 #[.slice A l.length c, .func (.func 91) #[] #[]] w fun e w' => e = .returned (.int .i64 (idxF l typeBad)) ∧ Below w.heap.size w w' := by
 have hmax : l.length ≤ 9223372036854775807 := hr.2.1
 have HR := Lib.hid hr
 have HT := Lib.hid ht
 clear hr ht
 go_enter Tryd.func104, Tryd.ntmps104
 go_wp2
 go_loopw [8] (fun i wr => ∃ k : Nat, k ≤ l.length ∧ i = .int .i64 k ∧ Hid (∀ y ∈ l.take k, typeBad y = false) ∧ Hid (Below w.heap.size w wr)) (fun i _ => l.length - (intOf i).toNat)
 case atStart => exact ⟨0, Nat.zero_le _, rfl, Lib.hid (by simp), Lib.hid (Below.refl _ _)⟩
 case round =>
  obtain ⟨k, hk, rfl, HF, HB⟩ := hrel
  by_cases hlt : k < l.length
  ·obtain ⟨y, hy⟩ : ∃ y, l[k]? = some y := ⟨_, List.getElem?_eq_getElem hlt⟩
   obtain ⟨ad, e, hcell⟩ := str_at (Kd.C_below HR.out HB.out) hy
   cases e
   have hys := HT.out y (List.mem_of_getElem? hy)
   have HY := Lib.hid hy
   clear hy
   have hlt' : (k : Int) < (l.length : Int) := by omega
   cases hs : typeBad y
   ·have HS := Lib.hid hs
    go_wp2_with (go_at_call 91; refine (bad_c y hys _).mono ?_; rintro e w2 ⟨rfl, hb2⟩)
    go_roundw
    case measure => simp [intOf]; omega
    case rel => exact ⟨k + 1, by omega, by go_num, Lib.hid (none_next HY.out HS.out HF.out), Lib.hid (below_step HB.out hb2)⟩
   ·have HS := Lib.hid hs
    go_wp2_with (go_at_call 91; refine (bad_c y hys _).mono ?_; rintro e w2 ⟨rfl, hb2⟩)
    go_ret
    exact ⟨ret_int (idxF_here HY.out HS.out HF.out).symm, below_step HB.out hb2⟩
  ·obtain rfl : k = l.length := by omega
   go_wp2
   go_ret
   exact ⟨ret_int (idxF_none HF.out).symm, HB.out⟩
set_option maxHeartbeats 1000000 in
theorem anyBad_c (A : Option Addr) (c : Nat) (l : List ByteArray) (w : World) (hr : Kd.C Kd.string w A l.length l) (hc : l.length ≤ c) (ht : ∀ s ∈ l, s.size ≤ 9223372036854775806) :
  Calls Tryd.prog 90 #[.slice A l.length c, .func (.func 91) #[] #[]] w fun e w' => e = .returned (.bool (l.any typeBad)) ∧ Below w.heap.size w w' := by
 have HS := Lib.hid (idxF_sign l typeBad)
 have HR := Lib.hid hr
 have HT := Lib.hid ht
 clear hr ht
 go_enter Tryd.func90, Tryd.ntmps90
 go_wp2_with (go_at_call 104; refine (indexBad_c _ _ _ _ HR.out hc HT.out).mono ?_; rintro e w' ⟨rfl, hb⟩)
 go_ret
 exact ⟨ret_bool HS.out, hb⟩
def mayRB (r : S54) : Bool := whoOk r && ((keyB r.f2).2 && (decide (r.f4.length ≤ 20) && (!(r.f4.any typeBad) && (decide (0 ≤ r.f5) && decide (r.f5 ≤ 2)))))
theorem seven {p : Prop} (b1 b2 b3 b4 b5 : Bool) (h1 : b1 = false → p) (h2 : b1 = true → b2 = false → p) (h3 : b1 = true → b2 = true → b3 = false → p) (h4 : b1 = true → b2 = true → b3 = true → b4 = true → p) (h5 : b1 = true → b2 = true → b3 = true → b4 = false → b5 = false → p) (h6 : b1 = true → b2 = true → b3 = true → b4 = false → b5 = true → p) : p := by
 cases b1 <;> cases b2 <;> cases b3 <;> cases b4 <;> cases b5 <;> simp_all
def RuleFine (r : S54) : Prop := r.f1.size ≤ 100000000 ∧ r.f2.size ≤ 100000000 ∧ ∀ s ∈ r.f4, s.size ≤ 9223372036854775806
set_option maxHeartbeats 4000000 in
theorem mayR_c (r : S54) (A : Option Addr) (c : Nat) (w : World) (hr : Kd.string.C w A r.f4.length r.f4) (hc : r.f4.length ≤ c) (hf : RuleFine r) : Calls Tryd.prog 66 #[.agg (ruleV r A c)] w fun e w' => e = .returned (.bool (mayRB r)) ∧ Below w.heap.size w w' := by
 have HR := Lib.hid hr
 have HF := Lib.hid hf
 have HM : Hid (mayRB r = (whoOk r && ((keyB r.f2).2 && (decide (r.f4.length ≤ 20) && (!(r.f4.any typeBad) && (decide (0 ≤ r.f5) && decide (r.f5 ≤ 2))))))) := Lib.hid rfl
 unfold ruleV
 clear hr hf
 go_enter Tryd.func66, Tryd.ntmps66
 go_wp2_with fail
 refine (key_c _ HF.out.2.1 _).mono ?_
 rintro e w1 ⟨rfl, hb⟩
 have HO : Own w w.heap.size (.cells (ruleV r A c) 54 (0, 0)) w1 := Own.step ⟨heap_alloc_new w _, (Below.refl _ _).alloc (Nat.le_refl _) _⟩ hb
 obtain ⟨s0, s1, s2, s3, s4, s5⟩ := rule_cells HO.1
 clear hb
 go_wp2_with fail
 refine (anyBad_c A c r.f4 _ (Kd.C_below HR.out HO.2) hc HF.out.2.2).mono ?_
 rintro e w2 ⟨rfl, hb⟩
 have HO2 := HO.step hb
 obtain ⟨u0, u1, u2, u3, u4, u5⟩ := rule_cells HO2.1
 clear hb HO s0 s1 s2 s3 s4 s5
 go_wp2_with fail
 refine (mayWho_c r A c _ HF.out.1).mono ?_
 rintro e w3 ⟨rfl, hb⟩
 have HO3 := HO2.step hb
 obtain ⟨s0, s1, s2, s3, s4, s5⟩ := rule_cells HO3.1
 clear hb HO2 u0 u1 u2 u3 u4 u5
 have hl : decide ((r.f4.length : Int) ≤ 20) = decide (r.f4.length ≤ 20) := by simp; omega
 refine seven (whoOk r) (keyB r.f2).2 (decide (r.f4.length ≤ 20)) (r.f4.any typeBad) (decide (0 ≤ r.f5)) ?_ ?_ ?_ ?_ ?_ ?_
 all_goals
  intros
  go_wp2
  go_ret
  exact ⟨ret_bool (by rw [HM.out]; simp [*]), HO3.2⟩
set_option maxHeartbeats 1000000 in
theorem notMay_c (r : S54) (A : Option Addr) (c : Nat) (w : World) (hr : Kd.string.C w A r.f4.length r.f4) (hc : r.f4.length ≤ c) (hf : RuleFine r) : Calls Tryd.prog 65 #[.agg (ruleV r A c)] w fun e w' => e = .returned (.bool (!mayRB r)) ∧ Below w.heap.size w w' := by
 have HR := Lib.hid hr
 have HF := Lib.hid hf
 unfold ruleV
 clear hr hf
 go_enter Tryd.func65, Tryd.ntmps65
 go_wp2_with fail
 refine (mayR_c r A c _ (Kd.C_below HR.out (below_alloc (Below.refl _ _) _)) hc HF.out).mono ?_
 rintro e w1 ⟨rfl, hb⟩
 go_wp2
 go_ret
 exact ⟨rfl, below_step (below_alloc (Below.refl _ _) _) hb⟩
set_option maxHeartbeats 4000000 in
theorem indexMay_c (A : Option Addr) (c : Nat) (l : List S54) (w : World) (hr : Kd.C k54 w A l.length l) (hc : l.length ≤ c) (ht : ∀ r ∈ l, RuleFine r) :
  Calls Tryd.prog 89 #[.slice A l.length c, .func (.func 65) #[] #[]] w fun e w' => e = .returned (.int .i64 (idxF l fun r => !mayRB r)) ∧ Below w.heap.size w w' := by
 have hmax : l.length ≤ 9223372036854775807 := hr.2.1
 have HR := Lib.hid hr
 have HT := Lib.hid ht
 clear hr ht
 go_enter Tryd.func89, Tryd.ntmps89
 go_wp2
 go_loopw [8] (fun i wr => ∃ k : Nat, k ≤ l.length ∧ i = .int .i64 k ∧ Hid (∀ y ∈ l.take k, (!mayRB y) = false) ∧ Hid (Below w.heap.size w wr)) (fun i _ => l.length - (intOf i).toNat)
 case atStart => exact ⟨0, Nat.zero_le _, rfl, Lib.hid (by simp), Lib.hid (Below.refl _ _)⟩
 case round =>
  obtain ⟨k, hk, rfl, HF, HB⟩ := hrel
  by_cases hlt : k < l.length
  ·obtain ⟨y, hy⟩ : ∃ y, l[k]? = some y := ⟨_, List.getElem?_eq_getElem hlt⟩
   obtain ⟨ad, A4, c4, e, x0, x1, x2, x3, x4, x5, hl4, hi4⟩ := rule_at (Kd.C_below HR.out HB.out) hy
   cases e
   have hys := Lib.hid (HT.out y (List.mem_of_getElem? hy))
   have HY := Lib.hid hy
   clear hy
   have hlt' : (k : Int) < (l.length : Int) := by omega
   cases hs : mayRB y
   ·have HS := Lib.hid hs
    go_wp2_with (go_at_call 65; refine (notMay_c y A4 c4 _ hi4 hl4 hys.out).mono ?_; rintro e w2 ⟨rfl, hb2⟩)
    go_ret
    exact ⟨ret_int (idxF_here (p := fun r => !mayRB r) HY.out (by simp [HS.out]) HF.out).symm, below_step HB.out hb2⟩
   ·have HS := Lib.hid hs
    go_wp2_with (go_at_call 65; refine (notMay_c y A4 c4 _ hi4 hl4 hys.out).mono ?_; rintro e w2 ⟨rfl, hb2⟩)
    go_roundw
    case measure => simp [intOf]; omega
    case rel => exact ⟨k + 1, by omega, by go_num, Lib.hid (none_next (p := fun r => !mayRB r) HY.out (by simp [HS.out]) HF.out), Lib.hid (below_step HB.out hb2)⟩
  ·obtain rfl : k = l.length := by omega
   go_wp2
   go_ret
   exact ⟨ret_int (idxF_none (p := fun r => !mayRB r) HF.out).symm, HB.out⟩
set_option maxHeartbeats 1000000 in
theorem anyMay_c (A : Option Addr) (c : Nat) (l : List S54) (w : World) (hr : Kd.C k54 w A l.length l) (hc : l.length ≤ c) (ht : ∀ r ∈ l, RuleFine r) :
  Calls Tryd.prog 64 #[.slice A l.length c, .func (.func 65) #[] #[]] w fun e w' => e = .returned (.bool (l.any fun r => !mayRB r)) ∧ Below w.heap.size w w' := by
 have HS := Lib.hid (idxF_sign l fun r => !mayRB r)
 have HR := Lib.hid hr
 have HT := Lib.hid ht
 clear hr ht
 go_enter Tryd.func64, Tryd.ntmps64
 go_wp2_with (go_at_call 89; refine (indexMay_c _ _ _ _ HR.out hc HT.out).mono ?_; rintro e w' ⟨rfl, hb⟩)
 go_ret
 exact ⟨ret_bool HS.out, hb⟩
def mayB1 (l : List S54) : Bool := decide (l.length ≤ 40) && !(l.any fun r => !mayRB r)
set_option maxHeartbeats 1000000 in
theorem may_c (A : Option Addr) (c : Nat) (l : List S54) (w : World) (hr : Kd.C k54 w A l.length l) (hc : l.length ≤ c) (ht : ∀ r ∈ l, RuleFine r) :
  Calls Tryd.prog 39 #[.slice A l.length c] w fun e w' => e = .returned (.bool (mayB1 l)) ∧ Below w.heap.size w w' := by
 have HM : Hid (mayB1 l = (decide (l.length ≤ 40) && !(l.any fun r => !mayRB r))) := Lib.hid rfl
 have HR := Lib.hid hr
 have HT := Lib.hid ht
 clear hr ht
 by_cases hl : l.length ≤ 40
 ·have hd : decide ((l.length : Int) ≤ 40) = true := by simp; omega
  have HD : Hid (decide (l.length ≤ 40) = true) := Lib.hid (by simpa using hl)
  go_enter Tryd.func39, Tryd.ntmps39
  go_wp2_with (go_at_call 64; refine (anyMay_c _ _ _ _ HR.out hc HT.out).mono ?_; rintro e w' ⟨rfl, hb⟩)
  go_ret
  exact ⟨ret_bool (by rw [HM.out, HD.out]; rfl), hb⟩
 ·have hd : decide ((l.length : Int) ≤ 40) = false := by simp; omega
  have HD : Hid (decide (l.length ≤ 40) = false) := Lib.hid (by simpa using hl)
  go_enter Tryd.func39, Tryd.ntmps39
  go_wp2
  go_ret
  exact ⟨ret_bool (by rw [HM.out, HD.out]; rfl), Below.refl _ _⟩
end Go.Proofs.YtflkghdndffacaaDoor.C
namespace Go.Proofs.YtflkghdndffacaaDoor.C
open Go.RowKit Go.Proofs.YtflkghdndffacaaDoor.Sq Go.Proofs.YtflkghdndffacaaDoor.H Go.Proofs.YtflkghdndffacaaDoor.PA Go.Proofs.YtflkghdndffacaaDoor.Pure Go.Proofs.YtflkghdndffacaaDoorW.PrintWords Go.Proofs.YtflkghdndffacaaDoorW.PrintLast Go.Proofs.YtflkghdndffacaaDoorW.PrintMore
set_option linter.unusedVariables false
theorem field45_0 (a : ByteArray) (b : Bool) (w : World) : (Instr.field 45 (.agg #[.string a, .bool b]) 0).run Tryd.prog w = .ok (.string a) w := by kernel_rfl
theorem rkey_v {s k1 : ByteArray} {k2 : Bool} (h : keyB s = (k1, k2)) (hs : s.size ≤ 1000000) (w : World) : Calls Tryd.prog 27 #[.string s] w fun e w' => e = .returned (.agg #[.string k1, .bool k2]) ∧ Below w.heap.size w w' := by
 have := rkey_c s hs w
 rwa [h] at this
theorem key_pair (s : ByteArray) : ∃ k1 k2, keyB s = (k1, k2) := ⟨_, _, rfl⟩
set_option maxHeartbeats 1000000 in
theorem ekey_c (dn : ByteArray) (at1 : Value) (w : World) (hd : dn.size ≤ 1000000) (h1 : at1.oneCell' = true) :
  Calls Tryd.prog 37 #[.agg #[.string dn, at1]] w fun e w' => e = .returned (.string (keyB dn).1) ∧ Below w.heap.size w w' := by
 obtain ⟨k1, k2, hk⟩ := key_pair dn
 rw [hk]
 have HK := Lib.hid (rkey_v hk hd)
 clear hd hk
 have hf45 := field45_0
 go_enter Tryd.func37, Tryd.ntmps37
 go_wp2_with (go_at_call 27; refine (HK.out _).mono ?_; rintro e w2 ⟨rfl, hb2⟩)
 go_ret
 exact ⟨rfl, below_step (below_alloc (Below.refl _ _) _) hb2⟩
theorem lower_c (s : ByteArray) (hs : s.size ≤ 9223372036854775806) (w : World) : Calls Tryd.prog 24 #[.string s] w fun e w' => e = .returned (.string (lowS s)) ∧ Below w.heap.size w w' := brookref1_Lower.calls s _ w (by unfold brookref1_Lower.f; rw [if_pos hs])
end Go.Proofs.YtflkghdndffacaaDoor.C
namespace Go.Proofs.YtflkghdndffacaaDoor.C
open Go.RowKit Go.Proofs.YtflkghdndffacaaDoor.H Go.Proofs.YtflkghdndffacaaDoor.PD Go.Proofs.YtflkghdndffacaaDoor.Pure Go.Proofs.YtflkghdndffacaaDoorW.PrintWords Go.Proofs.YtflkghdndffacaaDoorW.PrintLast Go.Proofs.YtflkghdndffacaaDoorW.PrintMore
set_option linter.unusedVariables false
def RowOut (w : World) (l : List ByteArray) (e : Ending) (w' : World) : Prop := ∃ v, e = .returned v ∧ Kd.R Kd.string 9 w' w.heap.size (fun _ => True) v l ∧ Below w.heap.size w w'
set_option maxHeartbeats 1000000 in
set_option maxRecDepth 100000 in
theorem clone_c (A : Option Addr) (c : Nat) (l : List ByteArray) (w : World) (hr : Kd.C Kd.string w A l.length l) (hc : l.length ≤ c) (hb : l.length * 16 ≤ 140737488355328) :
  Calls Tryd.prog 68 #[.slice A l.length c] w (RowOut w l) := by
 have HR := Lib.hid hr
 have HL := Lib.hid hb
 clear hr hb
 cases A with
 | none =>
  obtain rfl : l = [] := by
   cases l with
   | nil => rfl
   | cons x l => obtain ⟨ad, e, _⟩ := HR.out.2.2 (by simp); cases e
  have heq := fun W : World => Lib.run_eql_slice_nil (P := Tryd.prog) W 28 9 none 0 c 0 0 Tryd.underlying28
  go_enter Tryd.func68, Tryd.ntmps68
  go_wp2
  go_ret
  exact ⟨_, rfl, Kd.R_nil _ _ _ _ _, Below.refl _ _⟩
 | some ad =>
  have heq := fun W : World => Lib.run_eql_slice_nil (P := Tryd.prog) W 28 9 (some ad) l.length c 0 0 Tryd.underlying28
  go_enter Tryd.func68, Tryd.ntmps68
  go_wp2_with (at_builtin; refine Kd.R_append_row (w0 := w) (h1 := fun _ => rfl) (W := w.alloc (.cells #[] 9)) Value.string ByteArray.empty w.heap.size rfl (.tmp 5) (.tmp 6) 28 9 (.string ⟨#[]⟩) 16 rfl Tryd.underlying28 PA.info9 rfl (by decide) _ [] l (some ad) l.length c (fun _ => True) rfl rfl (fun _ _ => trivial) (Kd.R_of_own (own_lit_of (enc := Value.string) w w.heap.size 9 [] (Nat.le_refl _) (by decide)) (fun _ _ => trivial)) (Kd.C_below HR.out (below_alloc (Below.refl _ _) _)) (below_alloc (Below.refl _ _) _) (by simp) (by have := HL.out; simpa using this) ?_; intro v1 w1 hR hB _ _)
  go_ret
  exact ⟨_, rfl, hR, hB⟩
end Go.Proofs.YtflkghdndffacaaDoor.C
namespace Go.Proofs.YtflkghdndffacaaDoor.C
open Go.RowKit Go.Proofs.YtflkghdndffacaaDoor.Sq Go.Proofs.YtflkghdndffacaaDoor.H Go.Proofs.YtflkghdndffacaaDoor.PA Go.Proofs.YtflkghdndffacaaDoor.PM Go.Proofs.YtflkghdndffacaaDoor.Pure Go.Proofs.YtflkghdndffacaaDoorW.PrintWords Go.Proofs.YtflkghdndffacaaDoorW.PrintLast Go.Proofs.YtflkghdndffacaaDoorW.PrintMore
set_option linter.unusedVariables false
theorem low_low (s : ByteArray) : lowS (lowS s) = lowS s := by
 unfold lowS
 simp only [lowL_lowL]
theorem low_size (s : ByteArray) : (lowS s).size = s.size := by
 have : (lowS s).size = (lowL (bl s)).length := by
  unfold lowS
  exact B_size _
 rw [this, lowL_length, bl_len]
set_option maxHeartbeats 4000000 in
theorem rrule_c (s : ByteArray) (hs : s.size ≤ 9223372036854775806) (w : World) : Calls Tryd.prog 102 #[.string s] w fun e w' => e = .returned (.int .i64 (typeN (lowS s))) ∧ Below w.heap.size w w' := by
 have HN : ∀ t : ByteArray, Hid (typeN t = (match_rules.f t).getD 0) := fun t => Lib.hid rfl
 generalize hg : lowS s = t
 have HL := Lib.hid (fun W => lower_c s hs W)
 rw [hg] at HL
 clear hg
 by_cases h0 : t.toList = [111, 98, 106, 101, 99, 116, 99, 108, 97, 115, 115]
 ·have HT : Hid (typeN t = 1) := Lib.hid (by rw [(HN t).out]; simp [match_rules.f, h0])
  go_enter Tryd.func102, Tryd.ntmps102
  go_wp2_with (go_at_call 24; refine (HL.out _).mono ?_; rintro e w' ⟨rfl, hb⟩)
  go_ret
  exact ⟨ret_int HT.out.symm, hb⟩
 have g0 : (t.toList == [111, 98, 106, 101, 99, 116, 99, 108, 97, 115, 115]) = false := by simpa using h0
 by_cases h1 : t.toList = [99, 110]
 ·have HT : Hid (typeN t = 1) := Lib.hid (by rw [(HN t).out]; simp [match_rules.f, h1])
  clear g0
  go_enter Tryd.func102, Tryd.ntmps102
  go_wp2_with (go_at_call 24; refine (HL.out _).mono ?_; rintro e w' ⟨rfl, hb⟩)
  go_ret
  exact ⟨ret_int HT.out.symm, hb⟩
 have g1 : (t.toList == [99, 110]) = false := by simpa using h1
 by_cases h2 : t.toList = [115, 110]
 ·have HT : Hid (typeN t = 1) := Lib.hid (by rw [(HN t).out]; simp [match_rules.f, h2])
  clear g0 g1
  go_enter Tryd.func102, Tryd.ntmps102
  go_wp2_with (go_at_call 24; refine (HL.out _).mono ?_; rintro e w' ⟨rfl, hb⟩)
  go_ret
  exact ⟨ret_int HT.out.symm, hb⟩
 have g2 : (t.toList == [115, 110]) = false := by simpa using h2
 by_cases h3 : t.toList = [111]
 ·have HT : Hid (typeN t = 1) := Lib.hid (by rw [(HN t).out]; simp [match_rules.f, h3])
  clear g0 g1 g2
  go_enter Tryd.func102, Tryd.ntmps102
  go_wp2_with (go_at_call 24; refine (HL.out _).mono ?_; rintro e w' ⟨rfl, hb⟩)
  go_ret
  exact ⟨ret_int HT.out.symm, hb⟩
 have g3 : (t.toList == [111]) = false := by simpa using h3
 by_cases h4 : t.toList = [111, 117]
 ·have HT : Hid (typeN t = 1) := Lib.hid (by rw [(HN t).out]; simp [match_rules.f, h4])
  clear g0 g1 g2 g3
  go_enter Tryd.func102, Tryd.ntmps102
  go_wp2_with (go_at_call 24; refine (HL.out _).mono ?_; rintro e w' ⟨rfl, hb⟩)
  go_ret
  exact ⟨ret_int HT.out.symm, hb⟩
 have g4 : (t.toList == [111, 117]) = false := by simpa using h4
 by_cases h5 : t.toList = [117, 105, 100]
 ·have HT : Hid (typeN t = 1) := Lib.hid (by rw [(HN t).out]; simp [match_rules.f, h5])
  clear g0 g1 g2 g3 g4
  go_enter Tryd.func102, Tryd.ntmps102
  go_wp2_with (go_at_call 24; refine (HL.out _).mono ?_; rintro e w' ⟨rfl, hb⟩)
  go_ret
  exact ⟨ret_int HT.out.symm, hb⟩
 have g5 : (t.toList == [117, 105, 100]) = false := by simpa using h5
 by_cases h6 : t.toList = [109, 97, 105, 108]
 ·have HT : Hid (typeN t = 1) := Lib.hid (by rw [(HN t).out]; simp [match_rules.f, h6])
  clear g0 g1 g2 g3 g4 g5
  go_enter Tryd.func102, Tryd.ntmps102
  go_wp2_with (go_at_call 24; refine (HL.out _).mono ?_; rintro e w' ⟨rfl, hb⟩)
  go_ret
  exact ⟨ret_int HT.out.symm, hb⟩
 have g6 : (t.toList == [109, 97, 105, 108]) = false := by simpa using h6
 by_cases h7 : t.toList = [100, 101, 115, 99, 114, 105, 112, 116, 105, 111, 110]
 ·have HT : Hid (typeN t = 1) := Lib.hid (by rw [(HN t).out]; simp [match_rules.f, h7])
  clear g0 g1 g2 g3 g4 g5 g6
  go_enter Tryd.func102, Tryd.ntmps102
  go_wp2_with (go_at_call 24; refine (HL.out _).mono ?_; rintro e w' ⟨rfl, hb⟩)
  go_ret
  exact ⟨ret_int HT.out.symm, hb⟩
 have g7 : (t.toList == [100, 101, 115, 99, 114, 105, 112, 116, 105, 111, 110]) = false := by simpa using h7
 by_cases h8 : t.toList = [117, 105, 100, 110, 117, 109, 98, 101, 114]
 ·have HT : Hid (typeN t = 2) := Lib.hid (by rw [(HN t).out]; simp [match_rules.f, h8])
  clear g0 g1 g2 g3 g4 g5 g6 g7
  go_enter Tryd.func102, Tryd.ntmps102
  go_wp2_with (go_at_call 24; refine (HL.out _).mono ?_; rintro e w' ⟨rfl, hb⟩)
  go_ret
  exact ⟨ret_int HT.out.symm, hb⟩
 have g8 : (t.toList == [117, 105, 100, 110, 117, 109, 98, 101, 114]) = false := by simpa using h8
 by_cases h9 : t.toList = [109, 101, 109, 98, 101, 114]
 ·have HT : Hid (typeN t = 3) := Lib.hid (by rw [(HN t).out]; simp [match_rules.f, h9])
  clear g0 g1 g2 g3 g4 g5 g6 g7 g8
  go_enter Tryd.func102, Tryd.ntmps102
  go_wp2_with (go_at_call 24; refine (HL.out _).mono ?_; rintro e w' ⟨rfl, hb⟩)
  go_ret
  exact ⟨ret_int HT.out.symm, hb⟩
 have g9 : (t.toList == [109, 101, 109, 98, 101, 114]) = false := by simpa using h9
 by_cases h10 : t.toList = [117, 115, 101, 114, 112, 97, 115, 115, 119, 111, 114, 100]
 ·have HT : Hid (typeN t = 4) := Lib.hid (by rw [(HN t).out]; simp [match_rules.f, h10])
  clear g0 g1 g2 g3 g4 g5 g6 g7 g8 g9
  go_enter Tryd.func102, Tryd.ntmps102
  go_wp2_with (go_at_call 24; refine (HL.out _).mono ?_; rintro e w' ⟨rfl, hb⟩)
  go_ret
  exact ⟨ret_int HT.out.symm, hb⟩
 have g10 : (t.toList == [117, 115, 101, 114, 112, 97, 115, 115, 119, 111, 114, 100]) = false := by simpa using h10
 have HT : Hid (typeN t = 0) := Lib.hid (by rw [(HN t).out]; simp [match_rules.f, h0, h1, h2, h3, h4, h5, h6, h7, h8, h9, h10])
 clear h0 h1 h2 h3 h4 h5 h6 h7 h8 h9 h10
 go_enter Tryd.func102, Tryd.ntmps102
 go_wp2_with (go_at_call 24; refine (HL.out _).mono ?_; rintro e w' ⟨rfl, hb⟩)
 go_ret
 exact ⟨ret_int HT.out.symm, hb⟩
set_option maxHeartbeats 2000000 in
theorem rcanon_c (s : ByteArray) (hs : s.size ≤ 9223372036854775806) (w : World) : Calls Tryd.prog 86 #[.string s] w fun e w' => e = .returned (.agg #[.string (canonB s).1, .bool (canonB s).2]) ∧ Below w.heap.size w w' := by
 have hs2 : (lowS s).size ≤ 9223372036854775806 := by rw [low_size]; exact hs
 have HC : Hid (canonB s = if typeN (lowS s) = 0 then (⟨#[]⟩, false) else (lowS s, true)) := Lib.hid rfl
 have HL := Lib.hid (fun W => lower_c s hs W)
 have HR := Lib.hid (fun W => rrule_c (lowS s) hs2 W)
 rw [low_low] at HR
 generalize lowS s = t at *
 generalize typeN t = n at *
 generalize canonB s = r at *
 clear hs hs2
 go_enter Tryd.func86, Tryd.ntmps86
 go_wp2_with fail
 refine (HL.out _).mono ?_
 rintro e w1 ⟨rfl, hb⟩
 have HO : Own w w.heap.size (.cells #[.string ⟨#[]⟩, .bool false] 45 (0, 0)) w1 := Own.step ⟨heap_alloc_new w _, (Below.refl _ _).alloc (Nat.le_refl _) _⟩ hb
 clear hb
 go_wp2_with fail
 refine (HR.out _).mono ?_
 rintro e w2 ⟨rfl, hb⟩
 have HO2 := HO.step hb
 clear hb HO
 have s0 : w2.cell? ⟨w.heap.size, 0, none⟩ = some (.string ⟨#[]⟩) := blk_cell HO2.1 0
 have s1 : w2.cell? ⟨w.heap.size, 1, none⟩ = some (.bool false) := blk_cell HO2.1 1
 have f0 := blk_frozen HO2.1 0
 have f1 := blk_frozen HO2.1 1
 by_cases h0 : n = 0
 ·have HX : Hid (r = (⟨#[]⟩, false)) := Lib.hid (by rw [HC.out, if_pos h0])
  subst h0
  go_wp2
  refine bodyPost_ret (results_cell_row rfl _ _ w.heap.size 45 #[.string ⟨#[]⟩, .bool false] (0, 0) _ rfl (blk_put (blk_put HO2.1 0 (.string ⟨#[]⟩) rfl) 1 (.bool false) rfl) Tryd.underlying45 rfl (by kernel_rfl)) rfl ?_
  rw [HX.out]
  exact ⟨rfl, below_set (below_set HO2.2 (Nat.le_refl _)) (Nat.le_refl _)⟩
 ·have h0b : (n == 0) = false := by simpa using h0
  have HX : Hid (r = (t, true)) := Lib.hid (by rw [HC.out, if_neg h0])
  clear h0
  go_wp2
  refine bodyPost_ret (results_cell_row rfl _ _ w.heap.size 45 #[.string t, .bool true] (0, 0) _ rfl (blk_put (blk_put HO2.1 0 (.string t) rfl) 1 (.bool true) rfl) Tryd.underlying45 rfl (by kernel_rfl)) rfl ?_
  rw [HX.out]
  exact ⟨rfl, below_set (below_set HO2.2 (Nat.le_refl _)) (Nat.le_refl _)⟩
def namesL : List ByteArray := [⟨#[111, 61, 120]⟩, ⟨#[111, 117, 61, 97, 44, 111, 61, 120]⟩, ⟨#[111, 117, 61, 98, 44, 111, 61, 120]⟩, ⟨#[99, 110, 61, 110, 48, 44, 111, 117, 61, 97, 44, 111, 61, 120]⟩, ⟨#[99, 110, 61, 110, 49, 44, 111, 117, 61, 97, 44, 111, 61, 120]⟩, ⟨#[99, 110, 61, 110, 50, 44, 111, 117, 61, 98, 44, 111, 61, 120]⟩, ⟨#[99, 110, 61, 110, 51, 44, 111, 61, 120]⟩, ⟨#[99, 110, 61, 110, 52]⟩, ⟨#[111, 117, 61, 99, 44, 111, 117, 61, 97, 44, 111, 61, 120]⟩, ⟨#[99, 110, 61, 110, 53, 44, 111, 117, 61, 99, 44, 111, 117, 61, 97, 44, 111, 61, 120]⟩, ⟨#[111, 61, 121]⟩, ⟨#[99, 110, 61, 110, 48, 44, 111, 61, 121]⟩]
set_option maxHeartbeats 1000000 in
set_option maxRecDepth 100000 in
theorem names_c (w : World) : Calls Tryd.prog 38 #[] w (RowOut w namesL) := by
 go_enter Tryd.func38, Tryd.ntmps38
 go_wp2
 go_ret
 exact ⟨_, rfl, Kd.R_of_own (own_lit_of (enc := Value.string) w w.heap.size 9 namesL (Nat.le_refl _) (by decide)) (fun _ _ => trivial), below_alloc (Below.refl _ _) _⟩
end Go.Proofs.YtflkghdndffacaaDoor.C
namespace Go.Proofs.YtflkghdndffacaaDoor.C
open Go.RowKit Go.Proofs.YtflkghdndffacaaDoor.Sq Go.Proofs.YtflkghdndffacaaDoor.H Go.Proofs.YtflkghdndffacaaDoor.PA Go.Proofs.YtflkghdndffacaaDoor.Pure Go.Proofs.YtflkghdndffacaaDoorW.PrintWords Go.Proofs.YtflkghdndffacaaDoorW.PrintLast Go.Proofs.YtflkghdndffacaaDoorW.PrintMore
set_option linter.unusedVariables false
def ShortOut (w : World) (e : Ending) (w' : World) : Prop := ∃ s : ByteArray, s.size ≤ 3 ∧ e = .returned (.string s) ∧ Below w.heap.size w w'
def Fits (u : Int) (s : ByteArray) : Prop := (s.size = 0 ∧ u ≤ 255) ∨ (s.size = 1 ∧ u ≤ 25) ∨ (s.size = 2 ∧ u ≤ 2)
theorem Fits.next {u : Int} {s : ByteArray} {d : Int} (h : Fits u s) (h0 : 10 ≤ u) : Fits (u / 10) (strOfNums [d] ++ s) := by
 unfold Fits at *
 rw [ByteArray.size_append]
 have : (strOfNums [d]).size = 1 := rfl
 omega
set_option maxHeartbeats 2000000 in
set_option maxRecDepth 100000 in
theorem digits_c (n : Int) (h0 : 0 ≤ n) (h1 : n ≤ 255) (w : World) : Calls Tryd.prog 61 #[.int .i64 n] w (ShortOut w) := by
 have hn0 : decide (n < 0) = false := by simp; omega
 go_enter Tryd.func61, Tryd.ntmps61
 go_wp2
 go_loopw [3, 4] (fun x y wr => ∃ (u : Int) (s : ByteArray), 0 ≤ u ∧ u ≤ 255 ∧ x = .int .u64 u ∧ y = .string s ∧ Hid (Fits u s) ∧ Hid (Below w.heap.size w wr)) (fun x _ _ => (intOf x).toNat)
 case atStart => exact ⟨n, ⟨#[]⟩, h0, h1, rfl, rfl, Lib.hid (Or.inl ⟨rfl, h1⟩), Lib.hid (Below.refl _ _)⟩
 case round =>
  obtain ⟨u, s, hu0, hu1, rfl, rfl, HF, HB⟩ := hrel
  by_cases hlt : 10 ≤ u
  ·have hd : decide ((10 : Int) ≤ u) = true := by simp; omega
   have hcv : (convert 29 9 (.slice (some ⟨wr.heap.size, 0, none⟩) 1 1)).run Tryd.prog (wr.alloc (.cells #[.int .u8 (48 + u % 10)] 5)) = .ok (.string (strOfNums [48 + u % 10])) (wr.alloc (.cells #[.int .u8 (48 + u % 10)] 5)) := own_string Tryd.underlying29 Tryd.underlying5 Tryd.underlying9 (own_lit wr wr.heap.size 5 .u8 [48 + u % 10] (Nat.le_refl _) (by simp))
   have hz : (strOfNums [48 + u % 10]).size = 1 := rfl
   have hs : s.size ≤ 2 := by rcases HF.out with h | h | h <;> omega
   have HB2 := Lib.hid (below_step HB.out (below_alloc (Below.refl wr.heap.size wr) (.cells #[.int .u8 (48 + u % 10)] 5)))
   have HF2 := Lib.hid (HF.out.next (d := 48 + u % 10) hlt)
   clear HF HB
   go_wp2
   go_roundw
   case measure => simp [intOf]; omega
   case rel => exact ⟨u / 10, _, by omega, by omega, rfl, rfl, HF2, HB2⟩
  ·have hd : decide ((10 : Int) ≤ u) = false := by simp; omega
   have hcv : (convert 29 9 (.slice (some ⟨wr.heap.size, 0, none⟩) 1 1)).run Tryd.prog (wr.alloc (.cells #[.int .u8 (48 + u)] 5)) = .ok (.string (strOfNums [48 + u])) (wr.alloc (.cells #[.int .u8 (48 + u)] 5)) := own_string Tryd.underlying29 Tryd.underlying5 Tryd.underlying9 (own_lit wr wr.heap.size 5 .u8 [48 + u] (Nat.le_refl _) (by simp))
   have hz : (strOfNums [48 + u]).size = 1 := rfl
   have hs : s.size ≤ 2 := by rcases HF.out with h | h | h <;> omega
   have HB2 := Lib.hid (below_step HB.out (below_alloc (Below.refl wr.heap.size wr) (.cells #[.int .u8 (48 + u)] 5)))
   clear HF HB
   go_wp2
   go_ret
   refine ⟨_, ?_, rfl, HB2.out⟩
   show (strOfNums [48 + u] ++ s).size ≤ 3
   rw [ByteArray.size_append]
   omega
end Go.Proofs.YtflkghdndffacaaDoor.C
namespace Go.Proofs.YtflkghdndffacaaDoor.C
open Go.RowKit Go.Proofs.YtflkghdndffacaaDoor.Sq Go.Proofs.YtflkghdndffacaaDoor.H Go.Proofs.YtflkghdndffacaaDoor.PA Go.Proofs.YtflkghdndffacaaDoor.Pure Go.Proofs.YtflkghdndffacaaDoorW.PrintWords Go.Proofs.YtflkghdndffacaaDoorW.PrintLast Go.Proofs.YtflkghdndffacaaDoorW.PrintMore
set_option linter.unusedVariables false
theorem attr_at {w : World} {A : Option Addr} {n : Nat} {xs : List S69} (h : Kd.C k69 w A n xs) {k : Nat} {r : S69} (hr : xs[k]? = some r) : ∃ ad A1 c1, A = some ad ∧ w.cell? (ad.add (k * 2)) = some (.string r.f0) ∧ w.cell? ⟨(ad.add (k * 2)).block, (ad.add (k * 2)).off + 1, none⟩ = some (.slice A1 r.f1.length c1) ∧ r.f1.length ≤ c1 ∧ Kd.string.C w A1 r.f1.length r.f1 := by
 have hk : k < xs.length := (List.getElem?_eq_some_iff.1 hr).1
 have hn : xs.length = n := h.1
 have e : rd_T69 xs (k : Int) = r := by simp [rd_T69, List.getD_eq_getElem?_getD, hr]
 have := at_T69 h (k : Int) (by omega) (by omega)
 rw [e] at this
 exact this
theorem cell_alloc {w : World} {a : Addr} {v : Value} (h : w.cell? a = some v) (o : Obj) : (w.alloc o).cell? a = some v := (World.cell?_alloc_lt w o a (World.block_lt_of_cell? w a h)).trans h
def AttrsOk (l : List S69) : Prop := l.length ≤ 1000000 ∧ ∀ a ∈ l, a.f0.size ≤ 1000000000 ∧ a.f1.length ≤ 1000000
def seesB (rules : List S54) (who key : ByteArray) (a : S69) : Bool := decide (1 ≤ rightB rules who key a.f0)
def viewB (rules : List S54) (who key : ByteArray) (l : List S69) : List S69 := l.filter (seesB rules who key)
def EntryOut (w : World) (dn : ByteArray) (l : List S69) (e : Ending) (w' : World) : Prop := ∃ A c, e = .returned (.agg #[.string dn, .slice A l.length c]) ∧ l.length ≤ c ∧ Kd.C k69 w' A l.length l ∧ Below w.heap.size w w'
def Vw (w : World) (dn : ByteArray) (a1 v : Value) (W : World) : Prop := W.heap[w.heap.size]? = some (.cells #[.string dn, a1] 51 (0, 0)) ∧ W.heap[w.heap.size + 1]? = some (.cells #[.string ⟨#[]⟩, .slice none 0 0] 51 (0, 0)) ∧ W.heap[w.heap.size + 1 + 1]? = some (.cells #[.string dn, v] 51 (0, 0)) ∧ Below w.heap.size w W
theorem Vw.step {w W W1 : World} {dn : ByteArray} {a1 v : Value} (h : Vw w dn a1 v W) (hb : Below W.heap.size W W1) : Vw w dn a1 v W1 := ⟨blk_below h.1 hb, blk_below h.2.1 hb, blk_below h.2.2.1 hb, below_step h.2.2.2 hb⟩
theorem Vw.put {w W : World} {dn : ByteArray} {a1 v : Value} (h : Vw w dn a1 v W) (u : Value) : Vw w dn a1 u (W.setCell ⟨w.heap.size + 1 + 1, 1, none⟩ u) := ⟨blk_far h.1 (Nat.ne_of_lt (Nat.lt_add_of_pos_right (by decide : 0 < 2))) u, blk_far h.2.1 (Nat.ne_of_lt (Nat.lt_succ_self _)) u, blk_set h.2.2.1 1 u, below_set h.2.2.2 (Nat.le_add_right _ 2)⟩
theorem Vw.grown {w W W1 : World} {dn : ByteArray} {a1 v : Value} {base : Nat} {ok : Nat → Prop} {xs : List S69} (h : Vw w dn a1 v W) (hV : Kd.R k69 69 W base ok v xs) (hg : W.grownBy W1 v.ownBlock) (hb : Below w.heap.size w W1) : Vw w dn a1 v W1 := ⟨blk_grown h.1 hg (Kd.R_ne hV h.1 (by decide)), blk_grown h.2.1 hg (Kd.R_ne hV h.2.1 (by decide)), blk_grown h.2.2.1 hg (Kd.R_ne hV h.2.2.1 (by decide)), hb⟩
set_option maxHeartbeats 4000000 in
set_option maxRecDepth 100000 in
theorem view_c (rules : List S54) (A : Option Addr) (c : Nat) (who dn : ByteArray) (attrs : List S69) (A1 : Option Addr) (c1 : Nat) (w : World) (hr : Kd.C k54 w A rules.length rules) (hc : rules.length ≤ c) (hm : RulesOk rules) (hd : dn.size ≤ 100000000) (hr1 : Kd.C k69 w A1 attrs.length attrs) (hc1 : attrs.length ≤ c1) (ha : AttrsOk attrs) :
  Calls Tryd.prog 42 #[.slice A rules.length c, .string who, .agg #[.string dn, .slice A1 attrs.length c1]] w (EntryOut w dn (viewB rules who (keyB dn).1 attrs)) := by
 have hmax : attrs.length ≤ 9223372036854775807 := hr1.2.1
 have HR := Lib.hid hr
 have HM := Lib.hid hm
 have HR1 := Lib.hid hr1
 have HA := Lib.hid ha
 clear hr hm hr1 ha
 go_enter Tryd.func42, Tryd.ntmps42
 go_wp2
 go_loopw [16] (fun i wr => ∃ k : Nat, ∃ v : Value, k ≤ attrs.length ∧ i = .int .i64 k ∧ Hid (Kd.R k69 69 wr w.heap.size (fun _ => True) v ((attrs.take k).filter (seesB rules who (keyB dn).1))) ∧ Vw w dn (.slice A1 attrs.length c1) v wr) (fun i _ => attrs.length - (intOf i).toNat)
 case atStart => exact ⟨0, .slice none 0 0, Nat.zero_le _, rfl, Lib.hid (Kd.R_nil _ _ _ _ _), blk_alloc (blk_alloc (heap_alloc_new w _) _) _, blk_alloc (by have := heap_alloc_new (w.alloc (.cells #[.string dn, .slice A1 attrs.length c1] 51)) (.cells #[.string ⟨#[]⟩, .slice none 0 0] 51); simpa using this) _, by have := heap_alloc_new ((w.alloc (.cells #[.string dn, .slice A1 attrs.length c1] 51)).alloc (.cells #[.string ⟨#[]⟩, .slice none 0 0] 51)) (.cells #[.string dn, .slice none 0 0] 51); simpa using this, below_alloc (below_alloc (below_alloc (Below.refl _ _) _) _) _⟩
 case round =>
  obtain ⟨k, v, hk, rfl, HV, HW⟩ := hrel
  have e0 : wr.cell? ⟨w.heap.size, 0, none⟩ = some (.string dn) := blk_cell HW.1 0
  have e1 : wr.cell? ⟨w.heap.size, 1, none⟩ = some (.slice A1 attrs.length c1) := blk_cell HW.1 1
  by_cases hlt : k < attrs.length
  ·obtain ⟨a, hy⟩ : ∃ r, attrs[k]? = some r := ⟨_, List.getElem?_eq_getElem hlt⟩
   obtain ⟨m1, m2⟩ := HA.out.2 a (List.mem_of_getElem? hy)
   have m1' : a.f0.size ≤ 9223372036854775806 := by omega
   obtain ⟨ad, Aa, ca, e, x0, x1, hl4, hi4⟩ := attr_at (Kd.C_below HR1.out HW.2.2.2) hy
   cases e
   have HY := Lib.hid hy
   clear hy
   have n0 := cell_alloc e0
   have n1 := cell_alloc e1
   have hlt' : (k : Int) < (attrs.length : Int) := by omega
   go_wp2_with fail
   refine (right_c rules A c who dn a.f0 (.slice (some ad) attrs.length c1) _ (Kd.C_below HR.out (below_alloc HW.2.2.2 _)) hc HM.out hd m1' (by rfl)).mono ?_
   rintro e w2 ⟨rfl, hb2⟩
   have HO : Own wr wr.heap.size (.cells #[.string a.f0, .slice Aa a.f1.length ca] 69 (0, 0)) w2 := Own.step ⟨heap_alloc_new wr _, (Below.refl _ _).alloc (Nat.le_refl _) _⟩ hb2
   have HW2 := HW.step HO.2
   have HV0 := Kd.R_mono (Kd.R_bound HV.out) (ok' := fun k => k < wr.heap.size) (fun _ h => h.2.2.1)
   have HV2 := Lib.hid (Kd.R_below HV0 HO.2)
   have HI := Lib.hid (Kd.C_below hi4 HO.2)
   have hgw := blk_lt HW.2.2.1
   clear hb2 x0 x1 hi4 HW HV HV0 n0 n1 e0 e1
   have s0 : w2.cell? ⟨wr.heap.size, 0, none⟩ = some (.string a.f0) := blk_cell HO.1 0
   have s1 : w2.cell? ⟨wr.heap.size, 1, none⟩ = some (.slice Aa a.f1.length ca) := blk_cell HO.1 1
   have HT := Lib.hid (List.take_add_one (l := attrs) (i := k))
   cases hs : decide (1 ≤ rightB rules who (keyB dn).1 a.f0)
   ·have hs1 : decide (rightB rules who (keyB dn).1 a.f0 < 1) = true := by simp at hs ⊢; omega
    have HS := Lib.hid hs
    clear hs
    go_wp2
    go_roundw
    case measure => simp [intOf]; omega
    case rel =>
     refine ⟨k + 1, v, by omega, by go_num, Lib.hid ?_, HW2⟩
     rw [HT.out, HY.out, List.filter_append]
     simpa [seesB, HS.out] using Kd.R_mono HV2.out (fun _ _ => trivial)
   ·have hs1 : decide (rightB rules who (keyB dn).1 a.f0 < 1) = false := by simp at hs ⊢; omega
    have HS := Lib.hid hs
    clear hs
    go_wp2_with fail
    refine (clone_c Aa ca a.f1 _ HI.out hl4 (by omega)).mono ?_
    rintro e w3 ⟨v', rfl, hR3, hb3⟩
    obtain ⟨Av, cv, rfl⟩ := Kd.R_slice hR3
    have HW3 := HW2.step hb3
    have hO3 := blk_below HO.1 hb3
    have t0 : w3.cell? ⟨wr.heap.size, 1, none⟩ = some (.slice Aa a.f1.length ca) := blk_cell hO3 1
    have f0 := blk_frozen hO3 1
    have hO4 : (w3.setCell ⟨wr.heap.size, 1, none⟩ (.slice Av a.f1.length cv)).heap[wr.heap.size]? = some (.cells #[.string a.f0, .slice Av a.f1.length cv] 69 (0, 0)) := blk_set hO3 1 _
    have hW4 : Vw w dn (.slice (some ad) attrs.length c1) v (w3.setCell ⟨wr.heap.size, 1, none⟩ (.slice Av a.f1.length cv)) := ⟨blk_far HW3.1 (by simp only; omega) _, blk_far HW3.2.1 (by simp only; omega) _, blk_far HW3.2.2.1 (by simp only; omega) _, below_set HW3.2.2.2 (by show _ ≤ _; omega)⟩
    have HV4 := Lib.hid (Kd.R_far (p := ⟨wr.heap.size, 1, none⟩) (Kd.R_below HV2.out hb3) (fun k (h : k < wr.heap.size) => Nat.ne_of_lt h) (.slice Av a.f1.length cv))
    obtain ⟨inner, hin⟩ := Kd.R_own HV2.out
    have HR4 := Lib.hid (Kd.R_set (Kd.R_lower (Kd.R_mono (Kd.R_new hR3 hin) (fun _ h => h.2)) (below_size HW2.2.2.2)) hO3 (by decide) 1 (.slice Av a.f1.length cv))
    have q0 : (w3.setCell ⟨wr.heap.size, 1, none⟩ (.slice Av a.f1.length cv)).cell? ⟨wr.heap.size, 0, none⟩ = some (.string a.f0) := blk_cell hO4 0
    have q1 : (w3.setCell ⟨wr.heap.size, 1, none⟩ (.slice Av a.f1.length cv)).cell? ⟨wr.heap.size, 1, none⟩ = some (.slice Av a.f1.length cv) := blk_cell hO4 1
    have q2 : (w3.setCell ⟨wr.heap.size, 1, none⟩ (.slice Av a.f1.length cv)).cell? ⟨w.heap.size + 1 + 1, 1, none⟩ = some v := blk_cell hW4.2.2.1 1
    have HZ : Hid ((w3.setCell ⟨wr.heap.size, 1, none⟩ (.slice Av a.f1.length cv)).heap.size = w3.heap.size) := Lib.hid (by simp)
    have HL : Hid ((((attrs.take k).filter (seesB rules who (keyB dn).1)).length + 1) * 40 ≤ 140737488355328) := Lib.hid (by have := List.length_filter_le (seesB rules who (keyB dn).1) (attrs.take k); have := List.length_take_le k attrs; have := HA.out.1; omega)
    clear hO3 hO4 HO HW2 HV2 hR3 hin hb3 s0 s1 HW3 HI
    go_wp2_with (at_builtin; refine Kd.R_append k69 (w0 := w) (W := w3.setCell ⟨wr.heap.size, 1, none⟩ (.slice Av a.f1.length cv)) w.heap.size rfl (.tmp 32) (.tmp 34) 49 69 (.agg #[.string ⟨#[]⟩, .slice none 0 0]) 40 rfl Tryd.underlying49 PA.info69 rfl (by decide) (by decide) v _ a [.string a.f0, .slice Av a.f1.length cv] (fun _ => True) (fun k => some k ≠ v.ownBlock) rfl ?hx (k69_mkM _ _ _ _ HR4.out) (fun _ h => ⟨trivial, h⟩) (fun _ _ => trivial) (Kd.R_mono HV4.out (fun _ _ => trivial)) hW4.2.2.2 (below_size hW4.2.2.2) HL.out ?_; (case hx => rw [HZ.out]; rfl); intro v1 w5 hR5 hB5 hg5 _; obtain ⟨Aw, cw, rfl⟩ := Kd.R_slice hR5; rw [List.length_append, List.length_singleton] at hR5; have hV5 := hW4.grown HV4.out hg5 hB5; have u0 : w5.cell? ⟨w.heap.size + 1 + 1, 1, none⟩ = some v := blk_cell hV5.2.2.1 1; have u1 := blk_frozen hV5.2.2.1 1; have HR5 := Lib.hid (Kd.R_set hR5 hV5.2.2.1 (by decide) 1 (.slice Aw (((attrs.take k).filter (seesB rules who (keyB dn).1)).length + 1) cw)); have HW5 := Lib.hid (hV5.put (.slice Aw (((attrs.take k).filter (seesB rules who (keyB dn).1)).length + 1) cw)); clear hR5 hV5 hg5 hB5)
    go_roundw
    case measure => simp [intOf]; omega
    case rel =>
     refine ⟨k + 1, _, by omega, by go_num, Lib.hid ?_, HW5.out⟩
     rw [HT.out, HY.out, List.filter_append]
     simpa [seesB, HS.out] using HR5.out
  ·obtain rfl : k = attrs.length := by omega
   obtain ⟨Av, cv, rfl⟩ := Kd.R_slice HV.out
   have z0 : wr.cell? ⟨w.heap.size + 1, 0, none⟩ = some (.string ⟨#[]⟩) := blk_cell HW.2.1 0
   have z1 : wr.cell? ⟨w.heap.size + 1, 1, none⟩ = some (.slice none 0 0) := blk_cell HW.2.1 1
   have y0 := blk_frozen HW.2.1 0
   have y1 := blk_frozen HW.2.1 1
   have c0 : wr.cell? ⟨w.heap.size + 1 + 1, 0, none⟩ = some (.string dn) := blk_cell HW.2.2.1 0
   have c1' : wr.cell? ⟨w.heap.size + 1 + 1, 1, none⟩ = some (.slice Av ((attrs.take attrs.length).filter (seesB rules who (keyB dn).1)).length cv) := blk_cell HW.2.2.1 1
   have hr1' := blk_set (blk_set HW.2.1 0 (.string dn)) 1 (.slice Av ((attrs.take attrs.length).filter (seesB rules who (keyB dn).1)).length cv)
   have HR9 := Lib.hid (Kd.R_set (Kd.R_set HV.out HW.2.1 (by decide) 0 (.string dn)) (blk_set HW.2.1 0 (.string dn)) (by decide) 1 (.slice Av ((attrs.take attrs.length).filter (seesB rules who (keyB dn).1)).length cv))
   have hB9 := below_set (j := 1) (v := .slice Av ((attrs.take attrs.length).filter (seesB rules who (keyB dn).1)).length cv) (below_set (g := w.heap.size + 1) (j := 0) (v := .string dn) HW.2.2.2 (by omega)) (g := w.heap.size + 1) (by omega)
   rw [List.take_length] at hr1' HR9 hB9
   go_wp2
   refine bodyPost_ret (results_cell_row rfl _ _ (w.heap.size + 1) 51 #[.string dn, .slice Av (viewB rules who (keyB dn).1 attrs).length cv] (0, 0) _ rfl hr1' Tryd.underlying51 rfl (by kernel_rfl)) rfl ?_
   obtain ⟨A', c', e, hl, hC⟩ := Kd.R_reads HR9.out
   cases e
   exact ⟨_, _, rfl, hl, hC, hB9⟩
end Go.Proofs.YtflkghdndffacaaDoor.C
