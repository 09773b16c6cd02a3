/- Weak contract of brooklaw4's Great: an entry that is not great is small. -/
import Derived.Test.YtflkghdndffacaaGreatDoorE1
namespace Go.Proofs.YtflkghdndffacaaGreatDoor.C
open Go.RowKit Go.Proofs.YtflkghdndffacaaGreatDoor.Sq Go.Proofs.YtflkghdndffacaaGreatDoor.H Go.Proofs.YtflkghdndffacaaGreatDoor.PA Go.Proofs.YtflkghdndffacaaGreatDoor.Pure Go.Proofs.YtflkghdndffacaaGreatDoorW.PrintWords Go.Proofs.YtflkghdndffacaaGreatDoorW.PrintLast Go.Proofs.YtflkghdndffacaaGreatDoorW.PrintMore
set_option linter.unusedVariables false
set_option linter.unusedSimpArgs false
def SmallA (a : S69) : Prop := a.f0.size ≤ 100 ∧ a.f1.length ≤ 50
def GreatE (d : ByteArray) (l : List S69) (w : World) (e : Ending) (w' : World) : Prop := ∃ g, e = .returned (.bool g) ∧ (g = false → l.length ≤ 25 ∧ d.size ≤ 600 ∧ ∀ a ∈ l, SmallA a) ∧ Below w.heap.size w w'
set_option maxHeartbeats 4000000 in
set_option maxRecDepth 100000 in
theorem great4_c (d : ByteArray) (A : Option Addr) (c : Nat) (l : List S69) (w : World) (hr : Kd.C k69 w A l.length l) (hc : l.length ≤ c) :
    Calls Tryz.prog 5 #[.agg #[.string d, .slice A l.length c]] w (GreatE d l w) := by
  have hmax : l.length ≤ 9223372036854775807 := hr.2.1
  have HR := Lib.hid hr
  clear hr
  go_enter Tryz.func5, Tryz.ntmps5
  go_wp2
  go_loopw [3] (fun v3 wr => ∃ k : Nat, k ≤ l.length ∧ k ≤ 30 ∧ v3 = .int .i64 k ∧ Hid (∀ a ∈ l.take k, SmallA a) ∧ Own w w.heap.size (.cells #[.string d, .slice A l.length c] 25 (0, 0)) wr) (fun v3 _ => l.length - (intOf v3).toNat)
  case atStart => exact ⟨0, Nat.zero_le _, by decide, rfl, Lib.hid (by simp), heap_alloc_new w _, below_alloc (Below.refl _ _) _⟩
  case round =>
    obtain ⟨k, hk, hk30, rfl, HF, HO⟩ := hrel
    obtain ⟨wo, rfl⟩ : ∃ wo : World, wo = wr := ⟨_, rfl⟩
    have HB := Lib.hid HO.2
    have q0 : wo.cell? ⟨w.heap.size, 0, none⟩ = some (.string d) := blk_cell HO.1 0
    have q1 : wo.cell? ⟨w.heap.size, 1, none⟩ = some (.slice A l.length c) := blk_cell HO.1 1
    have HO1 := Lib.hid HO
    clear HO
    have h0 : (0 : Int) ≤ (k : Int) := by omega
    by_cases hlt : k < l.length
    · have hlt' : (k : Int) < (l.length : Int) := by omega
      by_cases h30 : k < 30
      · have h30' : (k : Int) < 30 := by omega
        obtain ⟨r, hy⟩ : ∃ r, l[k]? = some r := ⟨_, List.getElem?_eq_getElem hlt⟩
        have HY := Lib.hid hy
        obtain ⟨ad, Aa, ca, e, x0, x1, hl4, hi4⟩ := attr_at (Kd.C_below HR.out HB.out) hy
        cases e
        have HI := Lib.hid hi4
        clear hy hi4
        by_cases b1 : (100 : Int) < (r.f0.size : Int)
        · go_wp2
          go_ret
          exact ⟨true, rfl, fun h => Bool.noConfusion h, HB.out⟩
        · by_cases b2 : (50 : Int) < (r.f1.length : Int)
          · go_wp2
            go_ret
            exact ⟨true, rfl, fun h => Bool.noConfusion h, HB.out⟩
          · go_wp2
            go_loopw [4] (fun v4 wl => ∃ j : Nat, j ≤ r.f1.length ∧ v4 = .int .i64 j ∧ wl = wo) (fun v4 _ => r.f1.length - (intOf v4).toNat)
            case atStart => exact ⟨0, Nat.zero_le _, rfl, rfl⟩
            case round =>
              obtain ⟨j, hj, rfl, rfl⟩ := hrel
              have h0j : (0 : Int) ≤ (j : Int) := by omega
              by_cases hjl : j < r.f1.length
              · have hjl' : (j : Int) < (r.f1.length : Int) := by omega
                obtain ⟨s, hs⟩ : ∃ s, r.f1[j]? = some s := ⟨_, List.getElem?_eq_getElem hjl⟩
                obtain ⟨sa, e, z0⟩ := str_at HI.out hs
                cases e
                clear hs
                by_cases b4 : (300 : Int) < (s.size : Int)
                · go_wp2
                  go_ret
                  exact ⟨true, rfl, fun h => Bool.noConfusion h, HB.out⟩
                · go_wp2
                  go_roundw
                  case measure => simp [intOf]; omega
                  case rel => exact ⟨j + 1, by omega, by go_num, by first | rfl | trivial⟩
              · obtain rfl : j = r.f1.length := by omega
                go_wp2
                go_roundw
                case measure => simp [intOf]; omega
                case rel => exact ⟨k + 1, by omega, by omega, by go_num, Lib.hid (pre_next HY.out ⟨by omega, by omega⟩ HF.out), HO1.out⟩
      · have h30' : ¬ (k : Int) < 30 := by omega
        have hbig : (25 : Int) < (l.length : Int) := by omega
        go_wp2
        go_ret
        exact ⟨true, rfl, fun h => Bool.noConfusion h, HB.out⟩
    · obtain rfl : k = l.length := by omega
      by_cases hb : (25 : Int) < (l.length : Int)
      · go_wp2
        go_ret
        exact ⟨true, rfl, fun h => Bool.noConfusion h, HB.out⟩
      · by_cases hb2 : (600 : Int) < (d.size : Int)
        · go_wp2
          go_ret
          exact ⟨true, rfl, fun h => Bool.noConfusion h, HB.out⟩
        · go_wp2
          go_ret
          exact ⟨false, rfl, fun _ => ⟨by omega, by omega, by have h := HF.out; rwa [List.take_length] at h⟩, HB.out⟩
end Go.Proofs.YtflkghdndffacaaGreatDoor.C
