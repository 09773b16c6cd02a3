/- Weak contracts of both Great: what is not great is small. -/
import Derived.Test.YtflkghdndffacaaGreatDoorGRt5
namespace Go.Proofs.YtflkghdndffacaaGreatDoor.C
open Go.RowKit Go.Proofs.YtflkghdndffacaaGreatDoor.Sq Go.Proofs.YtflkghdndffacaaGreatDoor.H Go.Proofs.YtflkghdndffacaaGreatDoor.PA Go.Proofs.YtflkghdndffacaaGreatDoor.Pure Go.Proofs.YtflkghdndffacaaGreatDoorW.PrintWords Go.Proofs.YtflkghdndffacaaGreatDoorW.PrintLast Go.Proofs.YtflkghdndffacaaGreatDoorW.PrintMore
set_option linter.unusedVariables false
set_option linter.unusedSimpArgs false
def SmallR (r : S54) : Prop := r.f1.size ≤ 300 ∧ r.f2.size ≤ 300 ∧ r.f4.length ≤ 25 ∧ ∀ s ∈ r.f4, s.size ≤ 60
theorem pre_next {α : Type} {l : List α} {p : α → Prop} {k : Nat} {y : α} (hy : l[k]? = some y) (he : p y) (HF : ∀ z ∈ l.take k, p z) : ∀ z ∈ l.take (k + 1), p z := by
  intro z hz
  rw [List.take_add_one, hy] at hz
  rcases List.mem_append.1 hz with h | h
  · exact HF z h
  · have : z = y := by simpa using h
    subst this
    exact he
def GreatR (rules : List S54) (w : World) (e : Ending) (w' : World) : Prop := ∃ g, e = .returned (.bool g) ∧ (g = false → rules.length ≤ 45 ∧ ∀ r ∈ rules, SmallR r) ∧ Drawn0 w w'
set_option maxHeartbeats 4000000 in
set_option maxRecDepth 100000 in
theorem great_c (A : Option Addr) (c : Nat) (rules : List S54) (w : World) (hr : Kd.C k54 w A rules.length rules) (hc : rules.length ≤ c) :
    Calls Tryz.prog 4 #[.slice A rules.length c] w (GreatR rules w) := by
  have hmax : rules.length ≤ 9223372036854775807 := hr.2.1
  have HR := Lib.hid hr
  clear hr
  go_enter Tryz.func4, Tryz.ntmps4
  go_wp2
  go_loopw [3] (fun v3 wr => ∃ k : Nat, k ≤ rules.length ∧ k ≤ 50 ∧ v3 = .int .i64 k ∧ Hid (∀ r ∈ rules.take k, SmallR r) ∧ Hid (Drawn0 w wr)) (fun v3 _ => rules.length - (intOf v3).toNat)
  case atStart => exact ⟨0, Nat.zero_le _, by decide, rfl, Lib.hid (by simp), Lib.hid (Drawn0.refl _)⟩
  case round =>
    obtain ⟨k, hk, hk50, rfl, HF, HD⟩ := hrel
    obtain ⟨wo, rfl⟩ : ∃ wo : World, wo = wr := ⟨_, rfl⟩
    have h0 : (0 : Int) ≤ (k : Int) := by omega
    by_cases hlt : k < rules.length
    · have hlt' : (k : Int) < (rules.length : Int) := by omega
      by_cases h50 : k < 50
      · have h50' : (k : Int) < 50 := by omega
        obtain ⟨r, hy⟩ : ∃ r, rules[k]? = some r := ⟨_, List.getElem?_eq_getElem hlt⟩
        have HY := Lib.hid hy
        obtain ⟨ad, A4, c4, e, x0, x1, x2, x3, x4, x5, hl4, hi4⟩ := rule_at (Kd.C_below HR.out HD.out.below) hy
        cases e
        have HI := Lib.hid hi4
        clear hy x0 x3 x5 hi4
        by_cases b1 : (300 : Int) < (r.f1.size : Int)
        · go_wp2
          go_ret
          exact ⟨true, rfl, fun h => Bool.noConfusion h, HD.out⟩
        · by_cases b2 : (300 : Int) < (r.f2.size : Int)
          · go_wp2
            go_ret
            exact ⟨true, rfl, fun h => Bool.noConfusion h, HD.out⟩
          · by_cases b3 : (25 : Int) < (r.f4.length : Int)
            · go_wp2
              go_ret
              exact ⟨true, rfl, fun h => Bool.noConfusion h, HD.out⟩
            · go_wp2
              go_loopw [4] (fun v4 wl => ∃ j : Nat, j ≤ r.f4.length ∧ v4 = .int .i64 j ∧ Hid (∀ s ∈ r.f4.take j, s.size ≤ 60) ∧ wl = wo) (fun v4 _ => r.f4.length - (intOf v4).toNat)
              case atStart => exact ⟨0, Nat.zero_le _, rfl, Lib.hid (by simp), rfl⟩
              case round =>
                obtain ⟨j, hj, rfl, HJ, rfl⟩ := hrel
                have h0j : (0 : Int) ≤ (j : Int) := by omega
                by_cases hjl : j < r.f4.length
                · have hjl' : (j : Int) < (r.f4.length : Int) := by omega
                  obtain ⟨s, hs⟩ : ∃ s, r.f4[j]? = some s := ⟨_, List.getElem?_eq_getElem hjl⟩
                  have HS := Lib.hid hs
                  obtain ⟨sa, e, z0⟩ := str_at HI.out hs
                  cases e
                  clear hs
                  by_cases b4 : (60 : Int) < (s.size : Int)
                  · go_wp2
                    go_ret
                    exact ⟨true, rfl, fun h => Bool.noConfusion h, HD.out⟩
                  · go_wp2
                    go_roundw
                    case measure => simp [intOf]; omega
                    case rel => exact ⟨j + 1, by omega, by go_num, Lib.hid (pre_next HS.out (by omega) HJ.out), by first | rfl | trivial⟩
                · obtain rfl : j = r.f4.length := by omega
                  go_wp2
                  go_roundw
                  case measure => simp [intOf]; omega
                  case rel => exact ⟨k + 1, by omega, by omega, by go_num, Lib.hid (pre_next HY.out ⟨by omega, by omega, by omega, by have h := HJ.out; rwa [List.take_length] at h⟩ HF.out), HD⟩
      · have h50' : ¬ (k : Int) < 50 := by omega
        have hbig : (45 : Int) < (rules.length : Int) := by omega
        go_wp2
        go_ret
        exact ⟨true, rfl, fun h => Bool.noConfusion h, HD.out⟩
    · obtain rfl : k = rules.length := by omega
      by_cases hb : (45 : Int) < (rules.length : Int)
      · go_wp2
        go_ret
        exact ⟨true, rfl, fun h => Bool.noConfusion h, HD.out⟩
      · go_wp2
        go_ret
        exact ⟨false, rfl, fun _ => ⟨by omega, by have h := HF.out; rwa [List.take_length] at h⟩, HD.out⟩
end Go.Proofs.YtflkghdndffacaaGreatDoor.C
