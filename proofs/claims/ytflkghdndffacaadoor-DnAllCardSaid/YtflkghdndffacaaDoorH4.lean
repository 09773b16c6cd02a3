/- The contract of brookref1.two: a byte as a backslash and two digits. -/
import Derived.Test.YtflkghdndffacaaDoorH3
namespace Go.Proofs.YtflkghdndffacaaDoor.H
open Go.RowKit Go.Proofs.YtflkghdndffacaaDoorW.PrintWords Go.Proofs.YtflkghdndffacaaDoorW.PrintLast Go.Proofs.YtflkghdndffacaaDoorW.PrintMore
set_option linter.unusedVariables false
set_option linter.unusedSimpArgs false
theorem hex_cut : ∀ n : Fin 16, ((⟨#[48, 49, 50, 51, 52, 53, 54, 55, 56, 57, 97, 98, 99, 100, 101, 102]⟩ : ByteArray).extract n.val (n.val + 1)).data = #[hexD n.val] := by decide
theorem hex_cut_at (i : Int) (h0 : 0 ≤ i) (h1 : i < 16) : (⟨#[48, 49, 50, 51, 52, 53, 54, 55, 56, 57, 97, 98, 99, 100, 101, 102]⟩ : ByteArray).extract i.toNat (i + 1).toNat = ⟨#[hexD i.toNat]⟩ := by
  have h := hex_cut ⟨i.toNat, by omega⟩
  simp only at h
  rw [show (i + 1).toNat = i.toNat + 1 by omega]
  exact congrArg ByteArray.mk h
def brookref1_two.f (a0 : Int) : Option ByteArray := if 0 ≤ a0 ∧ a0 < 256 then some ⟨#[92, hexD (a0 / 16).toNat, hexD (a0 % 16).toNat]⟩ else none
set_option maxHeartbeats 2000000 in
theorem brookref1_two.calls (a0 : Int) (r : ByteArray) (w : World) (h : brookref1_two.f a0 = some r) :
    Calls Tryd.prog 73 #[.int .u8 a0] w fun e w' => e = .returned (.string r) ∧ Drawn0 w w' := by
  unfold brookref1_two.f at h
  split at h
  case isFalse => cases h
  case isTrue hb =>
  obtain rfl := Option.some.inj h
  obtain ⟨h0, h1⟩ := hb
  clear h
  have a1 : (0 : Int) ≤ a0 / 16 := by omega
  have a2 : a0 / 16 < 16 := by omega
  have b1 : (0 : Int) ≤ a0 % 16 := by omega
  have b2 : a0 % 16 < 16 := by omega
  have f1 := hex_cut_at (a0 / 16) a1 a2
  have f2 := hex_cut_at (a0 % 16) b1 b2
  have s1 : (⟨#[hexD (a0 / 16).toNat]⟩ : ByteArray).size = 1 := rfl
  have s2 : (⟨#[92]⟩ ++ ⟨#[hexD (a0 / 16).toNat]⟩ : ByteArray).size = 2 := rfl
  have s3 : (⟨#[hexD (a0 % 16).toNat]⟩ : ByteArray).size = 1 := rfl
  have d1 : a0 % 16 + 1 ≤ 16 := by omega
  have d2 : 0 ≤ a0 % 16 + 1 := by omega
  have d3 : a0 % 16 ≤ a0 % 16 + 1 := by omega
  have e1 : a0 / 16 + 1 ≤ 16 := by omega
  have e2 : 0 ≤ a0 / 16 + 1 := by omega
  have e3 : a0 / 16 ≤ a0 / 16 + 1 := by omega
  go_enter Tryd.func73, Tryd.ntmps73
  go_wp2
  go_region
  go_wp2
  go_ret
  exact ⟨rfl, by repeat (first | exact Drawn0.refl _ | apply Drawn0.step)⟩
end Go.Proofs.YtflkghdndffacaaDoor.H
