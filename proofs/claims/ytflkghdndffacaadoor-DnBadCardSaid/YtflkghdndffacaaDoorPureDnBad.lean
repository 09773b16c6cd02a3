/- The statement DnBad as the printed functions reckon it: with enough rounds the answer is true at every pair of bytes; the answer hangs on the one modulo 25 and the other modulo 3 alone, and those are reckoned. -/
import Derived.Test.YtflkghdndffacaaDoorPDx19
namespace Go.Proofs.YtflkghdndffacaaDoor.Pure
open Go.RowKit Go.Proofs.YtflkghdndffacaaDoor.PD Go.Proofs.YtflkghdndffacaaDoor.H Go.Proofs.YtflkghdndffacaaDoorW.PrintWords Go.Proofs.YtflkghdndffacaaDoorW.PrintLast

theorem bad_l1 (x0 x1 y0 y1 : Int) (h0 : Int.tmod (wrap64 x0) 25 = Int.tmod (wrap64 y0) 25) (h1 : Int.tmod (wrap64 x1) 3 = Int.tmod (wrap64 y1) 3) :
    ∀ (k : Nat) (s t : ByteArray) (i : Int), brooklaw2_DnBad.l1 k x0 x1 s t i = brooklaw2_DnBad.l1 k y0 y1 s t i := by
  intro k
  induction k with
  | zero => intro s t i; rfl
  | succ k ih =>
    intro s t i
    simp only [brooklaw2_DnBad.l1, Option.bind_some, List.length_cons, List.length_nil, Nat.zero_add, Nat.reduceAdd, Int.cast_ofNat_Int, h0, h1, ih]
theorem bad_l0 (x0 x1 y0 y1 : Int) (h0 : Int.tmod (wrap64 x0) 25 = Int.tmod (wrap64 y0) 25) (h1 : Int.tmod (wrap64 x1) 3 = Int.tmod (wrap64 y1) 3) :
    ∀ (k : Nat) (s : ByteArray), brooklaw2_DnBad.l0 k x0 x1 s = brooklaw2_DnBad.l0 k y0 y1 s := by
  intro k
  induction k with
  | zero => intro s; rfl
  | succ k ih => intro s; simp only [brooklaw2_DnBad.l0, ih, bad_l1 x0 x1 y0 y1 h0 h1]
theorem bad_f (x0 x1 y0 y1 : Int) (h0 : Int.tmod (wrap64 x0) 25 = Int.tmod (wrap64 y0) 25) (h1 : Int.tmod (wrap64 x1) 3 = Int.tmod (wrap64 y1) 3) (k : Nat) :
    brooklaw2_DnBad.f k x0 x1 = brooklaw2_DnBad.f k y0 y1 := by
  simp only [brooklaw2_DnBad.f, bad_l0 x0 x1 y0 y1 h0 h1]
set_option maxRecDepth 100000 in
theorem all_bad : ∀ a : Fin 25, ∀ b : Fin 3, brooklaw2_DnBad.f 400 ((a.val : Nat) : Int) ((b.val : Nat) : Int) = some true := by decide +kernel
theorem DnBad (a0 a1 : Int) (w0 : (Lit.int .u8 a0).wf = true) (w1 : (Lit.int .u8 a1).wf = true) : ∃ k, brooklaw2_DnBad.f k a0 a1 = some true := by
  have hb0 : 0 ≤ a0 ∧ a0 < 256 := by have := w0; simp [Lit.wf, IntKind.min, IntKind.max, IntKind.bits, IntKind.signed] at this; omega
  have hb1 : 0 ≤ a1 ∧ a1 < 256 := by have := w1; simp [Lit.wf, IntKind.min, IntKind.max, IntKind.bits, IntKind.signed] at this; omega
  refine ⟨400, ?_⟩
  have e0 : wrap64 a0 = a0 := by unfold wrap64; omega
  have e1 : wrap64 a1 = a1 := by unfold wrap64; omega
  have f0 : wrap64 (a0 % 25) = a0 % 25 := by unfold wrap64; omega
  have f1 : wrap64 (a1 % 3) = a1 % 3 := by unfold wrap64; omega
  rw [bad_f a0 a1 (a0 % 25) (a1 % 3) (by rw [e0, f0, Int.tmod_eq_emod_of_nonneg (by omega), Int.tmod_eq_emod_of_nonneg (by omega)]; omega) (by rw [e1, f1, Int.tmod_eq_emod_of_nonneg (by omega), Int.tmod_eq_emod_of_nonneg (by omega)]; omega)]
  have h := all_bad ⟨(a0 % 25).toNat, by omega⟩ ⟨(a1 % 3).toNat, by omega⟩
  simp only [Int.toNat_of_nonneg (show 0 ≤ a0 % 25 by omega), Int.toNat_of_nonneg (show 0 ≤ a1 % 3 by omega)] at h
  exact h
end Go.Proofs.YtflkghdndffacaaDoor.Pure
