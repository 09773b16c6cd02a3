/- A law's slice arguments (bytes, strings, parts of a name) opened as one list each. -/
import Derived.Test.YtflkghdndffacaaDoorPDx0
import Derived.Test.YtflkghdndffacaaDoorRow0
import Derived.SliceStrings
import Derived.Deep.SlicePairs
namespace Go.Proofs.YtflkghdndffacaaDoor.RowS
open Go.ChangeShapes Go.WideShapes Go.ChangeAt Go.RowKit Go.Proofs.YtflkghdndffacaaDoor.PD Go.Proofs.YtflkghdndffacaaDoorW.PrintWords
section
variable {H : Type} {enc : TypeId × Value → H} {W : World} {base : Nat} {v : Value} {d : DataW H} {ps : List MemPlace}
theorem take_get {α : Type} (xs : List α) (n i : Nat) (z p : α) (h : (xs.take n)[i]? = some p) : xs.getD i z = p ∧ i < n ∧ i < xs.length := by
  have h1 := (List.getElem?_eq_some_iff.1 h).1
  simp only [List.length_take] at h1
  rw [List.getElem?_take_of_lt (by omega)] at h
  exact ⟨by rw [List.getD_eq_getElem?_getD, h]; rfl, by omega, by omega⟩
set_option maxRecDepth 100000 in
theorem open_u8s (hval : Value.okWide Tryd.prog W .any base 29 v) (h : DataW.Trod enc Tryd.prog W 0 (fun _ => true) true 29 v d ps) :
    ∃ (A : Option Addr) (l : List Int) (c : Nat), v = .slice A l.length c ∧ Kd.C (Kd.int .u8) W A l.length l ∧ l.length ≤ c ∧ (∀ n ∈ l, (Lit.int .u8 n).wf = true) ∧ ∀ x ∈ ps, x.block < W.heap.size := by
  have hlt : ∀ x ∈ ps, x.block < W.heap.size := by obtain ⟨m, hm⟩ := h; exact DataW.trod_lt m _ _ _ hm
  obtain ⟨a0, len, cap, rfl⟩ := okWide_slice Tryd.underlying29 hval
  obtain ⟨fuel, hf⟩ := h
  rcases open_ints Tryd.underlying29 Tryd.underlying5 (by kernel_rfl) hf with ⟨hcs, _⟩ | ⟨x, l, c, zs, hcs, _, hl, hm, hz, _, hcell, hwz⟩
  · simp [Value.cells] at hcs
    obtain ⟨rfl, rfl, rfl⟩ := hcs
    exact ⟨none, [], 0, rfl, Kd.C_nil _ _, Nat.le_refl _, by simp, hlt⟩
  · simp [Value.cells] at hcs
    obtain ⟨rfl, rfl, rfl⟩ := hcs
    have hzl : (zs.take len).length = len := by rw [List.length_take, hz]; simp; omega
    refine ⟨some x, zs.take len, cap, by rw [hzl], ?_, by omega, fun n hn => hwz n (List.mem_of_mem_take hn), hlt⟩
    refine ⟨rfl, by rw [hzl]; simp only [maxLen] at hm; omega, fun _ => ⟨x, rfl, fun j p hj => ⟨[.int .u8 p], rfl, rfl, fun i u hu => ?_⟩⟩⟩
    obtain ⟨e1, e2, e3⟩ := take_get zs len j 0 p hj
    match i, hu with
    | 0, hu =>
      simp at hu
      subst hu
      rw [← e1]
      have hc := hcell j e3
      show W.cell? (x.add (j * 1 + 0)) = _
      rw [Nat.mul_one, Nat.add_zero]
      exact hc
set_option maxRecDepth 100000 in
theorem open_strs (hval : Value.okWide Tryd.prog W .any base 28 v) (h : DataW.Trod enc Tryd.prog W 0 (fun _ => true) true 28 v d ps) :
    ∃ (A : Option Addr) (l : List ByteArray) (c : Nat), v = .slice A l.length c ∧ Kd.C Kd.string W A l.length l ∧ l.length ≤ c ∧ (∀ s ∈ l, s.size ≤ 9223372036854775807) ∧ ∀ x ∈ ps, x.block < W.heap.size := by
  have hlt : ∀ x ∈ ps, x.block < W.heap.size := by obtain ⟨m, hm⟩ := h; exact DataW.trod_lt m _ _ _ hm
  obtain ⟨a0, len, cap, rfl⟩ := okWide_slice Tryd.underlying28 hval
  obtain ⟨fuel, hf⟩ := h
  rcases open_strings Tryd.underlying28 Tryd.underlying9 (by kernel_rfl) hf with ⟨hcs, _⟩ | ⟨x, l, c, zs, hcs, _, hl, hm, hz, _, hcell, hwz⟩
  · simp [Value.cells] at hcs
    obtain ⟨rfl, rfl, rfl⟩ := hcs
    exact ⟨none, [], 0, rfl, Kd.C_nil _ _, Nat.le_refl _, by simp, hlt⟩
  · simp [Value.cells] at hcs
    obtain ⟨rfl, rfl, rfl⟩ := hcs
    have hzl : (zs.take len).length = len := by rw [List.length_take, hz]; simp; omega
    refine ⟨some x, zs.take len, cap, by rw [hzl], ?_, by omega, fun s hs => ?_, hlt⟩
    · refine ⟨rfl, by rw [hzl]; simp only [maxLen] at hm; omega, fun _ => ⟨x, rfl, fun j p hj => ⟨[.string p], rfl, rfl, fun i u hu => ?_⟩⟩⟩
      obtain ⟨e1, e2, e3⟩ := take_get zs len j ByteArray.empty p hj
      match i, hu with
      | 0, hu =>
        simp at hu
        subst hu
        rw [← e1]
        have hc := hcell j e3
        show W.cell? (x.add (j * 1 + 0)) = _
        rw [Nat.mul_one, Nat.add_zero]
        exact hc
    · have := hwz s (List.mem_of_mem_take hs)
      simp only [maxLen] at this
      exact this
set_option maxRecDepth 100000 in
theorem open_rdns (hval : Value.okWide Tryd.prog W .any base 22 v) (h : DataW.Trod enc Tryd.prog W 0 (fun _ => true) true 22 v d ps) :
    ∃ (A : Option Addr) (l : List S25) (c : Nat), v = .slice A l.length c ∧ Kd.C k25 W A l.length l ∧ l.length ≤ c ∧ (∀ r ∈ l, r.f0.size ≤ 9223372036854775807 ∧ r.f1.size ≤ 9223372036854775807) ∧ ∀ x ∈ ps, x.block < W.heap.size := by
  have hlt : ∀ x ∈ ps, x.block < W.heap.size := by obtain ⟨m, hm⟩ := h; exact DataW.trod_lt m _ _ _ hm
  obtain ⟨a0, len, cap, rfl⟩ := okWide_slice Tryd.underlying22 hval
  obtain ⟨fuel, hf⟩ := h
  rcases Go.Deep.open_slice_pairs Tryd.underlying22 Tryd.underlying25 (by kernel_rfl) rfl rfl (by kernel_rfl) (by kernel_rfl) hf with ⟨hcs, _⟩ | ⟨x, l, c, m, n, V0, V1, D0, D1, P0, P1, hcs, _, hl, hm, hz, _, hcell⟩
  · simp [Value.cells] at hcs
    obtain ⟨rfl, rfl, rfl⟩ := hcs
    exact ⟨none, [], 0, rfl, Kd.C_nil _ _, Nat.le_refl _, by simp, hlt⟩
  · simp [Value.cells] at hcs
    obtain ⟨rfl, rfl, rfl⟩ := hcs
    have hmc : len ≤ m := by rw [hz]; simp; omega
    have each : ∀ i, i < m → ∃ r : S25, V0 i = .string r.f0 ∧ V1 i = .string r.f1 ∧ r.f0.size ≤ 9223372036854775807 ∧ r.f1.size ≤ 9223372036854775807 := by
      intro i hi
      obtain ⟨_, _, t0, t1⟩ := hcell i hi
      obtain ⟨s0, e0, _, w0⟩ := DataW.trod_string Tryd.underlying9 t0
      obtain ⟨s1, e1, _, w1⟩ := DataW.trod_string Tryd.underlying9 t1
      refine ⟨⟨s0, s1⟩, by simpa using e0, by simpa using e1, ?_, ?_⟩
      · simp only [maxLen] at w0; exact w0
      · simp only [maxLen] at w1; exact w1
    let g : Nat → S25 := fun i => if hi : i < m then Classical.choose (each i hi) else z25
    have hg : ∀ i, i < m → V0 i = .string (g i).f0 ∧ V1 i = .string (g i).f1 ∧ (g i).f0.size ≤ 9223372036854775807 ∧ (g i).f1.size ≤ 9223372036854775807 := by
      intro i hi
      have := Classical.choose_spec (each i hi)
      simp only [g, dif_pos hi]
      exact this
    refine ⟨some x, (List.range len).map g, cap, by simp, ?_, by simpa using hl, fun s hs => ?_, hlt⟩
    · refine ⟨rfl, by simp only [List.length_map, List.length_range]; simp only [maxLen] at hm; omega, fun _ => ⟨x, rfl, fun j p hj => ⟨[.string p.f0, .string p.f1], rfl, k25_mk _ _, fun i u hu => ?_⟩⟩⟩
      have hj1 := (List.getElem?_eq_some_iff.1 hj).1
      simp at hj1
      rw [List.getElem?_map, List.getElem?_range hj1] at hj
      simp only [Option.map_some, Option.some.injEq] at hj
      obtain ⟨c0, c1, _, _⟩ := hcell j (by omega)
      obtain ⟨g0, g1, _, _⟩ := hg j (by omega)
      rw [g0, hj] at c0
      rw [g1, hj] at c1
      match i, hu with
      | 0, hu =>
        simp at hu
        subst hu
        exact c0
      | 1, hu =>
        simp at hu
        subst hu
        exact c1
    · obtain ⟨i, hi, rfl⟩ := List.mem_map.1 hs
      obtain ⟨_, _, g0, g1⟩ := hg i (by simp at hi; omega)
      exact ⟨g0, g1⟩
end
end Go.Proofs.YtflkghdndffacaaDoor.RowS
