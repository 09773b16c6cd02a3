/- The arguments of AclAll opened as plain lists: rules, an entry, texts. -/
import Derived.Test.YtflkghdndffacaaGreatDoorGRt5
import Derived.SliceStrings
import Derived.Deep.SlicePairs
import Derived.Deep.Slices
namespace Go.Proofs.YtflkghdndffacaaGreatDoor.RowU
open Go.ChangeShapes Go.WideShapes Go.ChangeAt Go.RowKit Go.Deep Go.Proofs.YtflkghdndffacaaGreatDoor.PD Go.Proofs.YtflkghdndffacaaGreatDoor.PA Go.Proofs.YtflkghdndffacaaGreatDoor.C Go.Proofs.YtflkghdndffacaaGreatDoorW.PrintWords
set_option linter.unusedVariables false
section
variable {H : Type} {enc : TypeId × Value → H} {W : World} {base : Nat} {v : Value} {d : DataW H} {ps : List MemPlace}
theorem take_get {α : Type} (xs : List α) (n i : Nat) (z p : α) (h : (xs.take n)[i]? = some p) : xs.getD i z = p ∧ i < n ∧ i < xs.length := by
  have h1 := (List.getElem?_eq_some_iff.1 h).1
  simp only [List.length_take] at h1
  rw [List.getElem?_take_of_lt (by omega)] at h
  exact ⟨by rw [List.getD_eq_getElem?_getD, h]; rfl, by omega, by omega⟩
set_option maxRecDepth 100000 in
theorem strs_of {fuel : Nat} {cs : List Value} {x : DataW H × List MemPlace} (hf : DataW.trod enc Tryz.prog W 0 (fun _ => true) true fuel 26 cs = some x) :
    ∃ (A : Option Addr) (l : List ByteArray) (c : Nat), cs = [.slice A l.length c] ∧ Kd.C Kd.string W A l.length l ∧ l.length ≤ c := by
  rcases open_strings Tryz.underlying26 Tryz.underlying9 (by kernel_rfl) hf with ⟨rfl, _⟩ | ⟨x, len, cap, zs, rfl, _, hl, hm, hz, _, hcell, hwz⟩
  · exact ⟨none, [], 0, rfl, Kd.C_nil _ _, Nat.le_refl _⟩
  · have hzl : (zs.take len).length = len := by rw [List.length_take, hz]; simp; omega
    refine ⟨some x, zs.take len, cap, by rw [hzl], ?_, by omega⟩
    refine ⟨rfl, by rw [hzl]; simp only [maxLen] at hm; omega, fun _ => ⟨x, rfl, fun j p hj => ⟨[.string p], rfl, rfl, fun i u hu => ?_⟩⟩⟩
    obtain ⟨e1, e2, e3⟩ := take_get zs len j ByteArray.empty p hj
    match i, hu with
    | 0, hu =>
      simp at hu
      subst hu
      rw [← e1]
      have hc := hcell j e3
      show W.cell? (x.add (j * 1 + 0)) = _
      rw [Nat.mul_one, Nat.add_zero]
      exact hc
set_option maxRecDepth 100000 in
theorem open_strs (hval : Value.okWide Tryz.prog W .any base 26 v) (h : DataW.Trod enc Tryz.prog W 0 (fun _ => true) true 26 v d ps) :
    ∃ (A : Option Addr) (l : List ByteArray) (c : Nat), v = .slice A l.length c ∧ Kd.C Kd.string W A l.length l ∧ l.length ≤ c ∧ ∀ x ∈ ps, x.block < W.heap.size := by
  have hlt : ∀ x ∈ ps, x.block < W.heap.size := by obtain ⟨m, hm⟩ := h; exact DataW.trod_lt m _ _ _ hm
  obtain ⟨a0, len, cap, rfl⟩ := okWide_slice Tryz.underlying26 hval
  obtain ⟨fuel, hf⟩ := h
  obtain ⟨A, l, c, e, hC, hc⟩ := strs_of hf
  simp [Value.cells] at e
  obtain ⟨rfl, rfl, rfl⟩ := e
  exact ⟨_, l, _, rfl, hC, hc, hlt⟩
set_option maxRecDepth 100000 in
theorem rule_of {fuel : Nat} {cs : List Value} {x : DataW H × List MemPlace} (hf : DataW.trod enc Tryz.prog W 0 (fun _ => true) true fuel 40 cs = some x) :
    ∃ (r : S54) (A4 : Option Addr) (c4 : Nat), cs = [.int .i64 r.f0, .string r.f1, .string r.f2, .bool r.f3, .slice A4 r.f4.length c4, .int .i64 r.f5] ∧ r.f4.length ≤ c4 ∧ Kd.string.C W A4 r.f4.length r.f4 := by
  obtain ⟨xs, n, _, _, hlen, hxl, hf⟩ := DataW.trod_struct Tryz.underlying40 hf
  have c40 : Tryz.prog.cellsOf 40 = 6 := by kernel_rfl
  have hlen6 : cs.length = 6 := by rw [hlen, c40]
  have c3 : Tryz.prog.cellsOf 3 = 1 := by kernel_rfl
  have c9 : Tryz.prog.cellsOf 9 = 1 := by kernel_rfl
  have c4' : Tryz.prog.cellsOf 4 = 1 := by kernel_rfl
  have c26 : Tryz.prog.cellsOf 26 = 1 := by kernel_rfl
  match cs, hlen6, xs, hxl with
  | [v0, v1, v2, v3, v4, v5], _, [y0, y1, y2, y3, y4, y5], _ =>
    have g0 := hf 0 _ rfl
    have g1 := hf 1 _ rfl
    have g2 := hf 2 _ rfl
    have g3 := hf 3 _ rfl
    have g4 := hf 4 _ rfl
    have g5 := hf 5 _ rfl
    simp [c3, c9, c4', c26] at g0 g1 g2 g3 g4 g5
    obtain ⟨n0, e0, _, _⟩ := DataW.trod_int Tryz.underlying3 g0
    obtain ⟨s1, e1, _, _⟩ := DataW.trod_string Tryz.underlying9 g1
    obtain ⟨s2, e2, _, _⟩ := DataW.trod_string Tryz.underlying9 g2
    obtain ⟨b3, e3, _⟩ := DataW.trod_bool Tryz.underlying4 g3
    obtain ⟨A4, l4, k4, e4, hC4, hk4⟩ := strs_of g4
    obtain ⟨n5, e5, _, _⟩ := DataW.trod_int Tryz.underlying3 g5
    simp at e0 e1 e2 e3 e4 e5
    subst e0 e1 e2 e3 e4 e5
    exact ⟨⟨n0, s1, s2, b3, l4, n5⟩, A4, k4, rfl, hk4, hC4⟩
set_option maxRecDepth 100000 in
theorem attr_of {fuel : Nat} {cs : List Value} {x : DataW H × List MemPlace} (hf : DataW.trod enc Tryz.prog W 0 (fun _ => true) true fuel 42 cs = some x) :
    ∃ (r : S69) (A4 : Option Addr) (c4 : Nat), cs = [.string r.f0, .slice A4 r.f1.length c4] ∧ r.f1.length ≤ c4 ∧ Kd.string.C W A4 r.f1.length r.f1 := by
  obtain ⟨xs, n, _, _, hlen, hxl, hf⟩ := DataW.trod_struct Tryz.underlying42 hf
  have c42 : Tryz.prog.cellsOf 42 = 2 := by kernel_rfl
  have hlen2 : cs.length = 2 := by rw [hlen, c42]
  have c9 : Tryz.prog.cellsOf 9 = 1 := by kernel_rfl
  have c26 : Tryz.prog.cellsOf 26 = 1 := by kernel_rfl
  match cs, hlen2, xs, hxl with
  | [v0, v1], _, [y0, y1], _ =>
    have g0 := hf 0 _ rfl
    have g1 := hf 1 _ rfl
    simp [c9, c26] at g0 g1
    obtain ⟨s0, e0, _, _⟩ := DataW.trod_string Tryz.underlying9 g0
    obtain ⟨A4, l4, k4, e4, hC4, hk4⟩ := strs_of g1
    simp at e0 e4
    subst e0 e4
    exact ⟨⟨s0, l4⟩, A4, k4, rfl, hk4, hC4⟩
theorem list_of {α : Type} [Inhabited α] {m : Nat} {p : Nat → α → Prop} (h : ∀ i, i < m → ∃ x, p i x) : ∃ l : List α, l.length = m ∧ ∀ i x, l[i]? = some x → p i x := by
  obtain ⟨f, hf⟩ := choose_lt h
  refine ⟨(List.range m).map f, by simp, fun i x hx => ?_⟩
  have hi := (List.getElem?_eq_some_iff.1 hx).1
  simp at hi
  rw [List.getElem?_map, List.getElem?_range hi] at hx
  simp only [Option.map_some, Option.some.injEq] at hx
  rw [← hx]
  exact hf i hi
instance : Inhabited S54 := ⟨z54⟩
instance : Inhabited S69 := ⟨z69⟩
set_option maxRecDepth 100000 in
theorem rules_of {fuel : Nat} {cs : List Value} {x : DataW H × List MemPlace} (hf : DataW.trod enc Tryz.prog W 0 (fun _ => true) true fuel 22 cs = some x) :
    ∃ (A : Option Addr) (l : List S54) (c : Nat), cs = [.slice A l.length c] ∧ Kd.C k54 W A l.length l ∧ l.length ≤ c := by
  rcases Go.Deep.open_slice Tryz.underlying22 hf with ⟨rfl, _⟩ | ⟨a, len, cap, m, n, D, Pl, rfl, _, hl, hm, hmm, _, hx⟩
  · exact ⟨none, [], 0, rfl, Kd.C_nil _ _, Nat.le_refl _⟩
  · have hle : len ≤ m := by rw [hmm]; simp; omega
    have c40 : Tryz.prog.cellsOf 40 = 6 := by kernel_rfl
    have each : ∀ i, i < len → ∃ r : S54, ∃ c : List Value, c.length = 6 ∧ k54.K W r c ∧ ∀ j u, c[j]? = some u → W.cell? (a.add (i * 6 + j)) = some u := by
      intro i hi
      obtain ⟨cs', h1, h2⟩ := hx i (by omega)
      rw [c40] at h1
      obtain ⟨_, hlen, hcell⟩ := World.cells?_some h1
      obtain ⟨r, A4, c4, rfl, h4, hC⟩ := rule_of h2
      refine ⟨r, _, rfl, k54_mk W r h4 hC, fun j u hj => ?_⟩
      have hj6 : j < 6 := (List.getElem?_eq_some_iff.1 hj).1
      have := hcell j hj6
      rw [Go.Deep.add_add] at this
      rw [this]
      exact hj
    obtain ⟨l, hll, hp⟩ := list_of each
    subst hll
    refine ⟨some a, l, cap, rfl, ⟨rfl, by simp only [maxLen] at hm; omega, fun _ => ⟨a, rfl, fun j p hj => ?_⟩⟩, hl⟩
    obtain ⟨c, h1, h2, h3⟩ := hp j p hj
    exact ⟨c, h1, h2, h3⟩
set_option maxRecDepth 100000 in
theorem attrs_of {fuel : Nat} {cs : List Value} {x : DataW H × List MemPlace} (hf : DataW.trod enc Tryz.prog W 0 (fun _ => true) true fuel 23 cs = some x) :
    ∃ (A : Option Addr) (l : List S69) (c : Nat), cs = [.slice A l.length c] ∧ Kd.C k69 W A l.length l ∧ l.length ≤ c := by
  rcases Go.Deep.open_slice Tryz.underlying23 hf with ⟨rfl, _⟩ | ⟨a, len, cap, m, n, D, Pl, rfl, _, hl, hm, hmm, _, hx⟩
  · exact ⟨none, [], 0, rfl, Kd.C_nil _ _, Nat.le_refl _⟩
  · have hle : len ≤ m := by rw [hmm]; simp; omega
    have c42 : Tryz.prog.cellsOf 42 = 2 := by kernel_rfl
    have each : ∀ i, i < len → ∃ r : S69, ∃ c : List Value, c.length = 2 ∧ k69.K W r c ∧ ∀ j u, c[j]? = some u → W.cell? (a.add (i * 2 + j)) = some u := by
      intro i hi
      obtain ⟨cs', h1, h2⟩ := hx i (by omega)
      rw [c42] at h1
      obtain ⟨_, hlen, hcell⟩ := World.cells?_some h1
      obtain ⟨r, A4, c4, rfl, h4, hC⟩ := attr_of h2
      refine ⟨r, _, rfl, k69_mk W r h4 hC, fun j u hj => ?_⟩
      have hj2 : j < 2 := (List.getElem?_eq_some_iff.1 hj).1
      have := hcell j hj2
      rw [Go.Deep.add_add] at this
      rw [this]
      exact hj
    obtain ⟨l, hll, hp⟩ := list_of each
    subst hll
    refine ⟨some a, l, cap, rfl, ⟨rfl, by simp only [maxLen] at hm; omega, fun _ => ⟨a, rfl, fun j p hj => ?_⟩⟩, hl⟩
    obtain ⟨c, h1, h2, h3⟩ := hp j p hj
    exact ⟨c, h1, h2, h3⟩
set_option maxRecDepth 100000 in
theorem open_rules (hval : Value.okWide Tryz.prog W .any base 22 v) (h : DataW.Trod enc Tryz.prog W 0 (fun _ => true) true 22 v d ps) :
    ∃ (A : Option Addr) (l : List S54) (c : Nat), v = .slice A l.length c ∧ Kd.C k54 W A l.length l ∧ l.length ≤ c ∧ ∀ x ∈ ps, x.block < W.heap.size := by
  have hlt : ∀ x ∈ ps, x.block < W.heap.size := by obtain ⟨m, hm⟩ := h; exact DataW.trod_lt m _ _ _ hm
  obtain ⟨a0, len, cap, rfl⟩ := okWide_slice Tryz.underlying22 hval
  obtain ⟨fuel, hf⟩ := h
  obtain ⟨A, l, c, e, hC, hc⟩ := rules_of hf
  simp [Value.cells] at e
  obtain ⟨rfl, rfl, rfl⟩ := e
  exact ⟨_, l, _, rfl, hC, hc, hlt⟩
set_option maxRecDepth 100000 in
theorem open_entry (hval : Value.okWide Tryz.prog W .any base 25 v) (h : DataW.Trod enc Tryz.prog W 0 (fun _ => true) true 25 v d ps) :
    ∃ (s : ByteArray) (A : Option Addr) (l : List S69) (c : Nat), v = .agg #[.string s, .slice A l.length c] ∧ Kd.C k69 W A l.length l ∧ l.length ≤ c ∧ ∀ x ∈ ps, x.block < W.heap.size := by
  have hlt : ∀ x ∈ ps, x.block < W.heap.size := by obtain ⟨m, hm⟩ := h; exact DataW.trod_lt m _ _ _ hm
  obtain ⟨cs, rfl, hsz⟩ := okWide_struct Tryz.underlying25 hval
  obtain ⟨fuel, hf⟩ := h
  obtain ⟨xs, n, _, _, hlen, hxl, hf⟩ := DataW.trod_struct Tryz.underlying25 hf
  have c25 : Tryz.prog.cellsOf 25 = 2 := by kernel_rfl
  have hlen2 : cs.toList.length = 2 := by
    have h := hlen
    rw [c25] at h
    exact h
  have c9 : Tryz.prog.cellsOf 9 = 1 := by kernel_rfl
  have c23 : Tryz.prog.cellsOf 23 = 1 := by kernel_rfl
  obtain ⟨cl⟩ := cs
  simp only [Value.cells] at hf hlen2
  match cl, hlen2, xs, hxl with
  | [v0, v1], _, [y0, y1], _ =>
    have g0 := hf 0 _ rfl
    have g1 := hf 1 _ rfl
    simp [c9, c23] at g0 g1
    obtain ⟨s0, e0, _, _⟩ := DataW.trod_string Tryz.underlying9 g0
    obtain ⟨A4, l4, k4, e4, hC4, hk4⟩ := attrs_of g1
    simp at e0 e4
    subst e0 e4
    exact ⟨s0, A4, l4, k4, rfl, hC4, hk4, hlt⟩
end
end Go.Proofs.YtflkghdndffacaaGreatDoor.RowU
