/- What the statements' Make makes: at most five parts, of five types, each value a 'v' and at most sixty bytes; such a list may be a name. -/
import Derived.Test.YtflkghdndffacaaDoorPDx14
import Derived.Test.YtflkghdndffacaaDoorPDx15
import Derived.Test.YtflkghdndffacaaDoorPureE
namespace Go.Proofs.YtflkghdndffacaaDoor.Pure
open Go.RowKit Go.Proofs.YtflkghdndffacaaDoor.PD Go.Proofs.YtflkghdndffacaaDoor.H Go.Proofs.YtflkghdndffacaaDoorW.PrintWords Go.Proofs.YtflkghdndffacaaDoorW.PrintLast
def types5 : List (List UInt8) := [[99, 110], [79], [120, 45, 49], [117, 105, 100], [79, 85]]
def Good (r : S25) : Prop := ∃ t w, t ∈ types5 ∧ w.length ≤ 60 ∧ r = ⟨B t, B (118 :: w)⟩
def Made (l : List S25) : Prop := l.length ≤ 5 ∧ ∀ r ∈ l, Good r
theorem types_typed : ∀ t ∈ types5, typedB t = true := by decide
theorem types_len : ∀ t ∈ types5, t.length ≤ 3 := by decide
theorem good_part {r : S25} (h : Good r) : partB r = true := by
  obtain ⟨t, w, ht, hw, rfl⟩ := h
  unfold partB
  rw [B_data, B_data, types_typed t ht]
  simp; omega
theorem made_may {l : List S25} (h : Made l) : mayB l = true := mayB_iff.2 ⟨fun r hr => good_part (h.2 r hr), by have := h.1; omega⟩
theorem made_modest {l : List S25} (h : Made l) : Modest l := by
  refine ⟨by have := h.1; omega, fun r hr => ?_⟩
  obtain ⟨t, w, ht, hw, rfl⟩ := h.2 r hr
  have := types_len t ht
  rw [B_size, B_size]
  simp; omega
theorem make_l0 (l0 : List ByteArray) (l1 : List Int) (h1 : ∀ n ∈ l1, (Lit.int .u8 n).wf = true) :
    ∀ (d i : Nat) (acc : List S25), i + d = 5 → acc.length = i → (∀ r ∈ acc, Good r) → ∃ l, Ev (fun k => brooklaw2_Make.l0 k l0 l1 acc (i : Int)) l ∧ Made l := by
  intro d
  induction d with
  | zero =>
    intro i acc hi ha hg
    refine ⟨acc, Ev.step (fun k => by rw [brooklaw2_Make.l0]) ?_, by omega, hg⟩
    have jf : ∀ b, b = false → Ev (fun k => brooklaw2_Make.j1 k l0 l1 acc (i : Int) b) acc := fun b hb => by
      subst hb
      exact Ev.step (fun k => by rw [brooklaw2_Make.j1]) (Ev.neg (by simp) (Ev.now _))
    by_cases h : (i : Int) < (l0.length : Int)
    · exact Ev.pos h (jf _ (by simp; omega))
    · exact Ev.neg h (jf _ rfl)
  | succ d ih =>
    intro i acc hi ha hg
    by_cases h : (i : Int) < (l0.length : Int)
    · generalize hv : rdOf ByteArray.empty l0 (i : Int) = v
      have hm0 : 0 ≤ mn (v.size : Int) 60 := by unfold mn; split <;> omega
      have hm1 : mn (v.size : Int) 60 ≤ (v.size : Int) := by unfold mn; split <;> omega
      have hm2 : mn (v.size : Int) 60 ≤ 60 := by unfold mn; split <;> omega
      generalize hx : v.extract 0 (mn (v.size : Int) 60).toNat = x
      have hxs : x.size ≤ 60 := by rw [← hx]; simp; omega
      have hst : ∃ t ∈ types5,
          ∀ l, Ev (fun k => brooklaw2_Make.l0 k l0 l1 (acc ++ [⟨B t, B (118 :: x.data.toList)⟩]) ((i + 1 : Nat) : Int)) l → Ev (fun k => brooklaw2_Make.l0 k l0 l1 acc (i : Int)) l := by
        have ex : (⟨#[118]⟩ : ByteArray) ++ x = B (118 :: x.data.toList) := by
          have : x = B x.data.toList := (B_of x).symm
          conv => lhs; rw [this]
          exact B_append [118] _
        have hxl : 1 + x.size ≤ 9223372036854775807 := by omega
        by_cases hn : (i : Int) < (l1.length : Int)
        · have hw := h1 (l1.getD i 0) (by rw [List.getD_eq_getElem?_getD, List.getElem?_eq_getElem (by omega)]; simp)
          have hr : rd l1 (i : Int) = l1.getD i 0 := by simp [rd]
          generalize hz : l1.getD i 0 = z at *
          have hb : 0 ≤ z ∧ z < 256 := by have := hw; simp [Lit.wf, IntKind.min, IntKind.max, IntKind.bits, IntKind.signed] at this; omega
          have ht5 : Int.tmod z 5 = z % 5 := Int.tmod_eq_emod_of_nonneg hb.1
          have hsel : ∃ t ∈ types5, rdOf ByteArray.empty [(⟨#[99, 110]⟩ : ByteArray), (⟨#[79]⟩ : ByteArray), (⟨#[120, 45, 49]⟩ : ByteArray), (⟨#[117, 105, 100]⟩ : ByteArray), (⟨#[79, 85]⟩ : ByteArray)] (z % 5) = B t := by
            have : z % 5 = 0 ∨ z % 5 = 1 ∨ z % 5 = 2 ∨ z % 5 = 3 ∨ z % 5 = 4 := by omega
            rcases this with e | e | e | e | e <;> rw [e]
            · exact ⟨[99, 110], by decide, rfl⟩
            · exact ⟨[79], by decide, rfl⟩
            · exact ⟨[120, 45, 49], by decide, rfl⟩
            · exact ⟨[117, 105, 100], by decide, rfl⟩
            · exact ⟨[79, 85], by decide, rfl⟩
          obtain ⟨t, htm, hte⟩ := hsel
          refine ⟨t, htm, fun l hl => ?_⟩
          refine Ev.step (fun k => by rw [brooklaw2_Make.l0]) ?_
          refine Ev.pos h ?_
          refine Ev.step (fun k => by rw [brooklaw2_Make.j1]) ?_
          refine Ev.pos (by simp; omega) ?_
          refine Ev.pos hn ?_
          refine Ev.fix rfl ?_
          rw [hv, hr, ht5, hx, hte, ex, wrap_succ (by omega)]
          refine Ev.pos (by omega) ?_
          refine Ev.pos (by omega) ?_
          refine Ev.pos (by simp only [List.length_cons, List.length_nil]; omega) ?_
          refine Ev.pos h ?_
          refine Ev.pos hm0 ?_
          refine Ev.pos hm1 ?_
          refine Ev.pos hxl ?_
          exact Ev.pos (by omega) hl
        · refine ⟨[99, 110], by decide, fun l hl => ?_⟩
          refine Ev.step (fun k => by rw [brooklaw2_Make.l0]) ?_
          refine Ev.pos h ?_
          refine Ev.step (fun k => by rw [brooklaw2_Make.j1]) ?_
          refine Ev.pos (by simp; omega) ?_
          refine Ev.neg hn ?_
          rw [hv, hx, ex, wrap_succ (by omega)]
          refine Ev.pos (by omega) ?_
          refine Ev.pos h ?_
          refine Ev.pos hm0 ?_
          refine Ev.pos hm1 ?_
          refine Ev.pos hxl ?_
          exact Ev.pos (by omega) hl
      obtain ⟨t, ht, hstep⟩ := hst
      obtain ⟨l, hl, hmade⟩ := ih (i + 1) (acc ++ [⟨B t, B (118 :: x.data.toList)⟩]) (by omega) (by simp; omega) (by
        intro r hr
        rcases List.mem_append.1 hr with hr | hr
        · exact hg r hr
        · obtain rfl : r = ⟨B t, B (118 :: x.data.toList)⟩ := by simpa using hr
          exact ⟨t, x.data.toList, ht, by rw [← Lib.size_eq]; exact hxs, rfl⟩)
      exact ⟨l, hstep l hl, hmade⟩
    · refine ⟨acc, Ev.step (fun k => by rw [brooklaw2_Make.l0]) ?_, by omega, hg⟩
      refine Ev.neg h ?_
      exact Ev.step (fun k => by rw [brooklaw2_Make.j1]) (Ev.neg (by simp) (Ev.now _))
theorem make_ev (l0 : List ByteArray) (l1 : List Int) (h1 : ∀ n ∈ l1, (Lit.int .u8 n).wf = true) : ∃ l, Ev (fun k => brooklaw2_Make.f k l0 l1) l ∧ Made l :=
  make_l0 l0 l1 h1 5 0 [] rfl rfl (by simp)
theorem same_l0 (l : List S25) (hl : l.length ≤ 1000000) : ∀ q p : List S25, l = p ++ q → Ev (fun k => brooklaw2_Same.l0 k l l (p.length : Int)) true := by
  intro q
  induction q with
  | nil =>
    intro p hp
    obtain rfl : l = p := by simpa using hp
    refine Ev.step (fun k => by rw [brooklaw2_Same.l0]) ?_
    exact Ev.neg (by omega) (Ev.now _)
  | cons r q ih =>
    intro p hp
    have hlen : p.length + 1 + q.length = l.length := by rw [hp]; simp; omega
    have hi := ih (p ++ [r]) (by rw [hp]; simp)
    rw [show (p ++ [r]).length = p.length + 1 by simp] at hi
    refine Ev.step (fun k => by rw [brooklaw2_Same.l0]) ?_
    refine Ev.pos (by omega) ?_
    refine Ev.pos (by omega) ?_
    refine Ev.pos (by omega) ?_
    refine Ev.neg (by simp) ?_
    rw [wrap_succ (by omega)]
    exact hi
theorem same_ev (l : List S25) (hl : l.length ≤ 1000000) : Ev (fun k => brooklaw2_Same.f k l l) true := by
  unfold brooklaw2_Same.f
  exact Ev.pos rfl (same_l0 l hl l [] rfl)
theorem text_ev {l : List S25} (h : Modest l) : dn_Text.f l = some (B (text l)) := by rw [text_B l h, text_up]
theorem text_len {l : List S25} (h : Modest l) : (text l).length ≤ 4000002 * l.length := by
  rw [← text_up]; exact textUp_len l h l.length
end Go.Proofs.YtflkghdndffacaaDoor.Pure
