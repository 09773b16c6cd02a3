/- The statement DnAll as the printed functions reckon it: with enough rounds the answer is true at any two texts. -/
import Derived.Test.YtflkghdndffacaaDoorPDx28
import Derived.Test.YtflkghdndffacaaDoorPureR
namespace Go.Proofs.YtflkghdndffacaaDoor.Pure
open Go.RowKit Go.Proofs.YtflkghdndffacaaDoor.PD Go.Proofs.YtflkghdndffacaaDoor.H Go.Proofs.YtflkghdndffacaaDoorW.PrintWords Go.Proofs.YtflkghdndffacaaDoorW.PrintLast
theorem awake_60 : brooklaw2_awake.f 60 = some true := by decide +kernel
theorem awake_ev : Ev (fun k => brooklaw2_awake.f k) true := Ev.of (fun k => brooklaw2_awake.mono k) awake_60
theorem parseL_small (s : List UInt8) : (parseL s).1.length ≤ 8 := by
  cases h : (parseL s).2 with
  | true => exact (mayB_iff.1 (parseS_may 8 s [] (s != []) _ (by rw [← h]; rfl))).2
  | false =>
    have key : ∀ n (s : List UInt8) (acc : List S25) (more : Bool), (parseS n s acc more).2 = false → (parseS n s acc more).1 = [] := by
      intro n
      induction n with
      | zero =>
        intro s acc more h
        cases more with
        | false =>
          rw [parseS_done] at h ⊢
          by_cases hm : mayB acc = true
          · rw [if_pos hm] at h; cases h
          · rw [if_neg hm]
        | true => rw [parseS_zero]
      | succ n ih =>
        intro s acc more h
        cases more with
        | false =>
          rw [parseS_done] at h ⊢
          by_cases hm : mayB acc = true
          · rw [if_pos hm] at h; cases h
          · rw [if_neg hm]
        | true =>
          cases hc : cutS s with
          | none => rw [parseS_none _ _ _ hc]
          | some x =>
            obtain ⟨a, b⟩ := x
            rw [parseS_some _ _ _ _ _ hc] at h ⊢
            by_cases h1 : typedB a = false
            · rw [if_pos h1]
            · rw [if_neg h1] at h ⊢
              by_cases h2 : (valS true [] false b).2.2 = false
              · rw [if_pos h2]
              · rw [if_neg h2] at h ⊢
                exact ih _ _ _ h
    have := key 8 s [] (s != []) h
    unfold parseL
    rw [this]; simp
theorem all_j0 (s t : List UInt8) (hs : s.length ≤ 400) : Ev (fun k => brooklaw2_DnAll.j0 k (B s) (B t) false) true := by
  refine Ev.step (fun k => by rw [brooklaw2_DnAll.j0]) ?_
  refine Ev.neg (by simp) ?_
  refine Ev.bind (parse_ev s (by omega)) ?_
  refine Ev.bind (parseDn_ev s (by omega)) ?_
  refine Ev.bind (key_ev s (by omega)) ?_
  refine Ev.bind (rkey_ev s (by omega)) ?_
  refine Ev.bind (same_ev (parseL s).1 (by have := parseL_small s; omega)) ?_
  refine Ev.pos rfl ?_
  refine Ev.pos (by simp) ?_
  refine Ev.pos rfl ?_
  refine Ev.pos (by simp) ?_
  refine Ev.fix (fold_B (by omega)) ?_
  refine Ev.bind (rfold_ev s (by omega)) ?_
  refine Ev.pos rfl ?_
  refine Ev.bind (up_ev s (by omega)) ?_
  refine Ev.bind (rup_ev s (by omega)) ?_
  refine Ev.pos rfl ?_
  refine Ev.bind (under_ev s t (by omega)) ?_
  refine Ev.bind (runder_ev s t (by omega)) ?_
  refine Ev.pos (by simp) ?_
  exact Ev.bind awake_ev (Ev.now true)
theorem DnAll (a0 a1 : ByteArray) (_ : a0.size ≤ 140737488351232) (_ : a1.size ≤ 140737488351232) : ∃ k, brooklaw2_DnAll.f k a0 a1 = some true := by
  suffices key : Ev (fun k => brooklaw2_DnAll.f k a0 a1) true by
    obtain ⟨K, h⟩ := key
    exact ⟨K, h K (Nat.le_refl _)⟩
  have jt : Ev (fun k => brooklaw2_DnAll.j0 k a0 a1 true) true := by
    refine Ev.step (fun k => by rw [brooklaw2_DnAll.j0]) ?_
    exact Ev.pos rfl (Ev.bind awake_ev (Ev.now true))
  unfold brooklaw2_DnAll.f
  by_cases h0 : (a0.size : Int) > 400
  · exact Ev.pos h0 jt
  · refine Ev.neg h0 ?_
    by_cases h1 : (a1.size : Int) > 400
    · rw [decide_eq_true h1]
      exact jt
    · rw [decide_eq_false h1]
      have := all_j0 a0.data.toList a1.data.toList (by rw [← Lib.size_eq]; omega)
      rw [B_of, B_of] at this
      exact this
end Go.Proofs.YtflkghdndffacaaDoor.Pure
