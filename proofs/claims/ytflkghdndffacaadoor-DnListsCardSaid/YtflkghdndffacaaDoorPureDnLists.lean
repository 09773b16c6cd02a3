/- The statement DnLists as the printed functions reckon it: with enough rounds the answer is true at every list of parts. -/
import Derived.Test.YtflkghdndffacaaDoorPDx13
import Derived.Test.YtflkghdndffacaaDoorPureC
namespace Go.Proofs.YtflkghdndffacaaDoor.Pure
open Go.RowKit Go.Proofs.YtflkghdndffacaaDoor.PD Go.Proofs.YtflkghdndffacaaDoor.H Go.Proofs.YtflkghdndffacaaDoorW.PrintWords Go.Proofs.YtflkghdndffacaaDoorW.PrintLast
theorem awake_60 : brooklaw2_awake.f 60 = some true := by decide +kernel
theorem awake_ev : Ev (fun k => brooklaw2_awake.f k) true := Ev.of (fun k => brooklaw2_awake.mono k) awake_60
theorem lists_l0 (l : List S25) (hl : l.length ≤ 12) : ∀ q p : List S25, l = p ++ q → (∀ r ∈ p, r.f0.size ≤ 1000000 ∧ r.f1.size ≤ 1000000) → Ev (fun k => brooklaw2_DnLists.l0 k l (p.length : Int)) true := by
  intro q
  induction q with
  | nil =>
    intro p hp hm
    obtain rfl : l = p := by simpa using hp
    have hmo : Modest l := ⟨by omega, hm⟩
    refine Ev.step (fun k => by rw [brooklaw2_DnLists.l0]) ?_
    refine Ev.neg (by omega) ?_
    refine Ev.bind (may_ev l (by omega)) ?_
    refine Ev.bind (mayDn_ev l (by omega)) ?_
    refine Ev.pos (by simp) ?_
    refine Ev.fix (text_B l hmo) ?_
    refine Ev.bind (textDn_ev l hmo) ?_
    refine Ev.pos rfl ?_
    exact Ev.bind awake_ev (Ev.now true)
  | cons r q ih =>
    intro p hp hm
    have hlen : p.length + 1 + q.length = l.length := by rw [hp]; simp; omega
    have hb : rd_T25 l (p.length : Int) = r := by rw [hp]; exact rd_pre p r q
    have hn : (p ++ [r]).length = p.length + 1 := by simp
    refine Ev.step (fun k => by rw [brooklaw2_DnLists.l0]) ?_
    refine Ev.pos (by omega) ?_
    refine Ev.pos (by omega) ?_
    rw [hb, wrap_succ (by omega)]
    by_cases h1 : (r.f0.size : Int) > 100
    · exact Ev.pos h1 (Ev.bind awake_ev (Ev.now true))
    · refine Ev.neg h1 ?_
      by_cases h2 : (r.f1.size : Int) > 200
      · exact Ev.pos h2 (Ev.bind awake_ev (Ev.now true))
      · refine Ev.neg h2 ?_
        have hi := ih (p ++ [r]) (by rw [hp]; simp) (by
          intro s hs
          rcases List.mem_append.1 hs with hs | hs
          · exact hm s hs
          · obtain rfl : s = r := by simpa using hs
            omega)
        rw [hn] at hi
        exact hi
theorem DnLists (l : List S25) : ∃ k, brooklaw2_DnLists.f k l = some true := by
  refine Ev.rounds (g := fun k => brooklaw2_DnLists.f k l) ?_
  unfold brooklaw2_DnLists.f
  by_cases h : l.length ≤ 12
  · refine Ev.neg (by omega) ?_
    exact lists_l0 l h l [] rfl (by simp)
  · refine Ev.pos (by omega) ?_
    exact Ev.bind awake_ev (Ev.now true)
end Go.Proofs.YtflkghdndffacaaDoor.Pure
