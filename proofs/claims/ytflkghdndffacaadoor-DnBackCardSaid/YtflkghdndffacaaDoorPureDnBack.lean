/- The statement DnBack as the printed functions reckon it: with enough rounds the answer is true at all values and all type numbers. -/
import Derived.Test.YtflkghdndffacaaDoorPDx16
import Derived.Test.YtflkghdndffacaaDoorPureF
namespace Go.Proofs.YtflkghdndffacaaDoor.Pure
open Go.RowKit Go.Proofs.YtflkghdndffacaaDoor.PD Go.Proofs.YtflkghdndffacaaDoor.H Go.Proofs.YtflkghdndffacaaDoorW.PrintWords Go.Proofs.YtflkghdndffacaaDoorW.PrintLast
theorem awake_60 : brooklaw2_awake.f 60 = some true := by decide +kernel
theorem awake_ev : Ev (fun k => brooklaw2_awake.f k) true := Ev.of (fun k => brooklaw2_awake.mono k) awake_60
theorem back_l0 (l : List S25) (hl : Made l) (s : List UInt8) (hs : s.length ≤ 100000000) : ∀ q p : List UInt8, s = p ++ q → (∀ d ∈ q, seen d) → Ev (fun k => brooklaw2_DnBack.l0 k l (B s) l true (p.length : Int)) true := by
  intro q
  induction q with
  | nil =>
    intro p hp _
    obtain rfl : s = p := by simpa using hp
    refine Ev.step (fun k => by rw [brooklaw2_DnBack.l0]) ?_
    refine Ev.neg (by rw [B_size]; omega) ?_
    refine Ev.pos rfl ?_
    refine Ev.bind (same_ev l (by have := hl.1; omega)) ?_
    exact Ev.pos rfl (Ev.bind awake_ev (Ev.now true))
  | cons c q ih =>
    intro p hp hq
    have hlen : p.length + 1 + q.length = s.length := by rw [hp]; simp; omega
    have hb : bt (B s) (p.length : Int) = (c.toNat : Int) := by rw [hp]; exact bt_pre p c q
    have hi := ih (p ++ [c]) (by rw [hp]; simp) (fun d hd => hq d (by simp [hd]))
    rw [show (p ++ [c]).length = p.length + 1 by simp] at hi
    have hc := hq c (by simp)
    unfold seen at hc
    refine Ev.step (fun k => by rw [brooklaw2_DnBack.l0]) ?_
    refine Ev.pos (by rw [B_size]; omega) ?_
    refine Ev.pos (by omega) ?_
    rw [hb, wrap_succ (by omega)]
    refine Ev.neg (by omega) ?_
    exact Ev.neg (by omega) hi
theorem DnBack (l0 : List ByteArray) (l1 : List Int) (_ : ∀ s ∈ l0, s.size ≤ 9223372036854775807) (h1 : ∀ n ∈ l1, (Lit.int .u8 n).wf = true) : ∃ k, brooklaw2_DnBack.f k l0 l1 = some true := by
  refine Ev.rounds (g := fun k => brooklaw2_DnBack.f k l0 l1) ?_
  obtain ⟨l, hl, hm⟩ := make_ev l0 l1 h1
  have hmo := made_modest hm
  have hl5 := hm.1
  have htl := text_len hmo
  unfold brooklaw2_DnBack.f
  refine Ev.bind hl ?_
  refine Ev.fix (text_ev hmo) ?_
  refine Ev.bind (parse_ev (text l) (by omega)) ?_
  rw [parseL_text l (made_may hm)]
  exact back_l0 l hm (text l) (by omega) (text l) [] rfl (fun d hd => textL_seen l false (fun r hr => good_part (hm.2 r hr)) d hd)
end Go.Proofs.YtflkghdndffacaaDoor.Pure
