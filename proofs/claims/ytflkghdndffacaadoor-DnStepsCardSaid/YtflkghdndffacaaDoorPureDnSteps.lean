/- The statement DnSteps as the printed functions reckon it: with enough rounds the answer is true at all values and type numbers. -/
import Derived.Test.YtflkghdndffacaaDoorPDx30
import Derived.Test.YtflkghdndffacaaDoorPureT
namespace Go.Proofs.YtflkghdndffacaaDoor.Pure
open Go.RowKit Go.Proofs.YtflkghdndffacaaDoor.PD Go.Proofs.YtflkghdndffacaaDoor.H Go.Proofs.YtflkghdndffacaaDoorW.PrintWords Go.Proofs.YtflkghdndffacaaDoorW.PrintLast
theorem awake_60 : brooklaw2_awake.f 60 = some true := by decide +kernel
theorem awake_ev : Ev (fun k => brooklaw2_awake.f k) true := Ev.of (fun k => brooklaw2_awake.mono k) awake_60
theorem steps_l0 (l : List S25) (hl : Made l) : ∀ d j : Nat, j + d = l.length → Ev (fun k => brooklaw2_DnSteps.l0 k l (B (text ((keyL l).drop j))) (j : Int)) true := by
  have hl5 := hl.1
  have hkl := keyL_length l
  have hs := text_small (made_key hl)
  have hta := may_typed (made_key hl)
  intro d
  induction d with
  | zero =>
    intro j hj
    obtain rfl : j = l.length := by omega
    refine Ev.step (fun k => by rw [brooklaw2_DnSteps.l0]) ?_
    refine Ev.neg (by omega) ?_
    simp only [B_toList]
    refine Ev.pos (by rw [List.drop_eq_nil_of_le (by omega)]; rfl) ?_
    exact Ev.bind awake_ev (Ev.now true)
  | succ d ih =>
    intro j hj
    have hjl : j < l.length := by omega
    have hone : ((l.take (j + 1)).drop j) = [l[j]] := by
      rw [List.drop_take, show j + 1 - j = 1 by omega, List.drop_eq_getElem_cons hjl]
      rfl
    have hm1 : Made [l[j]] := ⟨by simp, fun r hr => by
      obtain rfl : r = l[j] := by simpa using hr
      exact hl.2 _ (List.getElem_mem hjl)⟩
    have hk1 : keyL [l[j]] = [keyR l[j]] := rfl
    have hcons : (keyL l).drop j = keyR l[j] :: (keyL l).drop (j + 1) := by
      rw [List.drop_eq_getElem_cons (by omega)]
      congr 1
      simp [keyL]
    have hlen := text_drop_len (keyL l) j (by omega)
    have hlen1 := text_drop_len (keyL l) (j + 1) (by omega)
    have hlt : (text ((keyL l).drop (j + 1))).length < (text ((keyL l).drop j)).length := by rw [hcons]; have := text_shorter (keyR l[j]) ((keyL l).drop (j + 1)); omega
    have hs1 := text_small (made_may hm1)
    have hs2 := text_small (made_key hm1)
    have htext : text ((keyL l).drop j) = text [keyR l[j]] ++ textL true ((keyL l).drop (j + 1)) := by
      rw [hcons]; simp [text, textL]
    have hj1 : ∀ want : ByteArray, want = B (text ((keyL l).drop j)) → Ev (fun k => brooklaw2_DnSteps.j1 k l (B (text ((keyL l).drop j))) (j : Int) (B (text [keyR l[j]])) true (B (text ((keyL l).drop (j + 1)))) want) true := by
      intro want hw
      subst hw
      refine Ev.step (fun k => by rw [brooklaw2_DnSteps.j1]) ?_
      refine Ev.pos rfl ?_
      refine Ev.pos rfl ?_
      rw [hk1] at hs2
      refine Ev.bind (up_ev _ (by omega)) ?_
      simp only [B_toList]
      have hup : upS (text [keyR l[j]]) = [] := upS_text (keyR l[j]) [] (hta _ (by rw [← List.drop_zero (l := keyL l)]; exact List.mem_of_mem_drop (i := j) (by rw [List.drop_zero, hcons]; simp)))
      refine Ev.pos hup ?_
      refine Ev.bind (under_ev _ _ (by omega)) ?_
      refine Ev.pos (underS_drop hta (j + 1) (by omega) 1 j rfl) ?_
      refine Ev.pos (by rw [B_size]; omega) ?_
      refine Ev.bind (under_ev _ _ (by omega)) ?_
      rw [underS_short _ _ _ (Nat.le_refl _) hlt]
      refine Ev.neg (by simp) ?_
      rw [wrap_succ (by omega)]
      exact ih (j + 1) (by omega)
    refine Ev.step (fun k => by rw [brooklaw2_DnSteps.l0]) ?_
    rw [wrap_succ (by omega)]
    refine Ev.pos (by omega) ?_
    refine Ev.pos (by omega) ?_
    refine Ev.pos (by omega) ?_
    refine Ev.pos (by omega) ?_
    rw [Int.toNat_natCast, Int.toNat_natCast, hone]
    refine Ev.fix (text_ev (made_modest hm1)) ?_
    refine Ev.bind (key_ev (text [l[j]]) (by omega)) ?_
    rw [keyS_made hm1, hk1]
    refine Ev.bind (up_ev _ (by omega)) ?_
    rw [upS_drop hta (by omega)]
    have hwl : wrap64 ((l.length : Int) - 1) = ((l.length - 1 : Nat) : Int) := by rw [wrap64_small (by omega)]; omega
    rw [hwl]
    rw [hk1] at hs2
    by_cases hlast : j + 1 < l.length
    · refine Ev.pos (by omega) ?_
      refine Ev.pos (by simp only [B_size]; omega) ?_
      rw [show (⟨#[44]⟩ : ByteArray) = B [44] from rfl]
      simp only [B_append]
      refine Ev.pos (by simp only [B_size, List.length_append, List.length_cons, List.length_nil]; omega) ?_
      refine hj1 _ ?_
      rw [htext]
      have : (keyL l).drop (j + 1) = (keyL l)[j + 1]'(by omega) :: (keyL l).drop (j + 1 + 1) := List.drop_eq_getElem_cons (by omega)
      rw [this]
      simp [text, textL]
    · refine Ev.neg (by omega) ?_
      refine hj1 _ ?_
      rw [htext, List.drop_eq_nil_of_le (by omega : (keyL l).length ≤ j + 1)]
      simp [textL]
theorem DnSteps (l0 : List ByteArray) (l1 : List Int) (_ : ∀ s ∈ l0, s.size ≤ 9223372036854775807) (h1 : ∀ n ∈ l1, (Lit.int .u8 n).wf = true) : ∃ k, brooklaw2_DnSteps.f k l0 l1 = some true := by
  refine Ev.rounds (g := fun k => brooklaw2_DnSteps.f k l0 l1) ?_
  obtain ⟨l, hl, hm⟩ := make_ev l0 l1 h1
  unfold brooklaw2_DnSteps.f
  refine Ev.bind hl ?_
  refine Ev.fix (text_ev (made_modest hm)) ?_
  have hs := text_small (made_may hm)
  refine Ev.bind (key_ev (text l) (by omega)) ?_
  rw [keyS_made hm]
  refine Ev.pos rfl ?_
  exact steps_l0 l hm l.length 0 (by omega)
end Go.Proofs.YtflkghdndffacaaDoor.Pure
