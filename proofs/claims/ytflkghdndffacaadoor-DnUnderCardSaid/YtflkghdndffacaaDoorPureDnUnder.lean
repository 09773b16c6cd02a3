/- The statement DnUnder as the printed functions reckon it: with enough rounds the answer is true at all values, type numbers and places. -/
import Derived.Test.YtflkghdndffacaaDoorPDx29
import Derived.Test.YtflkghdndffacaaDoorPureT
namespace Go.Proofs.YtflkghdndffacaaDoor.Pure
open Go.RowKit Go.Proofs.YtflkghdndffacaaDoor.PD Go.Proofs.YtflkghdndffacaaDoor.H Go.Proofs.YtflkghdndffacaaDoorW.PrintWords Go.Proofs.YtflkghdndffacaaDoorW.PrintLast
theorem awake_60 : brooklaw2_awake.f 60 = some true := by decide +kernel
theorem awake_ev : Ev (fun k => brooklaw2_awake.f k) true := Ev.of (fun k => brooklaw2_awake.mono k) awake_60
theorem made_drop {l : List S25} (h : Made l) (i : Nat) : Made (l.drop i) := ⟨by have := h.1; simp; omega, fun r hr => h.2 r (List.mem_of_mem_drop hr)⟩
theorem keyL_drop (l : List S25) (i : Nat) : keyL (l.drop i) = (keyL l).drop i := by simp [keyL]
section
variable (l : List S25) (hl : Made l) (i : Nat) (hi : i < l.length)
include hl hi
theorem under_l1 : ∀ d j : Nat, j + d = l.length → Ev (fun k => brooklaw2_DnUnder.l1 k l (i : Int) (B (text (keyL l))) true (B (text ((keyL l).drop i))) true (B (text ((keyL l).drop i))) (B (text ((keyL l).drop j))) (j : Int)) true := by
  have hl5 := hl.1
  have hkl := keyL_length l
  have hs := text_small (made_key hl)
  have hta := may_typed (made_key hl)
  intro d
  induction d with
  | zero =>
    intro j hj
    obtain rfl : j = l.length := by omega
    refine Ev.step (fun k => by rw [brooklaw2_DnUnder.l1]) ?_
    refine Ev.neg (by omega) ?_
    refine Ev.pos rfl ?_
    refine Ev.pos rfl ?_
    refine Ev.pos rfl ?_
    simp only [B_toList]
    refine Ev.pos (by rw [List.drop_eq_nil_of_le (by omega)]; rfl) ?_
    have hlen := text_drop_len (keyL l) i (by omega)
    have ha : text (keyL l) = text ((keyL l).drop 0) := rfl
    refine Ev.bind (under_ev _ _ (by omega)) ?_
    have hu : underS (text (keyL l)) (text ((keyL l).drop i)) = true := underS_drop hta i (by omega) i 0 (by omega)
    refine Ev.pos hu ?_
    refine Ev.bind (a := true) (by have := under_ev (text (keyL l)) [] (by omega); rw [underS_nil _ _ (Nat.le_refl _)] at this; exact this) ?_
    refine Ev.pos rfl ?_
    refine Ev.bind (under_ev (text (keyL l)) _ (by omega)) ?_
    refine Ev.pos (underS_self _) ?_
    have hpos : 0 < (text (keyL l)).length := by have := text_drop_len (keyL l) l.length (by omega); omega
    have hend : Ev (fun k => ((dn_Under.f k (⟨#[]⟩ : ByteArray) (B (text (keyL l)))).bind fun t349 => (if t349 = true then (some false) else ((brooklaw2_awake.f k).bind fun t350 => (some t350))))) true := by
      refine Ev.bind (under_ev [] (text (keyL l)) (by simp)) ?_
      rw [underS_short 0 [] _ (by simp) (by simpa using hpos)]
      refine Ev.neg (by simp) ?_
      exact Ev.bind awake_ev (Ev.now true)
    by_cases h0 : i = 0
    · exact Ev.pos (by omega) hend
    · refine Ev.neg (by omega) ?_
      refine Ev.bind (under_ev (text ((keyL l).drop i)) (text (keyL l)) (by omega)) ?_
      rw [underS_short _ _ _ (Nat.le_refl _) (by omega)]
      exact Ev.neg (by simp) hend
  | succ d ih =>
    intro j hj
    refine Ev.step (fun k => by rw [brooklaw2_DnUnder.l1]) ?_
    refine Ev.pos (by omega) ?_
    have hlen := text_drop_len (keyL l) j (by omega)
    refine Ev.bind (up_ev _ (by omega)) ?_
    rw [upS_drop hta (by omega), wrap_succ (by omega)]
    exact ih (j + 1) (by omega)
theorem under_l0' : ∀ d j : Nat, j + d = i → Ev (fun k => brooklaw2_DnUnder.l0 k l (i : Int) (B (text (keyL l))) true (B (text ((keyL l).drop i))) true (B (text ((keyL l).drop j))) (j : Int)) true := by
  have hl5 := hl.1
  have hkl := keyL_length l
  have hs := text_small (made_key hl)
  have hta := may_typed (made_key hl)
  intro d
  induction d with
  | zero =>
    intro j hj
    obtain rfl : j = i := by omega
    refine Ev.step (fun k => by rw [brooklaw2_DnUnder.l0]) ?_
    refine Ev.neg (by omega) ?_
    exact under_l1 l hl j hi l.length 0 (by omega)
  | succ d ih =>
    intro j hj
    refine Ev.step (fun k => by rw [brooklaw2_DnUnder.l0]) ?_
    refine Ev.pos (by omega) ?_
    have hlen := text_drop_len (keyL l) j (by omega)
    refine Ev.bind (up_ev _ (by omega)) ?_
    rw [upS_drop hta (by omega), wrap_succ (by omega)]
    exact ih (j + 1) (by omega)
end
theorem DnUnder (l0 : List ByteArray) (l1 : List Int) (a2 : Int) (_ : ∀ s ∈ l0, s.size ≤ 9223372036854775807) (h1 : ∀ n ∈ l1, (Lit.int .u8 n).wf = true) (w2 : (Lit.int .u8 a2).wf = true) : ∃ k, brooklaw2_DnUnder.f k l0 l1 a2 = some true := by
  have hb : 0 ≤ a2 ∧ a2 < 256 := by have := w2; simp [Lit.wf, IntKind.min, IntKind.max, IntKind.bits, IntKind.signed] at this; omega
  refine Ev.rounds (g := fun k => brooklaw2_DnUnder.f k l0 l1 a2) ?_
  obtain ⟨l, hl, hm⟩ := make_ev l0 l1 h1
  have hl5 := hm.1
  unfold brooklaw2_DnUnder.f
  refine Ev.bind hl ?_
  by_cases h0 : l.length = 0
  · exact Ev.pos (by omega) (Ev.bind awake_ev (Ev.now true))
  · refine Ev.neg (by omega) ?_
    refine Ev.fix (text_ev (made_modest hm)) ?_
    have hs := text_small (made_may hm)
    refine Ev.bind (key_ev (text l) (by omega)) ?_
    rw [keyS_made hm]
    have e : Int.tmod (wrap64 a2) (l.length : Int) = ((a2.toNat % l.length : Nat) : Int) := by
      rw [wrap64_small (by omega), Int.tmod_eq_emod_of_nonneg hb.1, Int.natCast_emod, Int.toNat_of_nonneg hb.1]
    rw [e]
    generalize hi : a2.toNat % l.length = i
    have hil : i < l.length := by rw [← hi]; exact Nat.mod_lt _ (by omega)
    refine Ev.pos (by omega) ?_
    refine Ev.pos (by omega) ?_
    rw [Int.toNat_natCast]
    have hmd := made_drop hm i
    refine Ev.fix (text_ev (made_modest hmd)) ?_
    have hs2 := text_small (made_may hmd)
    refine Ev.bind (key_ev (text (l.drop i)) (by omega)) ?_
    rw [keyS_made hmd, keyL_drop]
    exact under_l0' l hm i hil i 0 (by omega)
end Go.Proofs.YtflkghdndffacaaDoor.Pure
