/- What dn.Key reckons, in plain words; the key of a key is that. No condition but that the text is of a modest length. -/
import Derived.Test.YtflkghdndffacaaDoorPDx7
import Derived.Test.YtflkghdndffacaaDoorPureF
namespace Go.Proofs.YtflkghdndffacaaDoor.Pure
open Go.RowKit Go.Proofs.YtflkghdndffacaaDoor.PD Go.Proofs.YtflkghdndffacaaDoor.H Go.Proofs.YtflkghdndffacaaDoorW.PrintWords Go.Proofs.YtflkghdndffacaaDoorW.PrintLast
def keyR (r : S25) : S25 := ⟨B (lowL r.f0.data.toList), B (foldL r.f1.data.toList)⟩
def keyL (l : List S25) : List S25 := l.map keyR
def foldOk (r : S25) : Bool := decide (foldL r.f1.data.toList ≠ [])
theorem keyL_append (p q : List S25) : keyL (p ++ q) = keyL p ++ keyL q := by simp [keyL]
theorem keyL_length (p : List S25) : (keyL p).length = p.length := by simp [keyL]
theorem keyL_modest {l : List S25} (h : Modest l) : Modest (keyL l) := by
  refine ⟨by rw [keyL_length]; exact h.1, fun r hr => ?_⟩
  obtain ⟨s, hs, rfl⟩ := List.mem_map.1 hr
  obtain ⟨h1, h2⟩ := h.2 s hs
  have := foldL_le s.f1.data.toList
  rw [Lib.size_eq] at h1 h2
  simp only [keyR, B_size, lowL_length]
  omega
theorem rd_mid (p : List S25) (r : S25) (q : List S25) {n : Nat} (h : p.length = n) : rd_T25 (p ++ r :: q) (n : Int) = r := by subst h; exact rd_pre p r q
theorem set_mid (p : List S25) (r x : S25) (q : List S25) {n : Nat} (h : p.length = n) : (p ++ r :: q).set ((n : Int)).toNat x = p ++ x :: q := by subst h; simp
theorem key_l0 (l : List S25) (hm : Modest l) : ∀ q p : List S25, l = p ++ q →
    Ev (fun k => dn_Key.l0 k (keyL p ++ q) (l.length : Int) (p.length : Int)) (if q.all foldOk = true then (B (text (keyL l)), true) else (B [], false)) := by
  intro q
  induction q with
  | nil =>
    intro p hp
    obtain rfl : l = p := by simpa using hp
    refine Ev.step (fun k => by rw [dn_Key.l0]) ?_
    refine Ev.neg (by omega) ?_
    rw [List.append_nil]
    refine Ev.fix (text_ev (keyL_modest hm)) ?_
    exact Ev.now _
  | cons r q ih =>
    intro p hp
    have hlen : p.length + 1 + q.length = l.length := by rw [hp]; simp; omega
    have hl := hm.1
    obtain ⟨h1, h2⟩ := hm.2 r (by rw [hp]; simp)
    rw [Lib.size_eq] at h1 h2
    have hkl := keyL_length p
    refine Ev.step (fun k => by rw [dn_Key.l0]) ?_
    refine Ev.pos (by omega) ?_
    refine Ev.pos (by omega) ?_
    refine Ev.pos (by simp [hkl]; omega) ?_
    rw [rd_mid _ _ _ hkl, wrap_succ (by omega)]
    refine Ev.fix (v := B (lowL r.f0.data.toList)) (by rw [← lowered_B (by omega), B_of]) ?_
    refine Ev.fix (v := B (foldL r.f1.data.toList)) (by rw [← fold_B (by omega), B_of]) ?_
    refine Ev.fix rfl ?_
    rw [set_mid _ _ _ _ hkl, rd_mid _ _ _ hkl, set_mid _ _ _ _ hkl]
    simp only [B_toList]
    by_cases hf : foldL r.f1.data.toList = []
    · have : foldOk r = false := by unfold foldOk; simp [hf]
      rw [List.all_cons, this]
      exact Ev.pos hf (Ev.now _)
    · have : foldOk r = true := by unfold foldOk; simp [hf]
      rw [List.all_cons, this, Bool.true_and]
      refine Ev.neg hf ?_
      have hi := ih (p ++ [r]) (by rw [hp]; simp)
      rw [keyL_append, show (p ++ [r]).length = p.length + 1 by simp, List.append_assoc] at hi
      exact hi
theorem may_modest {l : List S25} (h : mayB l = true) : Modest l := by
  obtain ⟨h1, h2⟩ := mayB_iff.1 h
  refine ⟨by omega, fun r hr => ?_⟩
  have hp := h1 r hr
  have ht := part_typed hp
  unfold partB at hp
  simp only [Bool.and_eq_true, decide_eq_true_eq] at hp
  unfold typedB at ht
  rw [Lib.size_eq, Lib.size_eq]
  split at ht
  · cases ht
  · next c q e =>
    simp only [Bool.and_eq_true, decide_eq_true_eq] at ht
    rw [e]
    simp only [List.length_cons]
    omega
theorem parseS_may : ∀ n (s : List UInt8) (acc : List S25) (more : Bool) (l : List S25), parseS n s acc more = (l, true) → mayB l = true := by
  intro n
  induction n with
  | zero =>
    intro s acc more l h
    cases more with
    | false =>
      rw [parseS_done] at h
      split at h
      · next hm => cases h; exact hm
      · cases h
    | true => rw [parseS_zero] at h; cases h
  | succ n ih =>
    intro s acc more l h
    cases more with
    | false =>
      rw [parseS_done] at h
      split at h
      · next hm => cases h; exact hm
      · cases h
    | true =>
      cases hc : cutS s with
      | none => rw [parseS_none _ _ _ hc] at h; cases h
      | some x =>
        obtain ⟨a, b⟩ := x
        rw [parseS_some _ _ _ _ _ hc] at h
        split at h
        · cases h
        · split at h
          · cases h
          · exact ih _ _ _ _ h
def keyS (s : List UInt8) : ByteArray × Bool := if (parseL s).2 = true then (if (parseL s).1.all foldOk = true then (B (text (keyL (parseL s).1)), true) else (B [], false)) else (B [], false)
theorem key_ev (s : List UInt8) (hs : s.length ≤ 100000000) : Ev (fun k => dn_Key.f k (B s)) (keyS s) := by
  unfold dn_Key.f keyS
  refine Ev.bind (parse_ev s hs) ?_
  by_cases h : (parseL s).2 = true
  · rw [if_pos h]
    refine Ev.pos h ?_
    have hm : mayB (parseL s).1 = true := parseS_may 8 s [] (s != []) _ (by rw [← h]; rfl)
    exact key_l0 _ (may_modest hm) _ [] rfl
  · rw [if_neg h]
    exact Ev.neg h (Ev.now _)
theorem keyS_text {l : List S25} (h : mayB l = true) (hf : l.all foldOk = true) : keyS (text l) = (B (text (keyL l)), true) := by
  unfold keyS
  rw [parseL_text l h, if_pos rfl, if_pos hf]
theorem keyR_keyR (r : S25) : keyR (keyR r) = keyR r := by
  simp only [keyR, B_data, lowL_lowL, foldL_foldL]
theorem keyL_keyL (l : List S25) : keyL (keyL l) = keyL l := by
  simp only [keyL, List.map_map]
  congr 1
  funext r
  exact keyR_keyR r
theorem foldOk_key (r : S25) : foldOk (keyR r) = foldOk r := by simp only [foldOk, keyR, B_data, foldL_foldL]
theorem low_types : ∀ t ∈ types5, typedB (lowL t) = true := by decide
theorem fold_v (w : List UInt8) : foldL (118 :: w) ≠ [] := by
  intro h
  have := foldL_filter (118 :: w)
  rw [h] at this
  have e : lowL (118 :: w) = 118 :: lowL w := rfl
  rw [e, List.filter_cons_of_pos (by decide)] at this
  simp at this
theorem made_fold {l : List S25} (h : Made l) : l.all foldOk = true := by
  rw [List.all_eq_true]
  intro r hr
  obtain ⟨t, w, _, _, rfl⟩ := h.2 r hr
  unfold foldOk
  rw [B_data]
  exact decide_eq_true (fold_v w)
theorem made_key {l : List S25} (h : Made l) : mayB (keyL l) = true := by
  refine mayB_iff.2 ⟨fun r hr => ?_, by rw [keyL_length]; have := h.1; omega⟩
  obtain ⟨s, hs, rfl⟩ := List.mem_map.1 hr
  obtain ⟨t, w, ht, hw, rfl⟩ := h.2 s hs
  unfold partB keyR
  have h1 := foldL_le (118 :: w)
  have h2 := fold_v w
  simp only [B_data, low_types t ht, Bool.true_and, Bool.and_eq_true, decide_eq_true_eq]
  exact ⟨h2, by simp at h1; omega⟩
theorem key_fold {l : List S25} (h : l.all foldOk = true) : (keyL l).all foldOk = true := by
  rw [List.all_eq_true] at h ⊢
  intro r hr
  obtain ⟨s, hs, rfl⟩ := List.mem_map.1 hr
  rw [foldOk_key]; exact h s hs
/-- The key of a made name's text; and of that. -/
theorem keyS_made {l : List S25} (h : Made l) : keyS (text l) = (B (text (keyL l)), true) := keyS_text (made_may h) (made_fold h)
theorem keyS_key {l : List S25} (h : Made l) : keyS (text (keyL l)) = (B (text (keyL l)), true) := by
  rw [keyS_text (made_key h) (key_fold (made_fold h)), keyL_keyL]
theorem text_small {l : List S25} (h : mayB l = true) : (text l).length ≤ 50000000 := by
  have h1 := text_len (may_modest h)
  have h2 := (mayB_iff.1 h).2
  omega
end Go.Proofs.YtflkghdndffacaaDoor.Pure
