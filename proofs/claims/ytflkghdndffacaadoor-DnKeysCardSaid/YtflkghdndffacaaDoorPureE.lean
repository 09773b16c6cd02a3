/- A name's text, told again: dn.Parse of the text of a list that may be a name is that list. No condition but that it may be one. -/
import Derived.Test.YtflkghdndffacaaDoorPureD
namespace Go.Proofs.YtflkghdndffacaaDoor.Pure
open Go.RowKit Go.Proofs.YtflkghdndffacaaDoor.PD Go.Proofs.YtflkghdndffacaaDoor.H Go.Proofs.YtflkghdndffacaaDoorW.PrintWords Go.Proofs.YtflkghdndffacaaDoorW.PrintLast
def escL (n : Nat) : Nat → List UInt8 → List UInt8
  | _, [] => []
  | k, c :: r => escC n k c ++ escL n (k + 1) r
def esc (v : List UInt8) : List UInt8 := escL v.length 0 v
theorem escUp_escL (l : List UInt8) : ∀ q p : List UInt8, l = p ++ q → escUp l p.length ++ escL l.length p.length q = escUp l l.length := by
  intro q
  induction q with
  | nil => intro p hp; obtain rfl : l = p := by simpa using hp
           simp [escL]
  | cons c q ih =>
    intro p hp
    have hi := ih (p ++ [c]) (by rw [hp]; simp)
    have hn : (p ++ [c]).length = p.length + 1 := by simp
    rw [hn, escUp_succ (c := c) (by rw [hp]; simp), List.append_assoc] at hi
    exact hi
theorem esc_up (v : List UInt8) : escUp v v.length = esc v := by
  have := escUp_escL v v [] rfl
  simpa [escUp, esc] using this.symm
def seg (r : S25) : List UInt8 := r.f0.data.toList ++ 61 :: esc r.f1.data.toList
def textL : Bool → List S25 → List UInt8
  | _, [] => []
  | b, r :: rs => (if b = true then [44] else []) ++ seg r ++ textL true rs
theorem textUp_textL (l : List S25) : ∀ q p : List S25, l = p ++ q → textUp l p.length ++ textL (decide (p ≠ [])) q = textUp l l.length := by
  intro q
  induction q with
  | nil => intro p hp; obtain rfl : l = p := by simpa using hp
           simp [textL]
  | cons r q ih =>
    intro p hp
    have hi := ih (p ++ [r]) (by rw [hp]; simp)
    have hn : (p ++ [r]).length = p.length + 1 := by simp
    rw [hn, textUp_succ (r := r) (by rw [hp]; simp), esc_up] at hi
    rw [← hi]
    have e1 : decide (p ++ [r] ≠ []) = true := by simp
    have e2 : decide (p ≠ []) = true ↔ 0 < p.length := by simp [List.length_pos_iff]
    rw [e1]
    simp only [textL, e2, seg]
    simp
def text (l : List S25) : List UInt8 := textL false l
theorem text_up (l : List S25) : textUp l l.length = text l := by
  have := textUp_textL l l [] rfl
  simpa [textUp, text] using this.symm
/-! ### The value back -/
theorem hex_back_fin : ∀ n : Fin 256, ((UInt8.ofNat n.val).toNat < 32 ∨ 126 < (UInt8.ofNat n.val).toNat) → (oneB (hexD ((UInt8.ofNat n.val).toNat / 16)) = false ∧ 0 ≤ digB (hexD ((UInt8.ofNat n.val).toNat / 16)) ∧ 0 ≤ digB (hexD ((UInt8.ofNat n.val).toNat % 16)) ∧ ((digB (hexD ((UInt8.ofNat n.val).toNat / 16))).toNat * 16 + (digB (hexD ((UInt8.ofNat n.val).toNat % 16))).toNat).toUInt8 = UInt8.ofNat n.val) := by decide +kernel
theorem hex_back (c : UInt8) (R : List UInt8) (h : c.toNat < 32 ∨ 126 < c.toNat) : escAt (hexD (c.toNat / 16) :: hexD (c.toNat % 16) :: R) = some (c, 2) := by
  obtain ⟨h1, h2, h3, h4⟩ := u8_all (P := fun c => (c.toNat < 32 ∨ 126 < c.toNat) → (oneB (hexD (c.toNat / 16)) = false ∧ 0 ≤ digB (hexD (c.toNat / 16)) ∧ 0 ≤ digB (hexD (c.toNat % 16)) ∧ ((digB (hexD (c.toNat / 16))).toNat * 16 + (digB (hexD (c.toNat % 16))).toNat).toUInt8 = c)) hex_back_fin c h
  rw [escAt_two (by simp [h1]) ⟨h2, h3⟩, h4]
theorem special44 : specialB 44 = true := by decide
theorem special92 : specialB 92 = true := by decide
theorem valS_escC (n k : Nat) (c : UInt8) (acc : List UInt8) (sp : Bool) (R : List UInt8) :
    valS (k == 0) acc sp (escC n k c ++ R) = valS false (acc ++ [c]) (decide (escC n k c = [c]) && c == 32) R := by
  unfold escC
  split
  · next h =>
    have e : ([92, hexD (c.toNat / 16), hexD (c.toNat % 16)] : List UInt8) ++ R = 92 :: hexD (c.toNat / 16) :: hexD (c.toNat % 16) :: R := rfl
    rw [e, valS, if_neg (by decide), if_pos rfl, hex_back c R h]
    simp
  · next h =>
    split
    · next h2 =>
      have ho : oneB c = true := by
        unfold oneB
        rcases h2 with h2 | ⟨_, h2 | h2⟩ | ⟨_, h2⟩ <;> simp [h2]
      have e : ([92, c] : List UInt8) ++ R = 92 :: c :: R := rfl
      rw [e, valS, if_neg (by decide), if_pos rfl, escAt_one ho]
      simp
    · next h2 =>
      have hs : specialB c = false := by
        cases e : specialB c with
        | false => rfl
        | true => exact absurd (.inl e) h2
      have h44 : c ≠ 44 := by rintro rfl; rw [special44] at hs; cases hs
      have h92 : c ≠ 92 := by rintro rfl; rw [special92] at hs; cases hs
      have hb : badC (k == 0) c = false := by
        unfold badC
        rw [hs, decide_eq_false (fun hh => h (.inl hh)), decide_eq_false (fun hh => h (.inr hh))]
        by_cases hk : k = 0
        · have h3 : c ≠ 35 := fun hh => h2 (.inr (.inl ⟨hk, .inl hh⟩))
          have h4 : c ≠ 32 := fun hh => h2 (.inr (.inl ⟨hk, .inr hh⟩))
          simp [h3, h4]
        · simp [hk]
      have e : ([c] : List UInt8) ++ R = c :: R := rfl
      rw [e, valS, if_neg h44, if_neg h92, if_neg (by simp [hb])]
      simp
theorem valS_rest (first : Bool) (acc : List UInt8) (rest : List UInt8) (h : rest = [] ∨ rest.head? = some 44) : valS first acc false rest = (acc, rest, true) := by
  cases rest with
  | nil => rw [valS]; rfl
  | cons d rest =>
    have : d = 44 := by simpa using h
    rw [valS, if_pos this]; rfl
theorem valS_escL (v rest : List UInt8) (h : rest = [] ∨ rest.head? = some 44) : ∀ (q p : List UInt8) (sp : Bool), v = p ++ q → (q = [] → sp = false) → valS (p.length == 0) p sp (escL v.length p.length q ++ rest) = (v, rest, true) := by
  intro q
  induction q with
  | nil =>
    intro p sp hp hsp
    obtain rfl : v = p := by simpa using hp
    rw [hsp rfl]
    exact valS_rest _ _ _ h
  | cons c q ih =>
    intro p sp hp _
    have hlen : p.length + 1 + q.length = v.length := by rw [hp]; simp; omega
    rw [escL, List.append_assoc, valS_escC]
    have hi := ih (p ++ [c]) (decide (escC v.length p.length c = [c]) && c == 32) (by rw [hp]; simp) (by
      intro hq
      subst hq
      by_cases hc : c = 32
      · subst hc
        have : escC v.length p.length 32 = [92, 32] := by
          unfold escC
          rw [if_neg (by decide), if_pos (.inr (.inr ⟨by simpa using hlen, rfl⟩))]
        rw [this]; simp
      · simp [hc])
    have hn : (p ++ [c]).length = p.length + 1 := by simp
    rw [hn, show (p.length + 1 == 0) = false by simp] at hi
    exact hi
theorem valS_esc (v rest : List UInt8) (h : rest = [] ∨ rest.head? = some 44) : valS true [] false (esc v ++ rest) = (v, rest, true) :=
  valS_escL v rest h v [] false rfl (fun _ => rfl)
/-! ### The parts back -/
theorem textL_head (rs : List S25) : textL true rs = [] ∨ (textL true rs).head? = some 44 := by
  cases rs with
  | nil => exact .inl rfl
  | cons r rs => exact .inr (by simp [textL])
theorem textL_drop (rs : List S25) : (textL true rs).drop 1 = textL false rs := by
  cases rs with
  | nil => rfl
  | cons r rs => simp [textL]
theorem textL_ne (b : Bool) (rs : List S25) : (textL b rs != []) = (!rs.isEmpty) := by
  cases rs with
  | nil => rfl
  | cons r rs => simp [textL, seg]
theorem cutS_at (a b : List UInt8) (h : 61 ∉ a) : cutS (a ++ 61 :: b) = some (a, b) := by
  induction a with
  | nil => simp [cutS]
  | cons c a ih =>
    have hc : c ≠ 61 := fun e => h (by simp [e])
    have := ih (fun e => h (by simp [e]))
    simp [cutS, hc, this]
theorem typeC_fin : ∀ n : Fin 256, typeC (UInt8.ofNat n.val) = true → 33 ≤ (UInt8.ofNat n.val).toNat ∧ (UInt8.ofNat n.val).toNat ≤ 126 ∧ UInt8.ofNat n.val ≠ 61 ∧ UInt8.ofNat n.val ≠ 44 ∧ UInt8.ofNat n.val ≠ 92 ∧ UInt8.ofNat n.val ≠ 32 := by decide +kernel
theorem typeC_rng {c : UInt8} (h : typeC c = true) : 33 ≤ c.toNat ∧ c.toNat ≤ 126 ∧ c ≠ 61 ∧ c ≠ 44 ∧ c ≠ 92 ∧ c ≠ 32 :=
  u8_all (P := fun c => typeC c = true → 33 ≤ c.toNat ∧ c.toNat ≤ 126 ∧ c ≠ 61 ∧ c ≠ 44 ∧ c ≠ 92 ∧ c ≠ 32) typeC_fin c h
theorem typed_all {l : List UInt8} (h : typedB l = true) : ∀ c ∈ l, typeC c = true := by
  unfold typedB at h
  split at h
  · cases h
  · simp only [Bool.and_eq_true, List.all_eq_true] at h
    exact h.2
theorem typed_61 {l : List UInt8} (h : typedB l = true) : 61 ∉ l := fun hm => (typeC_rng (typed_all h 61 hm)).2.2.1 rfl
theorem mayB_iff {l : List S25} : mayB l = true ↔ (∀ r ∈ l, partB r = true) ∧ l.length ≤ 8 := by simp [mayB]
theorem part_typed {r : S25} (h : partB r = true) : typedB r.f0.data.toList = true := by
  unfold partB at h; simp only [Bool.and_eq_true] at h; exact h.1
theorem parse_text : ∀ (rs acc : List S25) (n : Nat), acc.length + n = 8 → mayB (acc ++ rs) = true → parseS n (textL false rs) acc (!rs.isEmpty) = (acc ++ rs, true) := by
  intro rs
  induction rs with
  | nil =>
    intro acc n hn hm
    rw [show (!([] : List S25).isEmpty) = false from rfl, parseS_done, if_pos (by simpa using hm)]; simp
  | cons r rs ih =>
    intro acc n hn hm
    obtain ⟨h1, h2⟩ := mayB_iff.1 hm
    have hr := h1 r (by simp)
    obtain ⟨n, rfl⟩ : ∃ m, n = m + 1 := ⟨n - 1, by simp at h2; omega⟩
    have ht := part_typed hr
    have e : textL false (r :: rs) = r.f0.data.toList ++ 61 :: (esc r.f1.data.toList ++ textL true rs) := by simp [textL, seg]
    rw [show (!(r :: rs).isEmpty) = true from rfl, e, parseS_some _ _ _ _ _ (cutS_at _ _ (typed_61 ht)), if_neg (by simp [ht]), valS_esc _ _ (textL_head rs)]
    simp only [textL_drop, textL_ne, B_of]
    rw [if_neg (by simp)]
    have := ih (acc ++ [r]) n (by simp; omega) (by simpa using hm)
    simpa using this
theorem parseL_text (l : List S25) (h : mayB l = true) : parseL (text l) = (l, true) := by
  unfold parseL text
  rw [textL_ne]
  have := parse_text l [] 8 rfl (by simpa using h)
  simpa using this
/-! ### A name's text has only what is printed -/
theorem hexD_fin : ∀ n : Fin 16, 33 ≤ (hexD n.val).toNat ∧ (hexD n.val).toNat ≤ 126 ∧ hexD n.val ≠ 44 ∧ hexD n.val ≠ 92 ∧ hexD n.val ≠ 61 := by decide
theorem hexD_rng {n : Nat} (h : n < 16) : 33 ≤ (hexD n).toNat ∧ (hexD n).toNat ≤ 126 ∧ hexD n ≠ 44 ∧ hexD n ≠ 92 ∧ hexD n ≠ 61 := hexD_fin ⟨n, h⟩
def seen (c : UInt8) : Prop := 32 ≤ c.toNat ∧ c.toNat ≤ 126
theorem escC_seen (n k : Nat) (c d : UInt8) (h : d ∈ escC n k c) : seen d := by
  have hc := UInt8.toNat_lt c
  unfold escC at h
  split at h
  · have h1 := hexD_rng (n := c.toNat / 16) (by omega)
    have h2 := hexD_rng (n := c.toNat % 16) (by omega)
    simp only [List.mem_cons, List.not_mem_nil, or_false] at h
    rcases h with rfl | rfl | rfl
    · exact ⟨by decide, by decide⟩
    · exact ⟨by omega, h1.2.1⟩
    · exact ⟨by omega, h2.2.1⟩
  · next hn =>
    have hcs : seen c := ⟨by omega, by omega⟩
    split at h
    · simp only [List.mem_cons, List.not_mem_nil, or_false] at h
      rcases h with rfl | rfl
      · exact ⟨by decide, by decide⟩
      · exact hcs
    · simp only [List.mem_cons, List.not_mem_nil, or_false] at h
      rw [h]; exact hcs
theorem escL_seen (n : Nat) : ∀ (v : List UInt8) (k : Nat) (d : UInt8), d ∈ escL n k v → seen d := by
  intro v
  induction v with
  | nil => intro k d h; simp [escL] at h
  | cons c v ih =>
    intro k d h
    rw [escL, List.mem_append] at h
    rcases h with h | h
    · exact escC_seen n k c d h
    · exact ih _ d h
theorem textL_seen : ∀ (l : List S25) (b : Bool), (∀ r ∈ l, partB r = true) → ∀ d ∈ textL b l, seen d := by
  intro l
  induction l with
  | nil => intro b _ d h; simp [textL] at h
  | cons r l ih =>
    intro b hp d h
    simp only [textL, List.mem_append, seg, List.mem_cons] at h
    rcases h with (h | h | h | h) | h
    · split at h
      · simp only [List.mem_cons, List.not_mem_nil, or_false] at h
        rw [h]; exact ⟨by decide, by decide⟩
      · simp at h
    · have := typeC_rng (typed_all (part_typed (hp r (by simp))) d h)
      exact ⟨by omega, this.2.1⟩
    · rw [h]; exact ⟨by decide, by decide⟩
    · exact escL_seen _ _ _ d h
    · exact ih true (fun r hr => hp r (by simp [hr])) d h
end Go.Proofs.YtflkghdndffacaaDoor.Pure
