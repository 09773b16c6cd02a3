/- Byte strings as lists of bytes, and lemmas on folding, trimming and squeezing them: the base of the seat's pure laws. No condition. -/
import Derived.Test.YtflkghdndffacaaDoorPDx0
namespace Go.Proofs.YtflkghdndffacaaDoor.Pure
open Go.RowKit Go.Proofs.YtflkghdndffacaaDoor.H Go.Proofs.YtflkghdndffacaaDoorW.PrintWords Go.Proofs.YtflkghdndffacaaDoorW.PrintLast
/-- A list of bytes as a string. -/
def B (l : List UInt8) : ByteArray := ⟨l.toArray⟩
theorem B_data (l : List UInt8) : (B l).data.toList = l := by simp [B]
theorem B_of (s : ByteArray) : B s.data.toList = s := by cases s; simp [B]
theorem B_size (l : List UInt8) : (B l).size = l.length := by rw [Lib.size_eq, B_data]
theorem B_toList (l : List UInt8) : (B l).toList = l := by rw [Lib.toList_data, B_data]
theorem B_append (l m : List UInt8) : B l ++ B m = B (l ++ m) := by
  apply ByteArray.ext
  simp [B]
theorem B_inj {l m : List UInt8} (h : B l = B m) : l = m := by
  have := congrArg (fun s : ByteArray => s.data.toList) h
  simpa [B_data] using this
theorem B_extract (l : List UInt8) (a b : Nat) : (B l).extract a b = B ((l.drop a).take (b - a)) := by rw [Lib.extract_eq, B_data]; rfl
theorem bt_at' {l : List UInt8} {j : Nat} {c : UInt8} (h : l[j]? = some c) : bt (B l) (j : Int) = (c.toNat : Int) := by
  obtain ⟨hj, hc⟩ := List.getElem?_eq_some_iff.1 h
  have hs : ((j : Int)).toNat < (B l).size := by rw [B_size]; simpa using hj
  unfold bt
  rw [dif_pos hs]
  have : ((B l)[((j : Int)).toNat]'hs) = c := by
    show (B l).data[j] = c
    simp only [B, List.getElem_toArray]
    exact hc
  rw [this]
theorem bt_pre (p : List UInt8) (c : UInt8) (r : List UInt8) : bt (B (p ++ c :: r)) (p.length : Int) = (c.toNat : Int) := bt_at' (by simp)
theorem cut_pre (p : List UInt8) (c : UInt8) (r : List UInt8) : (B (p ++ c :: r)).extract p.length (p.length + 1) = B [c] := by
  rw [B_extract]; simp
theorem u8_eq {c d : UInt8} : ((c.toNat : Int) = (d.toNat : Int)) ↔ c = d := by
  constructor
  · intro h; exact UInt8.toNat_inj.1 (by omega)
  · rintro rfl; rfl
theorem u8_int_inj {c : UInt8} {n : Nat} (hn : n < 256) : ((c.toNat : Int) = (n : Int)) ↔ c = UInt8.ofNat n := by
  constructor
  · intro h
    apply UInt8.toNat_inj.1
    simp only [UInt8.toNat_ofNat']
    omega
  · rintro rfl
    simp only [UInt8.toNat_ofNat']
    omega
theorem wrap64_small {n : Int} (h : -9223372036854775808 ≤ n ∧ n ≤ 9223372036854775807) : wrap64 n = n := by unfold wrap64; omega
/-! ### Ev -/
theorem Ev.pos {α : Type} {c : Prop} [Decidable c] {g f : Nat → Option α} {r : α} (h : c) (k : Ev g r) : Ev (fun n => if c then g n else f n) r := by simpa [h] using k
theorem Ev.neg {α : Type} {c : Prop} [Decidable c] {g f : Nat → Option α} {r : α} (h : ¬ c) (k : Ev f r) : Ev (fun n => if c then g n else f n) r := by simpa [h] using k
theorem Ev.fix {α β : Type} {a : Option α} {v : α} {f : Nat → α → Option β} {r : β} (h : a = some v) (k : Ev (fun n => f n v) r) : Ev (fun n => a.bind (f n)) r := by subst h; simpa using k
/-! ### Lower case -/
theorem lowC_32 (c : UInt8) : lowC c = 32 ↔ c = 32 := by
  have h : ∀ c : UInt8, (lowC c = 32 ↔ c = 32) := by
    intro c
    have hc := lowC_toNat c
    constructor
    · intro e
      rw [e] at hc
      apply UInt8.toNat_inj.1
      simp at hc ⊢
      split at hc <;> omega
    · rintro rfl; rfl
  exact h c
theorem lowC_lowC (c : UInt8) : lowC (lowC c) = lowC c := by
  apply UInt8.toNat_inj.1
  have h1 := lowC_toNat c
  have h2 := lowC_toNat (lowC c)
  split at h1 <;> split at h2 <;> omega
theorem lowL_lowL (l : List UInt8) : lowL (lowL l) = lowL l := by
  unfold lowL; rw [List.map_map]; congr 1; funext c; exact lowC_lowC c
theorem lowL_append (l m : List UInt8) : lowL (l ++ m) = lowL l ++ lowL m := by simp [lowL]
theorem lowL_length (l : List UInt8) : (lowL l).length = l.length := by simp [lowL]
theorem lowL_B (l : List UInt8) : lowS (B l) = B (lowL l) := by unfold lowS; rw [B_data]; rfl
theorem lower_B {l : List UInt8} (h : l.length ≤ 9223372036854775806) : brookref1_Lower.f (B l) = some (B (lowL l)) := by
  unfold brookref1_Lower.f; rw [if_pos (by rw [B_size]; exact h), lowL_B]
theorem lowered_B {l : List UInt8} (h : l.length ≤ 9223372036854775806) : dn_lowered.f (B l) = some (B (lowL l)) := by
  unfold dn_lowered.f; rw [if_pos (by rw [B_size]; exact h), lowL_B]
/-! ### Trimming -/
def nb (c : UInt8) : Bool := c != 32
theorem dropB_map (l : List UInt8) : (lowL l).dropWhile (· == 32) = lowL (l.dropWhile (· == 32)) := by
  unfold lowL
  rw [List.dropWhile_map]
  congr 2
  funext c
  simp only [Function.comp]
  rw [Bool.eq_iff_iff]; simp only [beq_iff_eq]; exact lowC_32 c
theorem trimB_low (l : List UInt8) : Lib.trimB (lowL l) 32 = lowL (Lib.trimB l 32) := by
  unfold Lib.trimB Lib.trimLeftB Lib.trimRightB
  have : (lowL l).reverse = lowL l.reverse := by simp [lowL]
  rw [this, dropB_map]
  have : (lowL (l.reverse.dropWhile (· == 32))).reverse = lowL (l.reverse.dropWhile (· == 32)).reverse := by simp [lowL]
  rw [this, dropB_map]
theorem dropWhile_head {l : List UInt8} {p : UInt8 → Bool} {c : UInt8} (h : (l.dropWhile p).head? = some c) : p c = false := by
  induction l with
  | nil => simp at h
  | cons a l ih =>
    rw [List.dropWhile_cons] at h
    split at h
    · exact ih h
    · next hn => simp at h; subst h; simpa using hn
theorem trimB_head (l : List UInt8) : (Lib.trimB l 32).head? ≠ some 32 := by
  intro h
  have := dropWhile_head h
  simp at this
theorem dropWhile_none {l : List UInt8} (h : l.head? ≠ some 32) : l.dropWhile (· == 32) = l := by
  cases l with
  | nil => rfl
  | cons a l => rw [List.dropWhile_cons_of_neg]; simpa using h
theorem dropWhile_last {l : List UInt8} {p : UInt8 → Bool} (h : l.getLast? ≠ some 32) : (l.dropWhile p).getLast? ≠ some 32 := by
  induction l with
  | nil => simp
  | cons a l ih =>
    rw [List.dropWhile_cons]
    split
    · cases l with
      | nil => simp
      | cons b l => exact ih (by simpa using h)
    · exact h
theorem trimB_last (l : List UInt8) : (Lib.trimB l 32).getLast? ≠ some 32 := by
  unfold Lib.trimB Lib.trimLeftB
  refine dropWhile_last ?_
  unfold Lib.trimRightB
  rw [List.getLast?_reverse]
  intro h
  have := dropWhile_head h
  simp at this
theorem trimB_same {l : List UInt8} (h : l.head? ≠ some 32) (h1 : l.getLast? ≠ some 32) : Lib.trimB l 32 = l := by
  unfold Lib.trimB Lib.trimLeftB Lib.trimRightB
  rw [dropWhile_none (l := l.reverse) (by rw [List.head?_reverse]; exact h1), List.reverse_reverse, dropWhile_none h]
theorem rep_drop (n : Nat) (l : List UInt8) : (List.replicate n 32 ++ l).dropWhile (· == 32) = l.dropWhile (· == 32) := by
  induction n with
  | zero => simp
  | succ n ih => rw [List.replicate_succ, List.cons_append, List.dropWhile_cons_of_pos (by simp), ih]
theorem trimRight_rep (n : Nat) (l : List UInt8) : Lib.trimRightB (l ++ List.replicate n 32) 32 = Lib.trimRightB l 32 := by
  unfold Lib.trimRightB
  rw [List.reverse_append, List.reverse_replicate, rep_drop]
theorem drop_snoc_all {l : List UInt8} {m : List UInt8} (h : ∀ c ∈ l, c = 32) : (l ++ m).dropWhile (· == 32) = m.dropWhile (· == 32) := by
  induction l with
  | nil => simp
  | cons a l ih => rw [List.cons_append, List.dropWhile_cons_of_pos (by simpa using h a (by simp)), ih (fun c hc => h c (by simp [hc]))]
theorem drop_snoc_some {l : List UInt8} {m : List UInt8} (h : ∃ c ∈ l, c ≠ 32) : (l ++ m).dropWhile (· == 32) = l.dropWhile (· == 32) ++ m := by
  induction l with
  | nil => simp at h
  | cons a l ih =>
    by_cases ha : a = 32
    · rw [List.cons_append, List.dropWhile_cons_of_pos (by simpa using ha), List.dropWhile_cons_of_pos (by simpa using ha)]
      refine ih ?_
      obtain ⟨c, hc, hn⟩ := h
      rcases List.mem_cons.1 hc with rfl | hc
      · exact absurd ha hn
      · exact ⟨c, hc, hn⟩
    · rw [List.cons_append, List.dropWhile_cons_of_neg (by simpa using ha), List.dropWhile_cons_of_neg (by simpa using ha)]; rfl
theorem trimB_rep (n m : Nat) (l : List UInt8) : Lib.trimB (List.replicate n 32 ++ l ++ List.replicate m 32) 32 = Lib.trimB l 32 := by
  unfold Lib.trimB
  rw [trimRight_rep]
  unfold Lib.trimLeftB Lib.trimRightB
  rw [List.reverse_append, List.reverse_replicate]
  by_cases h : ∃ c ∈ l.reverse, c ≠ 32
  · rw [drop_snoc_some h, List.reverse_append, List.reverse_replicate, rep_drop]
  · have h' : ∀ c ∈ l.reverse, c = 32 := fun c hc => Classical.not_not.1 fun hn => h ⟨c, hc, hn⟩
    rw [drop_snoc_all h']
    have e1 : ∀ k : Nat, (List.replicate k (32 : UInt8)).dropWhile (· == 32) = [] := fun k => by have h := rep_drop k []; rw [List.append_nil] at h; exact h
    have e2 : l.reverse.dropWhile (· == 32) = [] := by have := drop_snoc_all (m := []) h'; simpa using this
    rw [e1, e2]
/-! ### Squeezing -/
theorem snocRec {α : Type} {p : List α → Prop} (nil : p []) (snoc : ∀ l c, p l → p (l ++ [c])) (l : List α) : p l := by
  have : ∀ n (l : List α), l.length = n → p l := by
    intro n
    induction n with
    | zero => intro l h; rw [List.length_eq_zero_iff.1 h]; exact nil
    | succ n ih =>
      intro l h
      have hn : l ≠ [] := by intro e; simp [e] at h
      rw [← List.dropLast_concat_getLast hn]
      exact snoc _ _ (ih _ (by simp [h]))
  exact this _ l rfl
/-- No two blanks stand side by side. -/
def Sq (l : List UInt8) : Prop := ∀ i : Nat, ¬ (l[i]? = some 32 ∧ l[i + 1]? = some 32)
theorem sq_cons_last (l : List UInt8) (c : UInt8) : sq (l ++ [c]) = sqStep (sq l) c := by simp [sq]
theorem sq_last (l : List UInt8) : (sq l).getLast? = l.getLast? := by
  induction l using snocRec with
  | nil => rfl
  | snoc l c ih =>
    rw [sq_cons_last]
    unfold sqStep
    split
    · next h => rw [h.2, List.getLast?_append, h.1]; simp
    · simp [List.getLast?_append]
theorem sq_head (l : List UInt8) : (sq l).head? = l.head? := by
  induction l using snocRec with
  | nil => rfl
  | snoc l c ih =>
    rw [sq_cons_last]
    unfold sqStep
    split
    · next h => rw [ih]
                rw [sq_last] at h
                cases l with
                | nil => simp at h
                | cons a l => simp
    · cases l with
      | nil => simp [sq]
      | cons a l => 
        rw [List.head?_append, ih]; simp
theorem sq_filter (l : List UInt8) : (sq l).filter nb = l.filter nb := by
  induction l using snocRec with
  | nil => rfl
  | snoc l c ih =>
    rw [sq_cons_last]
    unfold sqStep
    split
    · next h => rw [ih, List.filter_append, h.1]; simp [nb]
    · rw [List.filter_append, List.filter_append, ih]
theorem sq_chain (l : List UInt8) : Sq (sq l) := by
  induction l using snocRec with
  | nil => intro i; simp [sq]
  | snoc l c ih =>
    rw [sq_cons_last]
    unfold sqStep
    split
    · exact ih
    · next h =>
      rintro i ⟨h1, h2⟩
      by_cases hi : i + 1 < (sq l).length
      · rw [List.getElem?_append_left (by omega)] at h1
        rw [List.getElem?_append_left hi] at h2
        exact ih i ⟨h1, h2⟩
      · have hl := (List.getElem?_eq_some_iff.1 h2).1
        simp at hl
        have hi' : i + 1 = (sq l).length := by omega
        rw [List.getElem?_append_left (by omega)] at h1
        rw [List.getElem?_append_right (by omega)] at h2
        simp [hi'] at h2
        refine h ⟨h2, ?_⟩
        rw [List.getLast?_eq_getElem?, ← hi']
        exact h1
theorem sq_of_chain {l : List UInt8} (h : Sq l) : sq l = l := by
  induction l using snocRec with
  | nil => rfl
  | snoc l c ih =>
    have hl : Sq l := by
      rintro i ⟨h1, h2⟩
      have h3 := (List.getElem?_eq_some_iff.1 h2).1
      exact h i ⟨by rw [List.getElem?_append_left (by omega)]; exact h1, by rw [List.getElem?_append_left h3]; exact h2⟩
    rw [sq_cons_last, ih hl]
    unfold sqStep
    rw [if_neg]
    rintro ⟨rfl, e⟩
    rw [List.getLast?_eq_getElem?] at e
    have h3 := (List.getElem?_eq_some_iff.1 e).1
    refine h (l.length - 1) ⟨by rw [List.getElem?_append_left h3]; exact e, ?_⟩
    have : l.length - 1 + 1 = l.length := by omega
    rw [this]; simp
theorem sq_sq (l : List UInt8) : sq (sq l) = sq l := sq_of_chain (sq_chain l)
theorem sqStep_low (b : List UInt8) (c : UInt8) : lowL (sqStep b c) = sqStep (lowL b) (lowC c) := by
  unfold sqStep
  have e : (lowL b).getLast? = some 32 ↔ b.getLast? = some 32 := by
    unfold lowL
    rw [List.getLast?_map]
    cases b.getLast? with
    | none => simp
    | some d => simp [lowC_32]
  simp only [lowC_32, e]
  split
  · rfl
  · simp [lowL]
theorem sq_low (l : List UInt8) : lowL (sq l) = sq (lowL l) := by
  induction l using snocRec with
  | nil => rfl
  | snoc l c ih =>
    have : lowL (l ++ [c]) = lowL l ++ [lowC c] := by simp [lowL]
    rw [this, sq_cons_last, sq_cons_last, sqStep_low, ih]
/-- What dn.Fold makes. -/
def foldL (l : List UInt8) : List UInt8 := sq (lowL (Lib.trimB l 32))
theorem low_head {l : List UInt8} : (lowL l).head? = some 32 ↔ l.head? = some 32 := by
  cases l with
  | nil => simp [lowL]
  | cons a l => simp [lowL, lowC_32]
theorem low_last {l : List UInt8} : (lowL l).getLast? = some 32 ↔ l.getLast? = some 32 := by
  unfold lowL
  rw [List.getLast?_map]
  cases l.getLast? with
  | none => simp
  | some d => simp [lowC_32]
theorem foldL_head (l : List UInt8) : (foldL l).head? ≠ some 32 := by
  unfold foldL; rw [sq_head, Ne, low_head]; exact trimB_head l
theorem foldL_last (l : List UInt8) : (foldL l).getLast? ≠ some 32 := by
  unfold foldL; rw [sq_last, Ne, low_last]; exact trimB_last l
theorem foldL_low (l : List UInt8) : lowL (foldL l) = foldL l := by unfold foldL; rw [sq_low, lowL_lowL]
theorem foldL_foldL (l : List UInt8) : foldL (foldL l) = foldL l := by
  have h2 : Lib.trimB (foldL l) 32 = foldL l := trimB_same (foldL_head l) (foldL_last l)
  have h3 : foldL (foldL l) = sq (lowL (Lib.trimB (foldL l) 32)) := rfl
  rw [h3, h2, foldL_low]
  exact sq_sq _
theorem foldL_low' (l : List UInt8) : foldL (lowL l) = foldL l := by unfold foldL; rw [trimB_low, lowL_lowL]
theorem foldL_rep (n m : Nat) (l : List UInt8) : foldL (List.replicate n 32 ++ l ++ List.replicate m 32) = foldL l := by unfold foldL; rw [trimB_rep]
theorem sq_le (l : List UInt8) : (sq l).length ≤ l.length := by
  have := sq_length l l.length
  rwa [List.take_length] at this
theorem foldL_le (l : List UInt8) : (foldL l).length ≤ l.length := by
  unfold foldL
  refine Nat.le_trans (sq_le _) ?_
  rw [lowL_length]
  exact trimB_length l 32
theorem fold_B {l : List UInt8} (h : l.length ≤ 140737488355320) : dn_Fold.f (B l) = some (B (foldL l)) := by
  unfold dn_Fold.f
  rw [if_pos ⟨by rw [B_size]; exact h, by rw [B_data, Ne, low_head]; exact trimB_head l⟩, B_data]
  rfl
theorem nb_low (l : List UInt8) : (lowL l).filter nb = lowL (l.filter nb) := by
  unfold lowL
  rw [List.filter_map]
  congr 2
  funext c
  simp only [Function.comp, nb]
  rw [Bool.eq_iff_iff]; simp [lowC_32]
theorem drop_filter (l : List UInt8) : (l.dropWhile (· == 32)).filter nb = l.filter nb := by
  induction l with
  | nil => rfl
  | cons a l ih =>
    rw [List.dropWhile_cons]
    split
    · next h => rw [ih, List.filter_cons_of_neg]; simpa [nb] using h
    · rfl
theorem trim_filter (l : List UInt8) : (Lib.trimB l 32).filter nb = l.filter nb := by
  unfold Lib.trimB Lib.trimLeftB Lib.trimRightB
  rw [drop_filter, List.filter_reverse, drop_filter, List.filter_reverse, List.reverse_reverse]
theorem foldL_filter (l : List UInt8) : (foldL l).filter nb = (lowL l).filter nb := by
  unfold foldL
  rw [sq_filter, nb_low, trim_filter, nb_low]
end Go.Proofs.YtflkghdndffacaaDoor.Pure
