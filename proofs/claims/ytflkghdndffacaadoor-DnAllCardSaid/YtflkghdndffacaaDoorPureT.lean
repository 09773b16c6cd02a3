/- Byte strings as lists; what dn's May, Text, Parse, Key, Up, Under and the document's MayDn, TextDn reckon, in plain words; a name's text told again. No condition but modest lengths. -/
import Derived.Test.YtflkghdndffacaaDoorPDx0
import Derived.Test.YtflkghdndffacaaDoorPDx12
import Derived.Test.YtflkghdndffacaaDoorPDx2
import Derived.Test.YtflkghdndffacaaDoorPDx6
import Derived.Test.YtflkghdndffacaaDoorPDx14
import Derived.Test.YtflkghdndffacaaDoorPDx15
import Derived.Test.YtflkghdndffacaaDoorPDx7
import Derived.Test.YtflkghdndffacaaDoorPDx26
import Derived.Test.YtflkghdndffacaaDoorPDx27
namespace Go.Proofs.YtflkghdndffacaaDoor.Pure
open Go.RowKit Go.Proofs.YtflkghdndffacaaDoor.H Go.Proofs.YtflkghdndffacaaDoorW.PrintWords Go.Proofs.YtflkghdndffacaaDoorW.PrintLast
/-- A list of bytes as a string. -/
def B (l : List UInt8) : ByteArray := ⟨l.toArray⟩
theorem B_data (l : List UInt8) : (B l).data.toList = l := by simp [B]
theorem B_of (s : ByteArray) : B s.data.toList = s := by cases s; simp [B]
theorem B_size (l : List UInt8) : (B l).size = l.length := by rw [Lib.size_eq, B_data]
theorem B_toList (l : List UInt8) : (B l).toList = l := by rw [Lib.toList_data, B_data]
theorem B_append (l m : List UInt8) : B l ++ B m = B (l ++ m) := by
  apply ByteArray.ext
  simp [B]
theorem B_inj {l m : List UInt8} (h : B l = B m) : l = m := by
  have := congrArg (fun s : ByteArray => s.data.toList) h
  simpa [B_data] using this
theorem B_extract (l : List UInt8) (a b : Nat) : (B l).extract a b = B ((l.drop a).take (b - a)) := by rw [Lib.extract_eq, B_data]; rfl
theorem bt_at' {l : List UInt8} {j : Nat} {c : UInt8} (h : l[j]? = some c) : bt (B l) (j : Int) = (c.toNat : Int) := by
  obtain ⟨hj, hc⟩ := List.getElem?_eq_some_iff.1 h
  have hs : ((j : Int)).toNat < (B l).size := by rw [B_size]; simpa using hj
  unfold bt
  rw [dif_pos hs]
  have : ((B l)[((j : Int)).toNat]'hs) = c := by
    show (B l).data[j] = c
    simp only [B, List.getElem_toArray]
    exact hc
  rw [this]
theorem bt_pre (p : List UInt8) (c : UInt8) (r : List UInt8) : bt (B (p ++ c :: r)) (p.length : Int) = (c.toNat : Int) := bt_at' (by simp)
theorem cut_pre (p : List UInt8) (c : UInt8) (r : List UInt8) : (B (p ++ c :: r)).extract p.length (p.length + 1) = B [c] := by
  rw [B_extract]; simp
theorem u8_eq {c d : UInt8} : ((c.toNat : Int) = (d.toNat : Int)) ↔ c = d := by
  constructor
  · intro h; exact UInt8.toNat_inj.1 (by omega)
  · rintro rfl; rfl
theorem u8_int_inj {c : UInt8} {n : Nat} (hn : n < 256) : ((c.toNat : Int) = (n : Int)) ↔ c = UInt8.ofNat n := by
  constructor
  · intro h
    apply UInt8.toNat_inj.1
    simp only [UInt8.toNat_ofNat']
    omega
  · rintro rfl
    simp only [UInt8.toNat_ofNat']
    omega
theorem wrap64_small {n : Int} (h : -9223372036854775808 ≤ n ∧ n ≤ 9223372036854775807) : wrap64 n = n := by unfold wrap64; omega
/-! ### Ev -/
theorem Ev.pos {α : Type} {c : Prop} [Decidable c] {g f : Nat → Option α} {r : α} (h : c) (k : Ev g r) : Ev (fun n => if c then g n else f n) r := by simpa [h] using k
theorem Ev.neg {α : Type} {c : Prop} [Decidable c] {g f : Nat → Option α} {r : α} (h : ¬ c) (k : Ev f r) : Ev (fun n => if c then g n else f n) r := by simpa [h] using k
theorem Ev.fix {α β : Type} {a : Option α} {v : α} {f : Nat → α → Option β} {r : β} (h : a = some v) (k : Ev (fun n => f n v) r) : Ev (fun n => a.bind (f n)) r := by subst h; simpa using k
/-! ### Lower case -/
theorem lowC_32 (c : UInt8) : lowC c = 32 ↔ c = 32 := by
  have h : ∀ c : UInt8, (lowC c = 32 ↔ c = 32) := by
    intro c
    have hc := lowC_toNat c
    constructor
    · intro e
      rw [e] at hc
      apply UInt8.toNat_inj.1
      simp at hc ⊢
      split at hc <;> omega
    · rintro rfl; rfl
  exact h c
theorem lowC_lowC (c : UInt8) : lowC (lowC c) = lowC c := by
  apply UInt8.toNat_inj.1
  have h1 := lowC_toNat c
  have h2 := lowC_toNat (lowC c)
  split at h1 <;> split at h2 <;> omega
theorem lowL_lowL (l : List UInt8) : lowL (lowL l) = lowL l := by
  unfold lowL; rw [List.map_map]; congr 1; funext c; exact lowC_lowC c
theorem lowL_append (l m : List UInt8) : lowL (l ++ m) = lowL l ++ lowL m := by simp [lowL]
theorem lowL_length (l : List UInt8) : (lowL l).length = l.length := by simp [lowL]
theorem lowL_B (l : List UInt8) : lowS (B l) = B (lowL l) := by unfold lowS; rw [B_data]; rfl
theorem lower_B {l : List UInt8} (h : l.length ≤ 9223372036854775806) : brookref1_Lower.f (B l) = some (B (lowL l)) := by
  unfold brookref1_Lower.f; rw [if_pos (by rw [B_size]; exact h), lowL_B]
theorem lowered_B {l : List UInt8} (h : l.length ≤ 9223372036854775806) : dn_lowered.f (B l) = some (B (lowL l)) := by
  unfold dn_lowered.f; rw [if_pos (by rw [B_size]; exact h), lowL_B]
/-! ### Trimming -/
def nb (c : UInt8) : Bool := c != 32
theorem dropB_map (l : List UInt8) : (lowL l).dropWhile (· == 32) = lowL (l.dropWhile (· == 32)) := by
  unfold lowL
  rw [List.dropWhile_map]
  congr 2
  funext c
  simp only [Function.comp]
  rw [Bool.eq_iff_iff]; simp only [beq_iff_eq]; exact lowC_32 c
theorem trimB_low (l : List UInt8) : Lib.trimB (lowL l) 32 = lowL (Lib.trimB l 32) := by
  unfold Lib.trimB Lib.trimLeftB Lib.trimRightB
  have : (lowL l).reverse = lowL l.reverse := by simp [lowL]
  rw [this, dropB_map]
  have : (lowL (l.reverse.dropWhile (· == 32))).reverse = lowL (l.reverse.dropWhile (· == 32)).reverse := by simp [lowL]
  rw [this, dropB_map]
theorem dropWhile_head {l : List UInt8} {p : UInt8 → Bool} {c : UInt8} (h : (l.dropWhile p).head? = some c) : p c = false := by
  induction l with
  | nil => simp at h
  | cons a l ih =>
    rw [List.dropWhile_cons] at h
    split at h
    · exact ih h
    · next hn => simp at h; subst h; simpa using hn
theorem trimB_head (l : List UInt8) : (Lib.trimB l 32).head? ≠ some 32 := by
  intro h
  have := dropWhile_head h
  simp at this
theorem dropWhile_none {l : List UInt8} (h : l.head? ≠ some 32) : l.dropWhile (· == 32) = l := by
  cases l with
  | nil => rfl
  | cons a l => rw [List.dropWhile_cons_of_neg]; simpa using h
theorem dropWhile_last {l : List UInt8} {p : UInt8 → Bool} (h : l.getLast? ≠ some 32) : (l.dropWhile p).getLast? ≠ some 32 := by
  induction l with
  | nil => simp
  | cons a l ih =>
    rw [List.dropWhile_cons]
    split
    · cases l with
      | nil => simp
      | cons b l => exact ih (by simpa using h)
    · exact h
theorem trimB_last (l : List UInt8) : (Lib.trimB l 32).getLast? ≠ some 32 := by
  unfold Lib.trimB Lib.trimLeftB
  refine dropWhile_last ?_
  unfold Lib.trimRightB
  rw [List.getLast?_reverse]
  intro h
  have := dropWhile_head h
  simp at this
theorem trimB_same {l : List UInt8} (h : l.head? ≠ some 32) (h1 : l.getLast? ≠ some 32) : Lib.trimB l 32 = l := by
  unfold Lib.trimB Lib.trimLeftB Lib.trimRightB
  rw [dropWhile_none (l := l.reverse) (by rw [List.head?_reverse]; exact h1), List.reverse_reverse, dropWhile_none h]
theorem rep_drop (n : Nat) (l : List UInt8) : (List.replicate n 32 ++ l).dropWhile (· == 32) = l.dropWhile (· == 32) := by
  induction n with
  | zero => simp
  | succ n ih => rw [List.replicate_succ, List.cons_append, List.dropWhile_cons_of_pos (by simp), ih]
theorem trimRight_rep (n : Nat) (l : List UInt8) : Lib.trimRightB (l ++ List.replicate n 32) 32 = Lib.trimRightB l 32 := by
  unfold Lib.trimRightB
  rw [List.reverse_append, List.reverse_replicate, rep_drop]
theorem drop_snoc_all {l : List UInt8} {m : List UInt8} (h : ∀ c ∈ l, c = 32) : (l ++ m).dropWhile (· == 32) = m.dropWhile (· == 32) := by
  induction l with
  | nil => simp
  | cons a l ih => rw [List.cons_append, List.dropWhile_cons_of_pos (by simpa using h a (by simp)), ih (fun c hc => h c (by simp [hc]))]
theorem drop_snoc_some {l : List UInt8} {m : List UInt8} (h : ∃ c ∈ l, c ≠ 32) : (l ++ m).dropWhile (· == 32) = l.dropWhile (· == 32) ++ m := by
  induction l with
  | nil => simp at h
  | cons a l ih =>
    by_cases ha : a = 32
    · rw [List.cons_append, List.dropWhile_cons_of_pos (by simpa using ha), List.dropWhile_cons_of_pos (by simpa using ha)]
      refine ih ?_
      obtain ⟨c, hc, hn⟩ := h
      rcases List.mem_cons.1 hc with rfl | hc
      · exact absurd ha hn
      · exact ⟨c, hc, hn⟩
    · rw [List.cons_append, List.dropWhile_cons_of_neg (by simpa using ha), List.dropWhile_cons_of_neg (by simpa using ha)]; rfl
theorem trimB_rep (n m : Nat) (l : List UInt8) : Lib.trimB (List.replicate n 32 ++ l ++ List.replicate m 32) 32 = Lib.trimB l 32 := by
  unfold Lib.trimB
  rw [trimRight_rep]
  unfold Lib.trimLeftB Lib.trimRightB
  rw [List.reverse_append, List.reverse_replicate]
  by_cases h : ∃ c ∈ l.reverse, c ≠ 32
  · rw [drop_snoc_some h, List.reverse_append, List.reverse_replicate, rep_drop]
  · have h' : ∀ c ∈ l.reverse, c = 32 := fun c hc => Classical.not_not.1 fun hn => h ⟨c, hc, hn⟩
    rw [drop_snoc_all h']
    have e1 : ∀ k : Nat, (List.replicate k (32 : UInt8)).dropWhile (· == 32) = [] := fun k => by have h := rep_drop k []; rw [List.append_nil] at h; exact h
    have e2 : l.reverse.dropWhile (· == 32) = [] := by have := drop_snoc_all (m := []) h'; simpa using this
    rw [e1, e2]
/-! ### Squeezing -/
theorem snocRec {α : Type} {p : List α → Prop} (nil : p []) (snoc : ∀ l c, p l → p (l ++ [c])) (l : List α) : p l := by
  have : ∀ n (l : List α), l.length = n → p l := by
    intro n
    induction n with
    | zero => intro l h; rw [List.length_eq_zero_iff.1 h]; exact nil
    | succ n ih =>
      intro l h
      have hn : l ≠ [] := by intro e; simp [e] at h
      rw [← List.dropLast_concat_getLast hn]
      exact snoc _ _ (ih _ (by simp [h]))
  exact this _ l rfl
/-- No two blanks stand side by side. -/
def Sq (l : List UInt8) : Prop := ∀ i : Nat, ¬ (l[i]? = some 32 ∧ l[i + 1]? = some 32)
theorem sq_cons_last (l : List UInt8) (c : UInt8) : sq (l ++ [c]) = sqStep (sq l) c := by simp [sq]
theorem sq_last (l : List UInt8) : (sq l).getLast? = l.getLast? := by
  induction l using snocRec with
  | nil => rfl
  | snoc l c ih =>
    rw [sq_cons_last]
    unfold sqStep
    split
    · next h => rw [h.2, List.getLast?_append, h.1]; simp
    · simp [List.getLast?_append]
theorem sq_head (l : List UInt8) : (sq l).head? = l.head? := by
  induction l using snocRec with
  | nil => rfl
  | snoc l c ih =>
    rw [sq_cons_last]
    unfold sqStep
    split
    · next h => rw [ih]
                rw [sq_last] at h
                cases l with
                | nil => simp at h
                | cons a l => simp
    · cases l with
      | nil => simp [sq]
      | cons a l => 
        rw [List.head?_append, ih]; simp
theorem sq_filter (l : List UInt8) : (sq l).filter nb = l.filter nb := by
  induction l using snocRec with
  | nil => rfl
  | snoc l c ih =>
    rw [sq_cons_last]
    unfold sqStep
    split
    · next h => rw [ih, List.filter_append, h.1]; simp [nb]
    · rw [List.filter_append, List.filter_append, ih]
theorem sq_chain (l : List UInt8) : Sq (sq l) := by
  induction l using snocRec with
  | nil => intro i; simp [sq]
  | snoc l c ih =>
    rw [sq_cons_last]
    unfold sqStep
    split
    · exact ih
    · next h =>
      rintro i ⟨h1, h2⟩
      by_cases hi : i + 1 < (sq l).length
      · rw [List.getElem?_append_left (by omega)] at h1
        rw [List.getElem?_append_left hi] at h2
        exact ih i ⟨h1, h2⟩
      · have hl := (List.getElem?_eq_some_iff.1 h2).1
        simp at hl
        have hi' : i + 1 = (sq l).length := by omega
        rw [List.getElem?_append_left (by omega)] at h1
        rw [List.getElem?_append_right (by omega)] at h2
        simp [hi'] at h2
        refine h ⟨h2, ?_⟩
        rw [List.getLast?_eq_getElem?, ← hi']
        exact h1
theorem sq_of_chain {l : List UInt8} (h : Sq l) : sq l = l := by
  induction l using snocRec with
  | nil => rfl
  | snoc l c ih =>
    have hl : Sq l := by
      rintro i ⟨h1, h2⟩
      have h3 := (List.getElem?_eq_some_iff.1 h2).1
      exact h i ⟨by rw [List.getElem?_append_left (by omega)]; exact h1, by rw [List.getElem?_append_left h3]; exact h2⟩
    rw [sq_cons_last, ih hl]
    unfold sqStep
    rw [if_neg]
    rintro ⟨rfl, e⟩
    rw [List.getLast?_eq_getElem?] at e
    have h3 := (List.getElem?_eq_some_iff.1 e).1
    refine h (l.length - 1) ⟨by rw [List.getElem?_append_left h3]; exact e, ?_⟩
    have : l.length - 1 + 1 = l.length := by omega
    rw [this]; simp
theorem sq_sq (l : List UInt8) : sq (sq l) = sq l := sq_of_chain (sq_chain l)
theorem sqStep_low (b : List UInt8) (c : UInt8) : lowL (sqStep b c) = sqStep (lowL b) (lowC c) := by
  unfold sqStep
  have e : (lowL b).getLast? = some 32 ↔ b.getLast? = some 32 := by
    unfold lowL
    rw [List.getLast?_map]
    cases b.getLast? with
    | none => simp
    | some d => simp [lowC_32]
  simp only [lowC_32, e]
  split
  · rfl
  · simp [lowL]
theorem sq_low (l : List UInt8) : lowL (sq l) = sq (lowL l) := by
  induction l using snocRec with
  | nil => rfl
  | snoc l c ih =>
    have : lowL (l ++ [c]) = lowL l ++ [lowC c] := by simp [lowL]
    rw [this, sq_cons_last, sq_cons_last, sqStep_low, ih]
/-- What dn.Fold makes. -/
def foldL (l : List UInt8) : List UInt8 := sq (lowL (Lib.trimB l 32))
theorem low_head {l : List UInt8} : (lowL l).head? = some 32 ↔ l.head? = some 32 := by
  cases l with
  | nil => simp [lowL]
  | cons a l => simp [lowL, lowC_32]
theorem low_last {l : List UInt8} : (lowL l).getLast? = some 32 ↔ l.getLast? = some 32 := by
  unfold lowL
  rw [List.getLast?_map]
  cases l.getLast? with
  | none => simp
  | some d => simp [lowC_32]
theorem foldL_head (l : List UInt8) : (foldL l).head? ≠ some 32 := by
  unfold foldL; rw [sq_head, Ne, low_head]; exact trimB_head l
theorem foldL_last (l : List UInt8) : (foldL l).getLast? ≠ some 32 := by
  unfold foldL; rw [sq_last, Ne, low_last]; exact trimB_last l
theorem foldL_low (l : List UInt8) : lowL (foldL l) = foldL l := by unfold foldL; rw [sq_low, lowL_lowL]
theorem foldL_foldL (l : List UInt8) : foldL (foldL l) = foldL l := by
  have h2 : Lib.trimB (foldL l) 32 = foldL l := trimB_same (foldL_head l) (foldL_last l)
  have h3 : foldL (foldL l) = sq (lowL (Lib.trimB (foldL l) 32)) := rfl
  rw [h3, h2, foldL_low]
  exact sq_sq _
theorem foldL_low' (l : List UInt8) : foldL (lowL l) = foldL l := by unfold foldL; rw [trimB_low, lowL_lowL]
theorem foldL_rep (n m : Nat) (l : List UInt8) : foldL (List.replicate n 32 ++ l ++ List.replicate m 32) = foldL l := by unfold foldL; rw [trimB_rep]
theorem sq_le (l : List UInt8) : (sq l).length ≤ l.length := by
  have := sq_length l l.length
  rwa [List.take_length] at this
theorem foldL_le (l : List UInt8) : (foldL l).length ≤ l.length := by
  unfold foldL
  refine Nat.le_trans (sq_le _) ?_
  rw [lowL_length]
  exact trimB_length l 32
theorem fold_B {l : List UInt8} (h : l.length ≤ 140737488355320) : dn_Fold.f (B l) = some (B (foldL l)) := by
  unfold dn_Fold.f
  rw [if_pos ⟨by rw [B_size]; exact h, by rw [B_data, Ne, low_head]; exact trimB_head l⟩, B_data]
  rfl
theorem nb_low (l : List UInt8) : (lowL l).filter nb = lowL (l.filter nb) := by
  unfold lowL
  rw [List.filter_map]
  congr 2
  funext c
  simp only [Function.comp, nb]
  rw [Bool.eq_iff_iff]; simp [lowC_32]
theorem drop_filter (l : List UInt8) : (l.dropWhile (· == 32)).filter nb = l.filter nb := by
  induction l with
  | nil => rfl
  | cons a l ih =>
    rw [List.dropWhile_cons]
    split
    · next h => rw [ih, List.filter_cons_of_neg]; simpa [nb] using h
    · rfl
theorem trim_filter (l : List UInt8) : (Lib.trimB l 32).filter nb = l.filter nb := by
  unfold Lib.trimB Lib.trimLeftB Lib.trimRightB
  rw [drop_filter, List.filter_reverse, drop_filter, List.filter_reverse, List.reverse_reverse]
theorem foldL_filter (l : List UInt8) : (foldL l).filter nb = (lowL l).filter nb := by
  unfold foldL
  rw [sq_filter, nb_low, trim_filter, nb_low]
end Go.Proofs.YtflkghdndffacaaDoor.Pure

namespace Go.Proofs.YtflkghdndffacaaDoor.Pure
open Go.RowKit Go.Proofs.YtflkghdndffacaaDoor.PD Go.Proofs.YtflkghdndffacaaDoor.H Go.Proofs.YtflkghdndffacaaDoorW.PrintWords Go.Proofs.YtflkghdndffacaaDoorW.PrintLast
theorem u8_all {P : UInt8 → Prop} (h : ∀ n : Fin 256, P (UInt8.ofNat n.val)) (c : UInt8) : P c := by
  have := h ⟨c.toNat, UInt8.toNat_lt c⟩
  simpa using this
theorem rd_pre (p : List S25) (r : S25) (q : List S25) : rd_T25 (p ++ r :: q) (p.length : Int) = r := by simp [rd_T25]
theorem wrap_succ {n : Nat} (h : n < 9223372036854775807) : wrap64 ((n : Int) + 1) = ((n + 1 : Nat) : Int) := by rw [wrap64_small (by omega)]; omega
theorem B_nil : (⟨#[]⟩ : ByteArray) = B [] := rfl
theorem letter_fin : ∀ n : Fin 256, brookref1_letter.f (((UInt8.ofNat n.val).toNat : Nat) : Int) = some (letterB (UInt8.ofNat n.val)) := by decide +kernel
theorem letter_c (c : UInt8) : brookref1_letter.f (c.toNat : Int) = some (letterB c) := u8_all (P := fun c => brookref1_letter.f (c.toNat : Int) = some (letterB c)) letter_fin c
/-! ### MayType -/
theorem mt_l0 (l : List UInt8) (hl : l.length ≤ 30) : ∀ q p : List UInt8, l = p ++ q → Ev (fun k => brookref1_MayType.l0 k (B l) (p.length : Int)) (q.all typeC) := by
  intro q
  induction q with
  | nil =>
    intro p hp
    obtain rfl : l = p := by simpa using hp
    refine Ev.step (fun k => by rw [brookref1_MayType.l0]) ?_
    exact Ev.neg (by rw [B_size]; omega) (Ev.now _)
  | cons c q ih =>
    intro p hp
    have hlen : p.length + 1 + q.length = l.length := by rw [hp]; simp; omega
    have hi := ih (p ++ [c]) (by rw [hp]; simp)
    have hb : bt (B l) (p.length : Int) = (c.toNat : Int) := by rw [hp]; exact bt_pre p c q
    have hn : (p ++ [c]).length = p.length + 1 := by simp
    rw [hn] at hi
    refine Ev.step (fun k => by rw [brookref1_MayType.l0]) ?_
    refine Ev.pos (by rw [B_size]; omega) ?_
    refine Ev.pos (by omega) ?_
    rw [hb, wrap_succ (by omega)]
    refine Ev.fix (letter_c c) ?_
    have h45 : ((c.toNat : Int) = 45) ↔ c = 45 := u8_int_inj (n := 45) (by omega)
    by_cases ht : typeC c = true
    · have ha : (c :: q).all typeC = q.all typeC := by simp [ht]
      rw [ha]
      by_cases h1 : letterB c = true
      · exact Ev.pos h1 hi
      · refine Ev.neg h1 ?_
        by_cases h2 : c = 45
        · have h3 := h45.2 h2
          rw [h3]
          refine Ev.pos (by omega) ?_
          exact Ev.pos (by omega) hi
        · simp [typeC, h1, h2] at ht
          refine Ev.neg (by omega) ?_
          exact Ev.neg (by omega) hi
    · have ha : (c :: q).all typeC = false := by simp [ht]
      rw [ha]
      simp [typeC] at ht
      obtain ⟨⟨h1, h2⟩, h3⟩ := ht
      refine Ev.neg (by simp [h1]) ?_
      by_cases h4 : (c.toNat : Int) < 48
      · refine Ev.pos h4 ?_
        exact Ev.neg (fun e => h3 (h45.1 e)) (Ev.now _)
      · refine Ev.neg h4 ?_
        refine Ev.pos (by have := h2 (by omega); omega) ?_
        exact Ev.neg (fun e => h3 (h45.1 e)) (Ev.now _)
theorem mayType_ev (l : List UInt8) : Ev (fun k => brookref1_MayType.f k (B l)) (typedB l) := by
  unfold brookref1_MayType.f
  have jt : Ev (fun k => brookref1_MayType.j0 k (B l) true) false := Ev.step (fun k => by rw [brookref1_MayType.j0]) (Ev.pos rfl (Ev.now _))
  cases l with
  | nil => exact Ev.pos (by rw [B_toList]) jt
  | cons c q =>
    refine Ev.neg (by rw [B_toList]; simp) ?_
    by_cases h : q.length + 1 ≤ 30
    · refine Ev.neg (by rw [B_size]; simp; omega) ?_
      refine Ev.pos (by rw [B_size]; simp) ?_
      have hb : bt (B (c :: q)) 0 = (c.toNat : Int) := bt_pre [] c q
      rw [hb]
      refine Ev.fix (letter_c c) ?_
      refine Ev.step (fun k => by rw [brookref1_MayType.j0]) ?_
      by_cases h1 : letterB c = true
      · refine Ev.neg (by simp [h1]) ?_
        have := mt_l0 (c :: q) (by simpa using h) (c :: q) [] rfl
        have e : typedB (c :: q) = (c :: q).all typeC := by unfold typedB; simp [h, h1]
        rw [e]
        exact this
      · have e : typedB (c :: q) = false := by unfold typedB; simp [h1]
        rw [e]
        exact Ev.pos (by simp [h1]) (Ev.now _)
    · have e : typedB (c :: q) = false := by unfold typedB; simp [h]
      rw [e]
      exact Ev.pos (by rw [B_size]; simp; omega) jt
/-! ### May, MayDn -/
def partB (r : S25) : Bool := typedB r.f0.data.toList && (decide (r.f1.data.toList ≠ []) && decide (r.f1.data.toList.length ≤ 100))
def mayB (l : List S25) : Bool := l.all partB && decide (l.length ≤ 8)
theorem may_l0 (l : List S25) (hl : l.length ≤ 9000000000000000000) : ∀ q p : List S25, l = p ++ q → Ev (fun k => dn_May.l0 k l l (l.length : Int) (p.length : Int)) (q.all partB && decide (l.length ≤ 8)) := by
  intro q
  induction q with
  | nil =>
    intro p hp
    obtain rfl : l = p := by simpa using hp
    refine Ev.step (fun k => by rw [dn_May.l0]) ?_
    refine Ev.neg (by omega) ?_
    have : decide ((l.length : Int) ≤ 8) = ([].all partB && decide (l.length ≤ 8)) := by simp; omega
    rw [this]
    exact Ev.now _
  | cons r q ih =>
    intro p hp
    have hlen : p.length + 1 + q.length = l.length := by rw [hp]; simp; omega
    have hi := ih (p ++ [r]) (by rw [hp]; simp)
    have hb : rd_T25 l (p.length : Int) = r := by rw [hp]; exact rd_pre p r q
    have hn : (p ++ [r]).length = p.length + 1 := by simp
    rw [hn] at hi
    refine Ev.step (fun k => by rw [dn_May.l0]) ?_
    refine Ev.pos (by omega) ?_
    refine Ev.pos (by omega) ?_
    refine Ev.pos (by omega) ?_
    rw [hb, wrap_succ (by omega)]
    refine Ev.fix rfl ?_
    rw [List.all_cons, Bool.and_assoc]
    by_cases h1 : typedB r.f0.data.toList = true
    · refine Ev.pos h1 ?_
      by_cases h2 : r.f1.data.toList = []
      · have e : partB r = false := by unfold partB; simp only [h2]; simp
        rw [e]
        exact Ev.pos (by rw [Lib.toList_data]; exact h2) (Ev.now _)
      · refine Ev.neg (by rw [Lib.toList_data]; exact h2) ?_
        by_cases h3 : r.f1.data.toList.length ≤ 100
        · have e : partB r = true := by unfold partB; rw [h1, decide_eq_true h2, decide_eq_true h3]; rfl
          rw [e]
          refine Ev.neg (by rw [Lib.size_eq]; omega) ?_
          simpa using hi
        · have e : partB r = false := by unfold partB; rw [decide_eq_false h3]; simp
          rw [e]
          exact Ev.pos (by rw [Lib.size_eq]; omega) (Ev.now _)
    · have e : partB r = false := by unfold partB; simp [h1]
      rw [e]
      exact Ev.neg h1 (Ev.now _)
theorem may_ev (l : List S25) (hl : l.length ≤ 9000000000000000000) : Ev (fun k => dn_May.f k l) (mayB l) := may_l0 l hl l [] rfl
theorem mayDn_l0 (l : List S25) (hl : l.length ≤ 9000000000000000000) : ∀ q p : List S25, l = p ++ q → Ev (fun k => brookref1_MayDn.l0 k l (p.length : Int)) (q.all partB && decide (l.length ≤ 8)) := by
  intro q
  induction q with
  | nil =>
    intro p hp
    obtain rfl : l = p := by simpa using hp
    refine Ev.step (fun k => by rw [brookref1_MayDn.l0]) ?_
    refine Ev.neg (by omega) ?_
    have : decide ((l.length : Int) ≤ 8) = ([].all partB && decide (l.length ≤ 8)) := by simp; omega
    rw [this]
    exact Ev.now _
  | cons r q ih =>
    intro p hp
    have hlen : p.length + 1 + q.length = l.length := by rw [hp]; simp; omega
    have hi := ih (p ++ [r]) (by rw [hp]; simp)
    have hb : rd_T25 l (p.length : Int) = r := by rw [hp]; exact rd_pre p r q
    have hn : (p ++ [r]).length = p.length + 1 := by simp
    rw [hn] at hi
    refine Ev.step (fun k => by rw [brookref1_MayDn.l0]) ?_
    refine Ev.pos (by omega) ?_
    refine Ev.pos (by omega) ?_
    rw [hb, wrap_succ (by omega)]
    have ht := mayType_ev r.f0.data.toList
    rw [B_of] at ht
    refine Ev.bind ht ?_
    rw [List.all_cons, Bool.and_assoc]
    by_cases h1 : typedB r.f0.data.toList = true
    · refine Ev.pos h1 ?_
      by_cases h2 : r.f1.data.toList = []
      · have e : partB r = false := by unfold partB; simp only [h2]; simp
        rw [e]
        exact Ev.pos (by rw [Lib.toList_data]; exact h2) (Ev.now _)
      · refine Ev.neg (by rw [Lib.toList_data]; exact h2) ?_
        by_cases h3 : r.f1.data.toList.length ≤ 100
        · have e : partB r = true := by unfold partB; rw [h1, decide_eq_true h2, decide_eq_true h3]; rfl
          rw [e]
          refine Ev.neg (by rw [Lib.size_eq]; omega) ?_
          simpa using hi
        · have e : partB r = false := by unfold partB; rw [decide_eq_false h3]; simp
          rw [e]
          exact Ev.pos (by rw [Lib.size_eq]; omega) (Ev.now _)
    · have e : partB r = false := by unfold partB; simp [h1]
      rw [e]
      exact Ev.neg h1 (Ev.now _)
theorem mayDn_ev (l : List S25) (hl : l.length ≤ 9000000000000000000) : Ev (fun k => brookref1_MayDn.f k l) (mayB l) := mayDn_l0 l hl l [] rfl
/-! ### escaped -/
theorem in_l0 (l : List UInt8) (hl : l.length ≤ 100) (c : UInt8) : ∀ q p : List UInt8, l = p ++ q → Ev (fun k => brookref1_in.l0 k (B l) (c.toNat : Int) (p.length : Int)) (decide (c ∈ q)) := by
  intro q
  induction q with
  | nil =>
    intro p hp
    obtain rfl : l = p := by simpa using hp
    refine Ev.step (fun k => by rw [brookref1_in.l0]) ?_
    exact Ev.neg (by rw [B_size]; omega) (Ev.now _)
  | cons d q ih =>
    intro p hp
    have hlen : p.length + 1 + q.length = l.length := by rw [hp]; simp; omega
    have hi := ih (p ++ [d]) (by rw [hp]; simp)
    have hb : bt (B l) (p.length : Int) = (d.toNat : Int) := by rw [hp]; exact bt_pre p d q
    have hn : (p ++ [d]).length = p.length + 1 := by simp
    rw [hn] at hi
    refine Ev.step (fun k => by rw [brookref1_in.l0]) ?_
    refine Ev.pos (by rw [B_size]; omega) ?_
    refine Ev.pos (by omega) ?_
    rw [hb, wrap_succ (by omega)]
    by_cases h : d = c
    · subst h
      refine Ev.pos rfl ?_
      have : decide (d ∈ d :: q) = true := by simp
      rw [this]
      exact Ev.now _
    · refine Ev.neg (fun e => h (u8_eq.1 e)) ?_
      have : decide (c ∈ d :: q) = decide (c ∈ q) := by simp [Ne.symm h]
      rw [this]
      exact hi
theorem special_fin : ∀ n : Fin 256, decide ((UInt8.ofNat n.val) ∈ ([44, 43, 34, 92, 60, 62, 59] : List UInt8)) = specialB (UInt8.ofNat n.val) := by decide +kernel
theorem in_ev (c : UInt8) : Ev (fun k => brookref1_in.f k (⟨#[44, 43, 34, 92, 60, 62, 59]⟩ : ByteArray) (c.toNat : Int)) (specialB c) := by
  have h := in_l0 [44, 43, 34, 92, 60, 62, 59] (by simp) c [44, 43, 34, 92, 60, 62, 59] [] rfl
  rw [u8_all (P := fun c => decide (c ∈ ([44, 43, 34, 92, 60, 62, 59] : List UInt8)) = specialB c) special_fin c] at h
  exact h
theorem two_c (c : UInt8) : brookref1_two.f (c.toNat : Int) = some (B [92, hexD (c.toNat / 16), hexD (c.toNat % 16)]) := by
  unfold brookref1_two.f
  have := UInt8.toNat_lt c
  rw [if_pos (by omega), show ((c.toNat : Int) / 16).toNat = c.toNat / 16 by omega, show ((c.toNat : Int) % 16).toNat = c.toNat % 16 by omega]
  rfl
theorem escC_le (n k : Nat) (c : UInt8) : (escC n k c).length ≤ 3 := by
  unfold escC; split
  · simp
  · split <;> simp
theorem escUp_len (v : List UInt8) (k : Nat) : (escUp v k).length ≤ 3 * k := by
  induction k with
  | zero => simp [escUp]
  | succ k ih =>
    simp only [escUp, List.length_append]
    split
    · have := escC_le v.length k ‹_›; omega
    · simp; omega
theorem esc_step (l p : List UInt8) (c : UInt8) (q : List UInt8) (hp : l = p ++ c :: q) (hl : l.length ≤ 1000000) (out : List UInt8) (ho : out.length ≤ 3000000) (r : ByteArray)
    (h : Ev (fun k => brookref1_escaped.l0 k (B l) (B (out ++ escC l.length p.length c)) ((p.length + 1 : Nat) : Int)) r) :
    Ev (fun k => brookref1_escaped.l0 k (B l) (B out) (p.length : Int)) r := by
  have hlen : p.length + 1 + q.length = l.length := by rw [hp]; simp; omega
  have hb : bt (B l) (p.length : Int) = (c.toNat : Int) := by rw [hp]; exact bt_pre p c q
  have hx : (B l).extract (p.length : Int).toNat (((p.length + 1 : Nat) : Int)).toNat = B [c] := by rw [hp]; exact cut_pre p c q
  have hw := wrap_succ (n := p.length) (by omega)
  have hw2 : wrap64 ((l.length : Int) - 1) = ((l.length - 1 : Nat) : Int) := by rw [wrap64_small (by omega)]; omega
  have hs : ((B l).size : Int) = (l.length : Int) := by rw [B_size]
  have s1 : ∀ d : UInt8, (B [d]).size = 1 := fun d => rfl
  have so : (B out).size = out.length := B_size out
  have e92 : (⟨#[92]⟩ : ByteArray) = B [92] := rfl
  have h35 : ((c.toNat : Int) = 35) ↔ c = 35 := u8_int_inj (n := 35) (by omega)
  have h32 : ((c.toNat : Int) = 32) ↔ c = 32 := u8_int_inj (n := 32) (by omega)
  refine Ev.step (fun k => by rw [brookref1_escaped.l0]) ?_
  refine Ev.pos (by rw [B_size]; omega) ?_
  refine Ev.pos (by omega) ?_
  rw [hb]
  by_cases hd : c.toNat < 32 ∨ 126 < c.toNat
  · have hz : escC l.length p.length c = [92, hexD (c.toNat / 16), hexD (c.toNat % 16)] := by unfold escC; rw [if_pos hd]
    rw [hz] at h
    have key : Ev (fun k => brookref1_escaped.j1 k (B l) (B out) (p.length : Int) (c.toNat : Int) true) r := by
      refine Ev.step (fun k => by rw [brookref1_escaped.j1]) ?_
      refine Ev.pos rfl ?_
      refine Ev.fix (two_c c) ?_
      refine Ev.pos (by rw [B_size, B_size]; simp; omega) ?_
      rw [B_append, hw]
      exact h
    by_cases h1 : (c.toNat : Int) < 32
    · exact Ev.pos h1 key
    · refine Ev.neg h1 ?_
      rw [show decide ((c.toNat : Int) > 126) = true by simp; omega]
      exact key
  · refine Ev.neg (by omega) ?_
    rw [show decide ((c.toNat : Int) > 126) = false by simp; omega]
    refine Ev.step (fun k => by rw [brookref1_escaped.j1]) ?_
    refine Ev.neg (by simp) ?_
    refine Ev.bind (in_ev c) ?_
    simp only [hw, hw2, hs, hx, e92, B_append]
    by_cases hz : specialB c = true ∨ (p.length = 0 ∧ (c = 35 ∨ c = 32)) ∨ (p.length + 1 = l.length ∧ c = 32)
    · have hz' : escC l.length p.length c = [92, c] := by unfold escC; rw [if_neg hd, if_pos hz]
      rw [hz'] at h
      have h' : Ev (fun k => brookref1_escaped.l0 k (B l) (B (out ++ [92] ++ [c])) ((p.length + 1 : Nat) : Int)) r := by simpa using h
      by_cases g1 : specialB c = true
      · refine Ev.pos g1 ?_
        repeat' first
          | exact h'
          | refine Ev.pos (by simp [B_size] <;> omega) ?_
      · have g1' : specialB c = false := by simpa using g1
        refine Ev.neg (by simp [g1']) ?_
        by_cases g2 : p.length = 0
        · refine Ev.pos (by omega) ?_
          by_cases g3 : c = 35
          · refine Ev.pos (h35.2 g3) ?_
            repeat' first
              | exact h'
              | refine Ev.pos (by simp [B_size] <;> omega) ?_
          · refine Ev.neg (fun e => g3 (h35.1 e)) ?_
            have g4 : c = 32 := by
              rcases hz with hz | hz | hz
              · exact absurd hz g1
              · exact hz.2.resolve_left g3
              · exact hz.2
            refine Ev.pos (h32.2 g4) ?_
            repeat' first
              | exact h'
              | refine Ev.pos (by simp [B_size] <;> omega) ?_
        · refine Ev.neg (by omega) ?_
          have g4 : p.length + 1 = l.length ∧ c = 32 := by
            rcases hz with hz | hz | hz
            · exact absurd hz g1
            · exact absurd hz.1 g2
            · exact hz
          refine Ev.pos (by omega) ?_
          refine Ev.pos (h32.2 g4.2) ?_
          repeat' first
            | exact h'
            | refine Ev.pos (by simp [B_size] <;> omega) ?_
    · have hz' : escC l.length p.length c = [c] := by unfold escC; rw [if_neg hd, if_neg hz]
      rw [hz'] at h
      have g1 : specialB c = false := by
        cases e : specialB c with
        | false => rfl
        | true => exact absurd (.inl e) hz
      refine Ev.neg (by simp [g1]) ?_
      by_cases g2 : p.length = 0
      · have g3 : c ≠ 35 := fun e => hz (.inr (.inl ⟨g2, .inl e⟩))
        have g4 : c ≠ 32 := fun e => hz (.inr (.inl ⟨g2, .inr e⟩))
        refine Ev.pos (by omega) ?_
        refine Ev.neg (fun e => g3 (h35.1 e)) ?_
        refine Ev.neg (fun e => g4 (h32.1 e)) ?_
        by_cases g5 : p.length + 1 = l.length
        · refine Ev.pos (by omega) ?_
          repeat' first
            | exact h
            | refine Ev.pos (by simp [B_size] <;> omega) ?_
        · refine Ev.neg (by omega) ?_
          repeat' first
            | exact h
            | refine Ev.pos (by simp [B_size] <;> omega) ?_
      · refine Ev.neg (by omega) ?_
        by_cases g5 : p.length + 1 = l.length
        · have g4 : c ≠ 32 := fun e => hz (.inr (.inr ⟨g5, e⟩))
          refine Ev.pos (by omega) ?_
          refine Ev.neg (fun e => g4 (h32.1 e)) ?_
          repeat' first
            | exact h
            | refine Ev.pos (by simp [B_size] <;> omega) ?_
        · refine Ev.neg (by omega) ?_
          repeat' first
            | exact h
            | refine Ev.pos (by simp [B_size] <;> omega) ?_
theorem esc_l0 (l : List UInt8) (hl : l.length ≤ 1000000) : ∀ q p : List UInt8, l = p ++ q → Ev (fun k => brookref1_escaped.l0 k (B l) (B (escUp l p.length)) (p.length : Int)) (B (escUp l l.length)) := by
  intro q
  induction q with
  | nil =>
    intro p hp
    obtain rfl : l = p := by simpa using hp
    refine Ev.step (fun k => by rw [brookref1_escaped.l0]) ?_
    exact Ev.neg (by rw [B_size]; omega) (Ev.now _)
  | cons c q ih =>
    intro p hp
    have hlen : p.length + 1 + q.length = l.length := by rw [hp]; simp; omega
    have hi := ih (p ++ [c]) (by rw [hp]; simp)
    have hn : (p ++ [c]).length = p.length + 1 := by simp
    rw [hn, escUp_succ (c := c) (by rw [hp]; simp)] at hi
    have := escUp_len l p.length
    exact esc_step l p c q hp hl _ (by omega) _ hi
theorem escaped_ev (l : List UInt8) (hl : l.length ≤ 1000000) : Ev (fun k => brookref1_escaped.f k (B l)) (B (escUp l l.length)) := esc_l0 l hl l [] rfl
/-! ### TextDn -/
/-- All parts are of a modest length. -/
def Modest (l : List S25) : Prop := l.length ≤ 1000 ∧ ∀ r ∈ l, r.f0.size ≤ 1000000 ∧ r.f1.size ≤ 1000000
theorem textUp_len (l : List S25) (h : Modest l) (k : Nat) : (textUp l k).length ≤ 4000002 * k := by
  induction k with
  | zero => simp [textUp]
  | succ k ih =>
    simp only [textUp, List.length_append]
    split
    · next r hr =>
      obtain ⟨h1, h2⟩ := h.2 r (List.mem_of_getElem? hr)
      have h3 := escUp_len r.f1.data.toList r.f1.data.toList.length
      rw [Lib.size_eq] at h1 h2
      simp only [List.length_append, List.length_cons, List.length_nil]
      have : (if 0 < k then ([44] : List UInt8) else []).length ≤ 1 := by split <;> simp
      omega
    · simp; omega
theorem text_l0 (l : List S25) (h : Modest l) : ∀ q p : List S25, l = p ++ q → Ev (fun k => brookref1_TextDn.l0 k l (B (textUp l p.length)) (p.length : Int)) (B (textUp l l.length)) := by
  intro q
  induction q with
  | nil =>
    intro p hp
    obtain rfl : l = p := by simpa using hp
    refine Ev.step (fun k => by rw [brookref1_TextDn.l0]) ?_
    exact Ev.neg (by omega) (Ev.now _)
  | cons r q ih =>
    intro p hp
    have hlen : p.length + 1 + q.length = l.length := by rw [hp]; simp; omega
    have hi := ih (p ++ [r]) (by rw [hp]; simp)
    have hn : (p ++ [r]).length = p.length + 1 := by simp
    have hr : l[p.length]? = some r := by rw [hp]; simp
    rw [hn, textUp_succ hr] at hi
    have hb : rd_T25 l (p.length : Int) = r := by rw [hp]; exact rd_pre p r q
    have ht := textUp_len l h p.length
    have hl := h.1
    obtain ⟨h1, h2⟩ := h.2 r (List.mem_of_getElem? hr)
    rw [Lib.size_eq] at h1 h2
    have he := escaped_ev r.f1.data.toList h2
    have h3 := escUp_len r.f1.data.toList r.f1.data.toList.length
    rw [B_of] at he
    have e44 : (⟨#[44]⟩ : ByteArray) = B [44] := rfl
    have e61 : (⟨#[61]⟩ : ByteArray) = B [61] := rfl
    have ef : r.f0 = B r.f0.data.toList := (B_of r.f0).symm
    refine Ev.step (fun k => by rw [brookref1_TextDn.l0]) ?_
    refine Ev.pos (by omega) ?_
    rw [hb, wrap_succ (by omega), e44, e61]
    have hmul : 4000002 * p.length ≤ 4000002 * 1000 := Nat.mul_le_mul_left _ (by omega)
    by_cases h0 : 0 < p.length
    · have hi' : Ev (fun k => brookref1_TextDn.l0 k l (B (textUp l p.length ++ [44] ++ r.f0.data.toList ++ [61] ++ escUp r.f1.data.toList r.f1.data.toList.length)) ((p.length + 1 : Nat) : Int)) (B (textUp l l.length)) := by
        simpa [h0] using hi
      refine Ev.pos (by omega) ?_
      refine Ev.pos (by rw [B_size]; omega) ?_
      refine Ev.pos (by omega) ?_
      rw [ef]
      simp only [B_append]
      refine Ev.pos (by simp only [B_size, List.length_append, List.length_cons, List.length_nil]; omega) ?_
      refine Ev.pos (by simp only [B_size, List.length_append, List.length_cons, List.length_nil]; omega) ?_
      refine Ev.bind he ?_
      refine Ev.pos (by simp only [B_size, List.length_append, List.length_cons, List.length_nil]; omega) ?_
      rw [B_append]
      exact hi'
    · have hi' : Ev (fun k => brookref1_TextDn.l0 k l (B (textUp l p.length ++ r.f0.data.toList ++ [61] ++ escUp r.f1.data.toList r.f1.data.toList.length)) ((p.length + 1 : Nat) : Int)) (B (textUp l l.length)) := by
        simpa [h0] using hi
      refine Ev.neg (by omega) ?_
      refine Ev.pos (by omega) ?_
      rw [ef]
      simp only [B_append]
      refine Ev.pos (by simp only [B_size]; omega) ?_
      refine Ev.pos (by simp only [B_size, List.length_append]; omega) ?_
      refine Ev.bind he ?_
      refine Ev.pos (by simp only [B_size, List.length_append, List.length_cons, List.length_nil]; omega) ?_
      rw [B_append]
      exact hi'
theorem textDn_ev (l : List S25) (h : Modest l) : Ev (fun k => brookref1_TextDn.f k l) (B (textUp l l.length)) := text_l0 l h l [] rfl
theorem text_B (l : List S25) (h : Modest l) : dn_Text.f l = some (B (textUp l l.length)) := by
  unfold dn_Text.f
  have h1 := textUp_len l h l.length
  have h2 := h.1
  have : 4000002 * l.length ≤ 4000002 * 1000 := Nat.mul_le_mul_left _ h2
  rw [if_pos (by omega)]
  rfl
end Go.Proofs.YtflkghdndffacaaDoor.Pure

namespace Go.Proofs.YtflkghdndffacaaDoor.Pure
open Go.RowKit Go.Proofs.YtflkghdndffacaaDoor.PD Go.Proofs.YtflkghdndffacaaDoor.H Go.Proofs.YtflkghdndffacaaDoorW.PrintWords Go.Proofs.YtflkghdndffacaaDoorW.PrintLast
/-! ### A byte behind a backslash -/
def hexDigits : List UInt8 := [48, 49, 50, 51, 52, 53, 54, 55, 56, 57, 97, 98, 99, 100, 101, 102]
def digB (c : UInt8) : Int := Lib.indexByte hexDigits (lowC c)
theorem digit_fin : ∀ n : Fin 256, dn_digit.f (((UInt8.ofNat n.val).toNat : Nat) : Int) = some (digB (UInt8.ofNat n.val)) := by decide +kernel
theorem digit_c (c : UInt8) : dn_digit.f (c.toNat : Int) = some (digB c) := u8_all (P := fun c => dn_digit.f (c.toNat : Int) = some (digB c)) digit_fin c
theorem digB_fin : ∀ n : Fin 256, -1 ≤ digB (UInt8.ofNat n.val) ∧ digB (UInt8.ofNat n.val) ≤ 15 := by decide +kernel
theorem digB_rng (c : UInt8) : -1 ≤ digB c ∧ digB c ≤ 15 := u8_all (P := fun c => -1 ≤ digB c ∧ digB c ≤ 15) digB_fin c
theorem or16_fin : ∀ h l : Fin 16, (Go.bits .or .i64 (wrap64 ((h.val : Int) * 16)) (l.val : Int)) % 256 = ((h.val * 16 + l.val).toUInt8.toNat : Int) := by decide +kernel
theorem or16 {h l : Int} (h0 : 0 ≤ h) (h1 : h ≤ 15) (l0 : 0 ≤ l) (l1 : l ≤ 15) : (Go.bits .or .i64 (wrap64 (h * 16)) l) % 256 = (((h.toNat * 16 + l.toNat).toUInt8).toNat : Int) := by
  have := or16_fin ⟨h.toNat, by omega⟩ ⟨l.toNat, by omega⟩
  simpa only [Int.toNat_of_nonneg h0, Int.toNat_of_nonneg l0] using this
def oneB (c : UInt8) : Bool := specialB c || c == 61 || c == 35 || c == 32
def escAt : List UInt8 → Option (UInt8 × Nat)
  | [] => none
  | c :: r => if oneB c = true then some (c, 1) else match r with
    | [] => none
    | d :: _ => if 0 ≤ digB c ∧ 0 ≤ digB d then some (((digB c).toNat * 16 + (digB d).toNat).toUInt8, 2) else none
theorem escAt_one {c : UInt8} {r : List UInt8} (h : oneB c = true) : escAt (c :: r) = some (c, 1) := by simp only [escAt, if_pos h]
theorem escAt_lone {c : UInt8} (h : ¬ oneB c = true) : escAt [c] = none := by simp only [escAt, if_neg h]
theorem escAt_two {c d : UInt8} {r : List UInt8} (h : ¬ oneB c = true) (h1 : 0 ≤ digB c ∧ 0 ≤ digB d) : escAt (c :: d :: r) = some (((digB c).toNat * 16 + (digB d).toNat).toUInt8, 2) := by simp only [escAt, if_neg h, if_pos h1]
theorem escAt_not {c d : UInt8} {r : List UInt8} (h : ¬ oneB c = true) (h1 : ¬ (0 ≤ digB c ∧ 0 ≤ digB d)) : escAt (c :: d :: r) = none := by simp only [escAt, if_neg h, if_neg h1]
def escRes : Option (UInt8 × Nat) → Int × Int
  | none => (0, 0)
  | some (c, n) => ((c.toNat : Int), (n : Int))
theorem special_c (c : UInt8) : dn_special.f (c.toNat : Int) = some (specialB c) := by
  unfold dn_special.f strings_IndexByte.f
  simp only [Option.bind_some, Int.toNat_natCast]
  unfold specialB
  have : (c.toNat).toUInt8 = c := by simp
  rw [this]
theorem bt_0 (c : UInt8) (r : List UInt8) : bt (B (c :: r)) 0 = (c.toNat : Int) := bt_pre [] c r
theorem bt_1 (c d : UInt8) (r : List UInt8) : bt (B (c :: d :: r)) 1 = (d.toNat : Int) := bt_pre [c] d r
theorem escaped_dn (l : List UInt8) : Ev (fun k => dn_escaped.f k (B l)) (escRes (escAt l)) := by
  unfold dn_escaped.f
  cases l with
  | nil => exact Ev.pos (by rw [B_toList]) (Ev.now _)
  | cons c r =>
    refine Ev.neg (by rw [B_toList]; simp) ?_
    refine Ev.pos (by rw [B_size]; simp) ?_
    rw [bt_0]
    refine Ev.fix (special_c c) ?_
    have h61 : ((c.toNat : Int) = 61) ↔ c = 61 := u8_int_inj (n := 61) (by omega)
    have h35 : ((c.toNat : Int) = 35) ↔ c = 35 := u8_int_inj (n := 35) (by omega)
    have h32 : ((c.toNat : Int) = 32) ↔ c = 32 := u8_int_inj (n := 32) (by omega)
    have jt : oneB c = true → Ev (fun k => dn_escaped.j0 k (B (c :: r)) true) (escRes (escAt (c :: r))) := fun ho => by
      have e : escAt (c :: r) = some (c, 1) := escAt_one ho
      rw [e]
      refine Ev.step (fun k => by rw [dn_escaped.j0]) ?_
      refine Ev.pos rfl ?_
      refine Ev.pos (by rw [B_size]; simp) ?_
      rw [bt_0]
      exact Ev.now _
    by_cases h1 : specialB c = true
    · exact Ev.pos h1 (jt (by unfold oneB; simp [h1]))
    · refine Ev.neg h1 ?_
      by_cases h2 : c = 61
      · exact Ev.pos (h61.2 h2) (jt (by unfold oneB; simp [h2]))
      · refine Ev.neg (fun e => h2 (h61.1 e)) ?_
        by_cases h3 : c = 35
        · exact Ev.pos (h35.2 h3) (jt (by unfold oneB; simp [h3]))
        · refine Ev.neg (fun e => h3 (h35.1 e)) ?_
          by_cases h4 : c = 32
          · rw [show ((c.toNat : Int) == 32) = true by rw [beq_iff_eq]; exact h32.2 h4]
            exact jt (by unfold oneB; simp [h4])
          · rw [show ((c.toNat : Int) == 32) = false by rw [beq_eq_false_iff_ne]; exact fun e => h4 (h32.1 e)]
            have ho : ¬ oneB c = true := by unfold oneB; simp [h1, h2, h3, h4]
            refine Ev.step (fun k => by rw [dn_escaped.j0]) ?_
            refine Ev.neg (by simp) ?_
            have jf : Ev (fun k => dn_escaped.j1 k (B (c :: r)) false) (0, 0) := Ev.step (fun k => by rw [dn_escaped.j1]) (Ev.neg (by simp) (Ev.now _))
            cases r with
            | nil =>
              have e : escAt [c] = none := escAt_lone ho
              rw [e]
              refine Ev.neg (by rw [B_size]; simp) ?_
              exact jf
            | cons d r =>
              refine Ev.pos (by rw [B_size]; simp; omega) ?_
              refine Ev.pos (by rw [B_size]; simp; omega) ?_
              rw [bt_0]
              refine Ev.fix (digit_c c) ?_
              by_cases h5 : 0 ≤ digB c
              · refine Ev.pos h5 ?_
                refine Ev.pos (by rw [B_size]; simp; omega) ?_
                rw [bt_1]
                refine Ev.fix (digit_c d) ?_
                by_cases h6 : 0 ≤ digB d
                · have e : escAt (c :: d :: r) = some (((digB c).toNat * 16 + (digB d).toNat).toUInt8, 2) := escAt_two ho ⟨h5, h6⟩
                  rw [e]
                  refine Ev.step (fun k => by rw [dn_escaped.j1]) ?_
                  refine Ev.pos (by simpa using h6) ?_
                  refine Ev.pos (by rw [B_size]; simp; omega) ?_
                  rw [bt_0]
                  refine Ev.fix (digit_c c) ?_
                  refine Ev.pos (by rw [B_size]; simp; omega) ?_
                  rw [bt_1]
                  refine Ev.fix (digit_c d) ?_
                  rw [or16 h5 (digB_rng c).2 h6 (digB_rng d).2]
                  exact Ev.now _
                · have e : escAt (c :: d :: r) = none := escAt_not ho (fun h => h6 h.2)
                  rw [e, show decide (digB d ≥ 0) = false by simpa using h6]
                  exact jf
              · have e : escAt (c :: d :: r) = none := escAt_not ho (fun h => h5 h.1)
                rw [e]
                exact Ev.neg h5 jf
/-! ### value -/
def badC (first : Bool) (c : UInt8) : Bool := decide (c.toNat < 32) || decide (126 < c.toNat) || specialB c || (first && (c == 35 || c == 32))
/-- What dn.value makes of what stands behind the '=': the value, what is left, whether it may be. -/
def valS (first : Bool) (acc : List UInt8) (sp : Bool) : List UInt8 → List UInt8 × List UInt8 × Bool
  | [] => (acc, [], !sp)
  | c :: r => if c = 44 then (acc, c :: r, !sp)
    else if c = 92 then match escAt r with
      | none => ([], [], false)
      | some (b, n) => valS false (acc ++ [b]) false (r.drop n)
    else if badC first c = true then ([], [], false) else valS false (acc ++ [c]) (c == 32) r
termination_by l => l.length
decreasing_by all_goals (simp; try omega)
def res3 (x : List UInt8 × List UInt8 × Bool) : ByteArray × ByteArray × Bool := (B x.1, B x.2.1, x.2.2)
theorem escAt_pos {l : List UInt8} {c : UInt8} {n : Nat} (h : escAt l = some (c, n)) : 1 ≤ n ∧ n ≤ l.length := by
  unfold escAt at h
  split at h
  · cases h
  · split at h
    · cases h; simp
    · split at h
      · cases h
      · split at h
        · cases h; simp
        · cases h
theorem bi_snoc (l : List UInt8) (c : UInt8) : bi l ++ [(c.toNat : Int)] = bi (l ++ [c]) := by simp [bi]
theorem value_l0 (l : List UInt8) (hl : l.length ≤ 100000000) : ∀ n (q p acc : List UInt8) (sp : Bool), q.length ≤ n → l = p ++ q → acc.length ≤ p.length →
    Ev (fun k => dn_value.l0 k (B l) (bi acc) sp (p.length : Int)) (res3 (valS p.isEmpty acc sp q)) := by
  intro n
  induction n with
  | zero =>
    intro q p acc sp hq hp ha
    obtain rfl : q = [] := List.length_eq_zero_iff.1 (by omega)
    obtain rfl : l = p := by simpa using hp
    refine Ev.step (fun k => by rw [dn_value.l0]) ?_
    refine Ev.neg (by rw [B_size]; omega) ?_
    refine Ev.step (fun k => by rw [dn_value.j1]) ?_
    refine Ev.neg (by simp) ?_
    refine Ev.pos (by omega) ?_
    refine Ev.pos (by rw [B_size]; omega) ?_
    rw [valS, str_bi, B_extract]
    simpa [B_size, res3, B] using Ev.now _
  | succ n ih =>
    intro q p acc sp hq hp ha
    cases q with
    | nil => exact (by
        obtain rfl : l = p := by simpa using hp
        refine Ev.step (fun k => by rw [dn_value.l0]) ?_
        refine Ev.neg (by rw [B_size]; omega) ?_
        refine Ev.step (fun k => by rw [dn_value.j1]) ?_
        refine Ev.neg (by simp) ?_
        refine Ev.pos (by omega) ?_
        refine Ev.pos (by rw [B_size]; omega) ?_
        rw [valS, str_bi, B_extract]
        simpa [B_size, res3, B] using Ev.now _)
    | cons c q =>
      have hlen : p.length + 1 + q.length = l.length := by rw [hp]; simp; omega
      have hb : bt (B l) (p.length : Int) = (c.toNat : Int) := by rw [hp]; exact bt_pre p c q
      have h44 : ((c.toNat : Int) = 44) ↔ c = 44 := u8_int_inj (n := 44) (by omega)
      have h92 : ((c.toNat : Int) = 92) ↔ c = 92 := u8_int_inj (n := 92) (by omega)
      have h35 : ((c.toNat : Int) = 35) ↔ c = 35 := u8_int_inj (n := 35) (by omega)
      have h32 : ((c.toNat : Int) = 32) ↔ c = 32 := u8_int_inj (n := 32) (by omega)
      have hbl : (bi acc).length ≤ p.length := by rw [bi_length]; exact ha
      refine Ev.step (fun k => by rw [dn_value.l0]) ?_
      refine Ev.pos (by rw [B_size]; omega) ?_
      refine Ev.pos (by omega) ?_
      rw [hb]
      refine Ev.step (fun k => by rw [dn_value.j1]) ?_
      by_cases c44 : c = 44
      · rw [show ((c.toNat : Int) != 44) = false by rw [bne_eq_false_iff_eq]; exact h44.2 c44]
        refine Ev.neg (by simp) ?_
        refine Ev.pos (by omega) ?_
        refine Ev.pos (by rw [B_size]; omega) ?_
        rw [valS, if_pos c44, str_bi, B_extract, B_size]
        have : (l.drop (p.length : Int).toNat).take (l.length - (p.length : Int).toNat) = c :: q := by
          rw [List.take_of_length_le (by simp), hp]; simp
        rw [this]
        exact Ev.now _
      · rw [show ((c.toNat : Int) != 44) = true by rw [bne_iff_ne]; exact fun e => c44 (h44.1 e)]
        refine Ev.pos rfl ?_
        refine Ev.pos (by omega) ?_
        refine Ev.pos (by rw [B_size]; omega) ?_
        rw [hb, valS, if_neg c44, wrap_succ (by omega)]
        by_cases c92 : c = 92
        · rw [if_pos c92]
          refine Ev.pos (h92.2 c92) ?_
          refine Ev.pos (by omega) ?_
          refine Ev.pos (by rw [B_size]; omega) ?_
          have hx : (B l).extract (((p.length + 1 : Nat) : Int)).toNat (B l).size = B q := by
            rw [B_extract, B_size]
            have : (l.drop (((p.length + 1 : Nat) : Int)).toNat).take (l.length - (((p.length + 1 : Nat) : Int)).toNat) = q := by
              rw [List.take_of_length_le (by simp), hp]
              simp
            rw [this]
          rw [hx]
          refine Ev.bind (escaped_dn q) ?_
          cases he : escAt q with
          | none => exact Ev.pos rfl (Ev.now _)
          | some y =>
            obtain ⟨b, m⟩ := y
            obtain ⟨hm1, hm2⟩ := escAt_pos he
            refine Ev.neg (by simp only [escRes]; omega) ?_
            refine Ev.pos (by omega) ?_
            simp only [escRes]
            rw [bi_snoc, show ((c.toNat : Int) == 32) = false by rw [beq_eq_false_iff_ne, h92.2 c92]; omega]
            have hw : wrap64 (wrap64 ((p.length : Int) + (m : Int)) + 1) = ((p ++ c :: q.take m).length : Int) := by
              rw [wrap64_small (n := (p.length : Int) + (m : Int)) (by omega), wrap64_small (by omega)]; simp; omega
            rw [hw]
            have := ih (q.drop m) (p ++ c :: q.take m) (acc ++ [b]) false (by simp at hq ⊢; omega) (by rw [hp]; simp) (by simp; omega)
            rw [show (p ++ c :: q.take m).isEmpty = false by simp] at this
            exact this
        · rw [if_neg c92]
          refine Ev.neg (fun e => c92 (h92.1 e)) ?_
          have hgo : badC p.isEmpty c = false → Ev (fun k => dn_value.l0 k (B l) (bi acc ++ [(c.toNat : Int)]) ((c.toNat : Int) == 32) ((p.length + 1 : Nat) : Int)) (res3 (if badC p.isEmpty c = true then ([], [], false) else valS false (acc ++ [c]) (c == 32) q)) := fun hbad => by
            rw [if_neg (by simp [hbad]), bi_snoc]
            have := ih q (p ++ [c]) (acc ++ [c]) (c == 32) (by simp at hq; omega) (by rw [hp]; simp) (by simp; omega)
            rw [show (p ++ [c]).isEmpty = false by simp, show (p ++ [c]).length = p.length + 1 by simp] at this
            rw [show ((c.toNat : Int) == 32) = (c == 32) by rw [Bool.eq_iff_iff, beq_iff_eq, beq_iff_eq]; exact h32]
            exact this
          have hno : badC p.isEmpty c = true → Ev (fun _ => some ((⟨#[]⟩ : ByteArray), (⟨#[]⟩ : ByteArray), false)) (res3 (if badC p.isEmpty c = true then ([], [], false) else valS false (acc ++ [c]) (c == 32) q)) := fun hbad => by
            rw [if_pos hbad]; exact Ev.now _
          by_cases b1 : c.toNat < 32
          · exact Ev.pos (by omega) (hno (by unfold badC; simp [b1]))
          · refine Ev.neg (by omega) ?_
            by_cases b2 : 126 < c.toNat
            · exact Ev.pos (by omega) (hno (by unfold badC; simp [b2]))
            · refine Ev.neg (by omega) ?_
              refine Ev.fix (special_c c) ?_
              by_cases b3 : specialB c = true
              · exact Ev.pos b3 (hno (by unfold badC; simp [b3]))
              · refine Ev.neg b3 ?_
                by_cases b4 : p = []
                · subst b4
                  refine Ev.pos (by simp) ?_
                  by_cases b5 : c = 35
                  · exact Ev.pos (h35.2 b5) (hno (by unfold badC; simp [b5]))
                  · refine Ev.neg (fun e => b5 (h35.1 e)) ?_
                    by_cases b6 : c = 32
                    · exact Ev.pos (h32.2 b6) (hno (by unfold badC; simp [b6]))
                    · refine Ev.neg (fun e => b6 (h32.1 e)) ?_
                      exact Ev.pos (by omega) (hgo (by unfold badC; simp [b1, b2, b3, b5, b6]))
                · have : 0 < p.length := List.length_pos_iff.2 b4
                  refine Ev.neg (by omega) ?_
                  exact Ev.pos (by omega) (hgo (by unfold badC; simp [b1, b2, b3, b4]))
theorem value_ev (l : List UInt8) (hl : l.length ≤ 100000000) : Ev (fun k => dn_value.f k (B l)) (res3 (valS true [] false l)) :=
  value_l0 l hl l.length l [] [] false (Nat.le_refl _) rfl (by simp)
/-! ### Parse -/
/-- Up to the first '=', and behind it. -/
def cutS : List UInt8 → Option (List UInt8 × List UInt8)
  | [] => none
  | c :: r => if c = 61 then some ([], r) else (cutS r).map fun x => (c :: x.1, x.2)
theorem cutS_index (l : List UInt8) : (cutS l = none ∧ Lib.indexByte l 61 = -1) ∨ ∃ a b, cutS l = some (a, b) ∧ Lib.indexByte l 61 = (a.length : Int) ∧ l = a ++ 61 :: b := by
  induction l with
  | nil => exact .inl ⟨rfl, rfl⟩
  | cons c r ih =>
    by_cases h : c = 61
    · subst h
      exact .inr ⟨[], r, by simp [cutS], by simp [Lib.indexByte], rfl⟩
    · have hb : (c == 61) = false := by simpa using h
      rcases ih with ⟨h1, h2⟩ | ⟨a, b, h1, h2, h3⟩
      · exact .inl ⟨by simp [cutS, h, h1], by simp [Lib.indexByte, hb, h2]⟩
      · refine .inr ⟨c :: a, b, by simp [cutS, h, h1], ?_, by rw [h3]; rfl⟩
        simp only [Lib.indexByte, hb, h2]
        simp
theorem cut_ev (l : List UInt8) (hl : l.length ≤ 100000000) : strings_Cut.f (B l) (⟨#[61]⟩ : ByteArray) = some (match cutS l with | none => (B l, B [], false) | some (a, b) => (B a, B b, true)) := by
  unfold strings_Cut.f stringslite_Cut.f stringslite_Index.f
  simp only [B_data, Option.bind_some]
  rcases cutS_index l with ⟨h1, h2⟩ | ⟨a, b, h1, h2, h3⟩
  · rw [h1, h2]
    simp [B]
  · rw [h1, h2]
    have hlen : a.length + 1 + b.length = l.length := by rw [h3]; simp; omega
    have hs : ((⟨#[61]⟩ : ByteArray).size : Int) = 1 := rfl
    have hw := wrap_succ (n := a.length) (by omega)
    rw [if_pos (by omega), if_pos (by omega), if_pos (by rw [B_size]; omega), hs, hw, if_pos (by omega), if_pos (by rw [B_size]; omega)]
    simp only [Option.bind_some, B_extract, B_size]
    have e1 : (l.drop 0).take ((a.length : Int).toNat - 0) = a := by rw [h3]; simp
    have e2 : (l.drop (((a.length + 1 : Nat) : Int)).toNat).take (l.length - (((a.length + 1 : Nat) : Int)).toNat) = b := by
      rw [List.take_of_length_le (by simp), h3]
      simp
    rw [e1, e2]
/-- What dn.Parse makes of what is left, behind some parts; with so many more to come. -/
def parseS : Nat → List UInt8 → List S25 → Bool → List S25 × Bool
  | n, s, acc, more =>
    if more = false then (if mayB acc = true then (acc, true) else ([], false)) else
    match n with
    | 0 => ([], false)
    | n + 1 => match cutS s with
      | none => ([], false)
      | some (a, b) => if typedB a = false then ([], false) else
        if (valS true [] false b).2.2 = false then ([], false) else
        parseS n ((valS true [] false b).2.1.drop 1) (acc ++ [⟨B a, B (valS true [] false b).1⟩]) ((valS true [] false b).2.1 != [])
theorem parseS_done (n : Nat) (s : List UInt8) (acc : List S25) : parseS n s acc false = if mayB acc = true then (acc, true) else ([], false) := by
  unfold parseS; simp
theorem parseS_zero (s : List UInt8) (acc : List S25) : parseS 0 s acc true = ([], false) := by
  unfold parseS; simp
theorem parseS_none (n : Nat) (s : List UInt8) (acc : List S25) (h : cutS s = none) : parseS (n + 1) s acc true = ([], false) := by
  conv => lhs; unfold parseS
  simp [h]
theorem parseS_some (n : Nat) (s a b : List UInt8) (acc : List S25) (h : cutS s = some (a, b)) : parseS (n + 1) s acc true = if typedB a = false then ([], false) else
        if (valS true [] false b).2.2 = false then ([], false) else
        parseS n ((valS true [] false b).2.1.drop 1) (acc ++ [⟨B a, B (valS true [] false b).1⟩]) ((valS true [] false b).2.1 != []) := by
  conv => lhs; unfold parseS
  simp [h]
theorem valS_len : ∀ n (q : List UInt8), q.length ≤ n → ∀ (first : Bool) (acc : List UInt8) (sp : Bool), (valS first acc sp q).2.1.length ≤ q.length := by
  intro n
  induction n with
  | zero =>
    intro q hq first acc sp
    obtain rfl : q = [] := List.length_eq_zero_iff.1 (by omega)
    rw [valS]; simp
  | succ n ih =>
    intro q hq first acc sp
    cases q with
    | nil => rw [valS]; simp
    | cons c r =>
      rw [valS]
      split
      · simp
      · split
        · split
          · simp
          · next b m he =>
            have := ih (r.drop m) (by simp at hq ⊢; omega) false (acc ++ [b]) false
            simp at this ⊢
            omega
        · split
          · simp
          · have := ih r (by simp at hq; omega) false (acc ++ [c]) (c == 32)
            simp at this ⊢
            omega
theorem parse_l0 : ∀ n (s : List UInt8) (acc : List S25) (more : Bool), s.length ≤ 100000000 → acc.length + n = 8 →
    Ev (fun k => dn_Parse.l0 k (B s) acc more) (parseS n s acc more) := by
  intro n
  induction n with
  | zero =>
    intro s acc more hs hn
    refine Ev.step (fun k => by rw [dn_Parse.l0]) ?_
    cases more with
    | false =>
      refine Ev.neg (by simp) ?_
      refine Ev.bind (may_ev acc (by omega)) ?_
      rw [parseS_done]
      by_cases hm : mayB acc = true
      · simp only [if_pos hm]; exact Ev.now _
      · simp only [if_neg hm]; exact Ev.now _
    | true =>
      refine Ev.pos rfl ?_
      refine Ev.fix (cut_ev s (by omega)) ?_
      rw [parseS_zero]
      have jt : ∀ x y, Ev (fun k => dn_Parse.j1 k acc x y true) ([], false) := fun x y => Ev.step (fun k => by rw [dn_Parse.j1]) (Ev.pos rfl (Ev.now _))
      cases cutS s with
      | none => exact Ev.neg (by simp) (jt _ _)
      | some x =>
        obtain ⟨a, b⟩ := x
        refine Ev.pos rfl ?_
        refine Ev.fix (v := typedB a) (by unfold dn_typed.f; rw [B_data]) ?_
        by_cases ht : typedB a = true
        · refine Ev.pos ht ?_
          rw [show ((acc.length : Int) == 8) = true by rw [beq_iff_eq]; omega]
          exact jt _ _
        · exact Ev.neg ht (jt _ _)
  | succ n ih =>
    intro s acc more hs hn
    refine Ev.step (fun k => by rw [dn_Parse.l0]) ?_
    cases more with
    | false =>
      refine Ev.neg (by simp) ?_
      refine Ev.bind (may_ev acc (by omega)) ?_
      rw [parseS_done]
      by_cases hm : mayB acc = true
      · simp only [if_pos hm]; exact Ev.now _
      · simp only [if_neg hm]; exact Ev.now _
    | true =>
      refine Ev.pos rfl ?_
      refine Ev.fix (cut_ev s (by omega)) ?_
      have jt : ∀ x y, Ev (fun k => dn_Parse.j1 k acc x y true) ([], false) := fun x y => Ev.step (fun k => by rw [dn_Parse.j1]) (Ev.pos rfl (Ev.now _))
      cases hc : cutS s with
      | none =>
        rw [parseS_none _ _ _ hc]
        exact Ev.neg (by simp) (jt _ _)
      | some x =>
        obtain ⟨a, b⟩ := x
        rw [parseS_some _ _ _ _ _ hc]
        refine Ev.pos rfl ?_
        refine Ev.fix (v := typedB a) (by unfold dn_typed.f; rw [B_data]) ?_
        have hbl : b.length ≤ s.length := by
          rcases cutS_index s with ⟨h1, _⟩ | ⟨a', b', h1, _, h3⟩
          · rw [h1] at hc; cases hc
          · rw [h1] at hc; cases hc; rw [h3]; simp; omega
        by_cases ht : typedB a = true
        · refine Ev.pos ht ?_
          rw [if_neg (by simp [ht]), show ((acc.length : Int) == 8) = false by rw [beq_eq_false_iff_ne]; omega]
          refine Ev.step (fun k => by rw [dn_Parse.j1]) ?_
          refine Ev.neg (by simp) ?_
          refine Ev.bind (value_ev b (by omega)) ?_
          have hv := valS_len b.length b (Nat.le_refl _) true [] false
          generalize valS true [] false b = v at *
          obtain ⟨v1, v2, v3⟩ := v
          simp only [res3] at hv ⊢
          cases v3 with
          | false =>
            rw [if_pos rfl]
            exact Ev.neg (by simp) (Ev.now _)
          | true =>
            rw [if_neg (by simp)]
            refine Ev.pos rfl ?_
            refine Ev.pos (by omega) ?_
            refine Ev.fix rfl ?_
            simp only [B_toList]
            have hi := ih (v2.drop 1) (acc ++ [⟨B a, B v1⟩]) (v2 != []) (by simp; omega) (by simp; omega)
            cases v2 with
            | nil => exact Ev.pos rfl hi
            | cons d v2 =>
              refine Ev.neg (by simp) ?_
              refine Ev.pos (by rw [B_size]; simp; omega) ?_
              have : (B (d :: v2)).extract 1 (B (d :: v2)).size = B ((d :: v2).drop 1) := by rw [B_extract, B_size, List.take_of_length_le (by simp)]
              rw [this]
              exact hi
        · have : typedB a = false := by simpa using ht
          rw [if_pos this]
          exact Ev.neg ht (jt _ _)
def parseL (s : List UInt8) : List S25 × Bool := parseS 8 s [] (s != [])
theorem parse_ev (s : List UInt8) (hs : s.length ≤ 100000000) : Ev (fun k => dn_Parse.f k (B s)) (parseL s) := by
  unfold dn_Parse.f parseL
  rw [B_toList]
  exact parse_l0 8 s [] (s != []) hs rfl
end Go.Proofs.YtflkghdndffacaaDoor.Pure

namespace Go.Proofs.YtflkghdndffacaaDoor.Pure
open Go.RowKit Go.Proofs.YtflkghdndffacaaDoor.PD Go.Proofs.YtflkghdndffacaaDoor.H Go.Proofs.YtflkghdndffacaaDoorW.PrintWords Go.Proofs.YtflkghdndffacaaDoorW.PrintLast
def escL (n : Nat) : Nat → List UInt8 → List UInt8
  | _, [] => []
  | k, c :: r => escC n k c ++ escL n (k + 1) r
def esc (v : List UInt8) : List UInt8 := escL v.length 0 v
theorem escUp_escL (l : List UInt8) : ∀ q p : List UInt8, l = p ++ q → escUp l p.length ++ escL l.length p.length q = escUp l l.length := by
  intro q
  induction q with
  | nil => intro p hp; obtain rfl : l = p := by simpa using hp
           simp [escL]
  | cons c q ih =>
    intro p hp
    have hi := ih (p ++ [c]) (by rw [hp]; simp)
    have hn : (p ++ [c]).length = p.length + 1 := by simp
    rw [hn, escUp_succ (c := c) (by rw [hp]; simp), List.append_assoc] at hi
    exact hi
theorem esc_up (v : List UInt8) : escUp v v.length = esc v := by
  have := escUp_escL v v [] rfl
  simpa [escUp, esc] using this.symm
def seg (r : S25) : List UInt8 := r.f0.data.toList ++ 61 :: esc r.f1.data.toList
def textL : Bool → List S25 → List UInt8
  | _, [] => []
  | b, r :: rs => (if b = true then [44] else []) ++ seg r ++ textL true rs
theorem textUp_textL (l : List S25) : ∀ q p : List S25, l = p ++ q → textUp l p.length ++ textL (decide (p ≠ [])) q = textUp l l.length := by
  intro q
  induction q with
  | nil => intro p hp; obtain rfl : l = p := by simpa using hp
           simp [textL]
  | cons r q ih =>
    intro p hp
    have hi := ih (p ++ [r]) (by rw [hp]; simp)
    have hn : (p ++ [r]).length = p.length + 1 := by simp
    rw [hn, textUp_succ (r := r) (by rw [hp]; simp), esc_up] at hi
    rw [← hi]
    have e1 : decide (p ++ [r] ≠ []) = true := by simp
    have e2 : decide (p ≠ []) = true ↔ 0 < p.length := by simp [List.length_pos_iff]
    rw [e1]
    simp only [textL, e2, seg]
    simp
def text (l : List S25) : List UInt8 := textL false l
theorem text_up (l : List S25) : textUp l l.length = text l := by
  have := textUp_textL l l [] rfl
  simpa [textUp, text] using this.symm
/-! ### The value back -/
theorem hex_back_fin : ∀ n : Fin 256, ((UInt8.ofNat n.val).toNat < 32 ∨ 126 < (UInt8.ofNat n.val).toNat) → (oneB (hexD ((UInt8.ofNat n.val).toNat / 16)) = false ∧ 0 ≤ digB (hexD ((UInt8.ofNat n.val).toNat / 16)) ∧ 0 ≤ digB (hexD ((UInt8.ofNat n.val).toNat % 16)) ∧ ((digB (hexD ((UInt8.ofNat n.val).toNat / 16))).toNat * 16 + (digB (hexD ((UInt8.ofNat n.val).toNat % 16))).toNat).toUInt8 = UInt8.ofNat n.val) := by decide +kernel
theorem hex_back (c : UInt8) (R : List UInt8) (h : c.toNat < 32 ∨ 126 < c.toNat) : escAt (hexD (c.toNat / 16) :: hexD (c.toNat % 16) :: R) = some (c, 2) := by
  obtain ⟨h1, h2, h3, h4⟩ := u8_all (P := fun c => (c.toNat < 32 ∨ 126 < c.toNat) → (oneB (hexD (c.toNat / 16)) = false ∧ 0 ≤ digB (hexD (c.toNat / 16)) ∧ 0 ≤ digB (hexD (c.toNat % 16)) ∧ ((digB (hexD (c.toNat / 16))).toNat * 16 + (digB (hexD (c.toNat % 16))).toNat).toUInt8 = c)) hex_back_fin c h
  rw [escAt_two (by simp [h1]) ⟨h2, h3⟩, h4]
theorem special44 : specialB 44 = true := by decide
theorem special92 : specialB 92 = true := by decide
theorem valS_escC (n k : Nat) (c : UInt8) (acc : List UInt8) (sp : Bool) (R : List UInt8) :
    valS (k == 0) acc sp (escC n k c ++ R) = valS false (acc ++ [c]) (decide (escC n k c = [c]) && c == 32) R := by
  unfold escC
  split
  · next h =>
    have e : ([92, hexD (c.toNat / 16), hexD (c.toNat % 16)] : List UInt8) ++ R = 92 :: hexD (c.toNat / 16) :: hexD (c.toNat % 16) :: R := rfl
    rw [e, valS, if_neg (by decide), if_pos rfl, hex_back c R h]
    simp
  · next h =>
    split
    · next h2 =>
      have ho : oneB c = true := by
        unfold oneB
        rcases h2 with h2 | ⟨_, h2 | h2⟩ | ⟨_, h2⟩ <;> simp [h2]
      have e : ([92, c] : List UInt8) ++ R = 92 :: c :: R := rfl
      rw [e, valS, if_neg (by decide), if_pos rfl, escAt_one ho]
      simp
    · next h2 =>
      have hs : specialB c = false := by
        cases e : specialB c with
        | false => rfl
        | true => exact absurd (.inl e) h2
      have h44 : c ≠ 44 := by rintro rfl; rw [special44] at hs; cases hs
      have h92 : c ≠ 92 := by rintro rfl; rw [special92] at hs; cases hs
      have hb : badC (k == 0) c = false := by
        unfold badC
        rw [hs, decide_eq_false (fun hh => h (.inl hh)), decide_eq_false (fun hh => h (.inr hh))]
        by_cases hk : k = 0
        · have h3 : c ≠ 35 := fun hh => h2 (.inr (.inl ⟨hk, .inl hh⟩))
          have h4 : c ≠ 32 := fun hh => h2 (.inr (.inl ⟨hk, .inr hh⟩))
          simp [h3, h4]
        · simp [hk]
      have e : ([c] : List UInt8) ++ R = c :: R := rfl
      rw [e, valS, if_neg h44, if_neg h92, if_neg (by simp [hb])]
      simp
theorem valS_rest (first : Bool) (acc : List UInt8) (rest : List UInt8) (h : rest = [] ∨ rest.head? = some 44) : valS first acc false rest = (acc, rest, true) := by
  cases rest with
  | nil => rw [valS]; rfl
  | cons d rest =>
    have : d = 44 := by simpa using h
    rw [valS, if_pos this]; rfl
theorem valS_escL (v rest : List UInt8) (h : rest = [] ∨ rest.head? = some 44) : ∀ (q p : List UInt8) (sp : Bool), v = p ++ q → (q = [] → sp = false) → valS (p.length == 0) p sp (escL v.length p.length q ++ rest) = (v, rest, true) := by
  intro q
  induction q with
  | nil =>
    intro p sp hp hsp
    obtain rfl : v = p := by simpa using hp
    rw [hsp rfl]
    exact valS_rest _ _ _ h
  | cons c q ih =>
    intro p sp hp _
    have hlen : p.length + 1 + q.length = v.length := by rw [hp]; simp; omega
    rw [escL, List.append_assoc, valS_escC]
    have hi := ih (p ++ [c]) (decide (escC v.length p.length c = [c]) && c == 32) (by rw [hp]; simp) (by
      intro hq
      subst hq
      by_cases hc : c = 32
      · subst hc
        have : escC v.length p.length 32 = [92, 32] := by
          unfold escC
          rw [if_neg (by decide), if_pos (.inr (.inr ⟨by simpa using hlen, rfl⟩))]
        rw [this]; simp
      · simp [hc])
    have hn : (p ++ [c]).length = p.length + 1 := by simp
    rw [hn, show (p.length + 1 == 0) = false by simp] at hi
    exact hi
theorem valS_esc (v rest : List UInt8) (h : rest = [] ∨ rest.head? = some 44) : valS true [] false (esc v ++ rest) = (v, rest, true) :=
  valS_escL v rest h v [] false rfl (fun _ => rfl)
/-! ### The parts back -/
theorem textL_head (rs : List S25) : textL true rs = [] ∨ (textL true rs).head? = some 44 := by
  cases rs with
  | nil => exact .inl rfl
  | cons r rs => exact .inr (by simp [textL])
theorem textL_drop (rs : List S25) : (textL true rs).drop 1 = textL false rs := by
  cases rs with
  | nil => rfl
  | cons r rs => simp [textL]
theorem textL_ne (b : Bool) (rs : List S25) : (textL b rs != []) = (!rs.isEmpty) := by
  cases rs with
  | nil => rfl
  | cons r rs => simp [textL, seg]
theorem cutS_at (a b : List UInt8) (h : 61 ∉ a) : cutS (a ++ 61 :: b) = some (a, b) := by
  induction a with
  | nil => simp [cutS]
  | cons c a ih =>
    have hc : c ≠ 61 := fun e => h (by simp [e])
    have := ih (fun e => h (by simp [e]))
    simp [cutS, hc, this]
theorem typeC_fin : ∀ n : Fin 256, typeC (UInt8.ofNat n.val) = true → 33 ≤ (UInt8.ofNat n.val).toNat ∧ (UInt8.ofNat n.val).toNat ≤ 126 ∧ UInt8.ofNat n.val ≠ 61 ∧ UInt8.ofNat n.val ≠ 44 ∧ UInt8.ofNat n.val ≠ 92 ∧ UInt8.ofNat n.val ≠ 32 := by decide +kernel
theorem typeC_rng {c : UInt8} (h : typeC c = true) : 33 ≤ c.toNat ∧ c.toNat ≤ 126 ∧ c ≠ 61 ∧ c ≠ 44 ∧ c ≠ 92 ∧ c ≠ 32 :=
  u8_all (P := fun c => typeC c = true → 33 ≤ c.toNat ∧ c.toNat ≤ 126 ∧ c ≠ 61 ∧ c ≠ 44 ∧ c ≠ 92 ∧ c ≠ 32) typeC_fin c h
theorem typed_all {l : List UInt8} (h : typedB l = true) : ∀ c ∈ l, typeC c = true := by
  unfold typedB at h
  split at h
  · cases h
  · simp only [Bool.and_eq_true, List.all_eq_true] at h
    exact h.2
theorem typed_61 {l : List UInt8} (h : typedB l = true) : 61 ∉ l := fun hm => (typeC_rng (typed_all h 61 hm)).2.2.1 rfl
theorem mayB_iff {l : List S25} : mayB l = true ↔ (∀ r ∈ l, partB r = true) ∧ l.length ≤ 8 := by simp [mayB]
theorem part_typed {r : S25} (h : partB r = true) : typedB r.f0.data.toList = true := by
  unfold partB at h; simp only [Bool.and_eq_true] at h; exact h.1
theorem parse_text : ∀ (rs acc : List S25) (n : Nat), acc.length + n = 8 → mayB (acc ++ rs) = true → parseS n (textL false rs) acc (!rs.isEmpty) = (acc ++ rs, true) := by
  intro rs
  induction rs with
  | nil =>
    intro acc n hn hm
    rw [show (!([] : List S25).isEmpty) = false from rfl, parseS_done, if_pos (by simpa using hm)]; simp
  | cons r rs ih =>
    intro acc n hn hm
    obtain ⟨h1, h2⟩ := mayB_iff.1 hm
    have hr := h1 r (by simp)
    obtain ⟨n, rfl⟩ : ∃ m, n = m + 1 := ⟨n - 1, by simp at h2; omega⟩
    have ht := part_typed hr
    have e : textL false (r :: rs) = r.f0.data.toList ++ 61 :: (esc r.f1.data.toList ++ textL true rs) := by simp [textL, seg]
    rw [show (!(r :: rs).isEmpty) = true from rfl, e, parseS_some _ _ _ _ _ (cutS_at _ _ (typed_61 ht)), if_neg (by simp [ht]), valS_esc _ _ (textL_head rs)]
    simp only [textL_drop, textL_ne, B_of]
    rw [if_neg (by simp)]
    have := ih (acc ++ [r]) n (by simp; omega) (by simpa using hm)
    simpa using this
theorem parseL_text (l : List S25) (h : mayB l = true) : parseL (text l) = (l, true) := by
  unfold parseL text
  rw [textL_ne]
  have := parse_text l [] 8 rfl (by simpa using h)
  simpa using this
/-! ### A name's text has only what is printed -/
theorem hexD_fin : ∀ n : Fin 16, 33 ≤ (hexD n.val).toNat ∧ (hexD n.val).toNat ≤ 126 ∧ hexD n.val ≠ 44 ∧ hexD n.val ≠ 92 ∧ hexD n.val ≠ 61 := by decide
theorem hexD_rng {n : Nat} (h : n < 16) : 33 ≤ (hexD n).toNat ∧ (hexD n).toNat ≤ 126 ∧ hexD n ≠ 44 ∧ hexD n ≠ 92 ∧ hexD n ≠ 61 := hexD_fin ⟨n, h⟩
def seen (c : UInt8) : Prop := 32 ≤ c.toNat ∧ c.toNat ≤ 126
theorem escC_seen (n k : Nat) (c d : UInt8) (h : d ∈ escC n k c) : seen d := by
  have hc := UInt8.toNat_lt c
  unfold escC at h
  split at h
  · have h1 := hexD_rng (n := c.toNat / 16) (by omega)
    have h2 := hexD_rng (n := c.toNat % 16) (by omega)
    simp only [List.mem_cons, List.not_mem_nil, or_false] at h
    rcases h with rfl | rfl | rfl
    · exact ⟨by decide, by decide⟩
    · exact ⟨by omega, h1.2.1⟩
    · exact ⟨by omega, h2.2.1⟩
  · next hn =>
    have hcs : seen c := ⟨by omega, by omega⟩
    split at h
    · simp only [List.mem_cons, List.not_mem_nil, or_false] at h
      rcases h with rfl | rfl
      · exact ⟨by decide, by decide⟩
      · exact hcs
    · simp only [List.mem_cons, List.not_mem_nil, or_false] at h
      rw [h]; exact hcs
theorem escL_seen (n : Nat) : ∀ (v : List UInt8) (k : Nat) (d : UInt8), d ∈ escL n k v → seen d := by
  intro v
  induction v with
  | nil => intro k d h; simp [escL] at h
  | cons c v ih =>
    intro k d h
    rw [escL, List.mem_append] at h
    rcases h with h | h
    · exact escC_seen n k c d h
    · exact ih _ d h
theorem textL_seen : ∀ (l : List S25) (b : Bool), (∀ r ∈ l, partB r = true) → ∀ d ∈ textL b l, seen d := by
  intro l
  induction l with
  | nil => intro b _ d h; simp [textL] at h
  | cons r l ih =>
    intro b hp d h
    simp only [textL, List.mem_append, seg, List.mem_cons] at h
    rcases h with (h | h | h | h) | h
    · split at h
      · simp only [List.mem_cons, List.not_mem_nil, or_false] at h
        rw [h]; exact ⟨by decide, by decide⟩
      · simp at h
    · have := typeC_rng (typed_all (part_typed (hp r (by simp))) d h)
      exact ⟨by omega, this.2.1⟩
    · rw [h]; exact ⟨by decide, by decide⟩
    · exact escL_seen _ _ _ d h
    · exact ih true (fun r hr => hp r (by simp [hr])) d h
end Go.Proofs.YtflkghdndffacaaDoor.Pure

namespace Go.Proofs.YtflkghdndffacaaDoor.Pure
open Go.RowKit Go.Proofs.YtflkghdndffacaaDoor.PD Go.Proofs.YtflkghdndffacaaDoor.H Go.Proofs.YtflkghdndffacaaDoorW.PrintWords Go.Proofs.YtflkghdndffacaaDoorW.PrintLast
def types5 : List (List UInt8) := [[99, 110], [79], [120, 45, 49], [117, 105, 100], [79, 85]]
def Good (r : S25) : Prop := ∃ t w, t ∈ types5 ∧ w.length ≤ 60 ∧ r = ⟨B t, B (118 :: w)⟩
def Made (l : List S25) : Prop := l.length ≤ 5 ∧ ∀ r ∈ l, Good r
theorem types_typed : ∀ t ∈ types5, typedB t = true := by decide
theorem types_len : ∀ t ∈ types5, t.length ≤ 3 := by decide
theorem good_part {r : S25} (h : Good r) : partB r = true := by
  obtain ⟨t, w, ht, hw, rfl⟩ := h
  unfold partB
  rw [B_data, B_data, types_typed t ht]
  simp; omega
theorem made_may {l : List S25} (h : Made l) : mayB l = true := mayB_iff.2 ⟨fun r hr => good_part (h.2 r hr), by have := h.1; omega⟩
theorem made_modest {l : List S25} (h : Made l) : Modest l := by
  refine ⟨by have := h.1; omega, fun r hr => ?_⟩
  obtain ⟨t, w, ht, hw, rfl⟩ := h.2 r hr
  have := types_len t ht
  rw [B_size, B_size]
  simp; omega
theorem make_l0 (l0 : List ByteArray) (l1 : List Int) (h1 : ∀ n ∈ l1, (Lit.int .u8 n).wf = true) :
    ∀ (d i : Nat) (acc : List S25), i + d = 5 → acc.length = i → (∀ r ∈ acc, Good r) → ∃ l, Ev (fun k => brooklaw2_Make.l0 k l0 l1 acc (i : Int)) l ∧ Made l := by
  intro d
  induction d with
  | zero =>
    intro i acc hi ha hg
    refine ⟨acc, Ev.step (fun k => by rw [brooklaw2_Make.l0]) ?_, by omega, hg⟩
    have jf : ∀ b, b = false → Ev (fun k => brooklaw2_Make.j1 k l0 l1 acc (i : Int) b) acc := fun b hb => by
      subst hb
      exact Ev.step (fun k => by rw [brooklaw2_Make.j1]) (Ev.neg (by simp) (Ev.now _))
    by_cases h : (i : Int) < (l0.length : Int)
    · exact Ev.pos h (jf _ (by simp; omega))
    · exact Ev.neg h (jf _ rfl)
  | succ d ih =>
    intro i acc hi ha hg
    by_cases h : (i : Int) < (l0.length : Int)
    · generalize hv : rdOf ByteArray.empty l0 (i : Int) = v
      have hm0 : 0 ≤ mn (v.size : Int) 60 := by unfold mn; split <;> omega
      have hm1 : mn (v.size : Int) 60 ≤ (v.size : Int) := by unfold mn; split <;> omega
      have hm2 : mn (v.size : Int) 60 ≤ 60 := by unfold mn; split <;> omega
      generalize hx : v.extract 0 (mn (v.size : Int) 60).toNat = x
      have hxs : x.size ≤ 60 := by rw [← hx]; simp; omega
      have hst : ∃ t ∈ types5,
          ∀ l, Ev (fun k => brooklaw2_Make.l0 k l0 l1 (acc ++ [⟨B t, B (118 :: x.data.toList)⟩]) ((i + 1 : Nat) : Int)) l → Ev (fun k => brooklaw2_Make.l0 k l0 l1 acc (i : Int)) l := by
        have ex : (⟨#[118]⟩ : ByteArray) ++ x = B (118 :: x.data.toList) := by
          have : x = B x.data.toList := (B_of x).symm
          conv => lhs; rw [this]
          exact B_append [118] _
        have hxl : 1 + x.size ≤ 9223372036854775807 := by omega
        by_cases hn : (i : Int) < (l1.length : Int)
        · have hw := h1 (l1.getD i 0) (by rw [List.getD_eq_getElem?_getD, List.getElem?_eq_getElem (by omega)]; simp)
          have hr : rd l1 (i : Int) = l1.getD i 0 := by simp [rd]
          generalize hz : l1.getD i 0 = z at *
          have hb : 0 ≤ z ∧ z < 256 := by have := hw; simp [Lit.wf, IntKind.min, IntKind.max, IntKind.bits, IntKind.signed] at this; omega
          have ht5 : Int.tmod z 5 = z % 5 := Int.tmod_eq_emod_of_nonneg hb.1
          have hsel : ∃ t ∈ types5, rdOf ByteArray.empty [(⟨#[99, 110]⟩ : ByteArray), (⟨#[79]⟩ : ByteArray), (⟨#[120, 45, 49]⟩ : ByteArray), (⟨#[117, 105, 100]⟩ : ByteArray), (⟨#[79, 85]⟩ : ByteArray)] (z % 5) = B t := by
            have : z % 5 = 0 ∨ z % 5 = 1 ∨ z % 5 = 2 ∨ z % 5 = 3 ∨ z % 5 = 4 := by omega
            rcases this with e | e | e | e | e <;> rw [e]
            · exact ⟨[99, 110], by decide, rfl⟩
            · exact ⟨[79], by decide, rfl⟩
            · exact ⟨[120, 45, 49], by decide, rfl⟩
            · exact ⟨[117, 105, 100], by decide, rfl⟩
            · exact ⟨[79, 85], by decide, rfl⟩
          obtain ⟨t, htm, hte⟩ := hsel
          refine ⟨t, htm, fun l hl => ?_⟩
          refine Ev.step (fun k => by rw [brooklaw2_Make.l0]) ?_
          refine Ev.pos h ?_
          refine Ev.step (fun k => by rw [brooklaw2_Make.j1]) ?_
          refine Ev.pos (by simp; omega) ?_
          refine Ev.pos hn ?_
          refine Ev.fix rfl ?_
          rw [hv, hr, ht5, hx, hte, ex, wrap_succ (by omega)]
          refine Ev.pos (by omega) ?_
          refine Ev.pos (by omega) ?_
          refine Ev.pos (by simp only [List.length_cons, List.length_nil]; omega) ?_
          refine Ev.pos h ?_
          refine Ev.pos hm0 ?_
          refine Ev.pos hm1 ?_
          refine Ev.pos hxl ?_
          exact Ev.pos (by omega) hl
        · refine ⟨[99, 110], by decide, fun l hl => ?_⟩
          refine Ev.step (fun k => by rw [brooklaw2_Make.l0]) ?_
          refine Ev.pos h ?_
          refine Ev.step (fun k => by rw [brooklaw2_Make.j1]) ?_
          refine Ev.pos (by simp; omega) ?_
          refine Ev.neg hn ?_
          rw [hv, hx, ex, wrap_succ (by omega)]
          refine Ev.pos (by omega) ?_
          refine Ev.pos h ?_
          refine Ev.pos hm0 ?_
          refine Ev.pos hm1 ?_
          refine Ev.pos hxl ?_
          exact Ev.pos (by omega) hl
      obtain ⟨t, ht, hstep⟩ := hst
      obtain ⟨l, hl, hmade⟩ := ih (i + 1) (acc ++ [⟨B t, B (118 :: x.data.toList)⟩]) (by omega) (by simp; omega) (by
        intro r hr
        rcases List.mem_append.1 hr with hr | hr
        · exact hg r hr
        · obtain rfl : r = ⟨B t, B (118 :: x.data.toList)⟩ := by simpa using hr
          exact ⟨t, x.data.toList, ht, by rw [← Lib.size_eq]; exact hxs, rfl⟩)
      exact ⟨l, hstep l hl, hmade⟩
    · refine ⟨acc, Ev.step (fun k => by rw [brooklaw2_Make.l0]) ?_, by omega, hg⟩
      refine Ev.neg h ?_
      exact Ev.step (fun k => by rw [brooklaw2_Make.j1]) (Ev.neg (by simp) (Ev.now _))
theorem make_ev (l0 : List ByteArray) (l1 : List Int) (h1 : ∀ n ∈ l1, (Lit.int .u8 n).wf = true) : ∃ l, Ev (fun k => brooklaw2_Make.f k l0 l1) l ∧ Made l :=
  make_l0 l0 l1 h1 5 0 [] rfl rfl (by simp)
theorem same_l0 (l : List S25) (hl : l.length ≤ 1000000) : ∀ q p : List S25, l = p ++ q → Ev (fun k => brooklaw2_Same.l0 k l l (p.length : Int)) true := by
  intro q
  induction q with
  | nil =>
    intro p hp
    obtain rfl : l = p := by simpa using hp
    refine Ev.step (fun k => by rw [brooklaw2_Same.l0]) ?_
    exact Ev.neg (by omega) (Ev.now _)
  | cons r q ih =>
    intro p hp
    have hlen : p.length + 1 + q.length = l.length := by rw [hp]; simp; omega
    have hi := ih (p ++ [r]) (by rw [hp]; simp)
    rw [show (p ++ [r]).length = p.length + 1 by simp] at hi
    refine Ev.step (fun k => by rw [brooklaw2_Same.l0]) ?_
    refine Ev.pos (by omega) ?_
    refine Ev.pos (by omega) ?_
    refine Ev.pos (by omega) ?_
    refine Ev.neg (by simp) ?_
    rw [wrap_succ (by omega)]
    exact hi
theorem same_ev (l : List S25) (hl : l.length ≤ 1000000) : Ev (fun k => brooklaw2_Same.f k l l) true := by
  unfold brooklaw2_Same.f
  exact Ev.pos rfl (same_l0 l hl l [] rfl)
theorem text_ev {l : List S25} (h : Modest l) : dn_Text.f l = some (B (text l)) := by rw [text_B l h, text_up]
theorem text_len {l : List S25} (h : Modest l) : (text l).length ≤ 4000002 * l.length := by
  rw [← text_up]; exact textUp_len l h l.length
end Go.Proofs.YtflkghdndffacaaDoor.Pure

namespace Go.Proofs.YtflkghdndffacaaDoor.Pure
open Go.RowKit Go.Proofs.YtflkghdndffacaaDoor.PD Go.Proofs.YtflkghdndffacaaDoor.H Go.Proofs.YtflkghdndffacaaDoorW.PrintWords Go.Proofs.YtflkghdndffacaaDoorW.PrintLast
def keyR (r : S25) : S25 := ⟨B (lowL r.f0.data.toList), B (foldL r.f1.data.toList)⟩
def keyL (l : List S25) : List S25 := l.map keyR
def foldOk (r : S25) : Bool := decide (foldL r.f1.data.toList ≠ [])
theorem keyL_append (p q : List S25) : keyL (p ++ q) = keyL p ++ keyL q := by simp [keyL]
theorem keyL_length (p : List S25) : (keyL p).length = p.length := by simp [keyL]
theorem keyL_modest {l : List S25} (h : Modest l) : Modest (keyL l) := by
  refine ⟨by rw [keyL_length]; exact h.1, fun r hr => ?_⟩
  obtain ⟨s, hs, rfl⟩ := List.mem_map.1 hr
  obtain ⟨h1, h2⟩ := h.2 s hs
  have := foldL_le s.f1.data.toList
  rw [Lib.size_eq] at h1 h2
  simp only [keyR, B_size, lowL_length]
  omega
theorem rd_mid (p : List S25) (r : S25) (q : List S25) {n : Nat} (h : p.length = n) : rd_T25 (p ++ r :: q) (n : Int) = r := by subst h; exact rd_pre p r q
theorem set_mid (p : List S25) (r x : S25) (q : List S25) {n : Nat} (h : p.length = n) : (p ++ r :: q).set ((n : Int)).toNat x = p ++ x :: q := by subst h; simp
theorem key_l0 (l : List S25) (hm : Modest l) : ∀ q p : List S25, l = p ++ q →
    Ev (fun k => dn_Key.l0 k (keyL p ++ q) (l.length : Int) (p.length : Int)) (if q.all foldOk = true then (B (text (keyL l)), true) else (B [], false)) := by
  intro q
  induction q with
  | nil =>
    intro p hp
    obtain rfl : l = p := by simpa using hp
    refine Ev.step (fun k => by rw [dn_Key.l0]) ?_
    refine Ev.neg (by omega) ?_
    rw [List.append_nil]
    refine Ev.fix (text_ev (keyL_modest hm)) ?_
    exact Ev.now _
  | cons r q ih =>
    intro p hp
    have hlen : p.length + 1 + q.length = l.length := by rw [hp]; simp; omega
    have hl := hm.1
    obtain ⟨h1, h2⟩ := hm.2 r (by rw [hp]; simp)
    rw [Lib.size_eq] at h1 h2
    have hkl := keyL_length p
    refine Ev.step (fun k => by rw [dn_Key.l0]) ?_
    refine Ev.pos (by omega) ?_
    refine Ev.pos (by omega) ?_
    refine Ev.pos (by simp [hkl]; omega) ?_
    rw [rd_mid _ _ _ hkl, wrap_succ (by omega)]
    refine Ev.fix (v := B (lowL r.f0.data.toList)) (by rw [← lowered_B (by omega), B_of]) ?_
    refine Ev.fix (v := B (foldL r.f1.data.toList)) (by rw [← fold_B (by omega), B_of]) ?_
    refine Ev.fix rfl ?_
    rw [set_mid _ _ _ _ hkl, rd_mid _ _ _ hkl, set_mid _ _ _ _ hkl]
    simp only [B_toList]
    by_cases hf : foldL r.f1.data.toList = []
    · have : foldOk r = false := by unfold foldOk; simp [hf]
      rw [List.all_cons, this]
      exact Ev.pos hf (Ev.now _)
    · have : foldOk r = true := by unfold foldOk; simp [hf]
      rw [List.all_cons, this, Bool.true_and]
      refine Ev.neg hf ?_
      have hi := ih (p ++ [r]) (by rw [hp]; simp)
      rw [keyL_append, show (p ++ [r]).length = p.length + 1 by simp, List.append_assoc] at hi
      exact hi
theorem may_modest {l : List S25} (h : mayB l = true) : Modest l := by
  obtain ⟨h1, h2⟩ := mayB_iff.1 h
  refine ⟨by omega, fun r hr => ?_⟩
  have hp := h1 r hr
  have ht := part_typed hp
  unfold partB at hp
  simp only [Bool.and_eq_true, decide_eq_true_eq] at hp
  unfold typedB at ht
  rw [Lib.size_eq, Lib.size_eq]
  split at ht
  · cases ht
  · next c q e =>
    simp only [Bool.and_eq_true, decide_eq_true_eq] at ht
    rw [e]
    simp only [List.length_cons]
    omega
theorem parseS_may : ∀ n (s : List UInt8) (acc : List S25) (more : Bool) (l : List S25), parseS n s acc more = (l, true) → mayB l = true := by
  intro n
  induction n with
  | zero =>
    intro s acc more l h
    cases more with
    | false =>
      rw [parseS_done] at h
      split at h
      · next hm => cases h; exact hm
      · cases h
    | true => rw [parseS_zero] at h; cases h
  | succ n ih =>
    intro s acc more l h
    cases more with
    | false =>
      rw [parseS_done] at h
      split at h
      · next hm => cases h; exact hm
      · cases h
    | true =>
      cases hc : cutS s with
      | none => rw [parseS_none _ _ _ hc] at h; cases h
      | some x =>
        obtain ⟨a, b⟩ := x
        rw [parseS_some _ _ _ _ _ hc] at h
        split at h
        · cases h
        · split at h
          · cases h
          · exact ih _ _ _ _ h
def keyS (s : List UInt8) : ByteArray × Bool := if (parseL s).2 = true then (if (parseL s).1.all foldOk = true then (B (text (keyL (parseL s).1)), true) else (B [], false)) else (B [], false)
theorem key_ev (s : List UInt8) (hs : s.length ≤ 100000000) : Ev (fun k => dn_Key.f k (B s)) (keyS s) := by
  unfold dn_Key.f keyS
  refine Ev.bind (parse_ev s hs) ?_
  by_cases h : (parseL s).2 = true
  · rw [if_pos h]
    refine Ev.pos h ?_
    have hm : mayB (parseL s).1 = true := parseS_may 8 s [] (s != []) _ (by rw [← h]; rfl)
    exact key_l0 _ (may_modest hm) _ [] rfl
  · rw [if_neg h]
    exact Ev.neg h (Ev.now _)
theorem keyS_text {l : List S25} (h : mayB l = true) (hf : l.all foldOk = true) : keyS (text l) = (B (text (keyL l)), true) := by
  unfold keyS
  rw [parseL_text l h, if_pos rfl, if_pos hf]
theorem keyR_keyR (r : S25) : keyR (keyR r) = keyR r := by
  simp only [keyR, B_data, lowL_lowL, foldL_foldL]
theorem keyL_keyL (l : List S25) : keyL (keyL l) = keyL l := by
  simp only [keyL, List.map_map]
  congr 1
  funext r
  exact keyR_keyR r
theorem foldOk_key (r : S25) : foldOk (keyR r) = foldOk r := by simp only [foldOk, keyR, B_data, foldL_foldL]
theorem low_types : ∀ t ∈ types5, typedB (lowL t) = true := by decide
theorem fold_v (w : List UInt8) : foldL (118 :: w) ≠ [] := by
  intro h
  have := foldL_filter (118 :: w)
  rw [h] at this
  have e : lowL (118 :: w) = 118 :: lowL w := rfl
  rw [e, List.filter_cons_of_pos (by decide)] at this
  simp at this
theorem made_fold {l : List S25} (h : Made l) : l.all foldOk = true := by
  rw [List.all_eq_true]
  intro r hr
  obtain ⟨t, w, _, _, rfl⟩ := h.2 r hr
  unfold foldOk
  rw [B_data]
  exact decide_eq_true (fold_v w)
theorem made_key {l : List S25} (h : Made l) : mayB (keyL l) = true := by
  refine mayB_iff.2 ⟨fun r hr => ?_, by rw [keyL_length]; have := h.1; omega⟩
  obtain ⟨s, hs, rfl⟩ := List.mem_map.1 hr
  obtain ⟨t, w, ht, hw, rfl⟩ := h.2 s hs
  unfold partB keyR
  have h1 := foldL_le (118 :: w)
  have h2 := fold_v w
  simp only [B_data, low_types t ht, Bool.true_and, Bool.and_eq_true, decide_eq_true_eq]
  exact ⟨h2, by simp at h1; omega⟩
theorem key_fold {l : List S25} (h : l.all foldOk = true) : (keyL l).all foldOk = true := by
  rw [List.all_eq_true] at h ⊢
  intro r hr
  obtain ⟨s, hs, rfl⟩ := List.mem_map.1 hr
  rw [foldOk_key]; exact h s hs
/-- The key of a made name's text; and of that. -/
theorem keyS_made {l : List S25} (h : Made l) : keyS (text l) = (B (text (keyL l)), true) := keyS_text (made_may h) (made_fold h)
theorem keyS_key {l : List S25} (h : Made l) : keyS (text (keyL l)) = (B (text (keyL l)), true) := by
  rw [keyS_text (made_key h) (key_fold (made_fold h)), keyL_keyL]
theorem text_small {l : List S25} (h : mayB l = true) : (text l).length ≤ 50000000 := by
  have h1 := text_len (may_modest h)
  have h2 := (mayB_iff.1 h).2
  omega
end Go.Proofs.YtflkghdndffacaaDoor.Pure

namespace Go.Proofs.YtflkghdndffacaaDoor.Pure
open Go.RowKit Go.Proofs.YtflkghdndffacaaDoor.PD Go.Proofs.YtflkghdndffacaaDoor.H Go.Proofs.YtflkghdndffacaaDoorW.PrintWords Go.Proofs.YtflkghdndffacaaDoorW.PrintLast
def upS : List UInt8 → List UInt8
  | [] => []
  | c :: r => if c = 92 then upS (r.drop 1) else if c = 44 then r else upS r
termination_by l => l.length
decreasing_by all_goals (simp; try omega)
theorem upS_len : ∀ n (l : List UInt8), l.length ≤ n → (upS l).length ≤ l.length - 1 := by
  intro n
  induction n with
  | zero => intro l h; rw [List.length_eq_zero_iff.1 (by omega : l.length = 0), upS]; simp
  | succ n ih =>
    intro l h
    cases l with
    | nil => rw [upS]; simp
    | cons c r =>
      simp only [List.length_cons] at h
      rw [upS]
      split
      · have := ih (r.drop 1) (by simp; omega)
        simp at this ⊢; omega
      · split
        · simp
        · have := ih r (by omega)
          simp; omega
theorem up_l0 (l : List UInt8) (hl : l.length ≤ 1000000000) : ∀ n (i : Nat), l.length + 1 - i ≤ n → i ≤ l.length + 1 → Ev (fun k => dn_Up.l0 k (B l) (i : Int)) (B (upS (l.drop i))) := by
  intro n
  induction n with
  | zero =>
    intro i hn hi
    refine Ev.step (fun k => by rw [dn_Up.l0]) ?_
    refine Ev.neg (by rw [B_size]; omega) ?_
    rw [List.drop_eq_nil_of_le (by omega), upS]
    exact Ev.now _
  | succ n ih =>
    intro i hn hi
    refine Ev.step (fun k => by rw [dn_Up.l0]) ?_
    by_cases h : i < l.length
    · obtain ⟨c, hc⟩ : ∃ c, l[i]? = some c := ⟨l[i], List.getElem?_eq_getElem h⟩
      have hd : l.drop i = c :: l.drop (i + 1) := by rw [List.drop_eq_getElem_cons h]; congr 1; exact Option.some.inj ((List.getElem?_eq_getElem h).symm.trans hc)
      have h44 : ((c.toNat : Int) = 44) ↔ c = 44 := u8_int_inj (n := 44) (by omega)
      have h92 : ((c.toNat : Int) = 92) ↔ c = 92 := u8_int_inj (n := 92) (by omega)
      refine Ev.pos (by rw [B_size]; omega) ?_
      refine Ev.pos (by omega) ?_
      rw [bt_at' hc, wrap_succ (by omega), wrap_succ (by omega), hd, upS]
      by_cases c92 : c = 92
      · rw [if_pos c92]
        refine Ev.pos (h92.2 c92) ?_
        have := ih (i + 1 + 1) (by omega) (by omega)
        rw [List.drop_drop]
        exact this
      · rw [if_neg c92]
        refine Ev.neg (fun e => c92 (h92.1 e)) ?_
        by_cases c44 : c = 44
        · rw [if_pos c44]
          refine Ev.pos (h44.2 c44) ?_
          refine Ev.pos (by omega) ?_
          refine Ev.pos (by rw [B_size]; omega) ?_
          have : (B l).extract (((i + 1 : Nat) : Int)).toNat (B l).size = B (l.drop (i + 1)) := by
            rw [B_extract, B_size, List.take_of_length_le (by simp)]
            congr 2
          rw [this]
          exact Ev.now _
        · rw [if_neg c44]
          refine Ev.neg (fun e => c44 (h44.1 e)) ?_
          exact ih (i + 1) (by omega) (by omega)
    · refine Ev.neg (by rw [B_size]; omega) ?_
      rw [List.drop_eq_nil_of_le (by omega), upS]
      exact Ev.now _
theorem up_ev (l : List UInt8) (hl : l.length ≤ 1000000000) : Ev (fun k => dn_Up.f k (B l)) (B (upS l)) := by
  exact up_l0 l hl (l.length + 1) 0 (by omega) (by omega)
def underS (x y : List UInt8) : Bool := if x = y then true else if _h : x = [] then false else underS (upS x) y
termination_by x.length
decreasing_by
  have := upS_len x.length x (Nat.le_refl _)
  have : 0 < x.length := List.length_pos_iff.2 _h
  omega
theorem under_l0 (y : List UInt8) : ∀ n (x : List UInt8), x.length ≤ n → n ≤ 1000000000 → Ev (fun k => dn_Under.l0 k (B x) (B y)) (underS x y) := by
  intro n
  induction n with
  | zero =>
    intro x hx _
    obtain rfl : x = [] := List.length_eq_zero_iff.1 (by omega)
    refine Ev.step (fun k => by rw [dn_Under.l0]) ?_
    simp only [B_toList]
    rw [underS]
    by_cases h : [] = y
    · rw [if_pos h]; exact Ev.pos h (Ev.now _)
    · rw [if_neg h]
      refine Ev.neg h ?_
      simp only [if_true]
      exact Ev.now _
  | succ n ih =>
    intro x hx hn
    refine Ev.step (fun k => by rw [dn_Under.l0]) ?_
    simp only [B_toList]
    rw [underS]
    by_cases h : x = y
    · rw [if_pos h]; exact Ev.pos h (Ev.now _)
    · rw [if_neg h]
      refine Ev.neg h ?_
      by_cases h2 : x = []
      · rw [dif_pos h2]; exact Ev.pos h2 (Ev.now _)
      · rw [dif_neg h2]
        refine Ev.neg h2 ?_
        refine Ev.bind (up_ev x (by omega)) ?_
        have := upS_len x.length x (Nat.le_refl _)
        exact ih (upS x) (by omega) (by omega)
theorem under_ev (x y : List UInt8) (hx : x.length ≤ 1000000000) : Ev (fun k => dn_Under.f k (B x) (B y)) (underS x y) := under_l0 y x.length x (Nat.le_refl _) hx
/-! ### Of a name's text -/
theorem upS_type : ∀ (t R : List UInt8), (∀ c ∈ t, typeC c = true) → upS (t ++ R) = upS R := by
  intro t
  induction t with
  | nil => intro R _; rfl
  | cons c t ih =>
    intro R h
    have hc := typeC_rng (h c (by simp))
    rw [List.cons_append, upS, if_neg hc.2.2.2.2.1, if_neg hc.2.2.2.1]
    exact ih R (fun d hd => h d (by simp [hd]))
theorem upS_escC (n k : Nat) (c : UInt8) (R : List UInt8) : upS (escC n k c ++ R) = upS R := by
  unfold escC
  split
  · have h2 := hexD_rng (n := c.toNat % 16) (by omega)
    have e : ([92, hexD (c.toNat / 16), hexD (c.toNat % 16)] : List UInt8) ++ R = 92 :: hexD (c.toNat / 16) :: hexD (c.toNat % 16) :: R := rfl
    rw [e, upS, if_pos rfl]
    show upS (hexD (c.toNat % 16) :: R) = upS R
    rw [upS, if_neg h2.2.2.2.1, if_neg h2.2.2.1]
  · split
    · have e : ([92, c] : List UInt8) ++ R = 92 :: c :: R := rfl
      rw [e, upS, if_pos rfl]
      rfl
    · next h2 =>
      have hs : specialB c = false := by
        cases e : specialB c with
        | false => rfl
        | true => exact absurd (.inl e) h2
      have h44 : c ≠ 44 := by rintro rfl; rw [special44] at hs; cases hs
      have h92 : c ≠ 92 := by rintro rfl; rw [special92] at hs; cases hs
      have e : ([c] : List UInt8) ++ R = c :: R := rfl
      rw [e, upS, if_neg h92, if_neg h44]
theorem upS_escL (n : Nat) : ∀ (v : List UInt8) (k : Nat) (R : List UInt8), upS (escL n k v ++ R) = upS R := by
  intro v
  induction v with
  | nil => intro k R; rfl
  | cons c v ih => intro k R; rw [escL, List.append_assoc, upS_escC, ih]
theorem upS_text (r : S25) (rs : List S25) (h : typedB r.f0.data.toList = true) : upS (textL false (r :: rs)) = textL false rs := by
  have e : textL false (r :: rs) = r.f0.data.toList ++ 61 :: (escL r.f1.data.toList.length 0 r.f1.data.toList ++ textL true rs) := by simp [textL, seg, esc]
  rw [e, upS_type _ _ (typed_all h), upS, if_neg (by decide), if_neg (by decide), upS_escL]
  cases rs with
  | nil => rw [textL, upS]; rfl
  | cons s rs =>
    have e2 : textL true (s :: rs) = 44 :: textL false (s :: rs) := by simp [textL]
    rw [e2, upS, if_neg (by decide), if_pos rfl]
theorem text_shorter (r : S25) (rs : List S25) : (text rs).length + 1 ≤ (text (r :: rs)).length := by
  have h : ∀ rs, (textL false rs).length ≤ (textL true rs).length := by
    intro rs
    cases rs with
    | nil => simp [textL]
    | cons s rs => simp [textL]
  have := h rs
  simp only [text]
  conv => rhs; rw [textL]
  simp only [seg, List.length_append, List.length_cons]
  omega
def typedAll (l : List S25) : Prop := ∀ r ∈ l, typedB r.f0.data.toList = true
theorem typedAll_drop {l : List S25} (h : typedAll l) (i : Nat) : typedAll (l.drop i) := fun r hr => h r (List.mem_of_mem_drop hr)
theorem may_typed {l : List S25} (h : mayB l = true) : typedAll l := fun r hr => part_typed ((mayB_iff.1 h).1 r hr)
theorem upS_drop {l : List S25} (h : typedAll l) {i : Nat} (hi : i < l.length) : upS (text (l.drop i)) = text (l.drop (i + 1)) := by
  rw [List.drop_eq_getElem_cons hi]
  exact upS_text _ _ (h _ (List.getElem_mem hi))
theorem text_drop_len (l : List S25) : ∀ i, i ≤ l.length → (text (l.drop i)).length + i ≤ (text l).length := by
  intro i
  induction i with
  | zero => intro _; simp
  | succ i ih =>
    intro hi
    have h1 := ih (by omega)
    rw [List.drop_eq_getElem_cons (by omega : i < l.length)] at h1
    have := text_shorter l[i] (l.drop (i + 1))
    omega
theorem underS_self (x : List UInt8) : underS x x = true := by rw [underS, if_pos rfl]
theorem underS_nil : ∀ n (x : List UInt8), x.length ≤ n → underS x [] = true := by
  intro n
  induction n with
  | zero => intro x h; obtain rfl : x = [] := List.length_eq_zero_iff.1 (by omega)
            exact underS_self _
  | succ n ih =>
    intro x h
    rw [underS]
    split
    · rfl
    · next hx =>
      have := upS_len x.length x (Nat.le_refl _)
      exact ih (upS x) (by omega)
theorem underS_short : ∀ n (x y : List UInt8), x.length ≤ n → x.length < y.length → underS x y = false := by
  intro n
  induction n with
  | zero =>
    intro x y h hy
    obtain rfl : x = [] := List.length_eq_zero_iff.1 (by omega)
    rw [underS, if_neg (by rintro rfl; simp at hy), dif_pos rfl]
  | succ n ih =>
    intro x y h hy
    rw [underS, if_neg (by rintro rfl; omega)]
    split
    · rfl
    · have := upS_len x.length x (Nat.le_refl _)
      exact ih (upS x) y (by omega) (by omega)
theorem underS_drop {l : List S25} (h : typedAll l) (i : Nat) (hi : i ≤ l.length) : ∀ d j, j + d = i → underS (text (l.drop j)) (text (l.drop i)) = true := by
  intro d
  induction d with
  | zero => intro j hj; obtain rfl : j = i := by omega
            exact underS_self _
  | succ d ih =>
    intro j hj
    rw [underS]
    split
    · rfl
    · next hne =>
      have hj' : j < l.length := by omega
      have hne2 : text (l.drop j) ≠ [] := by
        intro e
        have := text_shorter l[j] (l.drop (j + 1))
        rw [← List.drop_eq_getElem_cons hj', e] at this
        simp at this
      rw [dif_neg hne2, upS_drop h hj']
      exact ih (j + 1) (by omega)
end Go.Proofs.YtflkghdndffacaaDoor.Pure
