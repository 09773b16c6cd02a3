/- Words, functions' contracts and plain laws for the row of AclWho, part 4: cut out of this session's texts by a program of its own. No condition. -/
import Derived.Test.YtflkghdndffacaaDoorGWho3
namespace Go.Proofs.YtflkghdndffacaaDoor.Pure
open Go.RowKit Go.Proofs.YtflkghdndffacaaDoor.H Go.Proofs.YtflkghdndffacaaDoorW.PrintWords Go.Proofs.YtflkghdndffacaaDoorW.PrintLast
def B (l : List UInt8) : ByteArray := ⟨l.toArray⟩
theorem B_data (l : List UInt8) : (B l).data.toList = l := by simp [B]
theorem B_of (s : ByteArray) : B s.data.toList = s := by cases s; simp [B]
theorem B_size (l : List UInt8) : (B l).size = l.length := by rw [Lib.size_eq, B_data]
theorem B_toList (l : List UInt8) : (B l).toList = l := by rw [Lib.toList_data, B_data]
theorem B_append (l m : List UInt8) : B l ++ B m = B (l ++ m) := by
  apply ByteArray.ext
  simp [B]
theorem B_extract (l : List UInt8) (a b : Nat) : (B l).extract a b = B ((l.drop a).take (b - a)) := by rw [Lib.extract_eq, B_data]; rfl
theorem bt_at' {l : List UInt8} {j : Nat} {c : UInt8} (h : l[j]? = some c) : bt (B l) (j : Int) = (c.toNat : Int) := by
  obtain ⟨hj, hc⟩ := List.getElem?_eq_some_iff.1 h
  have hs : ((j : Int)).toNat < (B l).size := by rw [B_size]; simpa using hj
  unfold bt
  rw [dif_pos hs]
  have : ((B l)[((j : Int)).toNat]'hs) = c := by
    show (B l).data[j] = c
    simp only [B, List.getElem_toArray]
    exact hc
  rw [this]
theorem bt_pre (p : List UInt8) (c : UInt8) (r : List UInt8) : bt (B (p ++ c :: r)) (p.length : Int) = (c.toNat : Int) := bt_at' (by simp)
theorem cut_pre (p : List UInt8) (c : UInt8) (r : List UInt8) : (B (p ++ c :: r)).extract p.length (p.length + 1) = B [c] := by
  rw [B_extract]; simp
theorem u8_eq {c d : UInt8} : ((c.toNat : Int) = (d.toNat : Int)) ↔ c = d := by
  constructor
  · intro h; exact UInt8.toNat_inj.1 (by omega)
  · rintro rfl; rfl
theorem u8_int_inj {c : UInt8} {n : Nat} (hn : n < 256) : ((c.toNat : Int) = (n : Int)) ↔ c = UInt8.ofNat n := by
  constructor
  · intro h
    apply UInt8.toNat_inj.1
    simp only [UInt8.toNat_ofNat']
    omega
  · rintro rfl
    simp only [UInt8.toNat_ofNat']
    omega
theorem wrap64_small {n : Int} (h : -9223372036854775808 ≤ n ∧ n ≤ 9223372036854775807) : wrap64 n = n := by unfold wrap64; omega
theorem Ev.pos {α : Type} {c : Prop} [Decidable c] {g f : Nat → Option α} {r : α} (h : c) (k : Ev g r) : Ev (fun n => if c then g n else f n) r := by simpa [h] using k
theorem Ev.neg {α : Type} {c : Prop} [Decidable c] {g f : Nat → Option α} {r : α} (h : ¬ c) (k : Ev f r) : Ev (fun n => if c then g n else f n) r := by simpa [h] using k
theorem Ev.fix {α β : Type} {a : Option α} {v : α} {f : Nat → α → Option β} {r : β} (h : a = some v) (k : Ev (fun n => f n v) r) : Ev (fun n => a.bind (f n)) r := by subst h; simpa using k
theorem lowC_32 (c : UInt8) : lowC c = 32 ↔ c = 32 := by
  have h : ∀ c : UInt8, (lowC c = 32 ↔ c = 32) := by
    intro c
    have hc := lowC_toNat c
    constructor
    · intro e
      rw [e] at hc
      apply UInt8.toNat_inj.1
      simp at hc ⊢
      split at hc <;> omega
    · rintro rfl; rfl
  exact h c
theorem lowC_lowC (c : UInt8) : lowC (lowC c) = lowC c := by
  apply UInt8.toNat_inj.1
  have h1 := lowC_toNat c
  have h2 := lowC_toNat (lowC c)
  split at h1 <;> split at h2 <;> omega
theorem lowL_lowL (l : List UInt8) : lowL (lowL l) = lowL l := by
  unfold lowL; rw [List.map_map]; congr 1; funext c; exact lowC_lowC c
theorem lowL_length (l : List UInt8) : (lowL l).length = l.length := by simp [lowL]
theorem lowL_B (l : List UInt8) : lowS (B l) = B (lowL l) := by unfold lowS; rw [B_data]; rfl
theorem lower_B {l : List UInt8} (h : l.length ≤ 9223372036854775806) : brookref1_Lower.f (B l) = some (B (lowL l)) := by
  unfold brookref1_Lower.f; rw [if_pos (by rw [B_size]; exact h), lowL_B]
theorem lowered_B {l : List UInt8} (h : l.length ≤ 9223372036854775806) : dn_lowered.f (B l) = some (B (lowL l)) := by
  unfold dn_lowered.f; rw [if_pos (by rw [B_size]; exact h), lowL_B]
theorem dropB_map (l : List UInt8) : (lowL l).dropWhile (· == 32) = lowL (l.dropWhile (· == 32)) := by
  unfold lowL
  rw [List.dropWhile_map]
  congr 2
  funext c
  simp only [Function.comp]
  rw [Bool.eq_iff_iff]; simp only [beq_iff_eq]; exact lowC_32 c
theorem trimB_low (l : List UInt8) : Lib.trimB (lowL l) 32 = lowL (Lib.trimB l 32) := by
  unfold Lib.trimB Lib.trimLeftB Lib.trimRightB
  have : (lowL l).reverse = lowL l.reverse := by simp [lowL]
  rw [this, dropB_map]
  have : (lowL (l.reverse.dropWhile (· == 32))).reverse = lowL (l.reverse.dropWhile (· == 32)).reverse := by simp [lowL]
  rw [this, dropB_map]
theorem dropWhile_head {l : List UInt8} {p : UInt8 → Bool} {c : UInt8} (h : (l.dropWhile p).head? = some c) : p c = false := by
  induction l with
  | nil => simp at h
  | cons a l ih =>
    rw [List.dropWhile_cons] at h
    split at h
    · exact ih h
    · next hn => simp at h; subst h; simpa using hn
theorem trimB_head (l : List UInt8) : (Lib.trimB l 32).head? ≠ some 32 := by
  intro h
  have := dropWhile_head h
  simp at this
theorem dropWhile_last {l : List UInt8} {p : UInt8 → Bool} (h : l.getLast? ≠ some 32) : (l.dropWhile p).getLast? ≠ some 32 := by
  induction l with
  | nil => simp
  | cons a l ih =>
    rw [List.dropWhile_cons]
    split
    · cases l with
      | nil => simp
      | cons b l => exact ih (by simpa using h)
    · exact h
theorem drop_snoc_all {l : List UInt8} {m : List UInt8} (h : ∀ c ∈ l, c = 32) : (l ++ m).dropWhile (· == 32) = m.dropWhile (· == 32) := by
  induction l with
  | nil => simp
  | cons a l ih => rw [List.cons_append, List.dropWhile_cons_of_pos (by simpa using h a (by simp)), ih (fun c hc => h c (by simp [hc]))]
theorem drop_snoc_some {l : List UInt8} {m : List UInt8} (h : ∃ c ∈ l, c ≠ 32) : (l ++ m).dropWhile (· == 32) = l.dropWhile (· == 32) ++ m := by
  induction l with
  | nil => simp at h
  | cons a l ih =>
    by_cases ha : a = 32
    · rw [List.cons_append, List.dropWhile_cons_of_pos (by simpa using ha), List.dropWhile_cons_of_pos (by simpa using ha)]
      refine ih ?_
      obtain ⟨c, hc, hn⟩ := h
      rcases List.mem_cons.1 hc with rfl | hc
      · exact absurd ha hn
      · exact ⟨c, hc, hn⟩
    · rw [List.cons_append, List.dropWhile_cons_of_neg (by simpa using ha), List.dropWhile_cons_of_neg (by simpa using ha)]; rfl
theorem snocRec {α : Type} {p : List α → Prop} (nil : p []) (snoc : ∀ l c, p l → p (l ++ [c])) (l : List α) : p l := by
  have : ∀ n (l : List α), l.length = n → p l := by
    intro n
    induction n with
    | zero => intro l h; rw [List.length_eq_zero_iff.1 h]; exact nil
    | succ n ih =>
      intro l h
      have hn : l ≠ [] := by intro e; simp [e] at h
      rw [← List.dropLast_concat_getLast hn]
      exact snoc _ _ (ih _ (by simp [h]))
  exact this _ l rfl
def Sq (l : List UInt8) : Prop := ∀ i : Nat, ¬ (l[i]? = some 32 ∧ l[i + 1]? = some 32)
theorem sq_cons_last (l : List UInt8) (c : UInt8) : sq (l ++ [c]) = sqStep (sq l) c := by simp [sq]
theorem sq_last (l : List UInt8) : (sq l).getLast? = l.getLast? := by
  induction l using snocRec with
  | nil => rfl
  | snoc l c ih =>
    rw [sq_cons_last]
    unfold sqStep
    split
    · next h => rw [h.2, List.getLast?_append, h.1]; simp
    · simp [List.getLast?_append]
theorem sq_head (l : List UInt8) : (sq l).head? = l.head? := by
  induction l using snocRec with
  | nil => rfl
  | snoc l c ih =>
    rw [sq_cons_last]
    unfold sqStep
    split
    · next h => rw [ih]
                rw [sq_last] at h
                cases l with
                | nil => simp at h
                | cons a l => simp
    · cases l with
      | nil => simp [sq]
      | cons a l =>
        rw [List.head?_append, ih]; simp
def foldL (l : List UInt8) : List UInt8 := sq (lowL (Lib.trimB l 32))
theorem low_head {l : List UInt8} : (lowL l).head? = some 32 ↔ l.head? = some 32 := by
  cases l with
  | nil => simp [lowL]
  | cons a l => simp [lowL, lowC_32]
theorem sq_le (l : List UInt8) : (sq l).length ≤ l.length := by
  have := sq_length l l.length
  rwa [List.take_length] at this
theorem foldL_le (l : List UInt8) : (foldL l).length ≤ l.length := by
  unfold foldL
  refine Nat.le_trans (sq_le _) ?_
  rw [lowL_length]
  exact trimB_length l 32
theorem fold_B {l : List UInt8} (h : l.length ≤ 140737488355320) : dn_Fold.f (B l) = some (B (foldL l)) := by
  unfold dn_Fold.f
  rw [if_pos ⟨by rw [B_size]; exact h, by rw [B_data, Ne, low_head]; exact trimB_head l⟩, B_data]
  rfl
end Go.Proofs.YtflkghdndffacaaDoor.Pure
namespace Go.Proofs.YtflkghdndffacaaDoor.Pure
open Go.RowKit Go.Proofs.YtflkghdndffacaaDoor.PD Go.Proofs.YtflkghdndffacaaDoor.H Go.Proofs.YtflkghdndffacaaDoorW.PrintWords Go.Proofs.YtflkghdndffacaaDoorW.PrintLast
theorem u8_all {P : UInt8 → Prop} (h : ∀ n : Fin 256, P (UInt8.ofNat n.val)) (c : UInt8) : P c := by
  have := h ⟨c.toNat, UInt8.toNat_lt c⟩
  simpa using this
theorem rd_pre (p : List S25) (r : S25) (q : List S25) : rd_T25 (p ++ r :: q) (p.length : Int) = r := by simp [rd_T25]
theorem wrap_succ {n : Nat} (h : n < 9223372036854775807) : wrap64 ((n : Int) + 1) = ((n + 1 : Nat) : Int) := by rw [wrap64_small (by omega)]; omega
theorem letter_fin : ∀ n : Fin 256, brookref1_letter.f (((UInt8.ofNat n.val).toNat : Nat) : Int) = some (letterB (UInt8.ofNat n.val)) := by decide +kernel
theorem letter_c (c : UInt8) : brookref1_letter.f (c.toNat : Int) = some (letterB c) := u8_all (P := fun c => brookref1_letter.f (c.toNat : Int) = some (letterB c)) letter_fin c
theorem mt_l0 (l : List UInt8) (hl : l.length ≤ 30) : ∀ q p : List UInt8, l = p ++ q → Ev (fun k => brookref1_MayType.l0 k (B l) (p.length : Int)) (q.all typeC) := by
  intro q
  induction q with
  | nil =>
    intro p hp
    obtain rfl : l = p := by simpa using hp
    refine Ev.step (fun k => by rw [brookref1_MayType.l0]) ?_
    exact Ev.neg (by rw [B_size]; omega) (Ev.now _)
  | cons c q ih =>
    intro p hp
    have hlen : p.length + 1 + q.length = l.length := by rw [hp]; simp; omega
    have hi := ih (p ++ [c]) (by rw [hp]; simp)
    have hb : bt (B l) (p.length : Int) = (c.toNat : Int) := by rw [hp]; exact bt_pre p c q
    have hn : (p ++ [c]).length = p.length + 1 := by simp
    rw [hn] at hi
    refine Ev.step (fun k => by rw [brookref1_MayType.l0]) ?_
    refine Ev.pos (by rw [B_size]; omega) ?_
    refine Ev.pos (by omega) ?_
    rw [hb, wrap_succ (by omega)]
    refine Ev.fix (letter_c c) ?_
    have h45 : ((c.toNat : Int) = 45) ↔ c = 45 := u8_int_inj (n := 45) (by omega)
    by_cases ht : typeC c = true
    · have ha : (c :: q).all typeC = q.all typeC := by simp [ht]
      rw [ha]
      by_cases h1 : letterB c = true
      · exact Ev.pos h1 hi
      · refine Ev.neg h1 ?_
        by_cases h2 : c = 45
        · have h3 := h45.2 h2
          rw [h3]
          refine Ev.pos (by omega) ?_
          exact Ev.pos (by omega) hi
        · simp [typeC, h1, h2] at ht
          refine Ev.neg (by omega) ?_
          exact Ev.neg (by omega) hi
    · have ha : (c :: q).all typeC = false := by simp [ht]
      rw [ha]
      simp [typeC] at ht
      obtain ⟨⟨h1, h2⟩, h3⟩ := ht
      refine Ev.neg (by simp [h1]) ?_
      by_cases h4 : (c.toNat : Int) < 48
      · refine Ev.pos h4 ?_
        exact Ev.neg (fun e => h3 (h45.1 e)) (Ev.now _)
      · refine Ev.neg h4 ?_
        refine Ev.pos (by have := h2 (by omega); omega) ?_
        exact Ev.neg (fun e => h3 (h45.1 e)) (Ev.now _)
theorem mayType_ev (l : List UInt8) : Ev (fun k => brookref1_MayType.f k (B l)) (typedB l) := by
  unfold brookref1_MayType.f
  have jt : Ev (fun k => brookref1_MayType.j0 k (B l) true) false := Ev.step (fun k => by rw [brookref1_MayType.j0]) (Ev.pos rfl (Ev.now _))
  cases l with
  | nil => exact Ev.pos (by rw [B_toList]) jt
  | cons c q =>
    refine Ev.neg (by rw [B_toList]; simp) ?_
    by_cases h : q.length + 1 ≤ 30
    · refine Ev.neg (by rw [B_size]; simp; omega) ?_
      refine Ev.pos (by rw [B_size]; simp) ?_
      have hb : bt (B (c :: q)) 0 = (c.toNat : Int) := bt_pre [] c q
      rw [hb]
      refine Ev.fix (letter_c c) ?_
      refine Ev.step (fun k => by rw [brookref1_MayType.j0]) ?_
      by_cases h1 : letterB c = true
      · refine Ev.neg (by simp [h1]) ?_
        have := mt_l0 (c :: q) (by simpa using h) (c :: q) [] rfl
        have e : typedB (c :: q) = (c :: q).all typeC := by unfold typedB; simp [h, h1]
        rw [e]
        exact this
      · have e : typedB (c :: q) = false := by unfold typedB; simp [h1]
        rw [e]
        exact Ev.pos (by simp [h1]) (Ev.now _)
    · have e : typedB (c :: q) = false := by unfold typedB; simp [h]
      rw [e]
      exact Ev.pos (by rw [B_size]; simp; omega) jt
def partB (r : S25) : Bool := typedB r.f0.data.toList && (decide (r.f1.data.toList ≠ []) && decide (r.f1.data.toList.length ≤ 100))
def mayB (l : List S25) : Bool := l.all partB && decide (l.length ≤ 8)
theorem may_l0 (l : List S25) (hl : l.length ≤ 9000000000000000000) : ∀ q p : List S25, l = p ++ q → Ev (fun k => dn_May.l0 k l l (l.length : Int) (p.length : Int)) (q.all partB && decide (l.length ≤ 8)) := by
  intro q
  induction q with
  | nil =>
    intro p hp
    obtain rfl : l = p := by simpa using hp
    refine Ev.step (fun k => by rw [dn_May.l0]) ?_
    refine Ev.neg (by omega) ?_
    have : decide ((l.length : Int) ≤ 8) = ([].all partB && decide (l.length ≤ 8)) := by simp; omega
    rw [this]
    exact Ev.now _
  | cons r q ih =>
    intro p hp
    have hlen : p.length + 1 + q.length = l.length := by rw [hp]; simp; omega
    have hi := ih (p ++ [r]) (by rw [hp]; simp)
    have hb : rd_T25 l (p.length : Int) = r := by rw [hp]; exact rd_pre p r q
    have hn : (p ++ [r]).length = p.length + 1 := by simp
    rw [hn] at hi
    refine Ev.step (fun k => by rw [dn_May.l0]) ?_
    refine Ev.pos (by omega) ?_
    refine Ev.pos (by omega) ?_
    refine Ev.pos (by omega) ?_
    rw [hb, wrap_succ (by omega)]
    refine Ev.fix rfl ?_
    rw [List.all_cons, Bool.and_assoc]
    by_cases h1 : typedB r.f0.data.toList = true
    · refine Ev.pos h1 ?_
      by_cases h2 : r.f1.data.toList = []
      · have e : partB r = false := by unfold partB; simp only [h2]; simp
        rw [e]
        exact Ev.pos (by rw [Lib.toList_data]; exact h2) (Ev.now _)
      · refine Ev.neg (by rw [Lib.toList_data]; exact h2) ?_
        by_cases h3 : r.f1.data.toList.length ≤ 100
        · have e : partB r = true := by unfold partB; rw [h1, decide_eq_true h2, decide_eq_true h3]; rfl
          rw [e]
          refine Ev.neg (by rw [Lib.size_eq]; omega) ?_
          simpa using hi
        · have e : partB r = false := by unfold partB; rw [decide_eq_false h3]; simp
          rw [e]
          exact Ev.pos (by rw [Lib.size_eq]; omega) (Ev.now _)
    · have e : partB r = false := by unfold partB; simp [h1]
      rw [e]
      exact Ev.neg h1 (Ev.now _)
theorem may_ev (l : List S25) (hl : l.length ≤ 9000000000000000000) : Ev (fun k => dn_May.f k l) (mayB l) := may_l0 l hl l [] rfl
theorem mayDn_l0 (l : List S25) (hl : l.length ≤ 9000000000000000000) : ∀ q p : List S25, l = p ++ q → Ev (fun k => brookref1_MayDn.l0 k l (p.length : Int)) (q.all partB && decide (l.length ≤ 8)) := by
  intro q
  induction q with
  | nil =>
    intro p hp
    obtain rfl : l = p := by simpa using hp
    refine Ev.step (fun k => by rw [brookref1_MayDn.l0]) ?_
    refine Ev.neg (by omega) ?_
    have : decide ((l.length : Int) ≤ 8) = ([].all partB && decide (l.length ≤ 8)) := by simp; omega
    rw [this]
    exact Ev.now _
  | cons r q ih =>
    intro p hp
    have hlen : p.length + 1 + q.length = l.length := by rw [hp]; simp; omega
    have hi := ih (p ++ [r]) (by rw [hp]; simp)
    have hb : rd_T25 l (p.length : Int) = r := by rw [hp]; exact rd_pre p r q
    have hn : (p ++ [r]).length = p.length + 1 := by simp
    rw [hn] at hi
    refine Ev.step (fun k => by rw [brookref1_MayDn.l0]) ?_
    refine Ev.pos (by omega) ?_
    refine Ev.pos (by omega) ?_
    rw [hb, wrap_succ (by omega)]
    have ht := mayType_ev r.f0.data.toList
    rw [B_of] at ht
    refine Ev.bind ht ?_
    rw [List.all_cons, Bool.and_assoc]
    by_cases h1 : typedB r.f0.data.toList = true
    · refine Ev.pos h1 ?_
      by_cases h2 : r.f1.data.toList = []
      · have e : partB r = false := by unfold partB; simp only [h2]; simp
        rw [e]
        exact Ev.pos (by rw [Lib.toList_data]; exact h2) (Ev.now _)
      · refine Ev.neg (by rw [Lib.toList_data]; exact h2) ?_
        by_cases h3 : r.f1.data.toList.length ≤ 100
        · have e : partB r = true := by unfold partB; rw [h1, decide_eq_true h2, decide_eq_true h3]; rfl
          rw [e]
          refine Ev.neg (by rw [Lib.size_eq]; omega) ?_
          simpa using hi
        · have e : partB r = false := by unfold partB; rw [decide_eq_false h3]; simp
          rw [e]
          exact Ev.pos (by rw [Lib.size_eq]; omega) (Ev.now _)
    · have e : partB r = false := by unfold partB; simp [h1]
      rw [e]
      exact Ev.neg h1 (Ev.now _)
theorem mayDn_ev (l : List S25) (hl : l.length ≤ 9000000000000000000) : Ev (fun k => brookref1_MayDn.f k l) (mayB l) := mayDn_l0 l hl l [] rfl
theorem in_l0 (l : List UInt8) (hl : l.length ≤ 100) (c : UInt8) : ∀ q p : List UInt8, l = p ++ q → Ev (fun k => brookref1_in.l0 k (B l) (c.toNat : Int) (p.length : Int)) (decide (c ∈ q)) := by
  intro q
  induction q with
  | nil =>
    intro p hp
    obtain rfl : l = p := by simpa using hp
    refine Ev.step (fun k => by rw [brookref1_in.l0]) ?_
    exact Ev.neg (by rw [B_size]; omega) (Ev.now _)
  | cons d q ih =>
    intro p hp
    have hlen : p.length + 1 + q.length = l.length := by rw [hp]; simp; omega
    have hi := ih (p ++ [d]) (by rw [hp]; simp)
    have hb : bt (B l) (p.length : Int) = (d.toNat : Int) := by rw [hp]; exact bt_pre p d q
    have hn : (p ++ [d]).length = p.length + 1 := by simp
    rw [hn] at hi
    refine Ev.step (fun k => by rw [brookref1_in.l0]) ?_
    refine Ev.pos (by rw [B_size]; omega) ?_
    refine Ev.pos (by omega) ?_
    rw [hb, wrap_succ (by omega)]
    by_cases h : d = c
    · subst h
      refine Ev.pos rfl ?_
      have : decide (d ∈ d :: q) = true := by simp
      rw [this]
      exact Ev.now _
    · refine Ev.neg (fun e => h (u8_eq.1 e)) ?_
      have : decide (c ∈ d :: q) = decide (c ∈ q) := by simp [Ne.symm h]
      rw [this]
      exact hi
theorem special_fin : ∀ n : Fin 256, decide ((UInt8.ofNat n.val) ∈ ([44, 43, 34, 92, 60, 62, 59] : List UInt8)) = specialB (UInt8.ofNat n.val) := by decide +kernel
theorem in_ev (c : UInt8) : Ev (fun k => brookref1_in.f k (⟨#[44, 43, 34, 92, 60, 62, 59]⟩ : ByteArray) (c.toNat : Int)) (specialB c) := by
  have h := in_l0 [44, 43, 34, 92, 60, 62, 59] (by simp) c [44, 43, 34, 92, 60, 62, 59] [] rfl
  rw [u8_all (P := fun c => decide (c ∈ ([44, 43, 34, 92, 60, 62, 59] : List UInt8)) = specialB c) special_fin c] at h
  exact h
theorem two_c (c : UInt8) : brookref1_two.f (c.toNat : Int) = some (B [92, hexD (c.toNat / 16), hexD (c.toNat % 16)]) := by
  unfold brookref1_two.f
  have := UInt8.toNat_lt c
  rw [if_pos (by omega), show ((c.toNat : Int) / 16).toNat = c.toNat / 16 by omega, show ((c.toNat : Int) % 16).toNat = c.toNat % 16 by omega]
  rfl
theorem escC_le (n k : Nat) (c : UInt8) : (escC n k c).length ≤ 3 := by
  unfold escC; split
  · simp
  · split <;> simp
theorem escUp_len (v : List UInt8) (k : Nat) : (escUp v k).length ≤ 3 * k := by
  induction k with
  | zero => simp [escUp]
  | succ k ih =>
    simp only [escUp, List.length_append]
    split
    · have := escC_le v.length k ‹_›; omega
    · simp; omega
theorem esc_step (l p : List UInt8) (c : UInt8) (q : List UInt8) (hp : l = p ++ c :: q) (hl : l.length ≤ 1000000) (out : List UInt8) (ho : out.length ≤ 3000000) (r : ByteArray)
    (h : Ev (fun k => brookref1_escaped.l0 k (B l) (B (out ++ escC l.length p.length c)) ((p.length + 1 : Nat) : Int)) r) :
    Ev (fun k => brookref1_escaped.l0 k (B l) (B out) (p.length : Int)) r := by
  have hlen : p.length + 1 + q.length = l.length := by rw [hp]; simp; omega
  have hb : bt (B l) (p.length : Int) = (c.toNat : Int) := by rw [hp]; exact bt_pre p c q
  have hx : (B l).extract (p.length : Int).toNat (((p.length + 1 : Nat) : Int)).toNat = B [c] := by rw [hp]; exact cut_pre p c q
  have hw := wrap_succ (n := p.length) (by omega)
  have hw2 : wrap64 ((l.length : Int) - 1) = ((l.length - 1 : Nat) : Int) := by rw [wrap64_small (by omega)]; omega
  have hs : ((B l).size : Int) = (l.length : Int) := by rw [B_size]
  have s1 : ∀ d : UInt8, (B [d]).size = 1 := fun d => rfl
  have so : (B out).size = out.length := B_size out
  have e92 : (⟨#[92]⟩ : ByteArray) = B [92] := rfl
  have h35 : ((c.toNat : Int) = 35) ↔ c = 35 := u8_int_inj (n := 35) (by omega)
  have h32 : ((c.toNat : Int) = 32) ↔ c = 32 := u8_int_inj (n := 32) (by omega)
  refine Ev.step (fun k => by rw [brookref1_escaped.l0]) ?_
  refine Ev.pos (by rw [B_size]; omega) ?_
  refine Ev.pos (by omega) ?_
  rw [hb]
  by_cases hd : c.toNat < 32 ∨ 126 < c.toNat
  · have hz : escC l.length p.length c = [92, hexD (c.toNat / 16), hexD (c.toNat % 16)] := by unfold escC; rw [if_pos hd]
    rw [hz] at h
    have key : Ev (fun k => brookref1_escaped.j1 k (B l) (B out) (p.length : Int) (c.toNat : Int) true) r := by
      refine Ev.step (fun k => by rw [brookref1_escaped.j1]) ?_
      refine Ev.pos rfl ?_
      refine Ev.fix (two_c c) ?_
      refine Ev.pos (by rw [B_size, B_size]; simp; omega) ?_
      rw [B_append, hw]
      exact h
    by_cases h1 : (c.toNat : Int) < 32
    · exact Ev.pos h1 key
    · refine Ev.neg h1 ?_
      rw [show decide ((c.toNat : Int) > 126) = true by simp; omega]
      exact key
  · refine Ev.neg (by omega) ?_
    rw [show decide ((c.toNat : Int) > 126) = false by simp; omega]
    refine Ev.step (fun k => by rw [brookref1_escaped.j1]) ?_
    refine Ev.neg (by simp) ?_
    refine Ev.bind (in_ev c) ?_
    simp only [hw, hw2, hs, hx, e92, B_append]
    by_cases hz : specialB c = true ∨ (p.length = 0 ∧ (c = 35 ∨ c = 32)) ∨ (p.length + 1 = l.length ∧ c = 32)
    · have hz' : escC l.length p.length c = [92, c] := by unfold escC; rw [if_neg hd, if_pos hz]
      rw [hz'] at h
      have h' : Ev (fun k => brookref1_escaped.l0 k (B l) (B (out ++ [92] ++ [c])) ((p.length + 1 : Nat) : Int)) r := by simpa using h
      by_cases g1 : specialB c = true
      · refine Ev.pos g1 ?_
        repeat' first
          | exact h'
          | refine Ev.pos (by simp [B_size] <;> omega) ?_
      · have g1' : specialB c = false := by simpa using g1
        refine Ev.neg (by simp [g1']) ?_
        by_cases g2 : p.length = 0
        · refine Ev.pos (by omega) ?_
          by_cases g3 : c = 35
          · refine Ev.pos (h35.2 g3) ?_
            repeat' first
              | exact h'
              | refine Ev.pos (by simp [B_size] <;> omega) ?_
          · refine Ev.neg (fun e => g3 (h35.1 e)) ?_
            have g4 : c = 32 := by
              rcases hz with hz | hz | hz
              · exact absurd hz g1
              · exact hz.2.resolve_left g3
              · exact hz.2
            refine Ev.pos (h32.2 g4) ?_
            repeat' first
              | exact h'
              | refine Ev.pos (by simp [B_size] <;> omega) ?_
        · refine Ev.neg (by omega) ?_
          have g4 : p.length + 1 = l.length ∧ c = 32 := by
            rcases hz with hz | hz | hz
            · exact absurd hz g1
            · exact absurd hz.1 g2
            · exact hz
          refine Ev.pos (by omega) ?_
          refine Ev.pos (h32.2 g4.2) ?_
          repeat' first
            | exact h'
            | refine Ev.pos (by simp [B_size] <;> omega) ?_
    · have hz' : escC l.length p.length c = [c] := by unfold escC; rw [if_neg hd, if_neg hz]
      rw [hz'] at h
      have g1 : specialB c = false := by
        cases e : specialB c with
        | false => rfl
        | true => exact absurd (.inl e) hz
      refine Ev.neg (by simp [g1]) ?_
      by_cases g2 : p.length = 0
      · have g3 : c ≠ 35 := fun e => hz (.inr (.inl ⟨g2, .inl e⟩))
        have g4 : c ≠ 32 := fun e => hz (.inr (.inl ⟨g2, .inr e⟩))
        refine Ev.pos (by omega) ?_
        refine Ev.neg (fun e => g3 (h35.1 e)) ?_
        refine Ev.neg (fun e => g4 (h32.1 e)) ?_
        by_cases g5 : p.length + 1 = l.length
        · refine Ev.pos (by omega) ?_
          repeat' first
            | exact h
            | refine Ev.pos (by simp [B_size] <;> omega) ?_
        · refine Ev.neg (by omega) ?_
          repeat' first
            | exact h
            | refine Ev.pos (by simp [B_size] <;> omega) ?_
      · refine Ev.neg (by omega) ?_
        by_cases g5 : p.length + 1 = l.length
        · have g4 : c ≠ 32 := fun e => hz (.inr (.inr ⟨g5, e⟩))
          refine Ev.pos (by omega) ?_
          refine Ev.neg (fun e => g4 (h32.1 e)) ?_
          repeat' first
            | exact h
            | refine Ev.pos (by simp [B_size] <;> omega) ?_
        · refine Ev.neg (by omega) ?_
          repeat' first
            | exact h
            | refine Ev.pos (by simp [B_size] <;> omega) ?_
theorem esc_l0 (l : List UInt8) (hl : l.length ≤ 1000000) : ∀ q p : List UInt8, l = p ++ q → Ev (fun k => brookref1_escaped.l0 k (B l) (B (escUp l p.length)) (p.length : Int)) (B (escUp l l.length)) := by
  intro q
  induction q with
  | nil =>
    intro p hp
    obtain rfl : l = p := by simpa using hp
    refine Ev.step (fun k => by rw [brookref1_escaped.l0]) ?_
    exact Ev.neg (by rw [B_size]; omega) (Ev.now _)
  | cons c q ih =>
    intro p hp
    have hlen : p.length + 1 + q.length = l.length := by rw [hp]; simp; omega
    have hi := ih (p ++ [c]) (by rw [hp]; simp)
    have hn : (p ++ [c]).length = p.length + 1 := by simp
    rw [hn, escUp_succ (c := c) (by rw [hp]; simp)] at hi
    have := escUp_len l p.length
    exact esc_step l p c q hp hl _ (by omega) _ hi
theorem escaped_ev (l : List UInt8) (hl : l.length ≤ 1000000) : Ev (fun k => brookref1_escaped.f k (B l)) (B (escUp l l.length)) := esc_l0 l hl l [] rfl
def Modest (l : List S25) : Prop := l.length ≤ 1000 ∧ ∀ r ∈ l, r.f0.size ≤ 1000000 ∧ r.f1.size ≤ 1000000
theorem textUp_len (l : List S25) (h : Modest l) (k : Nat) : (textUp l k).length ≤ 4000002 * k := by
  induction k with
  | zero => simp [textUp]
  | succ k ih =>
    simp only [textUp, List.length_append]
    split
    · next r hr =>
      obtain ⟨h1, h2⟩ := h.2 r (List.mem_of_getElem? hr)
      have h3 := escUp_len r.f1.data.toList r.f1.data.toList.length
      rw [Lib.size_eq] at h1 h2
      simp only [List.length_append, List.length_cons, List.length_nil]
      have : (if 0 < k then ([44] : List UInt8) else []).length ≤ 1 := by split <;> simp
      omega
    · simp; omega
theorem text_l0 (l : List S25) (h : Modest l) : ∀ q p : List S25, l = p ++ q → Ev (fun k => brookref1_TextDn.l0 k l (B (textUp l p.length)) (p.length : Int)) (B (textUp l l.length)) := by
  intro q
  induction q with
  | nil =>
    intro p hp
    obtain rfl : l = p := by simpa using hp
    refine Ev.step (fun k => by rw [brookref1_TextDn.l0]) ?_
    exact Ev.neg (by omega) (Ev.now _)
  | cons r q ih =>
    intro p hp
    have hlen : p.length + 1 + q.length = l.length := by rw [hp]; simp; omega
    have hi := ih (p ++ [r]) (by rw [hp]; simp)
    have hn : (p ++ [r]).length = p.length + 1 := by simp
    have hr : l[p.length]? = some r := by rw [hp]; simp
    rw [hn, textUp_succ hr] at hi
    have hb : rd_T25 l (p.length : Int) = r := by rw [hp]; exact rd_pre p r q
    have ht := textUp_len l h p.length
    have hl := h.1
    obtain ⟨h1, h2⟩ := h.2 r (List.mem_of_getElem? hr)
    rw [Lib.size_eq] at h1 h2
    have he := escaped_ev r.f1.data.toList h2
    have h3 := escUp_len r.f1.data.toList r.f1.data.toList.length
    rw [B_of] at he
    have e44 : (⟨#[44]⟩ : ByteArray) = B [44] := rfl
    have e61 : (⟨#[61]⟩ : ByteArray) = B [61] := rfl
    have ef : r.f0 = B r.f0.data.toList := (B_of r.f0).symm
    refine Ev.step (fun k => by rw [brookref1_TextDn.l0]) ?_
    refine Ev.pos (by omega) ?_
    rw [hb, wrap_succ (by omega), e44, e61]
    have hmul : 4000002 * p.length ≤ 4000002 * 1000 := Nat.mul_le_mul_left _ (by omega)
    by_cases h0 : 0 < p.length
    · have hi' : Ev (fun k => brookref1_TextDn.l0 k l (B (textUp l p.length ++ [44] ++ r.f0.data.toList ++ [61] ++ escUp r.f1.data.toList r.f1.data.toList.length)) ((p.length + 1 : Nat) : Int)) (B (textUp l l.length)) := by
        simpa [h0] using hi
      refine Ev.pos (by omega) ?_
      refine Ev.pos (by rw [B_size]; omega) ?_
      refine Ev.pos (by omega) ?_
      rw [ef]
      simp only [B_append]
      refine Ev.pos (by simp only [B_size, List.length_append, List.length_cons, List.length_nil]; omega) ?_
      refine Ev.pos (by simp only [B_size, List.length_append, List.length_cons, List.length_nil]; omega) ?_
      refine Ev.bind he ?_
      refine Ev.pos (by simp only [B_size, List.length_append, List.length_cons, List.length_nil]; omega) ?_
      rw [B_append]
      exact hi'
    · have hi' : Ev (fun k => brookref1_TextDn.l0 k l (B (textUp l p.length ++ r.f0.data.toList ++ [61] ++ escUp r.f1.data.toList r.f1.data.toList.length)) ((p.length + 1 : Nat) : Int)) (B (textUp l l.length)) := by
        simpa [h0] using hi
      refine Ev.neg (by omega) ?_
      refine Ev.pos (by omega) ?_
      rw [ef]
      simp only [B_append]
      refine Ev.pos (by simp only [B_size]; omega) ?_
      refine Ev.pos (by simp only [B_size, List.length_append]; omega) ?_
      refine Ev.bind he ?_
      refine Ev.pos (by simp only [B_size, List.length_append, List.length_cons, List.length_nil]; omega) ?_
      rw [B_append]
      exact hi'
theorem textDn_ev (l : List S25) (h : Modest l) : Ev (fun k => brookref1_TextDn.f k l) (B (textUp l l.length)) := text_l0 l h l [] rfl
theorem text_B (l : List S25) (h : Modest l) : dn_Text.f l = some (B (textUp l l.length)) := by
  unfold dn_Text.f
  have h1 := textUp_len l h l.length
  have h2 := h.1
  have : 4000002 * l.length ≤ 4000002 * 1000 := Nat.mul_le_mul_left _ h2
  rw [if_pos (by omega)]
  rfl
end Go.Proofs.YtflkghdndffacaaDoor.Pure
namespace Go.Proofs.YtflkghdndffacaaDoor.Pure
open Go.RowKit Go.Proofs.YtflkghdndffacaaDoor.PD Go.Proofs.YtflkghdndffacaaDoor.H Go.Proofs.YtflkghdndffacaaDoorW.PrintWords Go.Proofs.YtflkghdndffacaaDoorW.PrintLast
def hexDigits : List UInt8 := [48, 49, 50, 51, 52, 53, 54, 55, 56, 57, 97, 98, 99, 100, 101, 102]
def digB (c : UInt8) : Int := Lib.indexByte hexDigits (lowC c)
theorem digit_fin : ∀ n : Fin 256, dn_digit.f (((UInt8.ofNat n.val).toNat : Nat) : Int) = some (digB (UInt8.ofNat n.val)) := by decide +kernel
theorem digit_c (c : UInt8) : dn_digit.f (c.toNat : Int) = some (digB c) := u8_all (P := fun c => dn_digit.f (c.toNat : Int) = some (digB c)) digit_fin c
theorem digB_fin : ∀ n : Fin 256, -1 ≤ digB (UInt8.ofNat n.val) ∧ digB (UInt8.ofNat n.val) ≤ 15 := by decide +kernel
theorem digB_rng (c : UInt8) : -1 ≤ digB c ∧ digB c ≤ 15 := u8_all (P := fun c => -1 ≤ digB c ∧ digB c ≤ 15) digB_fin c
theorem or16_fin : ∀ h l : Fin 16, (Go.bits .or .i64 (wrap64 ((h.val : Int) * 16)) (l.val : Int)) % 256 = ((h.val * 16 + l.val).toUInt8.toNat : Int) := by decide +kernel
theorem or16 {h l : Int} (h0 : 0 ≤ h) (h1 : h ≤ 15) (l0 : 0 ≤ l) (l1 : l ≤ 15) : (Go.bits .or .i64 (wrap64 (h * 16)) l) % 256 = (((h.toNat * 16 + l.toNat).toUInt8).toNat : Int) := by
  have := or16_fin ⟨h.toNat, by omega⟩ ⟨l.toNat, by omega⟩
  simpa only [Int.toNat_of_nonneg h0, Int.toNat_of_nonneg l0] using this
def oneB (c : UInt8) : Bool := specialB c || c == 61 || c == 35 || c == 32
def escAt : List UInt8 → Option (UInt8 × Nat)
  | [] => none
  | c :: r => if oneB c = true then some (c, 1) else match r with
    | [] => none
    | d :: _ => if 0 ≤ digB c ∧ 0 ≤ digB d then some (((digB c).toNat * 16 + (digB d).toNat).toUInt8, 2) else none
theorem escAt_one {c : UInt8} {r : List UInt8} (h : oneB c = true) : escAt (c :: r) = some (c, 1) := by simp only [escAt, if_pos h]
theorem escAt_lone {c : UInt8} (h : ¬ oneB c = true) : escAt [c] = none := by simp only [escAt, if_neg h]
theorem escAt_two {c d : UInt8} {r : List UInt8} (h : ¬ oneB c = true) (h1 : 0 ≤ digB c ∧ 0 ≤ digB d) : escAt (c :: d :: r) = some (((digB c).toNat * 16 + (digB d).toNat).toUInt8, 2) := by simp only [escAt, if_neg h, if_pos h1]
theorem escAt_not {c d : UInt8} {r : List UInt8} (h : ¬ oneB c = true) (h1 : ¬ (0 ≤ digB c ∧ 0 ≤ digB d)) : escAt (c :: d :: r) = none := by simp only [escAt, if_neg h, if_neg h1]
def escRes : Option (UInt8 × Nat) → Int × Int
  | none => (0, 0)
  | some (c, n) => ((c.toNat : Int), (n : Int))
theorem special_c (c : UInt8) : dn_special.f (c.toNat : Int) = some (specialB c) := by
  unfold dn_special.f strings_IndexByte.f
  simp only [Option.bind_some, Int.toNat_natCast]
  unfold specialB
  have : (c.toNat).toUInt8 = c := by simp
  rw [this]
theorem bt_0 (c : UInt8) (r : List UInt8) : bt (B (c :: r)) 0 = (c.toNat : Int) := bt_pre [] c r
theorem bt_1 (c d : UInt8) (r : List UInt8) : bt (B (c :: d :: r)) 1 = (d.toNat : Int) := bt_pre [c] d r
theorem escaped_dn (l : List UInt8) : Ev (fun k => dn_escaped.f k (B l)) (escRes (escAt l)) := by
  unfold dn_escaped.f
  cases l with
  | nil => exact Ev.pos (by rw [B_toList]) (Ev.now _)
  | cons c r =>
    refine Ev.neg (by rw [B_toList]; simp) ?_
    refine Ev.pos (by rw [B_size]; simp) ?_
    rw [bt_0]
    refine Ev.fix (special_c c) ?_
    have h61 : ((c.toNat : Int) = 61) ↔ c = 61 := u8_int_inj (n := 61) (by omega)
    have h35 : ((c.toNat : Int) = 35) ↔ c = 35 := u8_int_inj (n := 35) (by omega)
    have h32 : ((c.toNat : Int) = 32) ↔ c = 32 := u8_int_inj (n := 32) (by omega)
    have jt : oneB c = true → Ev (fun k => dn_escaped.j0 k (B (c :: r)) true) (escRes (escAt (c :: r))) := fun ho => by
      have e : escAt (c :: r) = some (c, 1) := escAt_one ho
      rw [e]
      refine Ev.step (fun k => by rw [dn_escaped.j0]) ?_
      refine Ev.pos rfl ?_
      refine Ev.pos (by rw [B_size]; simp) ?_
      rw [bt_0]
      exact Ev.now _
    by_cases h1 : specialB c = true
    · exact Ev.pos h1 (jt (by unfold oneB; simp [h1]))
    · refine Ev.neg h1 ?_
      by_cases h2 : c = 61
      · exact Ev.pos (h61.2 h2) (jt (by unfold oneB; simp [h2]))
      · refine Ev.neg (fun e => h2 (h61.1 e)) ?_
        by_cases h3 : c = 35
        · exact Ev.pos (h35.2 h3) (jt (by unfold oneB; simp [h3]))
        · refine Ev.neg (fun e => h3 (h35.1 e)) ?_
          by_cases h4 : c = 32
          · rw [show ((c.toNat : Int) == 32) = true by rw [beq_iff_eq]; exact h32.2 h4]
            exact jt (by unfold oneB; simp [h4])
          · rw [show ((c.toNat : Int) == 32) = false by rw [beq_eq_false_iff_ne]; exact fun e => h4 (h32.1 e)]
            have ho : ¬ oneB c = true := by unfold oneB; simp [h1, h2, h3, h4]
            refine Ev.step (fun k => by rw [dn_escaped.j0]) ?_
            refine Ev.neg (by simp) ?_
            have jf : Ev (fun k => dn_escaped.j1 k (B (c :: r)) false) (0, 0) := Ev.step (fun k => by rw [dn_escaped.j1]) (Ev.neg (by simp) (Ev.now _))
            cases r with
            | nil =>
              have e : escAt [c] = none := escAt_lone ho
              rw [e]
              refine Ev.neg (by rw [B_size]; simp) ?_
              exact jf
            | cons d r =>
              refine Ev.pos (by rw [B_size]; simp; omega) ?_
              refine Ev.pos (by rw [B_size]; simp; omega) ?_
              rw [bt_0]
              refine Ev.fix (digit_c c) ?_
              by_cases h5 : 0 ≤ digB c
              · refine Ev.pos h5 ?_
                refine Ev.pos (by rw [B_size]; simp; omega) ?_
                rw [bt_1]
                refine Ev.fix (digit_c d) ?_
                by_cases h6 : 0 ≤ digB d
                · have e : escAt (c :: d :: r) = some (((digB c).toNat * 16 + (digB d).toNat).toUInt8, 2) := escAt_two ho ⟨h5, h6⟩
                  rw [e]
                  refine Ev.step (fun k => by rw [dn_escaped.j1]) ?_
                  refine Ev.pos (by simpa using h6) ?_
                  refine Ev.pos (by rw [B_size]; simp; omega) ?_
                  rw [bt_0]
                  refine Ev.fix (digit_c c) ?_
                  refine Ev.pos (by rw [B_size]; simp; omega) ?_
                  rw [bt_1]
                  refine Ev.fix (digit_c d) ?_
                  rw [or16 h5 (digB_rng c).2 h6 (digB_rng d).2]
                  exact Ev.now _
                · have e : escAt (c :: d :: r) = none := escAt_not ho (fun h => h6 h.2)
                  rw [e, show decide (digB d ≥ 0) = false by simpa using h6]
                  exact jf
              · have e : escAt (c :: d :: r) = none := escAt_not ho (fun h => h5 h.1)
                rw [e]
                exact Ev.neg h5 jf
def badC (first : Bool) (c : UInt8) : Bool := decide (c.toNat < 32) || decide (126 < c.toNat) || specialB c || (first && (c == 35 || c == 32))
def valS (first : Bool) (acc : List UInt8) (sp : Bool) : List UInt8 → List UInt8 × List UInt8 × Bool
  | [] => (acc, [], !sp)
  | c :: r => if c = 44 then (acc, c :: r, !sp)
    else if c = 92 then match escAt r with
      | none => ([], [], false)
      | some (b, n) => valS false (acc ++ [b]) false (r.drop n)
    else if badC first c = true then ([], [], false) else valS false (acc ++ [c]) (c == 32) r
termination_by l => l.length
decreasing_by all_goals (simp; try omega)
def res3 (x : List UInt8 × List UInt8 × Bool) : ByteArray × ByteArray × Bool := (B x.1, B x.2.1, x.2.2)
theorem escAt_pos {l : List UInt8} {c : UInt8} {n : Nat} (h : escAt l = some (c, n)) : 1 ≤ n ∧ n ≤ l.length := by
  unfold escAt at h
  split at h
  · cases h
  · split at h
    · cases h; simp
    · split at h
      · cases h
      · split at h
        · cases h; simp
        · cases h
theorem bi_snoc (l : List UInt8) (c : UInt8) : bi l ++ [(c.toNat : Int)] = bi (l ++ [c]) := by simp [bi]
theorem value_l0 (l : List UInt8) (hl : l.length ≤ 100000000) : ∀ n (q p acc : List UInt8) (sp : Bool), q.length ≤ n → l = p ++ q → acc.length ≤ p.length →
    Ev (fun k => dn_value.l0 k (B l) (bi acc) sp (p.length : Int)) (res3 (valS p.isEmpty acc sp q)) := by
  intro n
  induction n with
  | zero =>
    intro q p acc sp hq hp ha
    obtain rfl : q = [] := List.length_eq_zero_iff.1 (by omega)
    obtain rfl : l = p := by simpa using hp
    refine Ev.step (fun k => by rw [dn_value.l0]) ?_
    refine Ev.neg (by rw [B_size]; omega) ?_
    refine Ev.step (fun k => by rw [dn_value.j1]) ?_
    refine Ev.neg (by simp) ?_
    refine Ev.pos (by omega) ?_
    refine Ev.pos (by rw [B_size]; omega) ?_
    rw [valS, str_bi, B_extract]
    simpa [B_size, res3, B] using Ev.now _
  | succ n ih =>
    intro q p acc sp hq hp ha
    cases q with
    | nil => exact (by
        obtain rfl : l = p := by simpa using hp
        refine Ev.step (fun k => by rw [dn_value.l0]) ?_
        refine Ev.neg (by rw [B_size]; omega) ?_
        refine Ev.step (fun k => by rw [dn_value.j1]) ?_
        refine Ev.neg (by simp) ?_
        refine Ev.pos (by omega) ?_
        refine Ev.pos (by rw [B_size]; omega) ?_
        rw [valS, str_bi, B_extract]
        simpa [B_size, res3, B] using Ev.now _)
    | cons c q =>
      have hlen : p.length + 1 + q.length = l.length := by rw [hp]; simp; omega
      have hb : bt (B l) (p.length : Int) = (c.toNat : Int) := by rw [hp]; exact bt_pre p c q
      have h44 : ((c.toNat : Int) = 44) ↔ c = 44 := u8_int_inj (n := 44) (by omega)
      have h92 : ((c.toNat : Int) = 92) ↔ c = 92 := u8_int_inj (n := 92) (by omega)
      have h35 : ((c.toNat : Int) = 35) ↔ c = 35 := u8_int_inj (n := 35) (by omega)
      have h32 : ((c.toNat : Int) = 32) ↔ c = 32 := u8_int_inj (n := 32) (by omega)
      have hbl : (bi acc).length ≤ p.length := by rw [bi_length]; exact ha
      refine Ev.step (fun k => by rw [dn_value.l0]) ?_
      refine Ev.pos (by rw [B_size]; omega) ?_
      refine Ev.pos (by omega) ?_
      rw [hb]
      refine Ev.step (fun k => by rw [dn_value.j1]) ?_
      by_cases c44 : c = 44
      · rw [show ((c.toNat : Int) != 44) = false by rw [bne_eq_false_iff_eq]; exact h44.2 c44]
        refine Ev.neg (by simp) ?_
        refine Ev.pos (by omega) ?_
        refine Ev.pos (by rw [B_size]; omega) ?_
        rw [valS, if_pos c44, str_bi, B_extract, B_size]
        have : (l.drop (p.length : Int).toNat).take (l.length - (p.length : Int).toNat) = c :: q := by
          rw [List.take_of_length_le (by simp), hp]; simp
        rw [this]
        exact Ev.now _
      · rw [show ((c.toNat : Int) != 44) = true by rw [bne_iff_ne]; exact fun e => c44 (h44.1 e)]
        refine Ev.pos rfl ?_
        refine Ev.pos (by omega) ?_
        refine Ev.pos (by rw [B_size]; omega) ?_
        rw [hb, valS, if_neg c44, wrap_succ (by omega)]
        by_cases c92 : c = 92
        · rw [if_pos c92]
          refine Ev.pos (h92.2 c92) ?_
          refine Ev.pos (by omega) ?_
          refine Ev.pos (by rw [B_size]; omega) ?_
          have hx : (B l).extract (((p.length + 1 : Nat) : Int)).toNat (B l).size = B q := by
            rw [B_extract, B_size]
            have : (l.drop (((p.length + 1 : Nat) : Int)).toNat).take (l.length - (((p.length + 1 : Nat) : Int)).toNat) = q := by
              rw [List.take_of_length_le (by simp), hp]
              simp
            rw [this]
          rw [hx]
          refine Ev.bind (escaped_dn q) ?_
          cases he : escAt q with
          | none => exact Ev.pos rfl (Ev.now _)
          | some y =>
            obtain ⟨b, m⟩ := y
            obtain ⟨hm1, hm2⟩ := escAt_pos he
            refine Ev.neg (by simp only [escRes]; omega) ?_
            refine Ev.pos (by omega) ?_
            simp only [escRes]
            rw [bi_snoc, show ((c.toNat : Int) == 32) = false by rw [beq_eq_false_iff_ne, h92.2 c92]; omega]
            have hw : wrap64 (wrap64 ((p.length : Int) + (m : Int)) + 1) = ((p ++ c :: q.take m).length : Int) := by
              rw [wrap64_small (n := (p.length : Int) + (m : Int)) (by omega), wrap64_small (by omega)]; simp; omega
            rw [hw]
            have := ih (q.drop m) (p ++ c :: q.take m) (acc ++ [b]) false (by simp at hq ⊢; omega) (by rw [hp]; simp) (by simp; omega)
            rw [show (p ++ c :: q.take m).isEmpty = false by simp] at this
            exact this
        · rw [if_neg c92]
          refine Ev.neg (fun e => c92 (h92.1 e)) ?_
          have hgo : badC p.isEmpty c = false → Ev (fun k => dn_value.l0 k (B l) (bi acc ++ [(c.toNat : Int)]) ((c.toNat : Int) == 32) ((p.length + 1 : Nat) : Int)) (res3 (if badC p.isEmpty c = true then ([], [], false) else valS false (acc ++ [c]) (c == 32) q)) := fun hbad => by
            rw [if_neg (by simp [hbad]), bi_snoc]
            have := ih q (p ++ [c]) (acc ++ [c]) (c == 32) (by simp at hq; omega) (by rw [hp]; simp) (by simp; omega)
            rw [show (p ++ [c]).isEmpty = false by simp, show (p ++ [c]).length = p.length + 1 by simp] at this
            rw [show ((c.toNat : Int) == 32) = (c == 32) by rw [Bool.eq_iff_iff, beq_iff_eq, beq_iff_eq]; exact h32]
            exact this
          have hno : badC p.isEmpty c = true → Ev (fun _ => some ((⟨#[]⟩ : ByteArray), (⟨#[]⟩ : ByteArray), false)) (res3 (if badC p.isEmpty c = true then ([], [], false) else valS false (acc ++ [c]) (c == 32) q)) := fun hbad => by
            rw [if_pos hbad]; exact Ev.now _
          by_cases b1 : c.toNat < 32
          · exact Ev.pos (by omega) (hno (by unfold badC; simp [b1]))
          · refine Ev.neg (by omega) ?_
            by_cases b2 : 126 < c.toNat
            · exact Ev.pos (by omega) (hno (by unfold badC; simp [b2]))
            · refine Ev.neg (by omega) ?_
              refine Ev.fix (special_c c) ?_
              by_cases b3 : specialB c = true
              · exact Ev.pos b3 (hno (by unfold badC; simp [b3]))
              · refine Ev.neg b3 ?_
                by_cases b4 : p = []
                · subst b4
                  refine Ev.pos (by simp) ?_
                  by_cases b5 : c = 35
                  · exact Ev.pos (h35.2 b5) (hno (by unfold badC; simp [b5]))
                  · refine Ev.neg (fun e => b5 (h35.1 e)) ?_
                    by_cases b6 : c = 32
                    · exact Ev.pos (h32.2 b6) (hno (by unfold badC; simp [b6]))
                    · refine Ev.neg (fun e => b6 (h32.1 e)) ?_
                      exact Ev.pos (by omega) (hgo (by unfold badC; simp [b1, b2, b3, b5, b6]))
                · have : 0 < p.length := List.length_pos_iff.2 b4
                  refine Ev.neg (by omega) ?_
                  exact Ev.pos (by omega) (hgo (by unfold badC; simp [b1, b2, b3, b4]))
theorem value_ev (l : List UInt8) (hl : l.length ≤ 100000000) : Ev (fun k => dn_value.f k (B l)) (res3 (valS true [] false l)) :=
  value_l0 l hl l.length l [] [] false (Nat.le_refl _) rfl (by simp)
def cutS : List UInt8 → Option (List UInt8 × List UInt8)
  | [] => none
  | c :: r => if c = 61 then some ([], r) else (cutS r).map fun x => (c :: x.1, x.2)
theorem cutS_index (l : List UInt8) : (cutS l = none ∧ Lib.indexByte l 61 = -1) ∨ ∃ a b, cutS l = some (a, b) ∧ Lib.indexByte l 61 = (a.length : Int) ∧ l = a ++ 61 :: b := by
  induction l with
  | nil => exact .inl ⟨rfl, rfl⟩
  | cons c r ih =>
    by_cases h : c = 61
    · subst h
      exact .inr ⟨[], r, by simp [cutS], by simp [Lib.indexByte], rfl⟩
    · have hb : (c == 61) = false := by simpa using h
      rcases ih with ⟨h1, h2⟩ | ⟨a, b, h1, h2, h3⟩
      · exact .inl ⟨by simp [cutS, h, h1], by simp [Lib.indexByte, hb, h2]⟩
      · refine .inr ⟨c :: a, b, by simp [cutS, h, h1], ?_, by rw [h3]; rfl⟩
        simp only [Lib.indexByte, hb, h2]
        simp
theorem cut_ev (l : List UInt8) (hl : l.length ≤ 100000000) : strings_Cut.f (B l) (⟨#[61]⟩ : ByteArray) = some (match cutS l with | none => (B l, B [], false) | some (a, b) => (B a, B b, true)) := by
  unfold strings_Cut.f stringslite_Cut.f stringslite_Index.f
  simp only [B_data, Option.bind_some]
  rcases cutS_index l with ⟨h1, h2⟩ | ⟨a, b, h1, h2, h3⟩
  · rw [h1, h2]
    simp [B]
  · rw [h1, h2]
    have hlen : a.length + 1 + b.length = l.length := by rw [h3]; simp; omega
    have hs : ((⟨#[61]⟩ : ByteArray).size : Int) = 1 := rfl
    have hw := wrap_succ (n := a.length) (by omega)
    rw [if_pos (by omega), if_pos (by omega), if_pos (by rw [B_size]; omega), hs, hw, if_pos (by omega), if_pos (by rw [B_size]; omega)]
    simp only [Option.bind_some, B_extract, B_size]
    have e1 : (l.drop 0).take ((a.length : Int).toNat - 0) = a := by rw [h3]; simp
    have e2 : (l.drop (((a.length + 1 : Nat) : Int)).toNat).take (l.length - (((a.length + 1 : Nat) : Int)).toNat) = b := by
      rw [List.take_of_length_le (by simp), h3]
      simp
    rw [e1, e2]
def parseS : Nat → List UInt8 → List S25 → Bool → List S25 × Bool
  | n, s, acc, more =>
    if more = false then (if mayB acc = true then (acc, true) else ([], false)) else
    match n with
    | 0 => ([], false)
    | n + 1 => match cutS s with
      | none => ([], false)
      | some (a, b) => if typedB a = false then ([], false) else
        if (valS true [] false b).2.2 = false then ([], false) else
        parseS n ((valS true [] false b).2.1.drop 1) (acc ++ [⟨B a, B (valS true [] false b).1⟩]) ((valS true [] false b).2.1 != [])
theorem parseS_done (n : Nat) (s : List UInt8) (acc : List S25) : parseS n s acc false = if mayB acc = true then (acc, true) else ([], false) := by
  unfold parseS; simp
theorem parseS_zero (s : List UInt8) (acc : List S25) : parseS 0 s acc true = ([], false) := by
  unfold parseS; simp
theorem parseS_none (n : Nat) (s : List UInt8) (acc : List S25) (h : cutS s = none) : parseS (n + 1) s acc true = ([], false) := by
  conv => lhs; unfold parseS
  simp [h]
theorem parseS_some (n : Nat) (s a b : List UInt8) (acc : List S25) (h : cutS s = some (a, b)) : parseS (n + 1) s acc true = if typedB a = false then ([], false) else
        if (valS true [] false b).2.2 = false then ([], false) else
        parseS n ((valS true [] false b).2.1.drop 1) (acc ++ [⟨B a, B (valS true [] false b).1⟩]) ((valS true [] false b).2.1 != []) := by
  conv => lhs; unfold parseS
  simp [h]
theorem valS_len : ∀ n (q : List UInt8), q.length ≤ n → ∀ (first : Bool) (acc : List UInt8) (sp : Bool), (valS first acc sp q).2.1.length ≤ q.length := by
  intro n
  induction n with
  | zero =>
    intro q hq first acc sp
    obtain rfl : q = [] := List.length_eq_zero_iff.1 (by omega)
    rw [valS]; simp
  | succ n ih =>
    intro q hq first acc sp
    cases q with
    | nil => rw [valS]; simp
    | cons c r =>
      rw [valS]
      split
      · simp
      · split
        · split
          · simp
          · next b m he =>
            have := ih (r.drop m) (by simp at hq ⊢; omega) false (acc ++ [b]) false
            simp at this ⊢
            omega
        · split
          · simp
          · have := ih r (by simp at hq; omega) false (acc ++ [c]) (c == 32)
            simp at this ⊢
            omega
theorem parse_l0 : ∀ n (s : List UInt8) (acc : List S25) (more : Bool), s.length ≤ 100000000 → acc.length + n = 8 →
    Ev (fun k => dn_Parse.l0 k (B s) acc more) (parseS n s acc more) := by
  intro n
  induction n with
  | zero =>
    intro s acc more hs hn
    refine Ev.step (fun k => by rw [dn_Parse.l0]) ?_
    cases more with
    | false =>
      refine Ev.neg (by simp) ?_
      refine Ev.bind (may_ev acc (by omega)) ?_
      rw [parseS_done]
      by_cases hm : mayB acc = true
      · simp only [if_pos hm]; exact Ev.now _
      · simp only [if_neg hm]; exact Ev.now _
    | true =>
      refine Ev.pos rfl ?_
      refine Ev.fix (cut_ev s (by omega)) ?_
      rw [parseS_zero]
      have jt : ∀ x y, Ev (fun k => dn_Parse.j1 k acc x y true) ([], false) := fun x y => Ev.step (fun k => by rw [dn_Parse.j1]) (Ev.pos rfl (Ev.now _))
      cases cutS s with
      | none => exact Ev.neg (by simp) (jt _ _)
      | some x =>
        obtain ⟨a, b⟩ := x
        refine Ev.pos rfl ?_
        refine Ev.fix (v := typedB a) (by unfold dn_typed.f; rw [B_data]) ?_
        by_cases ht : typedB a = true
        · refine Ev.pos ht ?_
          rw [show ((acc.length : Int) == 8) = true by rw [beq_iff_eq]; omega]
          exact jt _ _
        · exact Ev.neg ht (jt _ _)
  | succ n ih =>
    intro s acc more hs hn
    refine Ev.step (fun k => by rw [dn_Parse.l0]) ?_
    cases more with
    | false =>
      refine Ev.neg (by simp) ?_
      refine Ev.bind (may_ev acc (by omega)) ?_
      rw [parseS_done]
      by_cases hm : mayB acc = true
      · simp only [if_pos hm]; exact Ev.now _
      · simp only [if_neg hm]; exact Ev.now _
    | true =>
      refine Ev.pos rfl ?_
      refine Ev.fix (cut_ev s (by omega)) ?_
      have jt : ∀ x y, Ev (fun k => dn_Parse.j1 k acc x y true) ([], false) := fun x y => Ev.step (fun k => by rw [dn_Parse.j1]) (Ev.pos rfl (Ev.now _))
      cases hc : cutS s with
      | none =>
        rw [parseS_none _ _ _ hc]
        exact Ev.neg (by simp) (jt _ _)
      | some x =>
        obtain ⟨a, b⟩ := x
        rw [parseS_some _ _ _ _ _ hc]
        refine Ev.pos rfl ?_
        refine Ev.fix (v := typedB a) (by unfold dn_typed.f; rw [B_data]) ?_
        have hbl : b.length ≤ s.length := by
          rcases cutS_index s with ⟨h1, _⟩ | ⟨a', b', h1, _, h3⟩
          · rw [h1] at hc; cases hc
          · rw [h1] at hc; cases hc; rw [h3]; simp; omega
        by_cases ht : typedB a = true
        · refine Ev.pos ht ?_
          rw [if_neg (by simp [ht]), show ((acc.length : Int) == 8) = false by rw [beq_eq_false_iff_ne]; omega]
          refine Ev.step (fun k => by rw [dn_Parse.j1]) ?_
          refine Ev.neg (by simp) ?_
          refine Ev.bind (value_ev b (by omega)) ?_
          have hv := valS_len b.length b (Nat.le_refl _) true [] false
          generalize valS true [] false b = v at *
          obtain ⟨v1, v2, v3⟩ := v
          simp only [res3] at hv ⊢
          cases v3 with
          | false =>
            rw [if_pos rfl]
            exact Ev.neg (by simp) (Ev.now _)
          | true =>
            rw [if_neg (by simp)]
            refine Ev.pos rfl ?_
            refine Ev.pos (by omega) ?_
            refine Ev.fix rfl ?_
            simp only [B_toList]
            have hi := ih (v2.drop 1) (acc ++ [⟨B a, B v1⟩]) (v2 != []) (by simp; omega) (by simp; omega)
            cases v2 with
            | nil => exact Ev.pos rfl hi
            | cons d v2 =>
              refine Ev.neg (by simp) ?_
              refine Ev.pos (by rw [B_size]; simp; omega) ?_
              have : (B (d :: v2)).extract 1 (B (d :: v2)).size = B ((d :: v2).drop 1) := by rw [B_extract, B_size, List.take_of_length_le (by simp)]
              rw [this]
              exact hi
        · have : typedB a = false := by simpa using ht
          rw [if_pos this]
          exact Ev.neg ht (jt _ _)
def parseL (s : List UInt8) : List S25 × Bool := parseS 8 s [] (s != [])
theorem parse_ev (s : List UInt8) (hs : s.length ≤ 100000000) : Ev (fun k => dn_Parse.f k (B s)) (parseL s) := by
  unfold dn_Parse.f parseL
  rw [B_toList]
  exact parse_l0 8 s [] (s != []) hs rfl
end Go.Proofs.YtflkghdndffacaaDoor.Pure
namespace Go.Proofs.YtflkghdndffacaaDoor.Pure
open Go.RowKit Go.Proofs.YtflkghdndffacaaDoor.PD Go.Proofs.YtflkghdndffacaaDoor.H Go.Proofs.YtflkghdndffacaaDoorW.PrintWords Go.Proofs.YtflkghdndffacaaDoorW.PrintLast
def escL (n : Nat) : Nat → List UInt8 → List UInt8
  | _, [] => []
  | k, c :: r => escC n k c ++ escL n (k + 1) r
def esc (v : List UInt8) : List UInt8 := escL v.length 0 v
theorem escUp_escL (l : List UInt8) : ∀ q p : List UInt8, l = p ++ q → escUp l p.length ++ escL l.length p.length q = escUp l l.length := by
  intro q
  induction q with
  | nil => intro p hp; obtain rfl : l = p := by simpa using hp
           simp [escL]
  | cons c q ih =>
    intro p hp
    have hi := ih (p ++ [c]) (by rw [hp]; simp)
    have hn : (p ++ [c]).length = p.length + 1 := by simp
    rw [hn, escUp_succ (c := c) (by rw [hp]; simp), List.append_assoc] at hi
    exact hi
theorem esc_up (v : List UInt8) : escUp v v.length = esc v := by
  have := escUp_escL v v [] rfl
  simpa [escUp, esc] using this.symm
def seg (r : S25) : List UInt8 := r.f0.data.toList ++ 61 :: esc r.f1.data.toList
def textL : Bool → List S25 → List UInt8
  | _, [] => []
  | b, r :: rs => (if b = true then [44] else []) ++ seg r ++ textL true rs
theorem textUp_textL (l : List S25) : ∀ q p : List S25, l = p ++ q → textUp l p.length ++ textL (decide (p ≠ [])) q = textUp l l.length := by
  intro q
  induction q with
  | nil => intro p hp; obtain rfl : l = p := by simpa using hp
           simp [textL]
  | cons r q ih =>
    intro p hp
    have hi := ih (p ++ [r]) (by rw [hp]; simp)
    have hn : (p ++ [r]).length = p.length + 1 := by simp
    rw [hn, textUp_succ (r := r) (by rw [hp]; simp), esc_up] at hi
    rw [← hi]
    have e1 : decide (p ++ [r] ≠ []) = true := by simp
    have e2 : decide (p ≠ []) = true ↔ 0 < p.length := by simp [List.length_pos_iff]
    rw [e1]
    simp only [textL, e2, seg]
    simp
def text (l : List S25) : List UInt8 := textL false l
theorem text_up (l : List S25) : textUp l l.length = text l := by
  have := textUp_textL l l [] rfl
  simpa [textUp, text] using this.symm
theorem cutS_at (a b : List UInt8) (h : 61 ∉ a) : cutS (a ++ 61 :: b) = some (a, b) := by
  induction a with
  | nil => simp [cutS]
  | cons c a ih =>
    have hc : c ≠ 61 := fun e => h (by simp [e])
    have := ih (fun e => h (by simp [e]))
    simp [cutS, hc, this]
theorem typeC_fin : ∀ n : Fin 256, typeC (UInt8.ofNat n.val) = true → 33 ≤ (UInt8.ofNat n.val).toNat ∧ (UInt8.ofNat n.val).toNat ≤ 126 ∧ UInt8.ofNat n.val ≠ 61 ∧ UInt8.ofNat n.val ≠ 44 ∧ UInt8.ofNat n.val ≠ 92 ∧ UInt8.ofNat n.val ≠ 32 := by decide +kernel
theorem typeC_rng {c : UInt8} (h : typeC c = true) : 33 ≤ c.toNat ∧ c.toNat ≤ 126 ∧ c ≠ 61 ∧ c ≠ 44 ∧ c ≠ 92 ∧ c ≠ 32 :=
  u8_all (P := fun c => typeC c = true → 33 ≤ c.toNat ∧ c.toNat ≤ 126 ∧ c ≠ 61 ∧ c ≠ 44 ∧ c ≠ 92 ∧ c ≠ 32) typeC_fin c h
theorem typed_all {l : List UInt8} (h : typedB l = true) : ∀ c ∈ l, typeC c = true := by
  unfold typedB at h
  split at h
  · cases h
  · simp only [Bool.and_eq_true, List.all_eq_true] at h
    exact h.2
theorem typed_61 {l : List UInt8} (h : typedB l = true) : 61 ∉ l := fun hm => (typeC_rng (typed_all h 61 hm)).2.2.1 rfl
theorem mayB_iff {l : List S25} : mayB l = true ↔ (∀ r ∈ l, partB r = true) ∧ l.length ≤ 8 := by simp [mayB]
theorem part_typed {r : S25} (h : partB r = true) : typedB r.f0.data.toList = true := by
  unfold partB at h; simp only [Bool.and_eq_true] at h; exact h.1
end Go.Proofs.YtflkghdndffacaaDoor.Pure
namespace Go.Proofs.YtflkghdndffacaaDoor.Pure
open Go.RowKit Go.Proofs.YtflkghdndffacaaDoor.PD Go.Proofs.YtflkghdndffacaaDoor.H Go.Proofs.YtflkghdndffacaaDoorW.PrintWords Go.Proofs.YtflkghdndffacaaDoorW.PrintLast
theorem text_ev {l : List S25} (h : Modest l) : dn_Text.f l = some (B (text l)) := by rw [text_B l h, text_up]
theorem text_len {l : List S25} (h : Modest l) : (text l).length ≤ 4000002 * l.length := by
  rw [← text_up]; exact textUp_len l h l.length
end Go.Proofs.YtflkghdndffacaaDoor.Pure
namespace Go.Proofs.YtflkghdndffacaaDoor.Pure
open Go.RowKit Go.Proofs.YtflkghdndffacaaDoor.PD Go.Proofs.YtflkghdndffacaaDoor.H Go.Proofs.YtflkghdndffacaaDoorW.PrintWords Go.Proofs.YtflkghdndffacaaDoorW.PrintLast
def keyR (r : S25) : S25 := ⟨B (lowL r.f0.data.toList), B (foldL r.f1.data.toList)⟩
def keyL (l : List S25) : List S25 := l.map keyR
def foldOk (r : S25) : Bool := decide (foldL r.f1.data.toList ≠ [])
theorem keyL_append (p q : List S25) : keyL (p ++ q) = keyL p ++ keyL q := by simp [keyL]
theorem keyL_length (p : List S25) : (keyL p).length = p.length := by simp [keyL]
theorem keyL_modest {l : List S25} (h : Modest l) : Modest (keyL l) := by
  refine ⟨by rw [keyL_length]; exact h.1, fun r hr => ?_⟩
  obtain ⟨s, hs, rfl⟩ := List.mem_map.1 hr
  obtain ⟨h1, h2⟩ := h.2 s hs
  have := foldL_le s.f1.data.toList
  rw [Lib.size_eq] at h1 h2
  simp only [keyR, B_size, lowL_length]
  omega
theorem rd_mid (p : List S25) (r : S25) (q : List S25) {n : Nat} (h : p.length = n) : rd_T25 (p ++ r :: q) (n : Int) = r := by subst h; exact rd_pre p r q
theorem set_mid (p : List S25) (r x : S25) (q : List S25) {n : Nat} (h : p.length = n) : (p ++ r :: q).set ((n : Int)).toNat x = p ++ x :: q := by subst h; simp
theorem key_l0 (l : List S25) (hm : Modest l) : ∀ q p : List S25, l = p ++ q →
    Ev (fun k => dn_Key.l0 k (keyL p ++ q) (l.length : Int) (p.length : Int)) (if q.all foldOk = true then (B (text (keyL l)), true) else (B [], false)) := by
  intro q
  induction q with
  | nil =>
    intro p hp
    obtain rfl : l = p := by simpa using hp
    refine Ev.step (fun k => by rw [dn_Key.l0]) ?_
    refine Ev.neg (by omega) ?_
    rw [List.append_nil]
    refine Ev.fix (text_ev (keyL_modest hm)) ?_
    exact Ev.now _
  | cons r q ih =>
    intro p hp
    have hlen : p.length + 1 + q.length = l.length := by rw [hp]; simp; omega
    have hl := hm.1
    obtain ⟨h1, h2⟩ := hm.2 r (by rw [hp]; simp)
    rw [Lib.size_eq] at h1 h2
    have hkl := keyL_length p
    refine Ev.step (fun k => by rw [dn_Key.l0]) ?_
    refine Ev.pos (by omega) ?_
    refine Ev.pos (by omega) ?_
    refine Ev.pos (by simp [hkl]; omega) ?_
    rw [rd_mid _ _ _ hkl, wrap_succ (by omega)]
    refine Ev.fix (v := B (lowL r.f0.data.toList)) (by rw [← lowered_B (by omega), B_of]) ?_
    refine Ev.fix (v := B (foldL r.f1.data.toList)) (by rw [← fold_B (by omega), B_of]) ?_
    refine Ev.fix rfl ?_
    rw [set_mid _ _ _ _ hkl, rd_mid _ _ _ hkl, set_mid _ _ _ _ hkl]
    simp only [B_toList]
    by_cases hf : foldL r.f1.data.toList = []
    · have : foldOk r = false := by unfold foldOk; simp [hf]
      rw [List.all_cons, this]
      exact Ev.pos hf (Ev.now _)
    · have : foldOk r = true := by unfold foldOk; simp [hf]
      rw [List.all_cons, this, Bool.true_and]
      refine Ev.neg hf ?_
      have hi := ih (p ++ [r]) (by rw [hp]; simp)
      rw [keyL_append, show (p ++ [r]).length = p.length + 1 by simp, List.append_assoc] at hi
      exact hi
theorem may_modest {l : List S25} (h : mayB l = true) : Modest l := by
  obtain ⟨h1, h2⟩ := mayB_iff.1 h
  refine ⟨by omega, fun r hr => ?_⟩
  have hp := h1 r hr
  have ht := part_typed hp
  unfold partB at hp
  simp only [Bool.and_eq_true, decide_eq_true_eq] at hp
  unfold typedB at ht
  rw [Lib.size_eq, Lib.size_eq]
  split at ht
  · cases ht
  · next c q e =>
    simp only [Bool.and_eq_true, decide_eq_true_eq] at ht
    rw [e]
    simp only [List.length_cons]
    omega
theorem parseS_may : ∀ n (s : List UInt8) (acc : List S25) (more : Bool) (l : List S25), parseS n s acc more = (l, true) → mayB l = true := by
  intro n
  induction n with
  | zero =>
    intro s acc more l h
    cases more with
    | false =>
      rw [parseS_done] at h
      split at h
      · next hm => cases h; exact hm
      · cases h
    | true => rw [parseS_zero] at h; cases h
  | succ n ih =>
    intro s acc more l h
    cases more with
    | false =>
      rw [parseS_done] at h
      split at h
      · next hm => cases h; exact hm
      · cases h
    | true =>
      cases hc : cutS s with
      | none => rw [parseS_none _ _ _ hc] at h; cases h
      | some x =>
        obtain ⟨a, b⟩ := x
        rw [parseS_some _ _ _ _ _ hc] at h
        split at h
        · cases h
        · split at h
          · cases h
          · exact ih _ _ _ _ h
def keyS (s : List UInt8) : ByteArray × Bool := if (parseL s).2 = true then (if (parseL s).1.all foldOk = true then (B (text (keyL (parseL s).1)), true) else (B [], false)) else (B [], false)
theorem key_ev (s : List UInt8) (hs : s.length ≤ 100000000) : Ev (fun k => dn_Key.f k (B s)) (keyS s) := by
  unfold dn_Key.f keyS
  refine Ev.bind (parse_ev s hs) ?_
  by_cases h : (parseL s).2 = true
  · rw [if_pos h]
    refine Ev.pos h ?_
    have hm : mayB (parseL s).1 = true := parseS_may 8 s [] (s != []) _ (by rw [← h]; rfl)
    exact key_l0 _ (may_modest hm) _ [] rfl
  · rw [if_neg h]
    exact Ev.neg h (Ev.now _)
end Go.Proofs.YtflkghdndffacaaDoor.Pure
namespace Go.Proofs.YtflkghdndffacaaDoor.Pure
open Go.RowKit Go.Proofs.YtflkghdndffacaaDoor.PD Go.Proofs.YtflkghdndffacaaDoor.H Go.Proofs.YtflkghdndffacaaDoorW.PrintWords Go.Proofs.YtflkghdndffacaaDoorW.PrintLast
def upS : List UInt8 → List UInt8
  | [] => []
  | c :: r => if c = 92 then upS (r.drop 1) else if c = 44 then r else upS r
termination_by l => l.length
decreasing_by all_goals (simp; try omega)
theorem upS_len : ∀ n (l : List UInt8), l.length ≤ n → (upS l).length ≤ l.length - 1 := by
  intro n
  induction n with
  | zero => intro l h; rw [List.length_eq_zero_iff.1 (by omega : l.length = 0), upS]; simp
  | succ n ih =>
    intro l h
    cases l with
    | nil => rw [upS]; simp
    | cons c r =>
      simp only [List.length_cons] at h
      rw [upS]
      split
      · have := ih (r.drop 1) (by simp; omega)
        simp at this ⊢; omega
      · split
        · simp
        · have := ih r (by omega)
          simp; omega
theorem up_l0 (l : List UInt8) (hl : l.length ≤ 1000000000) : ∀ n (i : Nat), l.length + 1 - i ≤ n → i ≤ l.length + 1 → Ev (fun k => dn_Up.l0 k (B l) (i : Int)) (B (upS (l.drop i))) := by
  intro n
  induction n with
  | zero =>
    intro i hn hi
    refine Ev.step (fun k => by rw [dn_Up.l0]) ?_
    refine Ev.neg (by rw [B_size]; omega) ?_
    rw [List.drop_eq_nil_of_le (by omega), upS]
    exact Ev.now _
  | succ n ih =>
    intro i hn hi
    refine Ev.step (fun k => by rw [dn_Up.l0]) ?_
    by_cases h : i < l.length
    · obtain ⟨c, hc⟩ : ∃ c, l[i]? = some c := ⟨l[i], List.getElem?_eq_getElem h⟩
      have hd : l.drop i = c :: l.drop (i + 1) := by rw [List.drop_eq_getElem_cons h]; congr 1; exact Option.some.inj ((List.getElem?_eq_getElem h).symm.trans hc)
      have h44 : ((c.toNat : Int) = 44) ↔ c = 44 := u8_int_inj (n := 44) (by omega)
      have h92 : ((c.toNat : Int) = 92) ↔ c = 92 := u8_int_inj (n := 92) (by omega)
      refine Ev.pos (by rw [B_size]; omega) ?_
      refine Ev.pos (by omega) ?_
      rw [bt_at' hc, wrap_succ (by omega), wrap_succ (by omega), hd, upS]
      by_cases c92 : c = 92
      · rw [if_pos c92]
        refine Ev.pos (h92.2 c92) ?_
        have := ih (i + 1 + 1) (by omega) (by omega)
        rw [List.drop_drop]
        exact this
      · rw [if_neg c92]
        refine Ev.neg (fun e => c92 (h92.1 e)) ?_
        by_cases c44 : c = 44
        · rw [if_pos c44]
          refine Ev.pos (h44.2 c44) ?_
          refine Ev.pos (by omega) ?_
          refine Ev.pos (by rw [B_size]; omega) ?_
          have : (B l).extract (((i + 1 : Nat) : Int)).toNat (B l).size = B (l.drop (i + 1)) := by
            rw [B_extract, B_size, List.take_of_length_le (by simp)]
            congr 2
          rw [this]
          exact Ev.now _
        · rw [if_neg c44]
          refine Ev.neg (fun e => c44 (h44.1 e)) ?_
          exact ih (i + 1) (by omega) (by omega)
    · refine Ev.neg (by rw [B_size]; omega) ?_
      rw [List.drop_eq_nil_of_le (by omega), upS]
      exact Ev.now _
theorem up_ev (l : List UInt8) (hl : l.length ≤ 1000000000) : Ev (fun k => dn_Up.f k (B l)) (B (upS l)) := by
  exact up_l0 l hl (l.length + 1) 0 (by omega) (by omega)
def underS (x y : List UInt8) : Bool := if x = y then true else if _h : x = [] then false else underS (upS x) y
termination_by x.length
decreasing_by
  have := upS_len x.length x (Nat.le_refl _)
  have : 0 < x.length := List.length_pos_iff.2 _h
  omega
theorem under_l0 (y : List UInt8) : ∀ n (x : List UInt8), x.length ≤ n → n ≤ 1000000000 → Ev (fun k => dn_Under.l0 k (B x) (B y)) (underS x y) := by
  intro n
  induction n with
  | zero =>
    intro x hx _
    obtain rfl : x = [] := List.length_eq_zero_iff.1 (by omega)
    refine Ev.step (fun k => by rw [dn_Under.l0]) ?_
    simp only [B_toList]
    rw [underS]
    by_cases h : [] = y
    · rw [if_pos h]; exact Ev.pos h (Ev.now _)
    · rw [if_neg h]
      refine Ev.neg h ?_
      simp only [if_true]
      exact Ev.now _
  | succ n ih =>
    intro x hx hn
    refine Ev.step (fun k => by rw [dn_Under.l0]) ?_
    simp only [B_toList]
    rw [underS]
    by_cases h : x = y
    · rw [if_pos h]; exact Ev.pos h (Ev.now _)
    · rw [if_neg h]
      refine Ev.neg h ?_
      by_cases h2 : x = []
      · rw [dif_pos h2]; exact Ev.pos h2 (Ev.now _)
      · rw [dif_neg h2]
        refine Ev.neg h2 ?_
        refine Ev.bind (up_ev x (by omega)) ?_
        have := upS_len x.length x (Nat.le_refl _)
        exact ih (upS x) (by omega) (by omega)
theorem under_ev (x y : List UInt8) (hx : x.length ≤ 1000000000) : Ev (fun k => dn_Under.f k (B x) (B y)) (underS x y) := under_l0 y x.length x (Nat.le_refl _) hx
theorem underS_self (x : List UInt8) : underS x x = true := by rw [underS, if_pos rfl]
theorem underS_nil : ∀ n (x : List UInt8), x.length ≤ n → underS x [] = true := by
  intro n
  induction n with
  | zero => intro x h; obtain rfl : x = [] := List.length_eq_zero_iff.1 (by omega)
            exact underS_self _
  | succ n ih =>
    intro x h
    rw [underS]
    split
    · rfl
    · next hx =>
      have := upS_len x.length x (Nat.le_refl _)
      exact ih (upS x) (by omega)
end Go.Proofs.YtflkghdndffacaaDoor.Pure
namespace Go.Proofs.YtflkghdndffacaaDoor.PD
open Go.RowKit Go.Proofs.YtflkghdndffacaaDoor.H Go.Proofs.YtflkghdndffacaaDoorW.PrintWords Go.Proofs.YtflkghdndffacaaDoorW.PrintLast Go.Proofs.YtflkghdndffacaaDoorW.PrintMore
attribute [local go_sem] max2_int min2_int max_two min_two max_three min_three max_four min_four
set_option linter.unusedVariables false
set_option linter.unusedSimpArgs false
def brookref1_cut.l0 : Nat → ByteArray → List ByteArray → Int → Int → Option (List ByteArray)
 | 0, _, _, _, _ => none
 | k + 1, x0, x3, x4, x5 => if x5 < (x0.size : Int) then (if 0 ≤ x5 then (if (bt x0 x5) = 92 then (brookref1_cut.l0 k x0 x3 x4 (wrap64 ((wrap64 (x5 + 1)) + 1))) else (if (bt x0 x5) = 44 then (if 0 ≤ x4 then (if x4 ≤ x5 then (if x5 ≤ (x0.size : Int) then (if x3.length < 8796093022208 then (brookref1_cut.l0 k x0 (x3 ++ [x0.extract (x4 : Int).toNat (x5 : Int).toNat]) (wrap64 (x5 + 1)) (wrap64 (x5 + 1))) else (none)) else (none)) else (none)) else (none)) else (brookref1_cut.l0 k x0 x3 x4 (wrap64 (x5 + 1))))) else (none)) else (if 0 ≤ x4 then (if x4 ≤ (x0.size : Int) then (if x3.length < 8796093022208 then (some (x3 ++ [x0.extract (x4 : Int).toNat x0.size])) else (none)) else (none)) else (none))
def brookref1_cut.f (k : Nat) (a0 : ByteArray) : Option (List ByteArray) := brookref1_cut.l0 k a0 ([] : List ByteArray) 0 0
theorem brookref1_cut.mono_l : ∀ k, (∀ y0 y1 y2 y3, LeO (brookref1_cut.l0 k y0 y1 y2 y3) (brookref1_cut.l0 (k + 1) y0 y1 y2 y3))
 | 0 => fun _ _ _ _ r h => by simp [brookref1_cut.l0] at h
 | k + 1 => by
  have ih0 := brookref1_cut.mono_l k
  ·intro y0 y1 y2 y3
   unfold brookref1_cut.l0
   repeat' first
   | (with_reducible exact ih0 _ _ _ _)
   | (with_reducible exact LeO.refl _)
   | (with_reducible exact LeO.none _)
   | (with_reducible refine LeO.ite ?_ ?_)
   | (with_reducible refine LeO.bind ?_ (fun _ => ?_))
   | exact ih0 _ _ _ _
   | exact LeO.none _
   | refine LeO.ite ?_ ?_
   | refine LeO.bind ?_ (fun _ => ?_)
theorem brookref1_cut.mono : ∀ a0 k, LeO (brookref1_cut.f k a0) (brookref1_cut.f (k + 1) a0) := by
 intro a0 k
 have ih0 := brookref1_cut.mono_l k
 unfold brookref1_cut.f
 repeat' first
   | (with_reducible exact ih0 _ _ _ _)
   | (with_reducible exact LeO.refl _)
   | (with_reducible exact LeO.none _)
   | (with_reducible refine LeO.ite ?_ ?_)
   | (with_reducible refine LeO.bind ?_ (fun _ => ?_))
   | exact ih0 _ _ _ _
   | exact LeO.none _
   | refine LeO.ite ?_ ?_
   | refine LeO.bind ?_ (fun _ => ?_)
set_option maxHeartbeats 8000000 in
set_option maxRecDepth 100000 in
theorem brookref1_cut.calls (k : Nat) (a0 : ByteArray) (r : List ByteArray) (w : World) (h : brookref1_cut.f k a0 = some r) :
  Calls Tryd.prog 59 #[.string a0] w fun e w' => ∃ v0_ : Value, e = .returned (v0_) ∧ Kd.R Kd.string 9 w' w.heap.size (fun _ => True) v0_ r ∧ Below w.heap.size w w' := by
 have HB := Aside0.mk (Below.refl w.heap.size w)
 have H : (brookref1_cut.l0 k a0 ([] : List ByteArray) 0 0) = some r := h
 clear h
 have H' := Aside0.mk H
 clear H
 go_enter Tryd.func59, Tryd.ntmps59
 go_wp2
 go_loopg [3, 4, 5] k (fun kq v3 v4 v5 w' => ∃ (x3_1 : List ByteArray) (x4_1 : Int) (x5_1 : Int), v4 = .int .i64 x4_1 ∧ v5 = .int .i64 x5_1 ∧ Aside0 (brookref1_cut.l0 kq a0 x3_1 x4_1 x5_1 = some r) ∧ Aside0 (kq ≤ k) ∧ Aside0 (Kd.R Kd.string 9 w' w.heap.size (fun _ => True) v3 x3_1) ∧ Aside0 (Below w.heap.size w w'))
 case atStart => exact ⟨(([] : List ByteArray)), (0), (0), (by first | rfl | (simp; done) | (simp [*]; done) | (simp [u8_w, i64_w]; done) | (simp [isEmpty_bne]; done)), (by first | rfl | (simp; done) | (simp [*]; done) | (simp [u8_w, i64_w]; done) | (simp [isEmpty_bne]; done)), H', ⟨Nat.le_refl _⟩, ⟨by first | exact Kd.R_nil _ _ _ _ _ | exact Kd.N_nil _ _ _ _ _ | exact Kd.V_nil _ _ _ _ _ | exact Kd.Q_nil _ _ _ _ _ | exact Kd.S_nil _ _ _ _ _⟩, ⟨by repeat (first | (with_reducible first | exact HB.out | apply below_alloc | apply pw_below_drewN | apply below_drew1) | exact HB.out)⟩⟩
 case round =>
  clear H'
  obtain ⟨x3_1, x4_1, x5_1, rfl, rfl, HA, HK1, HO_3, HB⟩ := hrel
  cases gk with
  | zero => exact absurd HA.out (by simp [brookref1_cut.l0])
  | succ k1 =>
   have H := HA.out
   clear HA
   simp only [brookref1_cut.l0] at H
   by_cases c2 : x5_1 < (a0.size : Int)
   ·rw [if_pos c2] at H
    have c2b0 : decide (x5_1 < (a0.size : Int)) = true := decide_eq_true c2
    clear c2
    by_cases c3 : 0 ≤ x5_1
    ·rw [if_pos c3] at H
     have c3b0 : decide (0 ≤ x5_1) = true := decide_eq_true c3
     clear c3
     by_cases c5 : (bt a0 x5_1) = 92
     ·rw [if_pos c5] at H
      have c5b0 : ((bt a0 x5_1) == 92) = true := beq_iff_eq.mpr c5
      have c5b1 : ((bt a0 x5_1) != 92) = false := bne_eq_false_iff_eq.mpr c5
      clear c5
      have H' := Aside0.mk H
      clear H
      have p4 : 0 ≤ (x5_1 : Int) := of_decide_eq_true (by first | (with_reducible assumption) | assumption)
      have q4 : x5_1 < (a0.size : Int) := of_decide_eq_true (by first | (with_reducible assumption) | assumption)
      have hx4 := bt_at a0 x5_1
      replace p4 := eq_true p4
      replace q4 := eq_true q4
      go_wp2
      go_roundg k1
      case measure => have := HK1.out; omega
      case rel => exact ⟨(x3_1), (x4_1), (wrap64 ((wrap64 (x5_1 + 1)) + 1)), (by first | rfl | (simp; done) | (simp [*]; done) | (simp [u8_w, i64_w]; done) | (simp [isEmpty_bne]; done)), (by first | rfl | (simp; done) | (simp [*]; done) | (simp [u8_w, i64_w]; done) | (simp [isEmpty_bne]; done)), H', ⟨by have := HK1.out; omega⟩, ⟨by (with_reducible repeat (first | apply Kd.R_alloc | apply Kd.R_drewN | apply Kd.R_drew)); exact HO_3.out⟩, ⟨by repeat (first | (with_reducible first | exact HB.out | apply below_alloc | apply pw_below_drewN | apply below_drew1) | exact HB.out)⟩⟩
     ·rw [if_neg c5] at H
      have c5b0 : ((bt a0 x5_1) == 92) = false := beq_eq_false_iff_ne.mpr c5
      have c5b1 : ((bt a0 x5_1) != 92) = true := bne_iff_ne.mpr c5
      by_cases c6 : (bt a0 x5_1) = 44
      ·rw [if_pos c6] at H
       have c6b0 : ((bt a0 x5_1) == 44) = true := beq_iff_eq.mpr c6
       have c6b1 : ((bt a0 x5_1) != 44) = false := bne_eq_false_iff_eq.mpr c6
       clear c6
       by_cases c7 : 0 ≤ x4_1
       ·rw [if_pos c7] at H
        have c7b0 := eq_true c7
        have c7b1 : decide (0 ≤ x4_1) = true := decide_eq_true c7
        clear c7
        by_cases c8 : x4_1 ≤ x5_1
        ·rw [if_pos c8] at H
         have c8b0 := eq_true c8
         have c8b1 : decide (x4_1 ≤ x5_1) = true := decide_eq_true c8
         clear c8
         by_cases c9 : x5_1 ≤ (a0.size : Int)
         ·rw [if_pos c9] at H
          have c9b0 := eq_true c9
          have c9b1 : decide (x5_1 ≤ (a0.size : Int)) = true := decide_eq_true c9
          clear c9
          by_cases c10 : x3_1.length < 8796093022208
          ·rw [if_pos c10] at H
           have LMc10 := Aside0.mk c10
           clear c10
           obtain ⟨y244, hy244⟩ : ∃ y_ : List ByteArray, y_ = (x3_1 ++ [a0.extract (x4_1 : Int).toNat (x5_1 : Int).toNat]) := ⟨_, rfl⟩
           replace H : (brookref1_cut.l0 k1 a0 y244 (wrap64 (x5_1 + 1)) (wrap64 (x5_1 + 1))) = some r := by first | (rw [hy244]; with_reducible exact H) | (have H2_ := (Option.bind_some _ _).symm.trans H; rw [hy244]; with_reducible exact H2_) | (have H2_ := (Option.bind_some _ _).symm.trans H; with_reducible exact H2_) | with_reducible exact H | (rw [hy244]; exact H) | exact H
           have Ny244 := Aside0.mk hy244
           clear hy244
           have H' := Aside0.mk H
           clear H
           have p4 : 0 ≤ (x5_1 : Int) := of_decide_eq_true (by first | (with_reducible assumption) | assumption)
           have q4 : x5_1 < (a0.size : Int) := of_decide_eq_true (by first | (with_reducible assumption) | assumption)
           have hx4 := bt_at a0 x5_1
           replace p4 := eq_true p4
           replace q4 := eq_true q4
           go_wp2_with (first | ((with_reducible refine gate_builtin (b := .append) (xs := #[.tmp 21, .tmp 26]) rfl ?_); at_builtin; refine Kd.R_append Kd.string (w0 := w) w.heap.size rfl (.tmp 21) (.tmp 26) 28 9 (.string ⟨#[]⟩) 16 rfl Tryd.underlying28 info9 rfl (by decide) (by omega) u3 x3_1 (a0.extract (x4_1 : Int).toNat (x5_1 : Int).toNat) [.string (a0.extract (x4_1 : Int).toNat (x5_1 : Int).toNat)] (fun _ => True) (fun _ => False) rfl rfl ?aP (fun _ hk => hk.elim) ?aF ?aO ?aB ?aS ?aL ?_; (case aP => exact rfl); (case aB => exact (by repeat (first | (with_reducible first | exact HB.out | apply below_alloc | apply pw_below_drewN | apply below_drew1) | exact HB.out))); (case aF => exact (fun _ _ => trivial)); (case aO => exact (by (with_reducible repeat (first | apply Kd.R_alloc | apply Kd.R_drewN | apply Kd.R_drew)); exact HO_3.out)); (case aS => exact (below_size (by repeat (first | (with_reducible first | exact HB.out | apply below_alloc | apply pw_below_drewN | apply below_drew1) | exact HB.out)))); (case aL => have := LMc10.out; omega); intro v245 w11 ho hb hg hat; rw [← Ny244.out] at ho; have n0_ := Aside0.mk (hb); have n1_ := Aside0.mk (ho); clear HB; clear HO_3; have HB := n0_; have HO246 := n1_; clear n0_ n1_; clear ho hb hg hat))
           go_roundg k1
           case measure => have := HK1.out; omega
           case rel => exact ⟨(y244), (wrap64 (x5_1 + 1)), (wrap64 (x5_1 + 1)), (by first | rfl | (simp; done) | (simp [*]; done) | (simp [u8_w, i64_w]; done) | (simp [isEmpty_bne]; done)), (by first | rfl | (simp; done) | (simp [*]; done) | (simp [u8_w, i64_w]; done) | (simp [isEmpty_bne]; done)), H', ⟨by have := HK1.out; omega⟩, ⟨by (with_reducible repeat (first | apply Kd.R_alloc | apply Kd.R_drewN | apply Kd.R_drew)); exact HO246.out⟩, ⟨by repeat (first | (with_reducible first | exact HB.out | apply below_alloc | apply pw_below_drewN | apply below_drew1) | exact HB.out)⟩⟩
          ·rw [if_neg c10] at H
           exact absurd H (by simp)
         ·rw [if_neg c9] at H
          exact absurd H (by simp)
        ·rw [if_neg c8] at H
         exact absurd H (by simp)
       ·rw [if_neg c7] at H
        exact absurd H (by simp)
      ·rw [if_neg c6] at H
       have c6b0 : ((bt a0 x5_1) == 44) = false := beq_eq_false_iff_ne.mpr c6
       have c6b1 : ((bt a0 x5_1) != 44) = true := bne_iff_ne.mpr c6
       have H' := Aside0.mk H
       clear H
       have p4 : 0 ≤ (x5_1 : Int) := of_decide_eq_true (by first | (with_reducible assumption) | assumption)
       have q4 : x5_1 < (a0.size : Int) := of_decide_eq_true (by first | (with_reducible assumption) | assumption)
       have hx4 := bt_at a0 x5_1
       replace p4 := eq_true p4
       replace q4 := eq_true q4
       go_wp2
       go_roundg k1
       case measure => have := HK1.out; omega
       case rel => exact ⟨(x3_1), (x4_1), (wrap64 (x5_1 + 1)), (by first | rfl | (simp; done) | (simp [*]; done) | (simp [u8_w, i64_w]; done) | (simp [isEmpty_bne]; done)), (by first | rfl | (simp; done) | (simp [*]; done) | (simp [u8_w, i64_w]; done) | (simp [isEmpty_bne]; done)), H', ⟨by have := HK1.out; omega⟩, ⟨by (with_reducible repeat (first | apply Kd.R_alloc | apply Kd.R_drewN | apply Kd.R_drew)); exact HO_3.out⟩, ⟨by repeat (first | (with_reducible first | exact HB.out | apply below_alloc | apply pw_below_drewN | apply below_drew1) | exact HB.out)⟩⟩
    ·rw [if_neg c3] at H
     exact absurd H (by simp)
   ·rw [if_neg c2] at H
    have c2b0 : decide (x5_1 < (a0.size : Int)) = false := decide_eq_false c2
    clear c2
    by_cases c12 : 0 ≤ x4_1
    ·rw [if_pos c12] at H
     have c12b0 := eq_true c12
     have c12b1 : decide (0 ≤ x4_1) = true := decide_eq_true c12
     clear c12
     by_cases c13 : x4_1 ≤ (a0.size : Int)
     ·rw [if_pos c13] at H
      have c13b0 := eq_true c13
      have c13b1 : decide (x4_1 ≤ (a0.size : Int)) = true := decide_eq_true c13
      clear c13
      by_cases c14 : x3_1.length < 8796093022208
      ·rw [if_pos c14] at H
       have LMc14 := Aside0.mk c14
       clear c14
       obtain ⟨y241, hy241⟩ : ∃ y_ : List ByteArray, y_ = (x3_1 ++ [a0.extract (x4_1 : Int).toNat a0.size]) := ⟨_, rfl⟩
       replace H : (some y241) = some r := by first | (rw [hy241]; with_reducible exact H) | (have H2_ := (Option.bind_some _ _).symm.trans H; rw [hy241]; with_reducible exact H2_) | (have H2_ := (Option.bind_some _ _).symm.trans H; with_reducible exact H2_) | with_reducible exact H | (rw [hy241]; exact H) | exact H
       have Ny241 := Aside0.mk hy241
       clear hy241
       obtain rfl := Option.some.inj H
       go_wp2_with (first | ((with_reducible refine gate_builtin (b := .append) (xs := #[.tmp 30, .tmp 34]) rfl ?_); at_builtin; refine Kd.R_append Kd.string (w0 := w) w.heap.size rfl (.tmp 30) (.tmp 34) 28 9 (.string ⟨#[]⟩) 16 rfl Tryd.underlying28 info9 rfl (by decide) (by omega) u3 x3_1 (a0.extract (x4_1 : Int).toNat a0.size) [.string (a0.extract (x4_1 : Int).toNat a0.size)] (fun _ => True) (fun _ => False) rfl rfl ?aP (fun _ hk => hk.elim) ?aF ?aO ?aB ?aS ?aL ?_; (case aP => exact rfl); (case aB => exact (by repeat (first | (with_reducible first | exact HB.out | apply below_alloc | apply pw_below_drewN | apply below_drew1) | exact HB.out))); (case aF => exact (fun _ _ => trivial)); (case aO => exact (by (with_reducible repeat (first | apply Kd.R_alloc | apply Kd.R_drewN | apply Kd.R_drew)); exact HO_3.out)); (case aS => exact (below_size (by repeat (first | (with_reducible first | exact HB.out | apply below_alloc | apply pw_below_drewN | apply below_drew1) | exact HB.out)))); (case aL => have := LMc14.out; omega); intro v242 w15 ho hb hg hat; rw [← Ny241.out] at ho; have n0_ := Aside0.mk (hb); have n1_ := Aside0.mk (ho); clear HB; clear HO_3; have HB := n0_; have HO243 := n1_; clear n0_ n1_; clear ho hb hg hat))
       go_ret
       exact ⟨_, by first | rfl | (simp [errW_none, errW_some] <;> rfl) | (simp [*, errW_none, errW_some] <;> rfl), by (with_reducible repeat (first | apply Kd.R_alloc | apply Kd.R_drewN | apply Kd.R_drew)); exact HO243.out, by repeat (first | (with_reducible first | exact HB.out | apply below_alloc | apply pw_below_drewN | apply below_drew1) | exact HB.out)⟩
      ·rw [if_neg c14] at H
       exact absurd H (by simp)
     ·rw [if_neg c13] at H
      exact absurd H (by simp)
    ·rw [if_neg c12] at H
     exact absurd H (by simp)
end Go.Proofs.YtflkghdndffacaaDoor.PD
namespace Go.Proofs.YtflkghdndffacaaDoor.PD
open Go.RowKit Go.Proofs.YtflkghdndffacaaDoor.H Go.Proofs.YtflkghdndffacaaDoorW.PrintWords Go.Proofs.YtflkghdndffacaaDoorW.PrintLast Go.Proofs.YtflkghdndffacaaDoorW.PrintMore
attribute [local go_sem] max2_int min2_int max_two min_two max_three min_three max_four min_four
set_option linter.unusedVariables false
set_option linter.unusedSimpArgs false
mutual
def brookref1_hex.j0 : Nat → Int → Bool → Option (Int)
 | 0, _, _ => none
 | k + 1, x0, x3 => if x3 = true then (some ((x0 - 48) % 256)) else (if x0 ≥ 97 then (brookref1_hex.j1 k x0 (decide (x0 ≤ 102))) else (brookref1_hex.j1 k x0 false))
def brookref1_hex.j1 : Nat → Int → Bool → Option (Int)
 | 0, _, _ => none
 | k + 1, x0, x13 => if x13 = true then (some (((x0 - 97) % 256) + 10)) else (if x0 ≥ 65 then (if x0 ≤ 70 then (some (((x0 - 65) % 256) + 10)) else (some (-1))) else (some (-1)))
end
def brookref1_hex.f (k : Nat) (a0 : Int) : Option (Int) := if a0 ≥ 48 then (brookref1_hex.j0 k a0 (decide (a0 ≤ 57))) else (brookref1_hex.j0 k a0 false)
theorem brookref1_hex.mono_l : ∀ k, (∀ y0 y1, LeO (brookref1_hex.j0 k y0 y1) (brookref1_hex.j0 (k + 1) y0 y1)) ∧ (∀ y0 y1, LeO (brookref1_hex.j1 k y0 y1) (brookref1_hex.j1 (k + 1) y0 y1))
 | 0 => ⟨fun _ _ r h => by simp [brookref1_hex.j0] at h, fun _ _ r h => by simp [brookref1_hex.j1] at h⟩
 | k + 1 => by
  obtain ⟨ih0, ih1⟩ := brookref1_hex.mono_l k
  refine ⟨?_, ?_⟩
  ·intro y0 y1
   unfold brookref1_hex.j0
   repeat' first
   | (with_reducible exact ih0 _ _)
   | (with_reducible exact ih1 _ _)
   | (with_reducible exact LeO.refl _)
   | (with_reducible exact LeO.none _)
   | (with_reducible refine LeO.ite ?_ ?_)
   | (with_reducible refine LeO.bind ?_ (fun _ => ?_))
   | exact ih0 _ _
   | exact ih1 _ _
   | exact LeO.none _
   | refine LeO.ite ?_ ?_
   | refine LeO.bind ?_ (fun _ => ?_)
  ·intro y0 y1
   unfold brookref1_hex.j1
   repeat' first
   | (with_reducible exact ih0 _ _)
   | (with_reducible exact ih1 _ _)
   | (with_reducible exact LeO.refl _)
   | (with_reducible exact LeO.none _)
   | (with_reducible refine LeO.ite ?_ ?_)
   | (with_reducible refine LeO.bind ?_ (fun _ => ?_))
   | exact ih0 _ _
   | exact ih1 _ _
   | exact LeO.none _
   | refine LeO.ite ?_ ?_
   | refine LeO.bind ?_ (fun _ => ?_)
theorem brookref1_hex.mono : ∀ a0 k, LeO (brookref1_hex.f k a0) (brookref1_hex.f (k + 1) a0) := by
 intro a0 k
 obtain ⟨ih0, ih1⟩ := brookref1_hex.mono_l k
 unfold brookref1_hex.f
 repeat' first
   | (with_reducible exact ih0 _ _)
   | (with_reducible exact ih1 _ _)
   | (with_reducible exact LeO.refl _)
   | (with_reducible exact LeO.none _)
   | (with_reducible refine LeO.ite ?_ ?_)
   | (with_reducible refine LeO.bind ?_ (fun _ => ?_))
   | exact ih0 _ _
   | exact ih1 _ _
   | exact LeO.none _
   | refine LeO.ite ?_ ?_
   | refine LeO.bind ?_ (fun _ => ?_)
set_option maxHeartbeats 8000000 in
set_option maxRecDepth 100000 in
theorem brookref1_hex.calls (k : Nat) (a0 : Int) (r : Int) (w : World) (h : brookref1_hex.f k a0 = some r) :
  Calls Tryd.prog 85 #[.int .u8 a0] w fun e w' => e = .returned (.int .i64 r) ∧ Drawn0 w w' := by
 have H : (if a0 ≥ 48 then (brookref1_hex.j0 k a0 (decide (a0 ≤ 57))) else (brookref1_hex.j0 k a0 false)) = some r := h
 clear h
 have HC2 := Aside0.mk H
 clear H
 go_enter Tryd.func85, Tryd.ntmps85
 go_upto_region 1 with (fail)
 go_cut [3] (fun v3 wc => ∃ (kq : Nat) (x3_1 : Bool), v3 = .bool x3_1 ∧ Aside0 (brookref1_hex.j0 kq a0 x3_1 = some r) ∧ Aside0 (kq ≤ k) ∧ Drawn0 w wc)
 case first =>
  have H := HC2.out
  clear HC2
  by_cases c3 : a0 ≥ 48
  ·rw [if_pos c3] at H
   have c3b0 : decide (48 ≤ a0) = true := decide_eq_true c3
   clear c3
   (first | rw [c3b0] | (simp only [i64_w, i32_w]; rw [c3b0]) | skip)
   have H' := Aside0.mk H
   clear H
   go_wp2
   go_meet
   case rel => exact ⟨_, (decide (a0 ≤ 57)), (by first | rfl | (simp; done) | (simp [*]; done) | (simp [u8_w, i64_w]; done) | (simp [isEmpty_bne]; done)), H', ⟨by first | omega | exact Nat.le_refl _⟩, by repeat (first | exact Drawn0.refl _ | apply Drawn0.step)⟩
  ·rw [if_neg c3] at H
   have c3b0 : decide (48 ≤ a0) = false := decide_eq_false c3
   clear c3
   (first | rw [c3b0] | (simp only [i64_w, i32_w]; rw [c3b0]) | skip)
   have H' := Aside0.mk H
   clear H
   go_wp2
   go_meet
   case rel => exact ⟨_, (false), (by first | rfl | (simp; done) | (simp [*]; done) | (simp [u8_w, i64_w]; done) | (simp [isEmpty_bne]; done)), H', ⟨by first | omega | exact Nat.le_refl _⟩, by repeat (first | exact Drawn0.refl _ | apply Drawn0.step)⟩
 case rest =>
  clear HC2
  try clear p2
  try clear c3
  try clear c3b0
  obtain ⟨kq, x3_1, rfl, HA, HJ1, ⟨mc1, rfl⟩⟩ := hcut
  cases kq with
  | zero => exact absurd HA.out (by simp [brookref1_hex.j0])
  | succ kj1 =>
   have H := HA.out
   clear HA
   simp only [brookref1_hex.j0] at H
   by_cases c4 : x3_1 = true
   ·subst c4
    have H1 : (some ((a0 - 48) % 256)) = some r := by rw [if_pos rfl] at H; exact H
    clear H
    have H := H1
    clear H1
    obtain rfl := Option.some.inj H
    go_wp2
    go_ret
    exact ⟨by first | rfl | (simp; done) | (simp [*]; done) | (simp [u8_w, i64_w]; done) | (simp [isEmpty_bne]; done), by repeat (first | exact Drawn0.refl _ | apply Drawn0.step)⟩
   ·replace c4 := Bool.eq_false_iff.mpr c4
    subst c4
    have H1 : (if a0 ≥ 97 then (brookref1_hex.j1 kj1 a0 (decide (a0 ≤ 102))) else (brookref1_hex.j1 kj1 a0 false)) = some r := by rw [if_neg (show ¬ (false = true) by decide)] at H; exact H
    clear H
    have H := H1
    clear H1
    have HC5 := Aside0.mk H
    clear H
    go_upto_region 3 with (fail)
    go_cut [13] (fun v13 wc => ∃ (kq : Nat) (x13_4 : Bool), v13 = .bool x13_4 ∧ Aside0 (brookref1_hex.j1 kq a0 x13_4 = some r) ∧ Aside0 (kq ≤ kj1) ∧ Drawn0 w wc)
    case first =>
     have H := HC5.out
     clear HC5
     by_cases c6 : a0 ≥ 97
     ·rw [if_pos c6] at H
      have c6b0 : decide (97 ≤ a0) = true := decide_eq_true c6
      clear c6
      (first | rw [c6b0] | (simp only [i64_w, i32_w]; rw [c6b0]) | skip)
      have H' := Aside0.mk H
      clear H
      go_wp2
      go_meet
      case rel => exact ⟨_, (decide (a0 ≤ 102)), (by first | rfl | (simp; done) | (simp [*]; done) | (simp [u8_w, i64_w]; done) | (simp [isEmpty_bne]; done)), H', ⟨by have := HJ1.out; first | omega | exact Nat.le_refl _⟩, by repeat (first | exact Drawn0.refl _ | apply Drawn0.step)⟩
     ·rw [if_neg c6] at H
      have c6b0 : decide (97 ≤ a0) = false := decide_eq_false c6
      clear c6
      (first | rw [c6b0] | (simp only [i64_w, i32_w]; rw [c6b0]) | skip)
      have H' := Aside0.mk H
      clear H
      go_wp2
      go_meet
      case rel => exact ⟨_, (false), (by first | rfl | (simp; done) | (simp [*]; done) | (simp [u8_w, i64_w]; done) | (simp [isEmpty_bne]; done)), H', ⟨by have := HJ1.out; first | omega | exact Nat.le_refl _⟩, by repeat (first | exact Drawn0.refl _ | apply Drawn0.step)⟩
    case rest =>
     clear HC5
     try clear c1
     try clear p2
     try clear c3
     try clear c3b0
     try clear c4
     try clear c6
     try clear c6b0
     try clear p2
     obtain ⟨kq, x13_4, rfl, HA, HJ4, ⟨mc4, rfl⟩⟩ := hcut
     cases kq with
     | zero => exact absurd HA.out (by simp [brookref1_hex.j1])
     | succ kj4 =>
      have H := HA.out
      clear HA
      simp only [brookref1_hex.j1] at H
      by_cases c7 : x13_4 = true
      ·subst c7
       have H1 : (some (((a0 - 97) % 256) + 10)) = some r := by rw [if_pos rfl] at H; exact H
       clear H
       have H := H1
       clear H1
       obtain rfl := Option.some.inj H
       go_wp2
       go_ret
       exact ⟨by first | rfl | (simp; done) | (simp [*]; done) | (simp [u8_w, i64_w]; done) | (simp [isEmpty_bne]; done), by repeat (first | exact Drawn0.refl _ | apply Drawn0.step)⟩
      ·replace c7 := Bool.eq_false_iff.mpr c7
       subst c7
       have H1 : (if a0 ≥ 65 then (if a0 ≤ 70 then (some (((a0 - 65) % 256) + 10)) else (some (-1))) else (some (-1))) = some r := by rw [if_neg (show ¬ (false = true) by decide)] at H; exact H
       clear H
       have H := H1
       clear H1
       by_cases c8 : a0 ≥ 65
       ·rw [if_pos c8] at H
        have c8b0 : decide (65 ≤ a0) = true := decide_eq_true c8
        clear c8
        by_cases c9 : a0 ≤ 70
        ·rw [if_pos c9] at H
         have c9b0 : decide (a0 ≤ 70) = true := decide_eq_true c9
         clear c9
         obtain rfl := Option.some.inj H
         go_wp2
         go_ret
         exact ⟨by first | rfl | (simp; done) | (simp [*]; done) | (simp [u8_w, i64_w]; done) | (simp [isEmpty_bne]; done), by repeat (first | exact Drawn0.refl _ | apply Drawn0.step)⟩
        ·rw [if_neg c9] at H
         have c9b0 : decide (a0 ≤ 70) = false := decide_eq_false c9
         clear c9
         obtain rfl := Option.some.inj H
         go_wp2
         go_ret
         exact ⟨by first | rfl | (simp; done) | (simp [*]; done) | (simp [u8_w, i64_w]; done) | (simp [isEmpty_bne]; done), by repeat (first | exact Drawn0.refl _ | apply Drawn0.step)⟩
       ·rw [if_neg c8] at H
        have c8b0 : decide (65 ≤ a0) = false := decide_eq_false c8
        clear c8
        obtain rfl := Option.some.inj H
        go_wp2
        go_ret
        exact ⟨by first | rfl | (simp; done) | (simp [*]; done) | (simp [u8_w, i64_w]; done) | (simp [isEmpty_bne]; done), by repeat (first | exact Drawn0.refl _ | apply Drawn0.step)⟩
end Go.Proofs.YtflkghdndffacaaDoor.PD
namespace Go.Proofs.YtflkghdndffacaaDoor.PD
open Go.RowKit Go.Proofs.YtflkghdndffacaaDoor.H Go.Proofs.YtflkghdndffacaaDoorW.PrintWords Go.Proofs.YtflkghdndffacaaDoorW.PrintLast Go.Proofs.YtflkghdndffacaaDoorW.PrintMore
attribute [local go_sem] max2_int min2_int max_two min_two max_three min_three max_four min_four
set_option linter.unusedVariables false
set_option linter.unusedSimpArgs false
mutual
def brookref1_value.l0 : Nat → ByteArray → List Int → Int → Option (ByteArray × Bool)
 | 0, _, _, _ => none
 | k + 1, x0, x4, x5 => if x5 < (x0.size : Int) then (if 0 ≤ x5 then (if (bt x0 x5) = 92 then (if (wrap64 (x5 + 2)) < (x0.size : Int) then (if 0 ≤ (wrap64 (x5 + 1)) then (if (wrap64 (x5 + 1)) < (x0.size : Int) then ((brookref1_hex.f k (bt x0 (wrap64 (x5 + 1)))).bind fun t247 => (if t247 ≥ 0 then (if 0 ≤ (wrap64 (x5 + 2)) then ((brookref1_hex.f k (bt x0 (wrap64 (x5 + 2)))).bind fun t248 => (brookref1_value.j1 k x0 x4 x5 (decide (t248 ≥ 0)))) else (none)) else (brookref1_value.j1 k x0 x4 x5 false))) else (none)) else (none)) else (brookref1_value.j1 k x0 x4 x5 false)) else (if (bt x0 x5) < 32 then (some ((⟨#[]⟩ : ByteArray), false)) else (if (bt x0 x5) > 126 then (some ((⟨#[]⟩ : ByteArray), false)) else ((brookref1_in.f k (⟨#[44, 43, 34, 60, 62, 59]⟩ : ByteArray) (bt x0 x5)).bind fun t258 => (if t258 = true then (some ((⟨#[]⟩ : ByteArray), false)) else (if x5 = 0 then (if (bt x0 x5) = 35 then (some ((⟨#[]⟩ : ByteArray), false)) else (if (bt x0 x5) = 32 then (some ((⟨#[]⟩ : ByteArray), false)) else (if x5 = (wrap64 ((x0.size : Int) - 1)) then (if x4.length < 140737488355328 then (brookref1_value.l0 k x0 (x4 ++ [bt x0 x5]) (wrap64 (x5 + 1))) else (none)) else (if x4.length < 140737488355328 then (brookref1_value.l0 k x0 (x4 ++ [bt x0 x5]) (wrap64 (x5 + 1))) else (none))))) else (if x5 = (wrap64 ((x0.size : Int) - 1)) then (if (bt x0 x5) = 32 then (some ((⟨#[]⟩ : ByteArray), false)) else (if x4.length < 140737488355328 then (brookref1_value.l0 k x0 (x4 ++ [bt x0 x5]) (wrap64 (x5 + 1))) else (none))) else (if x4.length < 140737488355328 then (brookref1_value.l0 k x0 (x4 ++ [bt x0 x5]) (wrap64 (x5 + 1))) else (none))))))))) else (none)) else (some (strOfNums x4, true))
def brookref1_value.j1 : Nat → ByteArray → List Int → Int → Bool → Option (ByteArray × Bool)
 | 0, _, _, _, _ => none
 | k + 1, x0, x4, x5, x38 => if x38 = true then (if 0 ≤ (wrap64 (x5 + 1)) then (if (wrap64 (x5 + 1)) < (x0.size : Int) then ((brookref1_hex.f k (bt x0 (wrap64 (x5 + 1)))).bind fun t249 => (if 0 ≤ (wrap64 (x5 + 2)) then (if (wrap64 (x5 + 2)) < (x0.size : Int) then ((brookref1_hex.f k (bt x0 (wrap64 (x5 + 2)))).bind fun t250 => (if x4.length < 140737488355328 then (brookref1_value.l0 k x0 (x4 ++ [(wrap64 ((wrap64 (t249 * 16)) + t250)) % 256]) (wrap64 ((wrap64 (x5 + 2)) + 1))) else (none))) else (none)) else (none))) else (none)) else (none)) else (if (wrap64 (x5 + 1)) ≥ (x0.size : Int) then (brookref1_value.j2 k x0 x4 x5 true) else (if 0 ≤ (wrap64 (x5 + 1)) then (if (wrap64 (x5 + 1)) < (x0.size : Int) then ((brookref1_in.f k (⟨#[44, 43, 34, 92, 60, 62, 59, 61, 35, 32]⟩ : ByteArray) (bt x0 (wrap64 (x5 + 1)))).bind fun t254 => (brookref1_value.j2 k x0 x4 x5 (!t254))) else (none)) else (none)))
def brookref1_value.j2 : Nat → ByteArray → List Int → Int → Bool → Option (ByteArray × Bool)
 | 0, _, _, _, _ => none
 | k + 1, x0, x4, x5, x69 => if x69 = true then (some ((⟨#[]⟩ : ByteArray), false)) else (if 0 ≤ (wrap64 (x5 + 1)) then (if (wrap64 (x5 + 1)) < (x0.size : Int) then (if x4.length < 140737488355328 then (brookref1_value.l0 k x0 (x4 ++ [bt x0 (wrap64 (x5 + 1))]) (wrap64 ((wrap64 (x5 + 1)) + 1))) else (none)) else (none)) else (none))
end
def brookref1_value.f (k : Nat) (a0 : ByteArray) : Option (ByteArray × Bool) := brookref1_value.l0 k a0 ([] : List Int) 0
theorem brookref1_value.mono_l : ∀ k, (∀ y0 y1 y2, LeO (brookref1_value.l0 k y0 y1 y2) (brookref1_value.l0 (k + 1) y0 y1 y2)) ∧ (∀ y0 y1 y2 y3, LeO (brookref1_value.j1 k y0 y1 y2 y3) (brookref1_value.j1 (k + 1) y0 y1 y2 y3)) ∧ (∀ y0 y1 y2 y3, LeO (brookref1_value.j2 k y0 y1 y2 y3) (brookref1_value.j2 (k + 1) y0 y1 y2 y3))
 | 0 => ⟨fun _ _ _ r h => by simp [brookref1_value.l0] at h, fun _ _ _ _ r h => by simp [brookref1_value.j1] at h, fun _ _ _ _ r h => by simp [brookref1_value.j2] at h⟩
 | k + 1 => by
  obtain ⟨ih0, ih1, ih2⟩ := brookref1_value.mono_l k
  refine ⟨?_, ?_, ?_⟩
  ·intro y0 y1 y2
   unfold brookref1_value.l0
   repeat' first
   | (with_reducible exact ih0 _ _ _)
   | (with_reducible exact ih1 _ _ _ _)
   | (with_reducible exact ih2 _ _ _ _)
   | (with_reducible exact brookref1_hex.mono _ _)
   | (with_reducible exact brookref1_in.mono _ _ _)
   | (with_reducible exact LeO.refl _)
   | (with_reducible exact LeO.none _)
   | (with_reducible refine LeO.ite ?_ ?_)
   | (with_reducible refine LeO.bind ?_ (fun _ => ?_))
   | exact ih0 _ _ _
   | exact ih1 _ _ _ _
   | exact ih2 _ _ _ _
   | exact brookref1_hex.mono _ _
   | exact brookref1_in.mono _ _ _
   | exact LeO.none _
   | refine LeO.ite ?_ ?_
   | refine LeO.bind ?_ (fun _ => ?_)
  ·intro y0 y1 y2 y3
   unfold brookref1_value.j1
   repeat' first
   | (with_reducible exact ih0 _ _ _)
   | (with_reducible exact ih1 _ _ _ _)
   | (with_reducible exact ih2 _ _ _ _)
   | (with_reducible exact brookref1_hex.mono _ _)
   | (with_reducible exact brookref1_in.mono _ _ _)
   | (with_reducible exact LeO.refl _)
   | (with_reducible exact LeO.none _)
   | (with_reducible refine LeO.ite ?_ ?_)
   | (with_reducible refine LeO.bind ?_ (fun _ => ?_))
   | exact ih0 _ _ _
   | exact ih1 _ _ _ _
   | exact ih2 _ _ _ _
   | exact brookref1_hex.mono _ _
   | exact brookref1_in.mono _ _ _
   | exact LeO.none _
   | refine LeO.ite ?_ ?_
   | refine LeO.bind ?_ (fun _ => ?_)
  ·intro y0 y1 y2 y3
   unfold brookref1_value.j2
   repeat' first
   | (with_reducible exact ih0 _ _ _)
   | (with_reducible exact ih1 _ _ _ _)
   | (with_reducible exact ih2 _ _ _ _)
   | (with_reducible exact brookref1_hex.mono _ _)
   | (with_reducible exact brookref1_in.mono _ _ _)
   | (with_reducible exact LeO.refl _)
   | (with_reducible exact LeO.none _)
   | (with_reducible refine LeO.ite ?_ ?_)
   | (with_reducible refine LeO.bind ?_ (fun _ => ?_))
   | exact ih0 _ _ _
   | exact ih1 _ _ _ _
   | exact ih2 _ _ _ _
   | exact brookref1_hex.mono _ _
   | exact brookref1_in.mono _ _ _
   | exact LeO.none _
   | refine LeO.ite ?_ ?_
   | refine LeO.bind ?_ (fun _ => ?_)
theorem brookref1_value.mono : ∀ a0 k, LeO (brookref1_value.f k a0) (brookref1_value.f (k + 1) a0) := by
 intro a0 k
 obtain ⟨ih0, ih1, ih2⟩ := brookref1_value.mono_l k
 unfold brookref1_value.f
 repeat' first
   | (with_reducible exact ih0 _ _ _)
   | (with_reducible exact ih1 _ _ _ _)
   | (with_reducible exact ih2 _ _ _ _)
   | (with_reducible exact brookref1_hex.mono _ _)
   | (with_reducible exact brookref1_in.mono _ _ _)
   | (with_reducible exact LeO.refl _)
   | (with_reducible exact LeO.none _)
   | (with_reducible refine LeO.ite ?_ ?_)
   | (with_reducible refine LeO.bind ?_ (fun _ => ?_))
   | exact ih0 _ _ _
   | exact ih1 _ _ _ _
   | exact ih2 _ _ _ _
   | exact brookref1_hex.mono _ _
   | exact brookref1_in.mono _ _ _
   | exact LeO.none _
   | refine LeO.ite ?_ ?_
   | refine LeO.bind ?_ (fun _ => ?_)
def brookref1_value.T8 : Bool × List (List Nat × List Nat) := (true, [([], []), ([], []), ([], []), ([2], [2]), ([1, 3], [1, 3]), ([4], [4]), ([5], [5]), ([], []), ([], []), ([8], [8]), ([7, 9], [7, 9]), ([10, 5], [10]), ([6, 11], [6, 11]), ([12], [12]), ([13], [13]), ([0, 14, 11], [0, 14]), ([15, 15, 0, 1, 2, 3, 4, 5, 6, 7, 8, 9, 10, 11, 12, 13, 14, 15], [0, 15])])
def brookref1_value.B8 : List Nat := [0, 0, 0, 4, 14, 30, 62, 0, 0, 256, 896, 1982, 4094, 8190, 16382, 32767, 65535]
theorem brookref1_value.tab8 : rtab .any (opsOf Tryd.f60 8) = brookref1_value.T8 := by kernel_rfl
theorem brookref1_value.bits8 : waitsOk brookref1_value.T8.2 brookref1_value.B8 = true := by kernel_rfl
set_option maxHeartbeats 8000000 in
set_option maxRecDepth 100000 in
theorem brookref1_value.calls (k : Nat) (a0 : ByteArray) (r1 : ByteArray) (r2 : Bool) (w : World) (h : brookref1_value.f k a0 = some (r1, r2)) :
  Calls Tryd.prog 60 #[.string a0] w fun e w' => e = .returned (.tuple #[.string r1, .bool r2]) ∧ Below w.heap.size w w' := by
 have HB := Aside0.mk (Below.refl w.heap.size w)
 have H : (brookref1_value.l0 k a0 ([] : List Int) 0) = some (r1, r2) := h
 clear h
 have H' := Aside0.mk H
 clear H
 go_enter Tryd.func60, Tryd.ntmps60
 go_wp2
 go_loopg [4, 5] k (fun kq v4 v5 w' => ∃ (x4_1 : List Int) (x5_1 : Int), v5 = .int .i64 x5_1 ∧ Aside0 (brookref1_value.l0 kq a0 x4_1 x5_1 = some (r1, r2)) ∧ Aside0 (kq ≤ k) ∧ Aside0 (Kd.R (Kd.int .u8) 5 w' w.heap.size (fun _ => True) v4 x4_1) ∧ Aside0 (Below w.heap.size w w'))
 case atStart => exact ⟨(([] : List Int)), (0), (by first | rfl | (simp; done) | (simp [*]; done) | (simp [u8_w, i64_w]; done) | (simp [isEmpty_bne]; done)), H', ⟨Nat.le_refl _⟩, ⟨by first | exact Kd.R_nil _ _ _ _ _ | exact Kd.N_nil _ _ _ _ _ | exact Kd.V_nil _ _ _ _ _ | exact Kd.Q_nil _ _ _ _ _ | exact Kd.S_nil _ _ _ _ _⟩, ⟨by repeat (first | (with_reducible first | exact HB.out | apply below_alloc | apply pw_below_drewN | apply below_drew1) | exact HB.out)⟩⟩
 case round =>
  clear H'
  obtain ⟨x4_1, x5_1, rfl, HA, HK1, HO_4, HB⟩ := hrel
  cases gk with
  | zero => exact absurd HA.out (by simp [brookref1_value.l0])
  | succ k1 =>
   have H := HA.out
   clear HA
   simp only [brookref1_value.l0] at H
   by_cases c2 : x5_1 < (a0.size : Int)
   ·rw [if_pos c2] at H
    have c2b0 : decide (x5_1 < (a0.size : Int)) = true := decide_eq_true c2
    clear c2
    by_cases c3 : 0 ≤ x5_1
    ·rw [if_pos c3] at H
     have c3b0 : decide (0 ≤ x5_1) = true := decide_eq_true c3
     clear c3
     by_cases c5 : (bt a0 x5_1) = 92
     ·rw [if_pos c5] at H
      have c5b0 : ((bt a0 x5_1) == 92) = true := beq_iff_eq.mpr c5
      have c5b1 : ((bt a0 x5_1) != 92) = false := bne_eq_false_iff_eq.mpr c5
      clear c5
      have HC6 := Aside0.mk H
      clear H
      have p4 : 0 ≤ (x5_1 : Int) := of_decide_eq_true (by first | (with_reducible assumption) | assumption)
      have q4 : x5_1 < (a0.size : Int) := of_decide_eq_true (by first | (with_reducible assumption) | assumption)
      have hx4 := bt_at a0 x5_1
      replace p4 := eq_true p4
      replace q4 := eq_true q4
      go_upto_region 7 with (fail)
      go_cut [38] (fun v38 wc => ∃ (kq : Nat) (x38_5 : Bool), v38 = .bool x38_5 ∧ Aside0 (brookref1_value.j1 kq a0 x4_1 x5_1 x38_5 = some (r1, r2)) ∧ Aside0 (kq ≤ k1) ∧ Aside0 (Kd.R (Kd.int .u8) 5 wc w.heap.size (fun _ => True) u4 x4_1) ∧ Aside0 (Below w.heap.size w wc))
      case first =>
       have H := HC6.out
       clear HC6
       by_cases c7 : (wrap64 (x5_1 + 2)) < (a0.size : Int)
       ·rw [if_pos c7] at H
        have c7b0 : decide ((wrap64 (x5_1 + 2)) < (a0.size : Int)) = true := decide_eq_true c7
        clear c7
        (first | rw [c7b0] | (simp only [i64_w, i32_w]; rw [c7b0]) | skip)
        obtain ⟨ji8, hji8⟩ : ∃ j_ : Int, (wrap64 (x5_1 + 1)) = j_ := ⟨_, rfl⟩
        replace H : (if 0 ≤ (ji8) then (if (ji8) < (a0.size : Int) then ((brookref1_hex.f k1 (bt a0 (ji8))).bind fun t247 => (if t247 ≥ 0 then (if 0 ≤ (wrap64 (x5_1 + 2)) then ((brookref1_hex.f k1 (bt a0 (wrap64 (x5_1 + 2)))).bind fun t248 => (brookref1_value.j1 k1 a0 x4_1 x5_1 (decide (t248 ≥ 0)))) else (none)) else (brookref1_value.j1 k1 a0 x4_1 x5_1 false))) else (none)) else (none)) = some (r1, r2) := by first | (rw [hji8] at H; exact H) | (simp only [hji8] at H ⊢; exact H)
        have hji8w : (IntKind.i64.wrap (x5_1 + 1)) = ji8 := (i64_w _).trans hji8
        by_cases c9 : 0 ≤ (ji8)
        ·rw [if_pos c9] at H
         have c9b0 : decide (0 ≤ (ji8)) = true := decide_eq_true c9
         clear c9
         by_cases c10 : (ji8) < (a0.size : Int)
         ·rw [if_pos c10] at H
          have c10b0 : decide ((ji8) < (a0.size : Int)) = true := decide_eq_true c10
          clear c10
          replace H := Option.bind_eq_some_iff.mp H
          obtain ⟨t247, A120, H⟩ := H
          replace H : (if t247 ≥ 0 then (if 0 ≤ (wrap64 (x5_1 + 2)) then ((brookref1_hex.f k1 (bt a0 (wrap64 (x5_1 + 2)))).bind fun t248 => (brookref1_value.j1 k1 a0 x4_1 x5_1 (decide (t248 ≥ 0)))) else (none)) else (brookref1_value.j1 k1 a0 x4_1 x5_1 false)) = some (r1, r2) := H
          have A12 := Aside0.mk A120
          clear A120
          by_cases c13 : t247 ≥ 0
          ·rw [if_pos c13] at H
           have c13b0 : decide (0 ≤ t247) = true := decide_eq_true c13
           clear c13
           obtain ⟨ji14, hji14⟩ : ∃ j_ : Int, (wrap64 (x5_1 + 2)) = j_ := ⟨_, rfl⟩
           replace H : (if 0 ≤ (ji14) then ((brookref1_hex.f k1 (bt a0 (ji14))).bind fun t248 => (brookref1_value.j1 k1 a0 x4_1 x5_1 (decide (t248 ≥ 0)))) else (none)) = some (r1, r2) := by first | (rw [hji14] at H; exact H) | (simp only [hji14] at H ⊢; exact H)
           (try rw [hji14] at c7b0)
           (try rw [hji14] at A12)
           have hji14w : (IntKind.i64.wrap (x5_1 + 2)) = ji14 := (i64_w _).trans hji14
           by_cases c15 : 0 ≤ (ji14)
           ·rw [if_pos c15] at H
            have c15b0 : decide (0 ≤ (ji14)) = true := decide_eq_true c15
            clear c15
            replace H := Option.bind_eq_some_iff.mp H
            obtain ⟨t248, A170, H⟩ := H
            replace H : (brookref1_value.j1 k1 a0 x4_1 x5_1 (decide (t248 ≥ 0))) = some (r1, r2) := H
            have A17 := Aside0.mk A170
            clear A170
            have H' := Aside0.mk H
            clear H
            have p11 : 0 ≤ ((ji8) : Int) := of_decide_eq_true (by first | (with_reducible assumption) | assumption)
            have q11 : (ji8) < (a0.size : Int) := of_decide_eq_true (by first | (with_reducible assumption) | assumption)
            have hx11 := bt_at a0 (ji8)
            replace p11 := eq_true p11
            replace q11 := eq_true q11
            go_wp2_with (first | (go_at_call 85; (with_reducible refine (brookref1_hex.calls k1 (bt a0 (ji8)) t247 _ A12.out).mono ?_); rintro e w' ⟨rfl, ⟨nd, rfl⟩⟩; have p16 : 0 ≤ ((ji14) : Int) := of_decide_eq_true (by first | (with_reducible assumption) | assumption); have q16 : (ji14) < (a0.size : Int) := of_decide_eq_true (by first | (with_reducible assumption) | assumption); have hx16 := bt_at a0 (ji14); replace p16 := eq_true p16; replace q16 := eq_true q16) | (go_at_call 85; (with_reducible refine (brookref1_hex.calls k1 (bt a0 (ji14)) t248 _ A17.out).mono ?_); rintro e w' ⟨rfl, ⟨nd, rfl⟩⟩))
            go_meet
            case rel => exact ⟨_, (decide (t248 ≥ 0)), (by first | rfl | (simp; done) | (simp [*]; done) | (simp [u8_w, i64_w]; done) | (simp [isEmpty_bne]; done)), H', ⟨by have := HK1.out; first | omega | exact Nat.le_refl _⟩, ⟨by (with_reducible repeat (first | apply Kd.R_alloc | apply Kd.R_drewN | apply Kd.R_drew)); exact HO_4.out⟩, ⟨by repeat (first | (with_reducible first | exact HB.out | apply below_alloc | apply pw_below_drewN | apply below_drew1) | exact HB.out)⟩⟩
           ·rw [if_neg c15] at H
            exact absurd H (by simp)
          ·rw [if_neg c13] at H
           have c13b0 : decide (0 ≤ t247) = false := decide_eq_false c13
           clear c13
           have H' := Aside0.mk H
           clear H
           have p11 : 0 ≤ ((ji8) : Int) := of_decide_eq_true (by first | (with_reducible assumption) | assumption)
           have q11 : (ji8) < (a0.size : Int) := of_decide_eq_true (by first | (with_reducible assumption) | assumption)
           have hx11 := bt_at a0 (ji8)
           replace p11 := eq_true p11
           replace q11 := eq_true q11
           go_wp2_with (first | (go_at_call 85; (with_reducible refine (brookref1_hex.calls k1 (bt a0 (ji8)) t247 _ A12.out).mono ?_); rintro e w' ⟨rfl, ⟨nd, rfl⟩⟩))
           go_meet
           case rel => exact ⟨_, (false), (by first | rfl | (simp; done) | (simp [*]; done) | (simp [u8_w, i64_w]; done) | (simp [isEmpty_bne]; done)), H', ⟨by have := HK1.out; first | omega | exact Nat.le_refl _⟩, ⟨by (with_reducible repeat (first | apply Kd.R_alloc | apply Kd.R_drewN | apply Kd.R_drew)); exact HO_4.out⟩, ⟨by repeat (first | (with_reducible first | exact HB.out | apply below_alloc | apply pw_below_drewN | apply below_drew1) | exact HB.out)⟩⟩
         ·rw [if_neg c10] at H
          exact absurd H (by simp)
        ·rw [if_neg c9] at H
         exact absurd H (by simp)
       ·rw [if_neg c7] at H
        have c7b0 : decide ((wrap64 (x5_1 + 2)) < (a0.size : Int)) = false := decide_eq_false c7
        clear c7
        (first | rw [c7b0] | (simp only [i64_w, i32_w]; rw [c7b0]) | skip)
        have H' := Aside0.mk H
        clear H
        go_wp2
        go_meet
        case rel => exact ⟨_, (false), (by first | rfl | (simp; done) | (simp [*]; done) | (simp [u8_w, i64_w]; done) | (simp [isEmpty_bne]; done)), H', ⟨by have := HK1.out; first | omega | exact Nat.le_refl _⟩, ⟨by (with_reducible repeat (first | apply Kd.R_alloc | apply Kd.R_drewN | apply Kd.R_drew)); exact HO_4.out⟩, ⟨by repeat (first | (with_reducible first | exact HB.out | apply below_alloc | apply pw_below_drewN | apply below_drew1) | exact HB.out)⟩⟩
      case rest =>
       clear HC6
       try clear c1
       try clear p1
       try clear q1
       try clear hx1
       try clear c2
       try clear c2b0
       try clear p2
       try clear c3
       try clear c3b0
       try clear p4
       try clear q4
       try clear hx4
       try clear c5
       try clear c5b0
       try clear c5b1
       try clear c6
       try clear p6
       try clear c7
       try clear c7b0
       try clear c9
       try clear c9b0
       try clear c10
       try clear c10b0
       try clear p11
       try clear q11
       try clear hx11
       try clear c13
       try clear c13b0
       try clear c15
       try clear c15b0
       try clear p16
       try clear q16
       try clear hx16
       try clear p11
       try clear p16
       try clear p4
       try clear q11
       try clear q16
       try clear q4
       obtain ⟨kq, x38_5, rfl, HA, HJ5, HO_4, HB⟩ := hcut
       cases kq with
       | zero => exact absurd HA.out (by simp [brookref1_value.j1])
       | succ kj5 =>
        have H := HA.out
        clear HA
        simp only [brookref1_value.j1] at H
        by_cases c18 : x38_5 = true
        ·subst c18
         have H1 : (if 0 ≤ (wrap64 (x5_1 + 1)) then (if (wrap64 (x5_1 + 1)) < (a0.size : Int) then ((brookref1_hex.f kj5 (bt a0 (wrap64 (x5_1 + 1)))).bind fun t249 => (if 0 ≤ (wrap64 (x5_1 + 2)) then (if (wrap64 (x5_1 + 2)) < (a0.size : Int) then ((brookref1_hex.f kj5 (bt a0 (wrap64 (x5_1 + 2)))).bind fun t250 => (if x4_1.length < 140737488355328 then (brookref1_value.l0 kj5 a0 (x4_1 ++ [(wrap64 ((wrap64 (t249 * 16)) + t250)) % 256]) (wrap64 ((wrap64 (x5_1 + 2)) + 1))) else (none))) else (none)) else (none))) else (none)) else (none)) = some (r1, r2) := by rw [if_pos rfl] at H; exact H
         clear H
         have H := H1
         clear H1
         obtain ⟨ji19, hji19⟩ : ∃ j_ : Int, (wrap64 (x5_1 + 1)) = j_ := ⟨_, rfl⟩
         replace H : (if 0 ≤ (ji19) then (if (ji19) < (a0.size : Int) then ((brookref1_hex.f kj5 (bt a0 (ji19))).bind fun t249 => (if 0 ≤ (wrap64 (x5_1 + 2)) then (if (wrap64 (x5_1 + 2)) < (a0.size : Int) then ((brookref1_hex.f kj5 (bt a0 (wrap64 (x5_1 + 2)))).bind fun t250 => (if x4_1.length < 140737488355328 then (brookref1_value.l0 kj5 a0 (x4_1 ++ [(wrap64 ((wrap64 (t249 * 16)) + t250)) % 256]) (wrap64 ((wrap64 (x5_1 + 2)) + 1))) else (none))) else (none)) else (none))) else (none)) else (none)) = some (r1, r2) := by first | (rw [hji19] at H; exact H) | (simp only [hji19] at H ⊢; exact H)
         have hji19w : (IntKind.i64.wrap (x5_1 + 1)) = ji19 := (i64_w _).trans hji19
         by_cases c20 : 0 ≤ (ji19)
         ·rw [if_pos c20] at H
          have c20b0 : decide (0 ≤ (ji19)) = true := decide_eq_true c20
          clear c20
          by_cases c21 : (ji19) < (a0.size : Int)
          ·rw [if_pos c21] at H
           have c21b0 : decide ((ji19) < (a0.size : Int)) = true := decide_eq_true c21
           clear c21
           replace H := Option.bind_eq_some_iff.mp H
           obtain ⟨t249, A230, H⟩ := H
           replace H : (if 0 ≤ (wrap64 (x5_1 + 2)) then (if (wrap64 (x5_1 + 2)) < (a0.size : Int) then ((brookref1_hex.f kj5 (bt a0 (wrap64 (x5_1 + 2)))).bind fun t250 => (if x4_1.length < 140737488355328 then (brookref1_value.l0 kj5 a0 (x4_1 ++ [(wrap64 ((wrap64 (t249 * 16)) + t250)) % 256]) (wrap64 ((wrap64 (x5_1 + 2)) + 1))) else (none))) else (none)) else (none)) = some (r1, r2) := H
           have A23 := Aside0.mk A230
           clear A230
           obtain ⟨ji24, hji24⟩ : ∃ j_ : Int, (wrap64 (x5_1 + 2)) = j_ := ⟨_, rfl⟩
           replace H : (if 0 ≤ (ji24) then (if (ji24) < (a0.size : Int) then ((brookref1_hex.f kj5 (bt a0 (ji24))).bind fun t250 => (if x4_1.length < 140737488355328 then (brookref1_value.l0 kj5 a0 (x4_1 ++ [(wrap64 ((wrap64 (t249 * 16)) + t250)) % 256]) (wrap64 ((ji24) + 1))) else (none))) else (none)) else (none)) = some (r1, r2) := by first | (rw [hji24] at H; exact H) | (simp only [hji24] at H ⊢; exact H)
           (try rw [hji24] at A23)
           have hji24w : (IntKind.i64.wrap (x5_1 + 2)) = ji24 := (i64_w _).trans hji24
           by_cases c25 : 0 ≤ (ji24)
           ·rw [if_pos c25] at H
            have c25b0 : decide (0 ≤ (ji24)) = true := decide_eq_true c25
            clear c25
            by_cases c26 : (ji24) < (a0.size : Int)
            ·rw [if_pos c26] at H
             have c26b0 : decide ((ji24) < (a0.size : Int)) = true := decide_eq_true c26
             clear c26
             replace H := Option.bind_eq_some_iff.mp H
             obtain ⟨t250, A280, H⟩ := H
             replace H : (if x4_1.length < 140737488355328 then (brookref1_value.l0 kj5 a0 (x4_1 ++ [(wrap64 ((wrap64 (t249 * 16)) + t250)) % 256]) (wrap64 ((ji24) + 1))) else (none)) = some (r1, r2) := H
             have A28 := Aside0.mk A280
             clear A280
             by_cases c29 : x4_1.length < 140737488355328
             ·rw [if_pos c29] at H
              have LMc29 := Aside0.mk c29
              clear c29
              obtain ⟨y251, hy251⟩ : ∃ y_ : List Int, y_ = (x4_1 ++ [(wrap64 ((wrap64 (t249 * 16)) + t250)) % 256]) := ⟨_, rfl⟩
              replace H : (brookref1_value.l0 kj5 a0 y251 (wrap64 ((ji24) + 1))) = some (r1, r2) := by first | (rw [hy251]; with_reducible exact H) | (have H2_ := (Option.bind_some _ _).symm.trans H; rw [hy251]; with_reducible exact H2_) | (have H2_ := (Option.bind_some _ _).symm.trans H; with_reducible exact H2_) | with_reducible exact H | (rw [hy251]; exact H) | exact H
              have Ny251 := Aside0.mk hy251
              clear hy251
              have H' := Aside0.mk H
              clear H
              try go_wp2
              have n0_ := Aside0.mk (Kd.R_drew HO_4.out)
              have n1_ := Aside0.mk (below_drew1 HB.out)
              clear HO_4
              clear HB
              have HO_4 := n0_
              have HB := n1_
              clear n0_ n1_
              have p22 : 0 ≤ ((ji19) : Int) := of_decide_eq_true (by first | (with_reducible assumption) | assumption)
              have q22 : (ji19) < (a0.size : Int) := of_decide_eq_true (by first | (with_reducible assumption) | assumption)
              have hx22 := bt_at a0 (ji19)
              replace p22 := eq_true p22
              replace q22 := eq_true q22
              have p27 : 0 ≤ ((ji24) : Int) := of_decide_eq_true (by first | (with_reducible assumption) | assumption)
              have q27 : (ji24) < (a0.size : Int) := of_decide_eq_true (by first | (with_reducible assumption) | assumption)
              have hx27 := bt_at a0 (ji24)
              replace p27 := eq_true p27
              replace q27 := eq_true q27
              refine start_ (n := 17) (S := fun w' => True) (ds := []) #[false, false, false, false, false, false, false, false, false, false, false, false, false, false, false, false, false] (by kernel_rfl) rfl rfl trivial (fun hHeld => ?_); refine with_tabW brookref1_value.tab8 brookref1_value.bits8 (fun HT_ HW_ => ?_)
              generalize wc.drew = w30 at HO_4 HB hHeld ⊢
              refine pure_ (i := 0) (N := some 39) (v := ?_) (a' := ?_) #[true, false, false, false, false, false, false, false, false, false, false, false, false, false, false, false, false] rfl rfl (any_of HT_.out (by kernel_rfl)) (fun _ _ _ h => h) (Or.inl ⟨by rfl, ?_⟩) ?_ ?_
              rotate_left
              ·intro w'
               go_simp
               with_reducible rfl
              rotate_left
              ·simp only [Act.put, List.setIfInBounds_toArray, List.set_cons_zero, List.set_cons_succ, i64_w, i32_w]
               rfl
              refine pure_ (i := 1) (N := some 40) (v := ?_) (a' := ?_) #[true, true, false, false, false, false, false, false, false, false, false, false, false, false, false, false, false] rfl rfl (any_of HT_.out (by kernel_rfl)) (fun _ _ _ h => h) (Or.inl ⟨by rfl, ?_⟩) ?_ ?_
              rotate_left
              ·intro w'
               go_simp
               with_reducible rfl
              rotate_left
              ·simp only [Act.put, List.setIfInBounds_toArray, List.set_cons_zero, List.set_cons_succ, i64_w, i32_w]
               rfl
              refine pure_ (i := 2) (N := some 41) (v := ?_) (a' := ?_) #[true, true, true, false, false, false, false, false, false, false, false, false, false, false, false, false, false] rfl rfl (any_of HT_.out (by kernel_rfl)) (fun _ _ _ h => h) (Or.inl ⟨by rfl, ?_⟩) ?_ ?_
              rotate_left
              ·intro w'
               go_simp
               with_reducible rfl
              rotate_left
              ·simp only [Act.put, List.setIfInBounds_toArray, List.set_cons_zero, List.set_cons_succ, i64_w, i32_w]
               rfl
              refine pure_ (i := 3) (N := some 42) (v := ?_) (a' := ?_) #[true, true, true, true, false, false, false, false, false, false, false, false, false, false, false, false, false] rfl rfl (any_of HT_.out (by kernel_rfl)) (fun _ _ _ h => h) (Or.inl ⟨by rfl, ?_⟩) ?_ ?_
              rotate_left
              ·intro w'
               go_simp
               with_reducible rfl
              rotate_left
              ·simp only [Act.put, List.setIfInBounds_toArray, List.set_cons_zero, List.set_cons_succ, i64_w, i32_w]
               rfl
              refine pure_ (i := 7) (N := some 46) (v := ?_) (a' := ?_) #[true, true, true, true, false, false, false, true, false, false, false, false, false, false, false, false, false] rfl rfl (any_of HT_.out (by kernel_rfl)) (fun _ _ _ h => h) (Or.inl ⟨by rfl, ?_⟩) ?_ ?_
              rotate_left
              ·intro w'
               go_simp
               with_reducible rfl
              rotate_left
              ·simp only [Act.put, List.setIfInBounds_toArray, List.set_cons_zero, List.set_cons_succ, i64_w, i32_w]
               rfl
              refine pure_ (i := 8) (N := some 47) (v := ?_) (a' := ?_) #[true, true, true, true, false, false, false, true, true, false, false, false, false, false, false, false, false] rfl rfl (any_of HT_.out (by kernel_rfl)) (fun _ _ _ h => h) (Or.inl ⟨by rfl, ?_⟩) ?_ ?_
              rotate_left
              ·intro w'
               go_simp
               with_reducible rfl
              rotate_left
              ·simp only [Act.put, List.setIfInBounds_toArray, List.set_cons_zero, List.set_cons_succ, i64_w, i32_w]
               rfl
              refine pure_ (i := 9) (N := some 48) (v := ?_) (a' := ?_) #[true, true, true, true, false, false, false, true, true, true, false, false, false, false, false, false, false] rfl rfl (any_of HT_.out (by kernel_rfl)) (fun _ _ _ h => h) (Or.inl ⟨by rfl, ?_⟩) ?_ ?_
              rotate_left
              ·intro w'
               go_simp
               with_reducible rfl
              rotate_left
              ·simp only [Act.put, List.setIfInBounds_toArray, List.set_cons_zero, List.set_cons_succ, i64_w, i32_w]
               rfl
              refine take_ (i := 4) (N := some 43) (v := ?_) (a' := ?_) #[true, true, true, true, true, false, false, true, true, true, false, false, false, false, false, false, false] rfl rfl (take_ofW HT_.out HW_.out (by kernel_rfl)) (fun _ _ _ h => h) (Or.inl ⟨by rfl, ?_⟩) hHeld ?_ ?_
              rotate_left
              ·intro w' _
               go_simp
               with_reducible rfl
              rotate_left
              ·simp only [Act.put, List.setIfInBounds_toArray, List.set_cons_zero, List.set_cons_succ, i64_w, i32_w]
               rfl
              refine take_ (i := 10) (N := some 49) (v := ?_) (a' := ?_) #[true, true, true, true, true, false, false, true, true, true, true, false, false, false, false, false, false] rfl rfl (take_ofW HT_.out HW_.out (by kernel_rfl)) (fun _ _ _ h => h) (Or.inl ⟨by rfl, ?_⟩) hHeld ?_ ?_
              rotate_left
              ·intro w' _
               go_simp
               with_reducible rfl
              rotate_left
              ·simp only [Act.put, List.setIfInBounds_toArray, List.set_cons_zero, List.set_cons_succ, i64_w, i32_w]
               rfl
              refine one_ (i := 5) (N := some 44) #[true, true, true, true, true, true, false, true, true, true, true, false, false, false, false, false, false] rfl rfl (one_of HT_.out (by kernel_rfl)) (by decide) (fun K hK => ?_)
              refine goes_ Tryd.func85 (by kernel_rfl) rfl #[.int .u8 (bt a0 (ji19))] (by rfl) rfl rfl (by (try simp only [List.map_toArray, List.map_cons, List.map_nil]); first | done | (simp only [hji19]; rfl) | rfl | (simp only [List.length_drop, List.length_take]; rfl)) ?_
              with_reducible refine (brookref1_hex.calls kj5 (bt a0 (ji19)) t249 _ A23.out).mono ?_
              rintro e w' ⟨rfl, ⟨nd, rfl⟩⟩
              refine ⟨_, rfl, ?_⟩
              refine hK.out _ _ trivial (fun hHeld => ?_)
              clear hK K
              refine norm_ (a' := ?_) ?_ ?_
              rotate_left
              ·show Act.put _ (some 44) _ = _
               simp only [Act.put, List.setIfInBounds_toArray, List.set_cons_zero, List.set_cons_succ, i64_w, i32_w]
               rfl
              refine pure_ (i := 6) (N := some 45) (v := ?_) (a' := ?_) #[true, true, true, true, true, true, true, true, true, true, true, false, false, false, false, false, false] rfl rfl (any_of HT_.out (by kernel_rfl)) (fun _ _ _ h => h) (Or.inl ⟨by rfl, ?_⟩) ?_ ?_
              rotate_left
              ·intro w'
               go_simp
               with_reducible rfl
              rotate_left
              ·simp only [Act.put, List.setIfInBounds_toArray, List.set_cons_zero, List.set_cons_succ, i64_w, i32_w]
               rfl
              refine one_ (i := 11) (N := some 50) #[true, true, true, true, true, true, true, true, true, true, true, true, false, false, false, false, false] rfl rfl (one_of HT_.out (by kernel_rfl)) (by decide) (fun K hK => ?_)
              refine goes_ Tryd.func85 (by kernel_rfl) rfl #[.int .u8 (bt a0 (ji24))] (by rfl) rfl rfl (by (try simp only [List.map_toArray, List.map_cons, List.map_nil]); first | done | (simp only [hji24]; rfl) | rfl | (simp only [List.length_drop, List.length_take]; rfl)) ?_
              with_reducible refine (brookref1_hex.calls kj5 (bt a0 (ji24)) t250 _ A28.out).mono ?_
              rintro e w' ⟨rfl, ⟨nd, rfl⟩⟩
              refine ⟨_, rfl, ?_⟩
              refine hK.out _ _ trivial (fun hHeld => ?_)
              clear hK K
              refine norm_ (a' := ?_) ?_ ?_
              rotate_left
              ·show Act.put _ (some 50) _ = _
               simp only [Act.put, List.setIfInBounds_toArray, List.set_cons_zero, List.set_cons_succ, i64_w, i32_w]
               rfl
              refine pure_ (i := 12) (N := some 51) (v := ?_) (a' := ?_) #[true, true, true, true, true, true, true, true, true, true, true, true, true, false, false, false, false] rfl rfl (any_of HT_.out (by kernel_rfl)) (fun _ _ _ h => h) (Or.inl ⟨by rfl, ?_⟩) ?_ ?_
              rotate_left
              ·intro w'
               go_simp
               with_reducible rfl
              rotate_left
              ·simp only [Act.put, List.setIfInBounds_toArray, List.set_cons_zero, List.set_cons_succ, i64_w, i32_w]
               rfl
              refine pure_ (i := 13) (N := some 52) (v := ?_) (a' := ?_) #[true, true, true, true, true, true, true, true, true, true, true, true, true, true, false, false, false] rfl rfl (any_of HT_.out (by kernel_rfl)) (fun _ _ _ h => h) (Or.inl ⟨by rfl, ?_⟩) ?_ ?_
              rotate_left
              ·intro w'
               go_simp
               with_reducible rfl
              rotate_left
              ·simp only [Act.put, List.setIfInBounds_toArray, List.set_cons_zero, List.set_cons_succ, i64_w, i32_w]
               rfl
              refine one_ (i := 14) (N := some 53) #[true, true, true, true, true, true, true, true, true, true, true, true, true, true, true, false, false] rfl rfl (one_of HT_.out (by kernel_rfl)) (by decide) (fun K hK => ?_)
              refine value_ (w1 := ?_) (v := ?_) (by rfl) rfl ?_ ?_
              rotate_left 2
              ·go_simp
               constructor
               ·rfl
               ·rfl
              refine hK.out _ _ trivial (fun hHeld => ?_)
              clear hK K
              refine norm_ (a' := ?_) ?_ ?_
              rotate_left
              ·show Act.put _ (some 53) _ = _
               simp only [Act.put, List.setIfInBounds_toArray, List.set_cons_zero, List.set_cons_succ, i64_w, i32_w]
               rfl
              refine one_ (i := 15) (N := some 54) #[true, true, true, true, true, true, true, true, true, true, true, true, true, true, true, true, false] rfl rfl (one_of HT_.out (by kernel_rfl)) (by decide) (fun K hK => ?_)
              refine Kd.R_append_step (Kd.int .u8) (w0 := w) w.heap.size (by rfl) (.tmp 39) (.tmp 53) 29 5 (.int .u8 0) 1 rfl Tryd.underlying29 info5 rfl (by decide) (by omega) u4 x4_1 ((wrap64 ((wrap64 (t249 * 16)) + t250)) % 256) [.int .u8 ((wrap64 ((wrap64 (t249 * 16)) + t250)) % 256)] (fun _ => True) (fun _ => False) rfl rfl ?aP (fun _ hk => hk.elim) ?aF ?aO ?aB ?aS ?aL ?_
              (case aP => exact rfl)
              (case aB => exact (by repeat (first | (with_reducible first | exact HB.out | apply below_alloc | apply pw_below_drewN | apply below_drew1) | exact HB.out)))
              (case aF => exact (fun _ _ => trivial))
              (case aO => exact (by (with_reducible repeat (first | apply Kd.R_alloc | apply Kd.R_drewN | apply Kd.R_drew)); exact HO_4.out))
              (case aS => exact (below_size (by repeat (first | (with_reducible first | exact HB.out | apply below_alloc | apply pw_below_drewN | apply below_drew1) | exact HB.out))))
              (case aL => have := LMc29.out; omega)
              intro v252 w31 ho hb hg hat
              rw [← Ny251.out] at ho
              have n0_ := Aside0.mk (hb)
              have n1_ := Aside0.mk (ho)
              clear HB
              clear HO_4
              have HB := n0_
              have HO253 := n1_
              clear n0_ n1_
              clear ho hb hg hat
              refine hK.out _ _ trivial (fun hHeld => ?_)
              clear hK K
              refine norm_ (a' := ?_) ?_ ?_
              rotate_left
              ·show Act.put _ (some 54) _ = _
               simp only [Act.put, List.setIfInBounds_toArray, List.set_cons_zero, List.set_cons_succ, i64_w, i32_w]
               rfl
              refine pure_ (i := 16) (N := some 4) (v := ?_) (a' := ?_) #[true, true, true, true, true, true, true, true, true, true, true, true, true, true, true, true, true] rfl rfl (any_of HT_.out (by kernel_rfl)) (fun _ _ _ h => h) (Or.inl ⟨by rfl, ?_⟩) ?_ ?_
              rotate_left
              ·intro w'
               go_simp
               with_reducible rfl
              rotate_left
              ·simp only [Act.put, List.setIfInBounds_toArray, List.set_cons_zero, List.set_cons_succ, i64_w, i32_w]
               rfl
              refine done_ (done_of HT_.out (by kernel_rfl)) ?_
              try go_wp2
              go_roundg kj5
              case measure => have := HK1.out; have := HJ5.out; omega
              case rel => exact ⟨(y251), (wrap64 ((ji24) + 1)), (by first | rfl | (simp; done) | (simp only [← hji24] <;> (first | rfl | simp)) | (simp [*]; done)), H', ⟨by have := HK1.out; have := HJ5.out; omega⟩, ⟨by (with_reducible repeat (first | apply Kd.R_alloc | apply Kd.R_drewN | apply Kd.R_drew)); exact HO253.out⟩, ⟨by repeat (first | (with_reducible first | exact HB.out | apply below_alloc | apply pw_below_drewN | apply below_drew1) | exact HB.out)⟩⟩
             ·rw [if_neg c29] at H
              exact absurd H (by simp)
            ·rw [if_neg c26] at H
             exact absurd H (by simp)
           ·rw [if_neg c25] at H
            exact absurd H (by simp)
          ·rw [if_neg c21] at H
           exact absurd H (by simp)
         ·rw [if_neg c20] at H
          exact absurd H (by simp)
        ·replace c18 := Bool.eq_false_iff.mpr c18
         subst c18
         have H1 : (if (wrap64 (x5_1 + 1)) ≥ (a0.size : Int) then (brookref1_value.j2 kj5 a0 x4_1 x5_1 true) else (if 0 ≤ (wrap64 (x5_1 + 1)) then (if (wrap64 (x5_1 + 1)) < (a0.size : Int) then ((brookref1_in.f kj5 (⟨#[44, 43, 34, 92, 60, 62, 59, 61, 35, 32]⟩ : ByteArray) (bt a0 (wrap64 (x5_1 + 1)))).bind fun t254 => (brookref1_value.j2 kj5 a0 x4_1 x5_1 (!t254))) else (none)) else (none))) = some (r1, r2) := by rw [if_neg (show ¬ (false = true) by decide)] at H; exact H
         clear H
         have H := H1
         clear H1
         have HC32 := Aside0.mk H
         clear H
         go_upto_region 10 with (fail)
         go_cut [69] (fun v69 wc => ∃ (kq : Nat) (x69_31 : Bool), v69 = .bool x69_31 ∧ Aside0 (brookref1_value.j2 kq a0 x4_1 x5_1 x69_31 = some (r1, r2)) ∧ Aside0 (kq ≤ kj5) ∧ Aside0 (Kd.R (Kd.int .u8) 5 wc w.heap.size (fun _ => True) u4 x4_1) ∧ Aside0 (Below w.heap.size w wc))
         case first =>
          have H := HC32.out
          clear HC32
          by_cases c33 : (wrap64 (x5_1 + 1)) ≥ (a0.size : Int)
          ·rw [if_pos c33] at H
           have c33b0 : decide ((a0.size : Int) ≤ (wrap64 (x5_1 + 1))) = true := decide_eq_true c33
           clear c33
           (first | rw [c33b0] | (simp only [i64_w, i32_w]; rw [c33b0]) | skip)
           have H' := Aside0.mk H
           clear H
           go_wp2
           go_meet
           case rel => exact ⟨_, (true), (by first | rfl | (simp; done) | (simp [*]; done) | (simp [u8_w, i64_w]; done) | (simp [isEmpty_bne]; done)), H', ⟨by have := HK1.out; have := HJ5.out; first | omega | exact Nat.le_refl _⟩, ⟨by (with_reducible repeat (first | apply Kd.R_alloc | apply Kd.R_drewN | apply Kd.R_drew)); exact HO_4.out⟩, ⟨by repeat (first | (with_reducible first | exact HB.out | apply below_alloc | apply pw_below_drewN | apply below_drew1) | exact HB.out)⟩⟩
          ·rw [if_neg c33] at H
           have c33b0 : decide ((a0.size : Int) ≤ (wrap64 (x5_1 + 1))) = false := decide_eq_false c33
           clear c33
           (first | rw [c33b0] | (simp only [i64_w, i32_w]; rw [c33b0]) | skip)
           obtain ⟨ji34, hji34⟩ : ∃ j_ : Int, (wrap64 (x5_1 + 1)) = j_ := ⟨_, rfl⟩
           replace H : (if 0 ≤ (ji34) then (if (ji34) < (a0.size : Int) then ((brookref1_in.f kj5 (⟨#[44, 43, 34, 92, 60, 62, 59, 61, 35, 32]⟩ : ByteArray) (bt a0 (ji34))).bind fun t254 => (brookref1_value.j2 kj5 a0 x4_1 x5_1 (!t254))) else (none)) else (none)) = some (r1, r2) := by first | (rw [hji34] at H; exact H) | (simp only [hji34] at H ⊢; exact H)
           (try rw [hji34] at c33b0)
           have hji34w : (IntKind.i64.wrap (x5_1 + 1)) = ji34 := (i64_w _).trans hji34
           by_cases c35 : 0 ≤ (ji34)
           ·rw [if_pos c35] at H
            have c35b0 : decide (0 ≤ (ji34)) = true := decide_eq_true c35
            clear c35
            by_cases c36 : (ji34) < (a0.size : Int)
            ·rw [if_pos c36] at H
             have c36b0 : decide ((ji34) < (a0.size : Int)) = true := decide_eq_true c36
             clear c36
             replace H := Option.bind_eq_some_iff.mp H
             obtain ⟨t254, A380, H⟩ := H
             replace H : (brookref1_value.j2 kj5 a0 x4_1 x5_1 (!t254)) = some (r1, r2) := H
             have A38 := Aside0.mk A380
             clear A380
             have H' := Aside0.mk H
             clear H
             have p37 : 0 ≤ ((ji34) : Int) := of_decide_eq_true (by first | (with_reducible assumption) | assumption)
             have q37 : (ji34) < (a0.size : Int) := of_decide_eq_true (by first | (with_reducible assumption) | assumption)
             have hx37 := bt_at a0 (ji34)
             replace p37 := eq_true p37
             replace q37 := eq_true q37
             go_wp2_with (first | (go_at_call 74; (with_reducible refine (brookref1_in.calls kj5 (⟨#[44, 43, 34, 92, 60, 62, 59, 61, 35, 32]⟩ : ByteArray) (bt a0 (ji34)) t254 _ A38.out).mono ?_); rintro e w' ⟨rfl, ⟨nd, rfl⟩⟩))
             go_meet
             case rel => exact ⟨_, (!t254), (by first | rfl | (simp; done) | (simp [*]; done) | (simp [u8_w, i64_w]; done) | (simp [isEmpty_bne]; done)), H', ⟨by have := HK1.out; have := HJ5.out; first | omega | exact Nat.le_refl _⟩, ⟨by (with_reducible repeat (first | apply Kd.R_alloc | apply Kd.R_drewN | apply Kd.R_drew)); exact HO_4.out⟩, ⟨by repeat (first | (with_reducible first | exact HB.out | apply below_alloc | apply pw_below_drewN | apply below_drew1) | exact HB.out)⟩⟩
            ·rw [if_neg c36] at H
             exact absurd H (by simp)
           ·rw [if_neg c35] at H
            exact absurd H (by simp)
         case rest =>
          clear HC32
          try clear c1
          try clear p1
          try clear q1
          try clear hx1
          try clear c2
          try clear c2b0
          try clear p2
          try clear q2
          try clear hx2
          try clear c3
          try clear c3b0
          try clear p3
          try clear q3
          try clear hx3
          try clear p4
          try clear q4
          try clear hx4
          try clear c5
          try clear c5b0
          try clear c5b1
          try clear c6
          try clear p6
          try clear c7
          try clear c7b0
          try clear c8
          try clear c9
          try clear c9b0
          try clear c10
          try clear c10b0
          try clear p11
          try clear q11
          try clear hx11
          try clear c13
          try clear c13b0
          try clear c15
          try clear c15b0
          try clear p16
          try clear q16
          try clear hx16
          try clear c18
          try clear c20
          try clear c20b0
          try clear c21
          try clear c21b0
          try clear p22
          try clear q22
          try clear hx22
          try clear c25
          try clear c25b0
          try clear c26
          try clear c26b0
          try clear p27
          try clear q27
          try clear hx27
          try clear c29
          try clear c33
          try clear c33b0
          try clear c35
          try clear c35b0
          try clear c36
          try clear c36b0
          try clear p37
          try clear q37
          try clear hx37
          try clear p1
          try clear p11
          try clear p16
          try clear p2
          try clear p22
          try clear p27
          try clear p37
          try clear p4
          try clear p6
          try clear q1
          try clear q11
          try clear q16
          try clear q22
          try clear q27
          try clear q37
          try clear q4
          obtain ⟨kq, x69_31, rfl, HA, HJ31, HO_4, HB⟩ := hcut
          cases kq with
          | zero => exact absurd HA.out (by simp [brookref1_value.j2])
          | succ kj31 =>
           have H := HA.out
           clear HA
           simp only [brookref1_value.j2] at H
           by_cases c39 : x69_31 = true
           ·subst c39
            have H1 : (some ((⟨#[]⟩ : ByteArray), false)) = some (r1, r2) := by rw [if_pos rfl] at H; exact H
            clear H
            have H := H1
            clear H1
            simp only [Option.some.injEq, Prod.mk.injEq] at H
            obtain ⟨rfl, rfl⟩ := H
            go_wp2
            go_ret2
            exact ⟨by first | rfl | (simp [errW_none, errW_some] <;> rfl) | (simp [*, errW_none, errW_some] <;> rfl), by repeat (first | (with_reducible first | exact HB.out | apply below_alloc | apply pw_below_drewN | apply below_drew1) | exact HB.out)⟩
           ·replace c39 := Bool.eq_false_iff.mpr c39
            subst c39
            have H1 : (if 0 ≤ (wrap64 (x5_1 + 1)) then (if (wrap64 (x5_1 + 1)) < (a0.size : Int) then (if x4_1.length < 140737488355328 then (brookref1_value.l0 kj31 a0 (x4_1 ++ [bt a0 (wrap64 (x5_1 + 1))]) (wrap64 ((wrap64 (x5_1 + 1)) + 1))) else (none)) else (none)) else (none)) = some (r1, r2) := by rw [if_neg (show ¬ (false = true) by decide)] at H; exact H
            clear H
            have H := H1
            clear H1
            obtain ⟨ji40, hji40⟩ : ∃ j_ : Int, (wrap64 (x5_1 + 1)) = j_ := ⟨_, rfl⟩
            replace H : (if 0 ≤ (ji40) then (if (ji40) < (a0.size : Int) then (if x4_1.length < 140737488355328 then (brookref1_value.l0 kj31 a0 (x4_1 ++ [bt a0 (ji40)]) (wrap64 ((ji40) + 1))) else (none)) else (none)) else (none)) = some (r1, r2) := by first | (rw [hji40] at H; exact H) | (simp only [hji40] at H ⊢; exact H)
            have hji40w : (IntKind.i64.wrap (x5_1 + 1)) = ji40 := (i64_w _).trans hji40
            by_cases c41 : 0 ≤ (ji40)
            ·rw [if_pos c41] at H
             have c41b0 : decide (0 ≤ (ji40)) = true := decide_eq_true c41
             clear c41
             by_cases c42 : (ji40) < (a0.size : Int)
             ·rw [if_pos c42] at H
              have c42b0 : decide ((ji40) < (a0.size : Int)) = true := decide_eq_true c42
              clear c42
              by_cases c44 : x4_1.length < 140737488355328
              ·rw [if_pos c44] at H
               have LMc44 := Aside0.mk c44
               clear c44
               obtain ⟨y255, hy255⟩ : ∃ y_ : List Int, y_ = (x4_1 ++ [bt a0 (ji40)]) := ⟨_, rfl⟩
               replace H : (brookref1_value.l0 kj31 a0 y255 (wrap64 ((ji40) + 1))) = some (r1, r2) := by first | (rw [hy255]; with_reducible exact H) | (have H2_ := (Option.bind_some _ _).symm.trans H; rw [hy255]; with_reducible exact H2_) | (have H2_ := (Option.bind_some _ _).symm.trans H; with_reducible exact H2_) | with_reducible exact H | (rw [hy255]; exact H) | exact H
               have Ny255 := Aside0.mk hy255
               clear hy255
               have H' := Aside0.mk H
               clear H
               have p43 : 0 ≤ ((ji40) : Int) := of_decide_eq_true (by first | (with_reducible assumption) | assumption)
               have q43 : (ji40) < (a0.size : Int) := of_decide_eq_true (by first | (with_reducible assumption) | assumption)
               have hx43 := bt_at a0 (ji40)
               replace p43 := eq_true p43
               replace q43 := eq_true q43
               go_wp2_with (first | ((with_reducible refine gate_builtin (b := .append) (xs := #[.tmp 70, .tmp 75]) rfl ?_); (try (refine gate_guard (by rfl) ?_; dsimp only)); at_builtin; refine Kd.R_append (Kd.int .u8) (w0 := w) w.heap.size rfl (.tmp 70) (.tmp 75) 29 5 (.int .u8 0) 1 rfl Tryd.underlying29 info5 rfl (by decide) (by omega) u4 x4_1 (bt a0 (ji40)) [.int .u8 (bt a0 (ji40))] (fun _ => True) (fun _ => False) rfl rfl ?aP (fun _ hk => hk.elim) ?aF ?aO ?aB ?aS ?aL ?_; (case aP => exact rfl); (case aB => exact (by repeat (first | (with_reducible first | exact HB.out | apply below_alloc | apply pw_below_drewN | apply below_drew1) | exact HB.out))); (case aF => exact (fun _ _ => trivial)); (case aO => exact (by (with_reducible repeat (first | apply Kd.R_alloc | apply Kd.R_drewN | apply Kd.R_drew)); exact HO_4.out)); (case aS => exact (below_size (by repeat (first | (with_reducible first | exact HB.out | apply below_alloc | apply pw_below_drewN | apply below_drew1) | exact HB.out)))); (case aL => have := LMc44.out; omega); intro v256 w45 ho hb hg hat; rw [← Ny255.out] at ho; have n0_ := Aside0.mk (hb); have n1_ := Aside0.mk (ho); clear HB; clear HO_4; have HB := n0_; have HO257 := n1_; clear n0_ n1_; clear ho hb hg hat))
               go_roundg kj31
               case measure => have := HK1.out; have := HJ5.out; have := HJ31.out; omega
               case rel => exact ⟨(y255), (wrap64 ((ji40) + 1)), (by first | rfl | (simp; done) | (simp only [← hji40] <;> (first | rfl | simp)) | (simp [*]; done)), H', ⟨by have := HK1.out; have := HJ5.out; have := HJ31.out; omega⟩, ⟨by (with_reducible repeat (first | apply Kd.R_alloc | apply Kd.R_drewN | apply Kd.R_drew)); exact HO257.out⟩, ⟨by repeat (first | (with_reducible first | exact HB.out | apply below_alloc | apply pw_below_drewN | apply below_drew1) | exact HB.out)⟩⟩
              ·rw [if_neg c44] at H
               exact absurd H (by simp)
             ·rw [if_neg c42] at H
              exact absurd H (by simp)
            ·rw [if_neg c41] at H
             exact absurd H (by simp)
     ·rw [if_neg c5] at H
      have c5b0 : ((bt a0 x5_1) == 92) = false := beq_eq_false_iff_ne.mpr c5
      have c5b1 : ((bt a0 x5_1) != 92) = true := bne_iff_ne.mpr c5
      by_cases c46 : (bt a0 x5_1) < 32
      ·rw [if_pos c46] at H
       have c46b0 : decide ((bt a0 x5_1) < 32) = true := decide_eq_true c46
       clear c46
       simp only [Option.some.injEq, Prod.mk.injEq] at H
       obtain ⟨rfl, rfl⟩ := H
       have p4 : 0 ≤ (x5_1 : Int) := of_decide_eq_true (by first | (with_reducible assumption) | assumption)
       have q4 : x5_1 < (a0.size : Int) := of_decide_eq_true (by first | (with_reducible assumption) | assumption)
       have hx4 := bt_at a0 x5_1
       replace p4 := eq_true p4
       replace q4 := eq_true q4
       go_wp2
       go_ret2
       exact ⟨by first | rfl | (simp [errW_none, errW_some] <;> rfl) | (simp [*, errW_none, errW_some] <;> rfl), by repeat (first | (with_reducible first | exact HB.out | apply below_alloc | apply pw_below_drewN | apply below_drew1) | exact HB.out)⟩
      ·rw [if_neg c46] at H
       have c46b0 : decide ((bt a0 x5_1) < 32) = false := decide_eq_false c46
       clear c46
       by_cases c47 : (bt a0 x5_1) > 126
       ·rw [if_pos c47] at H
        have c47b0 : decide (126 < (bt a0 x5_1)) = true := decide_eq_true c47
        clear c47
        simp only [Option.some.injEq, Prod.mk.injEq] at H
        obtain ⟨rfl, rfl⟩ := H
        have p4 : 0 ≤ (x5_1 : Int) := of_decide_eq_true (by first | (with_reducible assumption) | assumption)
        have q4 : x5_1 < (a0.size : Int) := of_decide_eq_true (by first | (with_reducible assumption) | assumption)
        have hx4 := bt_at a0 x5_1
        replace p4 := eq_true p4
        replace q4 := eq_true q4
        go_wp2
        go_ret2
        exact ⟨by first | rfl | (simp [errW_none, errW_some] <;> rfl) | (simp [*, errW_none, errW_some] <;> rfl), by repeat (first | (with_reducible first | exact HB.out | apply below_alloc | apply pw_below_drewN | apply below_drew1) | exact HB.out)⟩
       ·rw [if_neg c47] at H
        have c47b0 : decide (126 < (bt a0 x5_1)) = false := decide_eq_false c47
        clear c47
        replace H := Option.bind_eq_some_iff.mp H
        obtain ⟨t258, A480, H⟩ := H
        replace H : (if t258 = true then (some ((⟨#[]⟩ : ByteArray), false)) else (if x5_1 = 0 then (if (bt a0 x5_1) = 35 then (some ((⟨#[]⟩ : ByteArray), false)) else (if (bt a0 x5_1) = 32 then (some ((⟨#[]⟩ : ByteArray), false)) else (if x5_1 = (wrap64 ((a0.size : Int) - 1)) then (if x4_1.length < 140737488355328 then (brookref1_value.l0 k1 a0 (x4_1 ++ [bt a0 x5_1]) (wrap64 (x5_1 + 1))) else (none)) else (if x4_1.length < 140737488355328 then (brookref1_value.l0 k1 a0 (x4_1 ++ [bt a0 x5_1]) (wrap64 (x5_1 + 1))) else (none))))) else (if x5_1 = (wrap64 ((a0.size : Int) - 1)) then (if (bt a0 x5_1) = 32 then (some ((⟨#[]⟩ : ByteArray), false)) else (if x4_1.length < 140737488355328 then (brookref1_value.l0 k1 a0 (x4_1 ++ [bt a0 x5_1]) (wrap64 (x5_1 + 1))) else (none))) else (if x4_1.length < 140737488355328 then (brookref1_value.l0 k1 a0 (x4_1 ++ [bt a0 x5_1]) (wrap64 (x5_1 + 1))) else (none))))) = some (r1, r2) := H
        have A48 := Aside0.mk A480
        clear A480
        by_cases c49 : t258 = true
        ·subst c49
         have H1 : (some ((⟨#[]⟩ : ByteArray), false)) = some (r1, r2) := by rw [if_pos rfl] at H; exact H
         clear H
         have H := H1
         clear H1
         simp only [Option.some.injEq, Prod.mk.injEq] at H
         obtain ⟨rfl, rfl⟩ := H
         have p4 : 0 ≤ (x5_1 : Int) := of_decide_eq_true (by first | (with_reducible assumption) | assumption)
         have q4 : x5_1 < (a0.size : Int) := of_decide_eq_true (by first | (with_reducible assumption) | assumption)
         have hx4 := bt_at a0 x5_1
         replace p4 := eq_true p4
         replace q4 := eq_true q4
         go_wp2_with (first | (go_at_call 74; (with_reducible refine (brookref1_in.calls k1 (⟨#[44, 43, 34, 60, 62, 59]⟩ : ByteArray) (bt a0 x5_1) true _ A48.out).mono ?_); rintro e w' ⟨rfl, ⟨nd, rfl⟩⟩))
         go_ret2
         exact ⟨by first | rfl | (simp [errW_none, errW_some] <;> rfl) | (simp [*, errW_none, errW_some] <;> rfl), by repeat (first | (with_reducible first | exact HB.out | apply below_alloc | apply pw_below_drewN | apply below_drew1) | exact HB.out)⟩
        ·replace c49 := Bool.eq_false_iff.mpr c49
         subst c49
         have H1 : (if x5_1 = 0 then (if (bt a0 x5_1) = 35 then (some ((⟨#[]⟩ : ByteArray), false)) else (if (bt a0 x5_1) = 32 then (some ((⟨#[]⟩ : ByteArray), false)) else (if x5_1 = (wrap64 ((a0.size : Int) - 1)) then (if x4_1.length < 140737488355328 then (brookref1_value.l0 k1 a0 (x4_1 ++ [bt a0 x5_1]) (wrap64 (x5_1 + 1))) else (none)) else (if x4_1.length < 140737488355328 then (brookref1_value.l0 k1 a0 (x4_1 ++ [bt a0 x5_1]) (wrap64 (x5_1 + 1))) else (none))))) else (if x5_1 = (wrap64 ((a0.size : Int) - 1)) then (if (bt a0 x5_1) = 32 then (some ((⟨#[]⟩ : ByteArray), false)) else (if x4_1.length < 140737488355328 then (brookref1_value.l0 k1 a0 (x4_1 ++ [bt a0 x5_1]) (wrap64 (x5_1 + 1))) else (none))) else (if x4_1.length < 140737488355328 then (brookref1_value.l0 k1 a0 (x4_1 ++ [bt a0 x5_1]) (wrap64 (x5_1 + 1))) else (none)))) = some (r1, r2) := by rw [if_neg (show ¬ (false = true) by decide)] at H; exact H
         clear H
         have H := H1
         clear H1
         by_cases c50 : x5_1 = 0
         ·rw [if_pos c50] at H
          have c50b0 : (x5_1 == 0) = true := beq_iff_eq.mpr c50
          have c50b1 : (x5_1 != 0) = false := bne_eq_false_iff_eq.mpr c50
          clear c50
          by_cases c51 : (bt a0 x5_1) = 35
          ·rw [if_pos c51] at H
           have c51b0 : ((bt a0 x5_1) == 35) = true := beq_iff_eq.mpr c51
           have c51b1 : ((bt a0 x5_1) != 35) = false := bne_eq_false_iff_eq.mpr c51
           clear c51
           simp only [Option.some.injEq, Prod.mk.injEq] at H
           obtain ⟨rfl, rfl⟩ := H
           have p4 : 0 ≤ (x5_1 : Int) := of_decide_eq_true (by first | (with_reducible assumption) | assumption)
           have q4 : x5_1 < (a0.size : Int) := of_decide_eq_true (by first | (with_reducible assumption) | assumption)
           have hx4 := bt_at a0 x5_1
           replace p4 := eq_true p4
           replace q4 := eq_true q4
           go_wp2_with (first | (go_at_call 74; (with_reducible refine (brookref1_in.calls k1 (⟨#[44, 43, 34, 60, 62, 59]⟩ : ByteArray) (bt a0 x5_1) false _ A48.out).mono ?_); rintro e w' ⟨rfl, ⟨nd, rfl⟩⟩))
           go_ret2
           exact ⟨by first | rfl | (simp [errW_none, errW_some] <;> rfl) | (simp [*, errW_none, errW_some] <;> rfl), by repeat (first | (with_reducible first | exact HB.out | apply below_alloc | apply pw_below_drewN | apply below_drew1) | exact HB.out)⟩
          ·rw [if_neg c51] at H
           have c51b0 : ((bt a0 x5_1) == 35) = false := beq_eq_false_iff_ne.mpr c51
           have c51b1 : ((bt a0 x5_1) != 35) = true := bne_iff_ne.mpr c51
           by_cases c52 : (bt a0 x5_1) = 32
           ·rw [if_pos c52] at H
            have c52b0 : ((bt a0 x5_1) == 32) = true := beq_iff_eq.mpr c52
            have c52b1 : ((bt a0 x5_1) != 32) = false := bne_eq_false_iff_eq.mpr c52
            clear c52
            simp only [Option.some.injEq, Prod.mk.injEq] at H
            obtain ⟨rfl, rfl⟩ := H
            have p4 : 0 ≤ (x5_1 : Int) := of_decide_eq_true (by first | (with_reducible assumption) | assumption)
            have q4 : x5_1 < (a0.size : Int) := of_decide_eq_true (by first | (with_reducible assumption) | assumption)
            have hx4 := bt_at a0 x5_1
            replace p4 := eq_true p4
            replace q4 := eq_true q4
            go_wp2_with (first | (go_at_call 74; (with_reducible refine (brookref1_in.calls k1 (⟨#[44, 43, 34, 60, 62, 59]⟩ : ByteArray) (bt a0 x5_1) false _ A48.out).mono ?_); rintro e w' ⟨rfl, ⟨nd, rfl⟩⟩))
            go_ret2
            exact ⟨by first | rfl | (simp [errW_none, errW_some] <;> rfl) | (simp [*, errW_none, errW_some] <;> rfl), by repeat (first | (with_reducible first | exact HB.out | apply below_alloc | apply pw_below_drewN | apply below_drew1) | exact HB.out)⟩
           ·rw [if_neg c52] at H
            have c52b0 : ((bt a0 x5_1) == 32) = false := beq_eq_false_iff_ne.mpr c52
            have c52b1 : ((bt a0 x5_1) != 32) = true := bne_iff_ne.mpr c52
            by_cases c53 : x5_1 = (wrap64 ((a0.size : Int) - 1))
            ·rw [if_pos c53] at H
             have c53b0 : (x5_1 == (wrap64 ((a0.size : Int) - 1))) = true := beq_iff_eq.mpr c53
             have c53b1 : (x5_1 != (wrap64 ((a0.size : Int) - 1))) = false := bne_eq_false_iff_eq.mpr c53
             clear c53
             by_cases c54 : x4_1.length < 140737488355328
             ·rw [if_pos c54] at H
              have LMc54 := Aside0.mk c54
              clear c54
              obtain ⟨y259, hy259⟩ : ∃ y_ : List Int, y_ = (x4_1 ++ [bt a0 x5_1]) := ⟨_, rfl⟩
              replace H : (brookref1_value.l0 k1 a0 y259 (wrap64 (x5_1 + 1))) = some (r1, r2) := by first | (rw [hy259]; with_reducible exact H) | (have H2_ := (Option.bind_some _ _).symm.trans H; rw [hy259]; with_reducible exact H2_) | (have H2_ := (Option.bind_some _ _).symm.trans H; with_reducible exact H2_) | with_reducible exact H | (rw [hy259]; exact H) | exact H
              have Ny259 := Aside0.mk hy259
              clear hy259
              have H' := Aside0.mk H
              clear H
              have p4 : 0 ≤ (x5_1 : Int) := of_decide_eq_true (by first | (with_reducible assumption) | assumption)
              have q4 : x5_1 < (a0.size : Int) := of_decide_eq_true (by first | (with_reducible assumption) | assumption)
              have hx4 := bt_at a0 x5_1
              replace p4 := eq_true p4
              replace q4 := eq_true q4
              go_wp2_with (first | (go_at_call 74; (with_reducible refine (brookref1_in.calls k1 (⟨#[44, 43, 34, 60, 62, 59]⟩ : ByteArray) (bt a0 x5_1) false _ A48.out).mono ?_); rintro e w' ⟨rfl, ⟨nd, rfl⟩⟩) | ((with_reducible refine gate_builtin (b := .append) (xs := #[.tmp 112, .tmp 114]) rfl ?_); (try (refine gate_guard (by rfl) ?_; dsimp only)); at_builtin; refine Kd.R_append (Kd.int .u8) (w0 := w) w.heap.size rfl (.tmp 112) (.tmp 114) 29 5 (.int .u8 0) 1 rfl Tryd.underlying29 info5 rfl (by decide) (by omega) u4 x4_1 (bt a0 x5_1) [.int .u8 (bt a0 x5_1)] (fun _ => True) (fun _ => False) rfl rfl ?aP (fun _ hk => hk.elim) ?aF ?aO ?aB ?aS ?aL ?_; (case aP => exact rfl); (case aB => exact (by repeat (first | (with_reducible first | exact HB.out | apply below_alloc | apply pw_below_drewN | apply below_drew1) | exact HB.out))); (case aF => exact (fun _ _ => trivial)); (case aO => exact (by (with_reducible repeat (first | apply Kd.R_alloc | apply Kd.R_drewN | apply Kd.R_drew)); exact HO_4.out)); (case aS => exact (below_size (by repeat (first | (with_reducible first | exact HB.out | apply below_alloc | apply pw_below_drewN | apply below_drew1) | exact HB.out)))); (case aL => have := LMc54.out; omega); intro v260 w55 ho hb hg hat; rw [← Ny259.out] at ho; have n0_ := Aside0.mk (hb); have n1_ := Aside0.mk (ho); clear HB; clear HO_4; have HB := n0_; have HO261 := n1_; clear n0_ n1_; clear ho hb hg hat))
              go_roundg k1
              case measure => have := HK1.out; omega
              case rel => exact ⟨(y259), (wrap64 (x5_1 + 1)), (by first | rfl | (simp; done) | (simp [*]; done) | (simp [u8_w, i64_w]; done) | (simp [isEmpty_bne]; done)), H', ⟨by have := HK1.out; omega⟩, ⟨by (with_reducible repeat (first | apply Kd.R_alloc | apply Kd.R_drewN | apply Kd.R_drew)); exact HO261.out⟩, ⟨by repeat (first | (with_reducible first | exact HB.out | apply below_alloc | apply pw_below_drewN | apply below_drew1) | exact HB.out)⟩⟩
             ·rw [if_neg c54] at H
              exact absurd H (by simp)
            ·rw [if_neg c53] at H
             have c53b0 : (x5_1 == (wrap64 ((a0.size : Int) - 1))) = false := beq_eq_false_iff_ne.mpr c53
             have c53b1 : (x5_1 != (wrap64 ((a0.size : Int) - 1))) = true := bne_iff_ne.mpr c53
             by_cases c56 : x4_1.length < 140737488355328
             ·rw [if_pos c56] at H
              have LMc56 := Aside0.mk c56
              clear c56
              obtain ⟨y262, hy262⟩ : ∃ y_ : List Int, y_ = (x4_1 ++ [bt a0 x5_1]) := ⟨_, rfl⟩
              replace H : (brookref1_value.l0 k1 a0 y262 (wrap64 (x5_1 + 1))) = some (r1, r2) := by first | (rw [hy262]; with_reducible exact H) | (have H2_ := (Option.bind_some _ _).symm.trans H; rw [hy262]; with_reducible exact H2_) | (have H2_ := (Option.bind_some _ _).symm.trans H; with_reducible exact H2_) | with_reducible exact H | (rw [hy262]; exact H) | exact H
              have Ny262 := Aside0.mk hy262
              clear hy262
              have H' := Aside0.mk H
              clear H
              have p4 : 0 ≤ (x5_1 : Int) := of_decide_eq_true (by first | (with_reducible assumption) | assumption)
              have q4 : x5_1 < (a0.size : Int) := of_decide_eq_true (by first | (with_reducible assumption) | assumption)
              have hx4 := bt_at a0 x5_1
              replace p4 := eq_true p4
              replace q4 := eq_true q4
              go_wp2_with (first | (go_at_call 74; (with_reducible refine (brookref1_in.calls k1 (⟨#[44, 43, 34, 60, 62, 59]⟩ : ByteArray) (bt a0 x5_1) false _ A48.out).mono ?_); rintro e w' ⟨rfl, ⟨nd, rfl⟩⟩) | ((with_reducible refine gate_builtin (b := .append) (xs := #[.tmp 112, .tmp 114]) rfl ?_); (try (refine gate_guard (by rfl) ?_; dsimp only)); at_builtin; refine Kd.R_append (Kd.int .u8) (w0 := w) w.heap.size rfl (.tmp 112) (.tmp 114) 29 5 (.int .u8 0) 1 rfl Tryd.underlying29 info5 rfl (by decide) (by omega) u4 x4_1 (bt a0 x5_1) [.int .u8 (bt a0 x5_1)] (fun _ => True) (fun _ => False) rfl rfl ?aP (fun _ hk => hk.elim) ?aF ?aO ?aB ?aS ?aL ?_; (case aP => exact rfl); (case aB => exact (by repeat (first | (with_reducible first | exact HB.out | apply below_alloc | apply pw_below_drewN | apply below_drew1) | exact HB.out))); (case aF => exact (fun _ _ => trivial)); (case aO => exact (by (with_reducible repeat (first | apply Kd.R_alloc | apply Kd.R_drewN | apply Kd.R_drew)); exact HO_4.out)); (case aS => exact (below_size (by repeat (first | (with_reducible first | exact HB.out | apply below_alloc | apply pw_below_drewN | apply below_drew1) | exact HB.out)))); (case aL => have := LMc56.out; omega); intro v263 w57 ho hb hg hat; rw [← Ny262.out] at ho; have n0_ := Aside0.mk (hb); have n1_ := Aside0.mk (ho); clear HB; clear HO_4; have HB := n0_; have HO264 := n1_; clear n0_ n1_; clear ho hb hg hat))
              go_roundg k1
              case measure => have := HK1.out; omega
              case rel => exact ⟨(y262), (wrap64 (x5_1 + 1)), (by first | rfl | (simp; done) | (simp [*]; done) | (simp [u8_w, i64_w]; done) | (simp [isEmpty_bne]; done)), H', ⟨by have := HK1.out; omega⟩, ⟨by (with_reducible repeat (first | apply Kd.R_alloc | apply Kd.R_drewN | apply Kd.R_drew)); exact HO264.out⟩, ⟨by repeat (first | (with_reducible first | exact HB.out | apply below_alloc | apply pw_below_drewN | apply below_drew1) | exact HB.out)⟩⟩
             ·rw [if_neg c56] at H
              exact absurd H (by simp)
         ·rw [if_neg c50] at H
          have c50b0 : (x5_1 == 0) = false := beq_eq_false_iff_ne.mpr c50
          have c50b1 : (x5_1 != 0) = true := bne_iff_ne.mpr c50
          by_cases c58 : x5_1 = (wrap64 ((a0.size : Int) - 1))
          ·rw [if_pos c58] at H
           have c58b0 : (x5_1 == (wrap64 ((a0.size : Int) - 1))) = true := beq_iff_eq.mpr c58
           have c58b1 : (x5_1 != (wrap64 ((a0.size : Int) - 1))) = false := bne_eq_false_iff_eq.mpr c58
           clear c58
           by_cases c59 : (bt a0 x5_1) = 32
           ·rw [if_pos c59] at H
            have c59b0 : ((bt a0 x5_1) == 32) = true := beq_iff_eq.mpr c59
            have c59b1 : ((bt a0 x5_1) != 32) = false := bne_eq_false_iff_eq.mpr c59
            clear c59
            simp only [Option.some.injEq, Prod.mk.injEq] at H
            obtain ⟨rfl, rfl⟩ := H
            have p4 : 0 ≤ (x5_1 : Int) := of_decide_eq_true (by first | (with_reducible assumption) | assumption)
            have q4 : x5_1 < (a0.size : Int) := of_decide_eq_true (by first | (with_reducible assumption) | assumption)
            have hx4 := bt_at a0 x5_1
            replace p4 := eq_true p4
            replace q4 := eq_true q4
            go_wp2_with (first | (go_at_call 74; (with_reducible refine (brookref1_in.calls k1 (⟨#[44, 43, 34, 60, 62, 59]⟩ : ByteArray) (bt a0 x5_1) false _ A48.out).mono ?_); rintro e w' ⟨rfl, ⟨nd, rfl⟩⟩))
            go_ret2
            exact ⟨by first | rfl | (simp [errW_none, errW_some] <;> rfl) | (simp [*, errW_none, errW_some] <;> rfl), by repeat (first | (with_reducible first | exact HB.out | apply below_alloc | apply pw_below_drewN | apply below_drew1) | exact HB.out)⟩
           ·rw [if_neg c59] at H
            have c59b0 : ((bt a0 x5_1) == 32) = false := beq_eq_false_iff_ne.mpr c59
            have c59b1 : ((bt a0 x5_1) != 32) = true := bne_iff_ne.mpr c59
            by_cases c60 : x4_1.length < 140737488355328
            ·rw [if_pos c60] at H
             have LMc60 := Aside0.mk c60
             clear c60
             obtain ⟨y265, hy265⟩ : ∃ y_ : List Int, y_ = (x4_1 ++ [bt a0 x5_1]) := ⟨_, rfl⟩
             replace H : (brookref1_value.l0 k1 a0 y265 (wrap64 (x5_1 + 1))) = some (r1, r2) := by first | (rw [hy265]; with_reducible exact H) | (have H2_ := (Option.bind_some _ _).symm.trans H; rw [hy265]; with_reducible exact H2_) | (have H2_ := (Option.bind_some _ _).symm.trans H; with_reducible exact H2_) | with_reducible exact H | (rw [hy265]; exact H) | exact H
             have Ny265 := Aside0.mk hy265
             clear hy265
             have H' := Aside0.mk H
             clear H
             have p4 : 0 ≤ (x5_1 : Int) := of_decide_eq_true (by first | (with_reducible assumption) | assumption)
             have q4 : x5_1 < (a0.size : Int) := of_decide_eq_true (by first | (with_reducible assumption) | assumption)
             have hx4 := bt_at a0 x5_1
             replace p4 := eq_true p4
             replace q4 := eq_true q4
             go_wp2_with (first | (go_at_call 74; (with_reducible refine (brookref1_in.calls k1 (⟨#[44, 43, 34, 60, 62, 59]⟩ : ByteArray) (bt a0 x5_1) false _ A48.out).mono ?_); rintro e w' ⟨rfl, ⟨nd, rfl⟩⟩) | ((with_reducible refine gate_builtin (b := .append) (xs := #[.tmp 112, .tmp 114]) rfl ?_); (try (refine gate_guard (by rfl) ?_; dsimp only)); at_builtin; refine Kd.R_append (Kd.int .u8) (w0 := w) w.heap.size rfl (.tmp 112) (.tmp 114) 29 5 (.int .u8 0) 1 rfl Tryd.underlying29 info5 rfl (by decide) (by omega) u4 x4_1 (bt a0 x5_1) [.int .u8 (bt a0 x5_1)] (fun _ => True) (fun _ => False) rfl rfl ?aP (fun _ hk => hk.elim) ?aF ?aO ?aB ?aS ?aL ?_; (case aP => exact rfl); (case aB => exact (by repeat (first | (with_reducible first | exact HB.out | apply below_alloc | apply pw_below_drewN | apply below_drew1) | exact HB.out))); (case aF => exact (fun _ _ => trivial)); (case aO => exact (by (with_reducible repeat (first | apply Kd.R_alloc | apply Kd.R_drewN | apply Kd.R_drew)); exact HO_4.out)); (case aS => exact (below_size (by repeat (first | (with_reducible first | exact HB.out | apply below_alloc | apply pw_below_drewN | apply below_drew1) | exact HB.out)))); (case aL => have := LMc60.out; omega); intro v266 w61 ho hb hg hat; rw [← Ny265.out] at ho; have n0_ := Aside0.mk (hb); have n1_ := Aside0.mk (ho); clear HB; clear HO_4; have HB := n0_; have HO267 := n1_; clear n0_ n1_; clear ho hb hg hat))
             go_roundg k1
             case measure => have := HK1.out; omega
             case rel => exact ⟨(y265), (wrap64 (x5_1 + 1)), (by first | rfl | (simp; done) | (simp [*]; done) | (simp [u8_w, i64_w]; done) | (simp [isEmpty_bne]; done)), H', ⟨by have := HK1.out; omega⟩, ⟨by (with_reducible repeat (first | apply Kd.R_alloc | apply Kd.R_drewN | apply Kd.R_drew)); exact HO267.out⟩, ⟨by repeat (first | (with_reducible first | exact HB.out | apply below_alloc | apply pw_below_drewN | apply below_drew1) | exact HB.out)⟩⟩
            ·rw [if_neg c60] at H
             exact absurd H (by simp)
          ·rw [if_neg c58] at H
           have c58b0 : (x5_1 == (wrap64 ((a0.size : Int) - 1))) = false := beq_eq_false_iff_ne.mpr c58
           have c58b1 : (x5_1 != (wrap64 ((a0.size : Int) - 1))) = true := bne_iff_ne.mpr c58
           by_cases c62 : x4_1.length < 140737488355328
           ·rw [if_pos c62] at H
            have LMc62 := Aside0.mk c62
            clear c62
            obtain ⟨y268, hy268⟩ : ∃ y_ : List Int, y_ = (x4_1 ++ [bt a0 x5_1]) := ⟨_, rfl⟩
            replace H : (brookref1_value.l0 k1 a0 y268 (wrap64 (x5_1 + 1))) = some (r1, r2) := by first | (rw [hy268]; with_reducible exact H) | (have H2_ := (Option.bind_some _ _).symm.trans H; rw [hy268]; with_reducible exact H2_) | (have H2_ := (Option.bind_some _ _).symm.trans H; with_reducible exact H2_) | with_reducible exact H | (rw [hy268]; exact H) | exact H
            have Ny268 := Aside0.mk hy268
            clear hy268
            have H' := Aside0.mk H
            clear H
            have p4 : 0 ≤ (x5_1 : Int) := of_decide_eq_true (by first | (with_reducible assumption) | assumption)
            have q4 : x5_1 < (a0.size : Int) := of_decide_eq_true (by first | (with_reducible assumption) | assumption)
            have hx4 := bt_at a0 x5_1
            replace p4 := eq_true p4
            replace q4 := eq_true q4
            go_wp2_with (first | (go_at_call 74; (with_reducible refine (brookref1_in.calls k1 (⟨#[44, 43, 34, 60, 62, 59]⟩ : ByteArray) (bt a0 x5_1) false _ A48.out).mono ?_); rintro e w' ⟨rfl, ⟨nd, rfl⟩⟩) | ((with_reducible refine gate_builtin (b := .append) (xs := #[.tmp 112, .tmp 114]) rfl ?_); (try (refine gate_guard (by rfl) ?_; dsimp only)); at_builtin; refine Kd.R_append (Kd.int .u8) (w0 := w) w.heap.size rfl (.tmp 112) (.tmp 114) 29 5 (.int .u8 0) 1 rfl Tryd.underlying29 info5 rfl (by decide) (by omega) u4 x4_1 (bt a0 x5_1) [.int .u8 (bt a0 x5_1)] (fun _ => True) (fun _ => False) rfl rfl ?aP (fun _ hk => hk.elim) ?aF ?aO ?aB ?aS ?aL ?_; (case aP => exact rfl); (case aB => exact (by repeat (first | (with_reducible first | exact HB.out | apply below_alloc | apply pw_below_drewN | apply below_drew1) | exact HB.out))); (case aF => exact (fun _ _ => trivial)); (case aO => exact (by (with_reducible repeat (first | apply Kd.R_alloc | apply Kd.R_drewN | apply Kd.R_drew)); exact HO_4.out)); (case aS => exact (below_size (by repeat (first | (with_reducible first | exact HB.out | apply below_alloc | apply pw_below_drewN | apply below_drew1) | exact HB.out)))); (case aL => have := LMc62.out; omega); intro v269 w63 ho hb hg hat; rw [← Ny268.out] at ho; have n0_ := Aside0.mk (hb); have n1_ := Aside0.mk (ho); clear HB; clear HO_4; have HB := n0_; have HO270 := n1_; clear n0_ n1_; clear ho hb hg hat))
            go_roundg k1
            case measure => have := HK1.out; omega
            case rel => exact ⟨(y268), (wrap64 (x5_1 + 1)), (by first | rfl | (simp; done) | (simp [*]; done) | (simp [u8_w, i64_w]; done) | (simp [isEmpty_bne]; done)), H', ⟨by have := HK1.out; omega⟩, ⟨by (with_reducible repeat (first | apply Kd.R_alloc | apply Kd.R_drewN | apply Kd.R_drew)); exact HO270.out⟩, ⟨by repeat (first | (with_reducible first | exact HB.out | apply below_alloc | apply pw_below_drewN | apply below_drew1) | exact HB.out)⟩⟩
           ·rw [if_neg c62] at H
            exact absurd H (by simp)
    ·rw [if_neg c3] at H
     exact absurd H (by simp)
   ·rw [if_neg c2] at H
    have c2b0 : decide (x5_1 < (a0.size : Int)) = false := decide_eq_false c2
    clear c2
    simp only [Option.some.injEq, Prod.mk.injEq] at H
    obtain ⟨rfl, rfl⟩ := H
    have hcv64 := own_string (P := Tryd.prog) Tryd.underlying29 Tryd.underlying5 Tryd.underlying9 (Kd.own_of_R HO_4.out)
    go_wp2
    go_ret2
    exact ⟨by first | rfl | (simp [errW_none, errW_some] <;> rfl) | (simp [*, errW_none, errW_some] <;> rfl), by repeat (first | (with_reducible first | exact HB.out | apply below_alloc | apply pw_below_drewN | apply below_drew1) | exact HB.out)⟩
end Go.Proofs.YtflkghdndffacaaDoor.PD
namespace Go.Proofs.YtflkghdndffacaaDoor.PD
open Go.RowKit Go.Proofs.YtflkghdndffacaaDoor.H Go.Proofs.YtflkghdndffacaaDoorW.PrintWords Go.Proofs.YtflkghdndffacaaDoorW.PrintLast Go.Proofs.YtflkghdndffacaaDoorW.PrintMore
attribute [local go_sem] max2_int min2_int max_two min_two max_three min_three max_four min_four
set_option linter.unusedVariables false
set_option linter.unusedSimpArgs false
mutual
def brookref1_ParseDn.l0 : Nat → List (S25) → List ByteArray → Int → Option ((List (S25)) × Bool)
 | 0, _, _, _ => none
 | k + 1, x3, x4, x5 => if x5 < (x4.length : Int) then (brookref1_ParseDn.l1 k x3 x4 x5 0) else ((brookref1_MayDn.f k x3).bind fun t275 => (if t275 = true then (some (x3, true)) else (some (([] : List (S25)), false))))
def brookref1_ParseDn.j2 : Nat → List (S25) → List ByteArray → Int → Int → Option ((List (S25)) × Bool)
 | 0, _, _, _, _ => none
 | k + 1, x3, x4, x5, x6 => if 0 ≤ x5 then (if x5 < (x4.length : Int) then (if x6 = ((rdOf ByteArray.empty x4 x5).size : Int) then (some (([] : List (S25)), false)) else (if 0 ≤ (wrap64 (x6 + 1)) then (if (wrap64 (x6 + 1)) ≤ ((rdOf ByteArray.empty x4 x5).size : Int) then ((brookref1_value.f k ((rdOf ByteArray.empty x4 x5).extract ((wrap64 (x6 + 1)) : Int).toNat (rdOf ByteArray.empty x4 x5).size)).bind fun bt280 => (if bt280.2 = true then (if 0 ≤ x6 then (if x6 ≤ ((rdOf ByteArray.empty x4 x5).size : Int) then (if x3.length < 4398046511104 then (brookref1_ParseDn.l0 k (x3 ++ [(⟨(rdOf ByteArray.empty x4 x5).extract 0 (x6 : Int).toNat, bt280.1⟩ : S25)]) x4 (wrap64 (x5 + 1))) else (none)) else (none)) else (none)) else (some (([] : List (S25)), false)))) else (none)) else (none))) else (none)) else (none)
def brookref1_ParseDn.l1 : Nat → List (S25) → List ByteArray → Int → Int → Option ((List (S25)) × Bool)
 | 0, _, _, _, _ => none
 | k + 1, x3, x4, x5, x6 => if 0 ≤ x5 then (if x5 < (x4.length : Int) then (if x6 < ((rdOf ByteArray.empty x4 x5).size : Int) then (if 0 ≤ x6 then (if (bt (rdOf ByteArray.empty x4 x5) x6) = 61 then (brookref1_ParseDn.j2 k x3 x4 x5 x6) else (brookref1_ParseDn.l1 k x3 x4 x5 (wrap64 (x6 + 1)))) else (none)) else (brookref1_ParseDn.j2 k x3 x4 x5 x6)) else (none)) else (none)
end
def brookref1_ParseDn.f (k : Nat) (a0 : ByteArray) : Option ((List (S25)) × Bool) := if a0.toList = ([] : List UInt8) then (some (([] : List (S25)), true)) else ((brookref1_cut.f k a0).bind fun t272 => (brookref1_ParseDn.l0 k ([] : List (S25)) t272 0))
theorem brookref1_ParseDn.mono_l : ∀ k, (∀ y0 y1 y2, LeO (brookref1_ParseDn.l0 k y0 y1 y2) (brookref1_ParseDn.l0 (k + 1) y0 y1 y2)) ∧ (∀ y0 y1 y2 y3, LeO (brookref1_ParseDn.j2 k y0 y1 y2 y3) (brookref1_ParseDn.j2 (k + 1) y0 y1 y2 y3)) ∧ (∀ y0 y1 y2 y3, LeO (brookref1_ParseDn.l1 k y0 y1 y2 y3) (brookref1_ParseDn.l1 (k + 1) y0 y1 y2 y3))
 | 0 => ⟨fun _ _ _ r h => by simp [brookref1_ParseDn.l0] at h, fun _ _ _ _ r h => by simp [brookref1_ParseDn.j2] at h, fun _ _ _ _ r h => by simp [brookref1_ParseDn.l1] at h⟩
 | k + 1 => by
  obtain ⟨ih0, ih1, ih2⟩ := brookref1_ParseDn.mono_l k
  refine ⟨?_, ?_, ?_⟩
  ·intro y0 y1 y2
   unfold brookref1_ParseDn.l0
   repeat' first
   | (with_reducible exact ih0 _ _ _)
   | (with_reducible exact ih1 _ _ _ _)
   | (with_reducible exact ih2 _ _ _ _)
   | (with_reducible exact brookref1_MayDn.mono _ _)
   | (with_reducible exact brookref1_cut.mono _ _)
   | (with_reducible exact brookref1_value.mono _ _)
   | (with_reducible exact LeO.refl _)
   | (with_reducible exact LeO.none _)
   | (with_reducible refine LeO.ite ?_ ?_)
   | (with_reducible refine LeO.bind ?_ (fun _ => ?_))
   | exact ih0 _ _ _
   | exact ih1 _ _ _ _
   | exact ih2 _ _ _ _
   | exact brookref1_MayDn.mono _ _
   | exact brookref1_cut.mono _ _
   | exact brookref1_value.mono _ _
   | exact LeO.none _
   | refine LeO.ite ?_ ?_
   | refine LeO.bind ?_ (fun _ => ?_)
  ·intro y0 y1 y2 y3
   unfold brookref1_ParseDn.j2
   repeat' first
   | (with_reducible exact ih0 _ _ _)
   | (with_reducible exact ih1 _ _ _ _)
   | (with_reducible exact ih2 _ _ _ _)
   | (with_reducible exact brookref1_MayDn.mono _ _)
   | (with_reducible exact brookref1_cut.mono _ _)
   | (with_reducible exact brookref1_value.mono _ _)
   | (with_reducible exact LeO.refl _)
   | (with_reducible exact LeO.none _)
   | (with_reducible refine LeO.ite ?_ ?_)
   | (with_reducible refine LeO.bind ?_ (fun _ => ?_))
   | exact ih0 _ _ _
   | exact ih1 _ _ _ _
   | exact ih2 _ _ _ _
   | exact brookref1_MayDn.mono _ _
   | exact brookref1_cut.mono _ _
   | exact brookref1_value.mono _ _
   | exact LeO.none _
   | refine LeO.ite ?_ ?_
   | refine LeO.bind ?_ (fun _ => ?_)
  ·intro y0 y1 y2 y3
   unfold brookref1_ParseDn.l1
   repeat' first
   | (with_reducible exact ih0 _ _ _)
   | (with_reducible exact ih1 _ _ _ _)
   | (with_reducible exact ih2 _ _ _ _)
   | (with_reducible exact brookref1_MayDn.mono _ _)
   | (with_reducible exact brookref1_cut.mono _ _)
   | (with_reducible exact brookref1_value.mono _ _)
   | (with_reducible exact LeO.refl _)
   | (with_reducible exact LeO.none _)
   | (with_reducible refine LeO.ite ?_ ?_)
   | (with_reducible refine LeO.bind ?_ (fun _ => ?_))
   | exact ih0 _ _ _
   | exact ih1 _ _ _ _
   | exact ih2 _ _ _ _
   | exact brookref1_MayDn.mono _ _
   | exact brookref1_cut.mono _ _
   | exact brookref1_value.mono _ _
   | exact LeO.none _
   | refine LeO.ite ?_ ?_
   | refine LeO.bind ?_ (fun _ => ?_)
theorem brookref1_ParseDn.mono : ∀ a0 k, LeO (brookref1_ParseDn.f k a0) (brookref1_ParseDn.f (k + 1) a0) := by
 intro a0 k
 obtain ⟨ih0, ih1, ih2⟩ := brookref1_ParseDn.mono_l k
 unfold brookref1_ParseDn.f
 repeat' first
   | (with_reducible exact ih0 _ _ _)
   | (with_reducible exact ih1 _ _ _ _)
   | (with_reducible exact ih2 _ _ _ _)
   | (with_reducible exact brookref1_MayDn.mono _ _)
   | (with_reducible exact brookref1_cut.mono _ _)
   | (with_reducible exact brookref1_value.mono _ _)
   | (with_reducible exact LeO.refl _)
   | (with_reducible exact LeO.none _)
   | (with_reducible refine LeO.ite ?_ ?_)
   | (with_reducible refine LeO.bind ?_ (fun _ => ?_))
   | exact ih0 _ _ _
   | exact ih1 _ _ _ _
   | exact ih2 _ _ _ _
   | exact brookref1_MayDn.mono _ _
   | exact brookref1_cut.mono _ _
   | exact brookref1_value.mono _ _
   | exact LeO.none _
   | refine LeO.ite ?_ ?_
   | refine LeO.bind ?_ (fun _ => ?_)
set_option maxHeartbeats 8000000 in
set_option maxRecDepth 100000 in
theorem brookref1_ParseDn.calls (k : Nat) (a0 : ByteArray) (r1 : List (S25)) (r2 : Bool) (w : World) (h : brookref1_ParseDn.f k a0 = some (r1, r2)) :
  Calls Tryd.prog 26 #[.string a0] w fun e w' => ∃ v0_ : Value, e = .returned (.agg #[v0_, .bool r2]) ∧ Kd.R k25 25 w' w.heap.size (fun _ => True) v0_ r1 ∧ Below w.heap.size w w' := by
 have hu42 := Tryd.underlying42
 have hu25 := Tryd.underlying25
 have HB := Aside0.mk (Below.refl w.heap.size w)
 have H : (if a0.toList = ([] : List UInt8) then (some (([] : List (S25)), true)) else ((brookref1_cut.f k a0).bind fun t272 => (brookref1_ParseDn.l0 k ([] : List (S25)) t272 0))) = some (r1, r2) := h
 clear h
 by_cases c2 : a0.toList = ([] : List UInt8)
 ·rw [if_pos c2] at H
  have c2b0 : (a0.toList == ([] : List UInt8)) = true := beq_iff_eq.mpr c2
  have c2b1 : (a0.toList != ([] : List UInt8)) = false := bne_eq_false_iff_eq.mpr c2
  clear c2
  simp only [Option.some.injEq, Prod.mk.injEq] at H
  obtain ⟨rfl, rfl⟩ := H
  go_enter Tryd.func26, Tryd.ntmps26
  go_wp2_with (first | ((with_reducible refine gate_dst (N := 2) rfl ?_); refine box_event ?hg (N := 2) ?hd (cs := #[.slice none 0 0, .bool false]) (t := 42) ?hr ?_; (case hd => rfl); (case hg => rfl); (case hr => first | (go_simp; done) | (go_simp; rfl)); intro gb271 hg w3 hbox hb; have n0_ := Aside0.mk (below_step (by repeat (first | (with_reducible first | exact HB.out | apply below_alloc | apply pw_below_drewN | apply below_drew1) | exact HB.out)) hb); have n1_ := Aside0.mk (hbox); have n2_ := Aside0.mk ((by rw [hg]; exact (below_size (by repeat (first | (with_reducible first | exact HB.out | apply below_alloc | apply pw_below_drewN | apply below_drew1) | exact HB.out))) : w.heap.size ≤ gb271)); have n3_ := Aside0.mk ((by rw [hg]; exact (below_size (by repeat (first | (with_reducible first | exact HB.out | apply below_alloc | apply pw_below_drewN | apply below_drew1) | exact HB.out))) : w.heap.size ≤ gb271)); clear HB; have HB := n0_; have BK271 := n1_; have GW271 := n2_; have GE271 := n3_; clear n0_ n1_ n2_ n3_; clear hb hbox hg; have hcz4_0 : w3.cell? ⟨gb271, 0, none⟩ = some (.slice none 0 0) := (blk_cell BK271.out 0).trans rfl; have hcz4_1 : w3.cell? ⟨gb271, 1, none⟩ = some (.bool false) := (blk_cell BK271.out 1).trans rfl; have hfz4_0 := blk_frozen BK271.out 0; have hfz4_1 := blk_frozen BK271.out 1))
  refine bodyPost_ret (results_cell_row rfl _ _ gb271 42 #[.slice none 0 0, .bool true] (0, 0) _ rfl (by (with_reducible repeat (first | refine blk_drewN ?_ _ | refine blk_drew ?_ | refine blk_alloc ?_ _)); refine blk_put (cs := #[.slice none 0 0, .bool false]) ?_ 1 _ rfl; (with_reducible repeat (first | refine blk_drewN ?_ _ | refine blk_drew ?_ | refine blk_alloc ?_ _)); refine blk_put (cs := #[.slice none 0 0, .bool false]) ?_ 0 _ rfl; (with_reducible repeat (first | refine blk_drewN ?_ _ | refine blk_drew ?_ | refine blk_alloc ?_ _)); exact BK271.out) Tryd.underlying42 rfl (by kernel_rfl)) rfl ?_
  exact ⟨_, by first | rfl | (simp [errW_none, errW_some] <;> rfl) | (simp [*, errW_none, errW_some] <;> rfl), by first | exact Kd.R_nil _ _ _ _ _ | exact Kd.N_nil _ _ _ _ _ | exact Kd.V_nil _ _ _ _ _ | exact Kd.Q_nil _ _ _ _ _ | exact Kd.S_nil _ _ _ _ _, by repeat (first | (with_reducible first | exact HB.out | apply below_alloc | apply pw_below_drewN | apply below_drew1 | refine below_set ?_ GE271.out) | exact HB.out)⟩
 ·rw [if_neg c2] at H
  have c2b0 : (a0.toList == ([] : List UInt8)) = false := beq_eq_false_iff_ne.mpr c2
  have c2b1 : (a0.toList != ([] : List UInt8)) = true := bne_iff_ne.mpr c2
  replace H := Option.bind_eq_some_iff.mp H
  obtain ⟨t272, A50, H⟩ := H
  replace H : (brookref1_ParseDn.l0 k ([] : List (S25)) t272 0) = some (r1, r2) := H
  have A5 := Aside0.mk A50
  clear A50
  have H' := Aside0.mk H
  clear H
  go_enter Tryd.func26, Tryd.ntmps26
  go_wp2_with (first | ((with_reducible refine gate_dst (N := 2) rfl ?_); refine box_event ?hg (N := 2) ?hd (cs := #[.slice none 0 0, .bool false]) (t := 42) ?hr ?_; (case hd => rfl); (case hg => rfl); (case hr => first | (go_simp; done) | (go_simp; rfl)); intro gb271 hg w6 hbox hb; have n0_ := Aside0.mk (below_step (by repeat (first | (with_reducible first | exact HB.out | apply below_alloc | apply pw_below_drewN | apply below_drew1) | exact HB.out)) hb); have n1_ := Aside0.mk (hbox); have n2_ := Aside0.mk ((by rw [hg]; exact (below_size (by repeat (first | (with_reducible first | exact HB.out | apply below_alloc | apply pw_below_drewN | apply below_drew1) | exact HB.out))) : w.heap.size ≤ gb271)); have n3_ := Aside0.mk ((by rw [hg]; exact (below_size (by repeat (first | (with_reducible first | exact HB.out | apply below_alloc | apply pw_below_drewN | apply below_drew1) | exact HB.out))) : w.heap.size ≤ gb271)); clear HB; have HB := n0_; have BK271 := n1_; have GW271 := n2_; have GE271 := n3_; clear n0_ n1_ n2_ n3_; clear hb hbox hg) | ((with_reducible refine gate_callee (f := 59) rfl ?_); refine goesL_ (some 13) rfl rfl Tryd.func59 (by kernel_rfl) rfl #[.string a0] rfl (by (try simp only [List.map_toArray, List.map_cons, List.map_nil]); first | done | rfl | (simp only [List.length_drop, List.length_take]; rfl)) ?_; (with_reducible refine (brookref1_cut.calls k a0 t272 _ A5.out).mono ?_); rintro e w7 ⟨v273, rfl, ho0, hb⟩; refine ⟨_, rfl, ?_⟩; have n0_ := Aside0.mk (Kd.R_lower ho0 (below_size (by repeat (first | (with_reducible first | exact HB.out | apply below_alloc | apply pw_below_drewN | apply below_drew1 | refine below_set ?_ GE271.out) | exact HB.out)))); have n1_ := Aside0.mk (blk_below (g := gb271) (o := .cells #[.slice none 0 0, .bool false] 42 (0, 0)) (by (with_reducible repeat (first | refine blk_drewN ?_ _ | refine blk_drew ?_ | refine blk_alloc ?_ _)); exact BK271.out) hb); have n2_ := Aside0.mk (below_step (by repeat (first | (with_reducible first | exact HB.out | apply below_alloc | apply pw_below_drewN | apply below_drew1 | refine below_set ?_ GE271.out) | exact HB.out)) hb); clear BK271; clear HB; have HO274 := n0_; have BK271 := n1_; have HB := n2_; clear n0_ n1_ n2_; (try clear hb); (try clear hb2); (try clear hk); (try clear hi); (try clear ho0)))
  go_loopg [3, 5] k (fun kq v3 v5 w' => ∃ (x3_1 : List (S25)) (x5_1 : Int) (x272001_1 : Bool), v5 = .int .i64 x5_1 ∧ Aside0 (brookref1_ParseDn.l0 kq x3_1 t272 x5_1 = some (r1, r2)) ∧ Aside0 (kq ≤ k) ∧ Aside0 (Kd.R k25 25 w' w.heap.size (fun _ => True) v3 x3_1) ∧ Aside0 (Kd.R Kd.string 9 w' w.heap.size (fun _ => True) v273 t272) ∧ Aside0 (w'.heap[gb271]? = some (.cells #[(.slice none 0 0), .bool x272001_1] 42 (0, 0))) ∧ Aside0 (Below w.heap.size w w'))
  case atStart => exact ⟨(([] : List (S25))), (0), (false), (by first | rfl | (simp; done) | (simp [*]; done) | (simp [u8_w, i64_w]; done) | (simp [isEmpty_bne]; done)), H', ⟨Nat.le_refl _⟩, ⟨by first | exact Kd.R_nil _ _ _ _ _ | exact Kd.N_nil _ _ _ _ _ | exact Kd.V_nil _ _ _ _ _ | exact Kd.Q_nil _ _ _ _ _ | exact Kd.S_nil _ _ _ _ _⟩, ⟨by (with_reducible repeat (first | apply Kd.R_alloc | apply Kd.R_drewN | apply Kd.R_drew)); exact HO274.out⟩, ⟨by (with_reducible repeat (first | refine blk_drewN ?_ _ | refine blk_drew ?_ | refine blk_alloc ?_ _)); exact BK271.out⟩, ⟨by repeat (first | (with_reducible first | exact HB.out | apply below_alloc | apply pw_below_drewN | apply below_drew1 | refine below_set ?_ GE271.out) | exact HB.out)⟩⟩
  case round =>
   clear H'
   try clear c2
   try clear c2b0
   try clear c2b1
   try clear p2
   try clear c5
   try clear hcz4_0
   try clear hcz4_1
   try clear hfz4_0
   try clear hfz4_1
   obtain ⟨x3_1, x5_1, x272001_1, rfl, HA, HK1, HO_3, HO_4, BK271, HB⟩ := hrel
   cases gk with
   | zero => exact absurd HA.out (by simp [brookref1_ParseDn.l0])
   | succ k1 =>
    have H := HA.out
    clear HA
    simp only [brookref1_ParseDn.l0] at H
    by_cases c8 : x5_1 < (t272.length : Int)
    ·rw [if_pos c8] at H
     have c8b0 : decide (x5_1 < (t272.length : Int)) = true := decide_eq_true c8
     clear c8
     have HC9 := Aside0.mk H
     clear H
     obtain ⟨Ao10, co10, eo10⟩ := Kd.R_slice HO_4.out
     subst eo10
     go_upto_block 2 with (fail)
     go_cut [6] (fun v6 wc => ∃ (kq : Nat) (x6_8 : Int), v6 = .int .i64 x6_8 ∧ Aside0 (brookref1_ParseDn.j2 kq x3_1 t272 x5_1 x6_8 = some (r1, r2)) ∧ Aside0 (kq ≤ k1) ∧ Aside0 (Kd.R k25 25 wc w.heap.size (fun _ => True) u3 x3_1) ∧ Aside0 (Kd.R Kd.string 9 wc w.heap.size (fun _ => True) (.slice Ao10 t272.length co10) t272) ∧ Aside0 (wc.heap[gb271]? = some (.cells #[(.slice none 0 0), .bool x272001_1] 42 (0, 0))) ∧ Aside0 (Below w.heap.size w wc))
     case first =>
      have H := HC9.out
      clear HC9
      have H' := Aside0.mk H
      clear H
      go_wp2
      go_loopg [6] k1 (fun kq v6 w' => ∃ (x6_2 : Int), v6 = .int .i64 x6_2 ∧ Aside0 (brookref1_ParseDn.l1 kq x3_1 t272 x5_1 x6_2 = some (r1, r2)) ∧ Aside0 (kq ≤ k1) ∧ Aside0 (Kd.R k25 25 w' w.heap.size (fun _ => True) u3 x3_1) ∧ Aside0 (Kd.R Kd.string 9 w' w.heap.size (fun _ => True) (.slice Ao10 t272.length co10) t272) ∧ Aside0 (w'.heap[gb271]? = some (.cells #[(.slice none 0 0), .bool x272001_1] 42 (0, 0))) ∧ Aside0 (Below w.heap.size w w'))
      case atStart => exact ⟨(0), (by first | rfl | (simp; done) | (simp [*]; done) | (simp [u8_w, i64_w]; done) | (simp [isEmpty_bne]; done)), H', ⟨Nat.le_refl _⟩, ⟨by (with_reducible repeat (first | apply Kd.R_alloc | apply Kd.R_drewN | apply Kd.R_drew)); exact HO_3.out⟩, ⟨by (with_reducible repeat (first | apply Kd.R_alloc | apply Kd.R_drewN | apply Kd.R_drew)); exact HO_4.out⟩, ⟨by (with_reducible repeat (first | refine blk_drewN ?_ _ | refine blk_drew ?_ | refine blk_alloc ?_ _)); exact BK271.out⟩, ⟨by repeat (first | (with_reducible first | exact HB.out | apply below_alloc | apply pw_below_drewN | apply below_drew1 | refine below_set ?_ GE271.out) | exact HB.out)⟩⟩
      case round =>
       clear H'
       try clear c2
       try clear c2b0
       try clear c2b1
       try clear p2
       try clear c5
       try clear c8
       try clear c8b0
       try clear hcz4_0
       try clear hcz4_1
       try clear hfz4_0
       try clear hfz4_1
       try clear p2
       obtain ⟨x6_2, rfl, HA, HK2, HO_3, HO_4, BK271, HB⟩ := hrel
       cases gk with
       | zero => exact absurd HA.out (by simp [brookref1_ParseDn.l1])
       | succ k2 =>
        have H := HA.out
        clear HA
        simp only [brookref1_ParseDn.l1] at H
        by_cases c11 : 0 ≤ x5_1
        ·rw [if_pos c11] at H
         have c11b0 : decide (0 ≤ x5_1) = true := decide_eq_true c11
         clear c11
         (first | rw [c11b0] | (simp only [i64_w, i32_w]; rw [c11b0]) | skip)
         by_cases c12 : x5_1 < (t272.length : Int)
         ·rw [if_pos c12] at H
          have c12b0 : decide (x5_1 < (t272.length : Int)) = true := decide_eq_true c12
          clear c12
          by_cases c13 : x6_2 < ((rdOf ByteArray.empty t272 x5_1).size : Int)
          ·rw [if_pos c13] at H
           have c13b0 : decide (x6_2 < ((rdOf ByteArray.empty t272 x5_1).size : Int)) = true := decide_eq_true c13
           clear c13
           by_cases c14 : 0 ≤ x6_2
           ·rw [if_pos c14] at H
            have c14b0 : decide (0 ≤ x6_2) = true := decide_eq_true c14
            clear c14
            by_cases c16 : (bt (rdOf ByteArray.empty t272 x5_1) x6_2) = 61
            ·rw [if_pos c16] at H
             have c16b0 : ((bt (rdOf ByteArray.empty t272 x5_1) x6_2) == 61) = true := beq_iff_eq.mpr c16
             have c16b1 : ((bt (rdOf ByteArray.empty t272 x5_1) x6_2) != 61) = false := bne_eq_false_iff_eq.mpr c16
             clear c16
             have H' := Aside0.mk H
             clear H
             have p276 : 0 ≤ (x5_1 : Int) := of_decide_eq_true (by first | (with_reducible assumption) | assumption)
             have q276 : x5_1 < (t272.length : Int) := of_decide_eq_true (by first | (with_reducible assumption) | assumption)
             obtain ⟨ad276, e276, hx276_0⟩ := Kd.at_string (Kd.R_reads' HO_4.out).2.2 x5_1 p276 q276
             cases e276
             replace p276 := eq_true p276
             replace q276 := eq_true q276
             have p277 : 0 ≤ (x5_1 : Int) := of_decide_eq_true (by first | (with_reducible assumption) | assumption)
             have q277 : x5_1 < (t272.length : Int) := of_decide_eq_true (by first | (with_reducible assumption) | assumption)
             obtain ⟨ad277, e277, hx277_0⟩ := Kd.at_string (Kd.R_reads' HO_4.out).2.2 x5_1 p277 q277
             obtain rfl : ad276 = ad277 := (by injection e277)
             replace p277 := eq_true p277
             replace q277 := eq_true q277
             have p15 : 0 ≤ (x6_2 : Int) := of_decide_eq_true (by first | (with_reducible assumption) | assumption)
             have q15 : x6_2 < ((rdOf ByteArray.empty t272 x5_1).size : Int) := of_decide_eq_true (by first | (with_reducible assumption) | assumption)
             have hx15 := bt_at (rdOf ByteArray.empty t272 x5_1) x6_2
             replace p15 := eq_true p15
             replace q15 := eq_true q15
             go_wp2
             go_meet
             case rel => exact ⟨_, (x6_2), (by first | rfl | (simp; done) | (simp [*]; done) | (simp [u8_w, i64_w]; done) | (simp [isEmpty_bne]; done)), H', ⟨by have := HK1.out; have := HK2.out; first | omega | exact Nat.le_refl _⟩, ⟨by (with_reducible repeat (first | apply Kd.R_alloc | apply Kd.R_drewN | apply Kd.R_drew)); exact HO_3.out⟩, ⟨by (with_reducible repeat (first | apply Kd.R_alloc | apply Kd.R_drewN | apply Kd.R_drew)); exact HO_4.out⟩, ⟨by (with_reducible repeat (first | refine blk_drewN ?_ _ | refine blk_drew ?_ | refine blk_alloc ?_ _)); exact BK271.out⟩, ⟨by repeat (first | (with_reducible first | exact HB.out | apply below_alloc | apply pw_below_drewN | apply below_drew1 | refine below_set ?_ GE271.out) | exact HB.out)⟩⟩
            ·rw [if_neg c16] at H
             have c16b0 : ((bt (rdOf ByteArray.empty t272 x5_1) x6_2) == 61) = false := beq_eq_false_iff_ne.mpr c16
             have c16b1 : ((bt (rdOf ByteArray.empty t272 x5_1) x6_2) != 61) = true := bne_iff_ne.mpr c16
             have H' := Aside0.mk H
             clear H
             have p276 : 0 ≤ (x5_1 : Int) := of_decide_eq_true (by first | (with_reducible assumption) | assumption)
             have q276 : x5_1 < (t272.length : Int) := of_decide_eq_true (by first | (with_reducible assumption) | assumption)
             obtain ⟨ad276, e276, hx276_0⟩ := Kd.at_string (Kd.R_reads' HO_4.out).2.2 x5_1 p276 q276
             cases e276
             replace p276 := eq_true p276
             replace q276 := eq_true q276
             have p277 : 0 ≤ (x5_1 : Int) := of_decide_eq_true (by first | (with_reducible assumption) | assumption)
             have q277 : x5_1 < (t272.length : Int) := of_decide_eq_true (by first | (with_reducible assumption) | assumption)
             obtain ⟨ad277, e277, hx277_0⟩ := Kd.at_string (Kd.R_reads' HO_4.out).2.2 x5_1 p277 q277
             obtain rfl : ad276 = ad277 := (by injection e277)
             replace p277 := eq_true p277
             replace q277 := eq_true q277
             have p15 : 0 ≤ (x6_2 : Int) := of_decide_eq_true (by first | (with_reducible assumption) | assumption)
             have q15 : x6_2 < ((rdOf ByteArray.empty t272 x5_1).size : Int) := of_decide_eq_true (by first | (with_reducible assumption) | assumption)
             have hx15 := bt_at (rdOf ByteArray.empty t272 x5_1) x6_2
             replace p15 := eq_true p15
             replace q15 := eq_true q15
             go_wp2
             go_roundg k2
             case measure => have := HK1.out; have := HK2.out; omega
             case rel => exact ⟨(wrap64 (x6_2 + 1)), (by first | rfl | (simp; done) | (simp [*]; done) | (simp [u8_w, i64_w]; done) | (simp [isEmpty_bne]; done)), H', ⟨by have := HK1.out; have := HK2.out; omega⟩, ⟨by (with_reducible repeat (first | apply Kd.R_alloc | apply Kd.R_drewN | apply Kd.R_drew)); exact HO_3.out⟩, ⟨by (with_reducible repeat (first | apply Kd.R_alloc | apply Kd.R_drewN | apply Kd.R_drew)); exact HO_4.out⟩, ⟨by (with_reducible repeat (first | refine blk_drewN ?_ _ | refine blk_drew ?_ | refine blk_alloc ?_ _)); exact BK271.out⟩, ⟨by repeat (first | (with_reducible first | exact HB.out | apply below_alloc | apply pw_below_drewN | apply below_drew1 | refine below_set ?_ GE271.out) | exact HB.out)⟩⟩
           ·rw [if_neg c14] at H
            exact absurd H (by simp)
          ·rw [if_neg c13] at H
           have c13b0 : decide (x6_2 < ((rdOf ByteArray.empty t272 x5_1).size : Int)) = false := decide_eq_false c13
           clear c13
           have H' := Aside0.mk H
           clear H
           have p276 : 0 ≤ (x5_1 : Int) := of_decide_eq_true (by first | (with_reducible assumption) | assumption)
           have q276 : x5_1 < (t272.length : Int) := of_decide_eq_true (by first | (with_reducible assumption) | assumption)
           obtain ⟨ad276, e276, hx276_0⟩ := Kd.at_string (Kd.R_reads' HO_4.out).2.2 x5_1 p276 q276
           cases e276
           replace p276 := eq_true p276
           replace q276 := eq_true q276
           go_wp2
           go_meet
           case rel => exact ⟨_, (x6_2), (by first | rfl | (simp; done) | (simp [*]; done) | (simp [u8_w, i64_w]; done) | (simp [isEmpty_bne]; done)), H', ⟨by have := HK1.out; have := HK2.out; first | omega | exact Nat.le_refl _⟩, ⟨by (with_reducible repeat (first | apply Kd.R_alloc | apply Kd.R_drewN | apply Kd.R_drew)); exact HO_3.out⟩, ⟨by (with_reducible repeat (first | apply Kd.R_alloc | apply Kd.R_drewN | apply Kd.R_drew)); exact HO_4.out⟩, ⟨by (with_reducible repeat (first | refine blk_drewN ?_ _ | refine blk_drew ?_ | refine blk_alloc ?_ _)); exact BK271.out⟩, ⟨by repeat (first | (with_reducible first | exact HB.out | apply below_alloc | apply pw_below_drewN | apply below_drew1 | refine below_set ?_ GE271.out) | exact HB.out)⟩⟩
         ·rw [if_neg c12] at H
          exact absurd H (by simp)
        ·rw [if_neg c11] at H
         exact absurd H (by simp)
     case rest =>
      clear HC9
      try clear c1
      try clear p1
      try clear q1
      try clear hx1
      try clear c2
      try clear c2b0
      try clear c2b1
      try clear p2
      try clear q2
      try clear hx2
      try clear c5
      try clear p6
      try clear c8
      try clear c8b0
      try clear c11
      try clear c11b0
      try clear c12
      try clear c12b0
      try clear c13
      try clear c13b0
      try clear c14
      try clear c14b0
      try clear p15
      try clear q15
      try clear hx15
      try clear c16
      try clear c16b0
      try clear c16b1
      try clear hcz4_0
      try clear hcz4_1
      try clear hfz4_0
      try clear hfz4_1
      try clear hx276_0
      try clear hx277_0
      try clear p15
      try clear p2
      try clear p276
      try clear p277
      try clear q15
      try clear q276
      try clear q277
      obtain ⟨kq, x6_8, rfl, HA, HJ8, HO_3, HO_4, BK271, HB⟩ := hcut
      cases kq with
      | zero => exact absurd HA.out (by simp [brookref1_ParseDn.j2])
      | succ kj8 =>
       have H := HA.out
       clear HA
       simp only [brookref1_ParseDn.j2] at H
       by_cases c17 : 0 ≤ x5_1
       ·rw [if_pos c17] at H
        have c17b0 : decide (0 ≤ x5_1) = true := decide_eq_true c17
        clear c17
        by_cases c18 : x5_1 < (t272.length : Int)
        ·rw [if_pos c18] at H
         have c18b0 : decide (x5_1 < (t272.length : Int)) = true := decide_eq_true c18
         clear c18
         by_cases c19 : x6_8 = ((rdOf ByteArray.empty t272 x5_1).size : Int)
         ·rw [if_pos c19] at H
          have c19b0 : (x6_8 == ((rdOf ByteArray.empty t272 x5_1).size : Int)) = true := beq_iff_eq.mpr c19
          have c19b1 : (x6_8 != ((rdOf ByteArray.empty t272 x5_1).size : Int)) = false := bne_eq_false_iff_eq.mpr c19
          clear c19
          simp only [Option.some.injEq, Prod.mk.injEq] at H
          obtain ⟨rfl, rfl⟩ := H
          have p278 : 0 ≤ (x5_1 : Int) := of_decide_eq_true (by first | (with_reducible assumption) | assumption)
          have q278 : x5_1 < (t272.length : Int) := of_decide_eq_true (by first | (with_reducible assumption) | assumption)
          obtain ⟨ad278, e278, hx278_0⟩ := Kd.at_string (Kd.R_reads' HO_4.out).2.2 x5_1 p278 q278
          cases e278
          replace p278 := eq_true p278
          replace q278 := eq_true q278
          have hcz20_0 : wc.cell? ⟨gb271, 0, none⟩ = some (.slice none 0 0) := (blk_cell BK271.out 0).trans rfl
          have hcz20_1 : wc.cell? ⟨gb271, 1, none⟩ = some (.bool x272001_1) := (blk_cell BK271.out 1).trans rfl
          have hfz20_0 := blk_frozen BK271.out 0
          have hfz20_1 := blk_frozen BK271.out 1
          go_wp2
          refine bodyPost_ret (results_cell_row rfl _ _ gb271 42 #[.slice none 0 0, .bool false] (0, 0) _ rfl (by (with_reducible repeat (first | refine blk_drewN ?_ _ | refine blk_drew ?_ | refine blk_alloc ?_ _)); refine blk_put (cs := #[.slice none 0 0, .bool x272001_1]) ?_ 1 _ rfl; (with_reducible repeat (first | refine blk_drewN ?_ _ | refine blk_drew ?_ | refine blk_alloc ?_ _)); refine blk_put (cs := #[.slice none 0 0, .bool x272001_1]) ?_ 0 _ rfl; (with_reducible repeat (first | refine blk_drewN ?_ _ | refine blk_drew ?_ | refine blk_alloc ?_ _)); exact BK271.out) Tryd.underlying42 rfl (by kernel_rfl)) rfl ?_
          exact ⟨_, by first | rfl | (simp [errW_none, errW_some] <;> rfl) | (simp [*, errW_none, errW_some] <;> rfl), by first | exact Kd.R_nil _ _ _ _ _ | exact Kd.N_nil _ _ _ _ _ | exact Kd.V_nil _ _ _ _ _ | exact Kd.Q_nil _ _ _ _ _ | exact Kd.S_nil _ _ _ _ _, by repeat (first | (with_reducible first | exact HB.out | apply below_alloc | apply pw_below_drewN | apply below_drew1 | refine below_set ?_ GE271.out) | exact HB.out)⟩
         ·rw [if_neg c19] at H
          have c19b0 : (x6_8 == ((rdOf ByteArray.empty t272 x5_1).size : Int)) = false := beq_eq_false_iff_ne.mpr c19
          have c19b1 : (x6_8 != ((rdOf ByteArray.empty t272 x5_1).size : Int)) = true := bne_iff_ne.mpr c19
          obtain ⟨ji21, hji21⟩ : ∃ j_ : Int, (wrap64 (x6_8 + 1)) = j_ := ⟨_, rfl⟩
          replace H : (if 0 ≤ (ji21) then (if (ji21) ≤ ((rdOf ByteArray.empty t272 x5_1).size : Int) then ((brookref1_value.f kj8 ((rdOf ByteArray.empty t272 x5_1).extract ((ji21) : Int).toNat (rdOf ByteArray.empty t272 x5_1).size)).bind fun bt280 => (if bt280.2 = true then (if 0 ≤ x6_8 then (if x6_8 ≤ ((rdOf ByteArray.empty t272 x5_1).size : Int) then (if x3_1.length < 4398046511104 then (brookref1_ParseDn.l0 kj8 (x3_1 ++ [(⟨(rdOf ByteArray.empty t272 x5_1).extract 0 (x6_8 : Int).toNat, bt280.1⟩ : S25)]) t272 (wrap64 (x5_1 + 1))) else (none)) else (none)) else (none)) else (some (([] : List (S25)), false)))) else (none)) else (none)) = some (r1, r2) := by first | (rw [hji21] at H; exact H) | (simp only [hji21] at H ⊢; exact H)
          have hji21w : (IntKind.i64.wrap (x6_8 + 1)) = ji21 := (i64_w _).trans hji21
          by_cases c22 : 0 ≤ (ji21)
          ·rw [if_pos c22] at H
           have c22b0 := eq_true c22
           have c22b1 : decide (0 ≤ (ji21)) = true := decide_eq_true c22
           clear c22
           by_cases c23 : (ji21) ≤ ((rdOf ByteArray.empty t272 x5_1).size : Int)
           ·rw [if_pos c23] at H
            have c23b0 := eq_true c23
            have c23b1 : decide ((ji21) ≤ ((rdOf ByteArray.empty t272 x5_1).size : Int)) = true := decide_eq_true c23
            clear c23
            replace H := Option.bind_eq_some_iff.mp H
            obtain ⟨⟨t280, t281⟩, A240, H⟩ := H
            replace H : (if t281 = true then (if 0 ≤ x6_8 then (if x6_8 ≤ ((rdOf ByteArray.empty t272 x5_1).size : Int) then (if x3_1.length < 4398046511104 then (brookref1_ParseDn.l0 kj8 (x3_1 ++ [(⟨(rdOf ByteArray.empty t272 x5_1).extract 0 (x6_8 : Int).toNat, t280⟩ : S25)]) t272 (wrap64 (x5_1 + 1))) else (none)) else (none)) else (none)) else (some (([] : List (S25)), false))) = some (r1, r2) := H
            have A24 := Aside0.mk A240
            clear A240
            by_cases c25 : t281 = true
            ·subst c25
             have H1 : (if 0 ≤ x6_8 then (if x6_8 ≤ ((rdOf ByteArray.empty t272 x5_1).size : Int) then (if x3_1.length < 4398046511104 then (brookref1_ParseDn.l0 kj8 (x3_1 ++ [(⟨(rdOf ByteArray.empty t272 x5_1).extract 0 (x6_8 : Int).toNat, t280⟩ : S25)]) t272 (wrap64 (x5_1 + 1))) else (none)) else (none)) else (none)) = some (r1, r2) := by rw [if_pos rfl] at H; exact H
             clear H
             have H := H1
             clear H1
             by_cases c26 : 0 ≤ x6_8
             ·rw [if_pos c26] at H
              have c26b0 := eq_true c26
              have c26b1 : decide (0 ≤ x6_8) = true := decide_eq_true c26
              clear c26
              by_cases c27 : x6_8 ≤ ((rdOf ByteArray.empty t272 x5_1).size : Int)
              ·rw [if_pos c27] at H
               have c27b0 := eq_true c27
               have c27b1 : decide (x6_8 ≤ ((rdOf ByteArray.empty t272 x5_1).size : Int)) = true := decide_eq_true c27
               clear c27
               by_cases c28 : x3_1.length < 4398046511104
               ·rw [if_pos c28] at H
                have LMc28 := Aside0.mk c28
                clear c28
                obtain ⟨y283, hy283⟩ : ∃ y_ : List (S25), y_ = (x3_1 ++ [(⟨(rdOf ByteArray.empty t272 x5_1).extract 0 (x6_8 : Int).toNat, t280⟩ : S25)]) := ⟨_, rfl⟩
                replace H : (brookref1_ParseDn.l0 kj8 y283 t272 (wrap64 (x5_1 + 1))) = some (r1, r2) := by first | (rw [hy283]; with_reducible exact H) | (have H2_ := (Option.bind_some _ _).symm.trans H; rw [hy283]; with_reducible exact H2_) | (have H2_ := (Option.bind_some _ _).symm.trans H; with_reducible exact H2_) | with_reducible exact H | (rw [hy283]; exact H) | exact H
                have Ny283 := Aside0.mk hy283
                clear hy283
                have H' := Aside0.mk H
                clear H
                have p278 : 0 ≤ (x5_1 : Int) := of_decide_eq_true (by first | (with_reducible assumption) | assumption)
                have q278 : x5_1 < (t272.length : Int) := of_decide_eq_true (by first | (with_reducible assumption) | assumption)
                obtain ⟨ad278, e278, hx278_0⟩ := Kd.at_string (Kd.R_reads' HO_4.out).2.2 x5_1 p278 q278
                cases e278
                replace p278 := eq_true p278
                replace q278 := eq_true q278
                have p279 : 0 ≤ (x5_1 : Int) := of_decide_eq_true (by first | (with_reducible assumption) | assumption)
                have q279 : x5_1 < (t272.length : Int) := of_decide_eq_true (by first | (with_reducible assumption) | assumption)
                obtain ⟨ad279, e279, hx279_0⟩ := Kd.at_string (Kd.R_reads' HO_4.out).2.2 x5_1 p279 q279
                obtain rfl : ad278 = ad279 := (by injection e279)
                replace p279 := eq_true p279
                replace q279 := eq_true q279
                go_wp2_with (first | ((with_reducible refine gate_callee (f := 60) rfl ?_); refine goesL_ (some 54) rfl rfl Tryd.func60 (by kernel_rfl) rfl #[.string ((rdOf ByteArray.empty t272 x5_1).extract ((ji21) : Int).toNat (rdOf ByteArray.empty t272 x5_1).size)] rfl (by (try simp only [List.map_toArray, List.map_cons, List.map_nil]); first | done | (simp only [hji21]; rfl) | rfl | (simp only [List.length_drop, List.length_take]; rfl)) ?_; (with_reducible refine (brookref1_value.calls kj8 ((rdOf ByteArray.empty t272 x5_1).extract ((ji21) : Int).toNat (rdOf ByteArray.empty t272 x5_1).size) t280 true _ A24.out).mono ?_); rintro e w29 ⟨rfl, hb⟩; refine ⟨_, rfl, ?_⟩; have n0_ := Aside0.mk (Kd.R_below (by (with_reducible repeat (first | apply Kd.R_alloc | apply Kd.R_drewN | apply Kd.R_drew)); exact HO_3.out) hb); have n1_ := Aside0.mk (Kd.R_below (by (with_reducible repeat (first | apply Kd.R_alloc | apply Kd.R_drewN | apply Kd.R_drew)); exact HO_4.out) hb); have n2_ := Aside0.mk (blk_below (g := gb271) (o := .cells #[.slice none 0 0, .bool x272001_1] 42 (0, 0)) (by (with_reducible repeat (first | refine blk_drewN ?_ _ | refine blk_drew ?_ | refine blk_alloc ?_ _)); exact BK271.out) hb); have n3_ := Aside0.mk (below_step (by repeat (first | (with_reducible first | exact HB.out | apply below_alloc | apply pw_below_drewN | apply below_drew1 | refine below_set ?_ GE271.out) | exact HB.out)) hb); clear HO_3; clear HO_4; clear BK271; clear HB; have HO_3 := n0_; have HO_4 := n1_; have BK271 := n2_; have HB := n3_; clear n0_ n1_ n2_ n3_; (try clear hb); (try clear hb2); (try clear hk); (try clear hi); have p282 : 0 ≤ (x5_1 : Int) := of_decide_eq_true (by first | (with_reducible assumption) | assumption); have q282 : x5_1 < (t272.length : Int) := of_decide_eq_true (by first | (with_reducible assumption) | assumption); obtain ⟨ad282, e282, hx282_0⟩ := Kd.at_string (Kd.R_reads' HO_4.out).2.2 x5_1 p282 q282; obtain rfl : ad278 = ad282 := (by injection e282); replace p282 := eq_true p282; replace q282 := eq_true q282) | ((with_reducible refine gate_builtin (b := .append) (xs := #[.tmp 60, .tmp 69]) rfl ?_); at_builtin; refine Kd.R_append k25 (w0 := w) w.heap.size rfl (.tmp 60) (.tmp 69) 22 25 (.agg #[(.string ⟨#[]⟩), (.string ⟨#[]⟩)]) 32 rfl Tryd.underlying22 info25 rfl (by decide) (by omega) u3 x3_1 (⟨(rdOf ByteArray.empty t272 x5_1).extract 0 (x6_8 : Int).toNat, t280⟩ : S25) [.string ((rdOf ByteArray.empty t272 x5_1).extract 0 (x6_8 : Int).toNat), .string t280] (fun _ => True) (fun _ => False) rfl rfl ?aP (fun _ hk => hk.elim) ?aF ?aO ?aB ?aS ?aL ?_; (case aP => exact k25_mkM _ _ _ (⟨(rdOf ByteArray.empty t272 x5_1).extract 0 (x6_8 : Int).toNat, t280⟩ : S25)); (case aB => exact (by repeat (first | (with_reducible first | exact HB.out | apply below_alloc | apply pw_below_drewN | apply below_drew1 | refine below_set ?_ GE271.out) | exact HB.out))); (case aF => exact (fun _ _ => trivial)); (case aO => exact (by (with_reducible repeat (first | apply Kd.R_alloc | apply Kd.R_drewN | apply Kd.R_drew)); exact HO_3.out)); (case aS => exact (below_size (by repeat (first | (with_reducible first | exact HB.out | apply below_alloc | apply pw_below_drewN | apply below_drew1 | refine below_set ?_ GE271.out) | exact HB.out)))); (case aL => have := LMc28.out; omega); intro v284 w30 ho hb hg hat; rw [← Ny283.out] at ho; have n0_ := Aside0.mk (Kd.R_over' (by (with_reducible repeat (first | apply Kd.R_alloc | apply Kd.R_drewN | apply Kd.R_drew)); exact HO_4.out) (Kd.R_typed (by (with_reducible repeat (first | apply Kd.R_alloc | apply Kd.R_drewN | apply Kd.R_drew)); exact HO_3.out)) (by decide) hg); have n1_ := Aside0.mk (blk_grown (g := gb271) (o := .cells #[.slice none 0 0, .bool x272001_1] 42 (0, 0)) (by (with_reducible repeat (first | refine blk_drewN ?_ _ | refine blk_drew ?_ | refine blk_alloc ?_ _)); exact BK271.out) hg (Kd.R_ne HO_3.out BK271.out (by decide))); have n2_ := Aside0.mk (hb); have n3_ := Aside0.mk (ho); clear HO_4; clear BK271; clear HB; clear HO_3; have HO_4 := n0_; have BK271 := n1_; have HB := n2_; have HO285 := n3_; clear n0_ n1_ n2_ n3_; clear ho hb hg hat))
                go_roundg kj8
                case measure => have := HK1.out; have := HJ8.out; omega
                case rel => exact ⟨(y283), (wrap64 (x5_1 + 1)), (x272001_1), (by first | rfl | (simp; done) | (simp [*]; done) | (simp [u8_w, i64_w]; done) | (simp [isEmpty_bne]; done)), H', ⟨by have := HK1.out; have := HJ8.out; omega⟩, ⟨by (with_reducible repeat (first | apply Kd.R_alloc | apply Kd.R_drewN | apply Kd.R_drew)); exact HO285.out⟩, ⟨by (with_reducible repeat (first | apply Kd.R_alloc | apply Kd.R_drewN | apply Kd.R_drew)); exact HO_4.out⟩, ⟨by (with_reducible repeat (first | refine blk_drewN ?_ _ | refine blk_drew ?_ | refine blk_alloc ?_ _)); exact BK271.out⟩, ⟨by repeat (first | (with_reducible first | exact HB.out | apply below_alloc | apply pw_below_drewN | apply below_drew1 | refine below_set ?_ GE271.out) | exact HB.out)⟩⟩
               ·rw [if_neg c28] at H
                exact absurd H (by simp)
              ·rw [if_neg c27] at H
               exact absurd H (by simp)
             ·rw [if_neg c26] at H
              exact absurd H (by simp)
            ·replace c25 := Bool.eq_false_iff.mpr c25
             subst c25
             have H1 : (some (([] : List (S25)), false)) = some (r1, r2) := by rw [if_neg (show ¬ (false = true) by decide)] at H; exact H
             clear H
             have H := H1
             clear H1
             simp only [Option.some.injEq, Prod.mk.injEq] at H
             obtain ⟨rfl, rfl⟩ := H
             have p278 : 0 ≤ (x5_1 : Int) := of_decide_eq_true (by first | (with_reducible assumption) | assumption)
             have q278 : x5_1 < (t272.length : Int) := of_decide_eq_true (by first | (with_reducible assumption) | assumption)
             obtain ⟨ad278, e278, hx278_0⟩ := Kd.at_string (Kd.R_reads' HO_4.out).2.2 x5_1 p278 q278
             cases e278
             replace p278 := eq_true p278
             replace q278 := eq_true q278
             have p279 : 0 ≤ (x5_1 : Int) := of_decide_eq_true (by first | (with_reducible assumption) | assumption)
             have q279 : x5_1 < (t272.length : Int) := of_decide_eq_true (by first | (with_reducible assumption) | assumption)
             obtain ⟨ad279, e279, hx279_0⟩ := Kd.at_string (Kd.R_reads' HO_4.out).2.2 x5_1 p279 q279
             obtain rfl : ad278 = ad279 := (by injection e279)
             replace p279 := eq_true p279
             replace q279 := eq_true q279
             go_wp2_with (first | ((with_reducible refine gate_callee (f := 60) rfl ?_); refine goesL_ (some 54) rfl rfl Tryd.func60 (by kernel_rfl) rfl #[.string ((rdOf ByteArray.empty t272 x5_1).extract ((ji21) : Int).toNat (rdOf ByteArray.empty t272 x5_1).size)] rfl (by (try simp only [List.map_toArray, List.map_cons, List.map_nil]); first | done | (simp only [hji21]; rfl) | rfl | (simp only [List.length_drop, List.length_take]; rfl)) ?_; (with_reducible refine (brookref1_value.calls kj8 ((rdOf ByteArray.empty t272 x5_1).extract ((ji21) : Int).toNat (rdOf ByteArray.empty t272 x5_1).size) t280 false _ A24.out).mono ?_); rintro e w31 ⟨rfl, hb⟩; refine ⟨_, rfl, ?_⟩; have n0_ := Aside0.mk (Kd.R_below (by (with_reducible repeat (first | apply Kd.R_alloc | apply Kd.R_drewN | apply Kd.R_drew)); exact HO_3.out) hb); have n1_ := Aside0.mk (Kd.R_below (by (with_reducible repeat (first | apply Kd.R_alloc | apply Kd.R_drewN | apply Kd.R_drew)); exact HO_4.out) hb); have n2_ := Aside0.mk (blk_below (g := gb271) (o := .cells #[.slice none 0 0, .bool x272001_1] 42 (0, 0)) (by (with_reducible repeat (first | refine blk_drewN ?_ _ | refine blk_drew ?_ | refine blk_alloc ?_ _)); exact BK271.out) hb); have n3_ := Aside0.mk (below_step (by repeat (first | (with_reducible first | exact HB.out | apply below_alloc | apply pw_below_drewN | apply below_drew1 | refine below_set ?_ GE271.out) | exact HB.out)) hb); clear HO_3; clear HO_4; clear BK271; clear HB; have HO_3 := n0_; have HO_4 := n1_; have BK271 := n2_; have HB := n3_; clear n0_ n1_ n2_ n3_; (try clear hb); (try clear hb2); (try clear hk); (try clear hi); have hcz32_0 : w31.cell? ⟨gb271, 0, none⟩ = some (.slice none 0 0) := (blk_cell BK271.out 0).trans rfl; have hcz32_1 : w31.cell? ⟨gb271, 1, none⟩ = some (.bool x272001_1) := (blk_cell BK271.out 1).trans rfl; have hfz32_0 := blk_frozen BK271.out 0; have hfz32_1 := blk_frozen BK271.out 1))
             refine bodyPost_ret (results_cell_row rfl _ _ gb271 42 #[.slice none 0 0, .bool false] (0, 0) _ rfl (by (with_reducible repeat (first | refine blk_drewN ?_ _ | refine blk_drew ?_ | refine blk_alloc ?_ _)); refine blk_put (cs := #[.slice none 0 0, .bool x272001_1]) ?_ 1 _ rfl; (with_reducible repeat (first | refine blk_drewN ?_ _ | refine blk_drew ?_ | refine blk_alloc ?_ _)); refine blk_put (cs := #[.slice none 0 0, .bool x272001_1]) ?_ 0 _ rfl; (with_reducible repeat (first | refine blk_drewN ?_ _ | refine blk_drew ?_ | refine blk_alloc ?_ _)); exact BK271.out) Tryd.underlying42 rfl (by kernel_rfl)) rfl ?_
             exact ⟨_, by first | rfl | (simp [errW_none, errW_some] <;> rfl) | (simp only [← hji21]; first | rfl | (simp [errW_none, errW_some] <;> rfl)) | (simp [*, errW_none, errW_some] <;> rfl), by first | exact Kd.R_nil _ _ _ _ _ | exact Kd.N_nil _ _ _ _ _ | exact Kd.V_nil _ _ _ _ _ | exact Kd.Q_nil _ _ _ _ _ | exact Kd.S_nil _ _ _ _ _, by repeat (first | (with_reducible first | exact HB.out | apply below_alloc | apply pw_below_drewN | apply below_drew1 | refine below_set ?_ GE271.out) | exact HB.out)⟩
           ·rw [if_neg c23] at H
            exact absurd H (by simp)
          ·rw [if_neg c22] at H
           exact absurd H (by simp)
        ·rw [if_neg c18] at H
         exact absurd H (by simp)
       ·rw [if_neg c17] at H
        exact absurd H (by simp)
    ·rw [if_neg c8] at H
     have c8b0 : decide (x5_1 < (t272.length : Int)) = false := decide_eq_false c8
     clear c8
     replace H := Option.bind_eq_some_iff.mp H
     obtain ⟨t275, A330, H⟩ := H
     replace H : (if t275 = true then (some (x3_1, true)) else (some (([] : List (S25)), false))) = some (r1, r2) := H
     have A33 := Aside0.mk A330
     clear A330
     by_cases c34 : t275 = true
     ·subst c34
      have H1 : (some (x3_1, true)) = some (r1, r2) := by rw [if_pos rfl] at H; exact H
      clear H
      have H := H1
      clear H1
      simp only [Option.some.injEq, Prod.mk.injEq] at H
      obtain ⟨rfl, rfl⟩ := H
      obtain ⟨Ao35, co35, eo35⟩ := Kd.R_slice HO_4.out
      subst eo35
      obtain ⟨Ao36, co36, eo36⟩ := Kd.R_slice HO_3.out
      subst eo36
      go_wp2_with (first | ((with_reducible refine gate_callee (f := 17) rfl ?_); refine goesL_ (some 72) rfl rfl Tryd.func17 (by kernel_rfl) rfl #[.slice Ao36 x3_1.length co36] rfl (by (try simp only [List.map_toArray, List.map_cons, List.map_nil]); first | done | rfl | (simp only [List.length_drop, List.length_take]; rfl)) ?_; (with_reducible refine (brookref1_MayDn.calls k1 _ _ x3_1 true _ ?side1 ?side2 A33.out).mono ?_); (case side1 => repeat (first | exact (Kd.R_reads' HO_3.out).2.2 | (with_reducible refine Kd.C_alloc ?_ _) | (with_reducible refine Kd.C_drewN ?_ _) | (with_reducible refine Kd.C_drew ?_))); (case side2 => exact (Kd.R_reads' HO_3.out).2.1); rintro e w' ⟨rfl, ⟨nd, rfl⟩⟩; refine ⟨_, rfl, ?_⟩; (try (rw [drewN_self wr]; generalize hq_ : World.drewN wr _ = wr; have n0_ : Aside0 (Kd.R k25 25 wr w.heap.size (fun _ => True) (.slice Ao36 x3_1.length co36) x3_1) := ⟨by rw [← hq_]; exact (by (with_reducible repeat (first | apply Kd.R_alloc | apply Kd.R_drewN | apply Kd.R_drew)); exact HO_3.out)⟩; have n1_ : Aside0 (Kd.R Kd.string 9 wr w.heap.size (fun _ => True) (.slice Ao35 t272.length co35) t272) := ⟨by rw [← hq_]; exact (by (with_reducible repeat (first | apply Kd.R_alloc | apply Kd.R_drewN | apply Kd.R_drew)); exact HO_4.out)⟩; have n2_ : Aside0 (wr.heap[gb271]? = some (.cells #[.slice none 0 0, .bool x272001_1] 42 (0, 0))) := ⟨by rw [← hq_]; exact (by (with_reducible repeat (first | refine blk_drewN ?_ _ | refine blk_drew ?_ | refine blk_alloc ?_ _)); exact BK271.out)⟩; have n3_ : Aside0 (Below w.heap.size w wr) := ⟨by rw [← hq_]; exact (by repeat (first | (with_reducible first | exact HB.out | apply below_alloc | apply pw_below_drewN | apply below_drew1 | refine below_set ?_ GE271.out) | exact HB.out))⟩; clear HO_3 HO_4 BK271 HB hq_; have HO_3 := n0_; have HO_4 := n1_; have BK271 := n2_; have HB := n3_; clear n0_ n1_ n2_ n3_)); have hcz37_0 : wr.cell? ⟨gb271, 0, none⟩ = some (.slice none 0 0) := (blk_cell BK271.out 0).trans rfl; have hcz37_1 : wr.cell? ⟨gb271, 1, none⟩ = some (.bool x272001_1) := (blk_cell BK271.out 1).trans rfl; have hfz37_0 := blk_frozen BK271.out 0; have hfz37_1 := blk_frozen BK271.out 1))
      refine bodyPost_ret (results_cell_row rfl _ _ gb271 42 #[.slice Ao36 x3_1.length co36, .bool true] (0, 0) _ rfl (by (with_reducible repeat (first | refine blk_drewN ?_ _ | refine blk_drew ?_ | refine blk_alloc ?_ _)); refine blk_put (cs := #[.slice Ao36 x3_1.length co36, .bool x272001_1]) ?_ 1 _ rfl; (with_reducible repeat (first | refine blk_drewN ?_ _ | refine blk_drew ?_ | refine blk_alloc ?_ _)); refine blk_put (cs := #[.slice none 0 0, .bool x272001_1]) ?_ 0 _ rfl; (with_reducible repeat (first | refine blk_drewN ?_ _ | refine blk_drew ?_ | refine blk_alloc ?_ _)); exact BK271.out) Tryd.underlying42 rfl (by kernel_rfl)) rfl ?_
      exact ⟨_, by first | rfl | (simp [errW_none, errW_some] <;> rfl) | (simp [*, errW_none, errW_some] <;> rfl), by (with_reducible repeat (first | apply Kd.R_alloc | apply Kd.R_drewN | apply Kd.R_drew)); exact Kd.R_mono (Kd.R_far (p := ⟨gb271, 1, none⟩) (Kd.R_far (p := ⟨gb271, 0, none⟩) (Kd.R_types HO_3.out BK271.out (by decide)) (fun _ hk => hk.2) (.slice Ao36 x3_1.length co36)) (fun _ hk => hk.2) (.bool true)) (fun _ hk => trivial), by repeat (first | (with_reducible first | exact HB.out | apply below_alloc | apply pw_below_drewN | apply below_drew1 | refine below_set ?_ GE271.out) | exact HB.out)⟩
     ·replace c34 := Bool.eq_false_iff.mpr c34
      subst c34
      have H1 : (some (([] : List (S25)), false)) = some (r1, r2) := by rw [if_neg (show ¬ (false = true) by decide)] at H; exact H
      clear H
      have H := H1
      clear H1
      simp only [Option.some.injEq, Prod.mk.injEq] at H
      obtain ⟨rfl, rfl⟩ := H
      obtain ⟨Ao38, co38, eo38⟩ := Kd.R_slice HO_4.out
      subst eo38
      obtain ⟨Ao39, co39, eo39⟩ := Kd.R_slice HO_3.out
      subst eo39
      go_wp2_with (first | ((with_reducible refine gate_callee (f := 17) rfl ?_); refine goesL_ (some 72) rfl rfl Tryd.func17 (by kernel_rfl) rfl #[.slice Ao39 x3_1.length co39] rfl (by (try simp only [List.map_toArray, List.map_cons, List.map_nil]); first | done | rfl | (simp only [List.length_drop, List.length_take]; rfl)) ?_; (with_reducible refine (brookref1_MayDn.calls k1 _ _ x3_1 false _ ?side1 ?side2 A33.out).mono ?_); (case side1 => repeat (first | exact (Kd.R_reads' HO_3.out).2.2 | (with_reducible refine Kd.C_alloc ?_ _) | (with_reducible refine Kd.C_drewN ?_ _) | (with_reducible refine Kd.C_drew ?_))); (case side2 => exact (Kd.R_reads' HO_3.out).2.1); rintro e w' ⟨rfl, ⟨nd, rfl⟩⟩; refine ⟨_, rfl, ?_⟩; (try (rw [drewN_self wr]; generalize hq_ : World.drewN wr _ = wr; have n0_ : Aside0 (Kd.R k25 25 wr w.heap.size (fun _ => True) (.slice Ao39 x3_1.length co39) x3_1) := ⟨by rw [← hq_]; exact (by (with_reducible repeat (first | apply Kd.R_alloc | apply Kd.R_drewN | apply Kd.R_drew)); exact HO_3.out)⟩; have n1_ : Aside0 (Kd.R Kd.string 9 wr w.heap.size (fun _ => True) (.slice Ao38 t272.length co38) t272) := ⟨by rw [← hq_]; exact (by (with_reducible repeat (first | apply Kd.R_alloc | apply Kd.R_drewN | apply Kd.R_drew)); exact HO_4.out)⟩; have n2_ : Aside0 (wr.heap[gb271]? = some (.cells #[.slice none 0 0, .bool x272001_1] 42 (0, 0))) := ⟨by rw [← hq_]; exact (by (with_reducible repeat (first | refine blk_drewN ?_ _ | refine blk_drew ?_ | refine blk_alloc ?_ _)); exact BK271.out)⟩; have n3_ : Aside0 (Below w.heap.size w wr) := ⟨by rw [← hq_]; exact (by repeat (first | (with_reducible first | exact HB.out | apply below_alloc | apply pw_below_drewN | apply below_drew1 | refine below_set ?_ GE271.out) | exact HB.out))⟩; clear HO_3 HO_4 BK271 HB hq_; have HO_3 := n0_; have HO_4 := n1_; have BK271 := n2_; have HB := n3_; clear n0_ n1_ n2_ n3_)); have hcz40_0 : wr.cell? ⟨gb271, 0, none⟩ = some (.slice none 0 0) := (blk_cell BK271.out 0).trans rfl; have hcz40_1 : wr.cell? ⟨gb271, 1, none⟩ = some (.bool x272001_1) := (blk_cell BK271.out 1).trans rfl; have hfz40_0 := blk_frozen BK271.out 0; have hfz40_1 := blk_frozen BK271.out 1))
      refine bodyPost_ret (results_cell_row rfl _ _ gb271 42 #[.slice none 0 0, .bool false] (0, 0) _ rfl (by (with_reducible repeat (first | refine blk_drewN ?_ _ | refine blk_drew ?_ | refine blk_alloc ?_ _)); refine blk_put (cs := #[.slice none 0 0, .bool x272001_1]) ?_ 1 _ rfl; (with_reducible repeat (first | refine blk_drewN ?_ _ | refine blk_drew ?_ | refine blk_alloc ?_ _)); refine blk_put (cs := #[.slice none 0 0, .bool x272001_1]) ?_ 0 _ rfl; (with_reducible repeat (first | refine blk_drewN ?_ _ | refine blk_drew ?_ | refine blk_alloc ?_ _)); exact BK271.out) Tryd.underlying42 rfl (by kernel_rfl)) rfl ?_
      exact ⟨_, by first | rfl | (simp [errW_none, errW_some] <;> rfl) | (simp [*, errW_none, errW_some] <;> rfl), by first | exact Kd.R_nil _ _ _ _ _ | exact Kd.N_nil _ _ _ _ _ | exact Kd.V_nil _ _ _ _ _ | exact Kd.Q_nil _ _ _ _ _ | exact Kd.S_nil _ _ _ _ _, by repeat (first | (with_reducible first | exact HB.out | apply below_alloc | apply pw_below_drewN | apply below_drew1 | refine below_set ?_ GE271.out) | exact HB.out)⟩
end Go.Proofs.YtflkghdndffacaaDoor.PD
namespace Go.Proofs.YtflkghdndffacaaDoor.PD
open Go.RowKit Go.Proofs.YtflkghdndffacaaDoor.H Go.Proofs.YtflkghdndffacaaDoorW.PrintWords Go.Proofs.YtflkghdndffacaaDoorW.PrintLast Go.Proofs.YtflkghdndffacaaDoorW.PrintMore
attribute [local go_sem] max2_int min2_int max_two min_two max_three min_three max_four min_four
set_option linter.unusedVariables false
set_option linter.unusedSimpArgs false
def brookref1_Fold.l0 : Nat → ByteArray → ByteArray → Bool → Int → Option (ByteArray)
 | 0, _, _, _, _ => none
 | k + 1, x3, x4, x5, x6 => if x6 < (x3.size : Int) then (if 0 ≤ x6 then (if (bt x3 x6) = 32 then (brookref1_Fold.l0 k x3 x4 (x4.toList != ([] : List UInt8)) (wrap64 (x6 + 1))) else (if x5 = true then (if x4.size + 1 ≤ 9223372036854775807 then (if x6 ≤ (wrap64 (x6 + 1)) then (if (wrap64 (x6 + 1)) ≤ (x3.size : Int) then (if (x4 ++ (⟨#[32]⟩ : ByteArray)).size + (x3.extract (x6 : Int).toNat ((wrap64 (x6 + 1)) : Int).toNat).size ≤ 9223372036854775807 then (brookref1_Fold.l0 k x3 ((x4 ++ (⟨#[32]⟩ : ByteArray)) ++ (x3.extract (x6 : Int).toNat ((wrap64 (x6 + 1)) : Int).toNat)) false (wrap64 (x6 + 1))) else (none)) else (none)) else (none)) else (none)) else (if x6 ≤ (wrap64 (x6 + 1)) then (if (wrap64 (x6 + 1)) ≤ (x3.size : Int) then (if x4.size + (x3.extract (x6 : Int).toNat ((wrap64 (x6 + 1)) : Int).toNat).size ≤ 9223372036854775807 then (brookref1_Fold.l0 k x3 (x4 ++ (x3.extract (x6 : Int).toNat ((wrap64 (x6 + 1)) : Int).toNat)) x5 (wrap64 (x6 + 1))) else (none)) else (none)) else (none)))) else (none)) else (some x4)
def brookref1_Fold.f (k : Nat) (a0 : ByteArray) : Option (ByteArray) := (brookref1_Lower.f a0).bind fun t286 => (brookref1_Fold.l0 k t286 (⟨#[]⟩ : ByteArray) false 0)
theorem brookref1_Fold.mono_l : ∀ k, (∀ y0 y1 y2 y3, LeO (brookref1_Fold.l0 k y0 y1 y2 y3) (brookref1_Fold.l0 (k + 1) y0 y1 y2 y3))
 | 0 => fun _ _ _ _ r h => by simp [brookref1_Fold.l0] at h
 | k + 1 => by
  have ih0 := brookref1_Fold.mono_l k
  ·intro y0 y1 y2 y3
   unfold brookref1_Fold.l0
   repeat' first
   | (with_reducible exact ih0 _ _ _ _)
   | (with_reducible exact LeO.refl _)
   | (with_reducible exact LeO.none _)
   | (with_reducible refine LeO.ite ?_ ?_)
   | (with_reducible refine LeO.bind ?_ (fun _ => ?_))
   | exact ih0 _ _ _ _
   | exact LeO.none _
   | refine LeO.ite ?_ ?_
   | refine LeO.bind ?_ (fun _ => ?_)
theorem brookref1_Fold.mono : ∀ a0 k, LeO (brookref1_Fold.f k a0) (brookref1_Fold.f (k + 1) a0) := by
 intro a0 k
 have ih0 := brookref1_Fold.mono_l k
 unfold brookref1_Fold.f
 repeat' first
   | (with_reducible exact ih0 _ _ _ _)
   | (with_reducible exact LeO.refl _)
   | (with_reducible exact LeO.none _)
   | (with_reducible refine LeO.ite ?_ ?_)
   | (with_reducible refine LeO.bind ?_ (fun _ => ?_))
   | exact ih0 _ _ _ _
   | exact LeO.none _
   | refine LeO.ite ?_ ?_
   | refine LeO.bind ?_ (fun _ => ?_)
set_option maxHeartbeats 8000000 in
set_option maxRecDepth 100000 in
theorem brookref1_Fold.calls (k : Nat) (a0 : ByteArray) (r : ByteArray) (w : World) (h : brookref1_Fold.f k a0 = some r) :
  Calls Tryd.prog 28 #[.string a0] w fun e w' => e = .returned (.string r) ∧ Below w.heap.size w w' := by
 have HB := Aside0.mk (Below.refl w.heap.size w)
 have H : ((brookref1_Lower.f a0).bind fun t286 => (brookref1_Fold.l0 k t286 (⟨#[]⟩ : ByteArray) false 0)) = some r := h
 clear h
 replace H := Option.bind_eq_some_iff.mp H
 obtain ⟨t286, A20, H⟩ := H
 replace H : (brookref1_Fold.l0 k t286 (⟨#[]⟩ : ByteArray) false 0) = some r := H
 have A2 := Aside0.mk A20
 clear A20
 have H' := Aside0.mk H
 clear H
 go_enter Tryd.func28, Tryd.ntmps28
 go_wp2_with (first | ((with_reducible refine gate_callee (f := 24) rfl ?_); refine goesL_ (some 8) rfl rfl Tryd.func24 (by kernel_rfl) rfl #[.string a0] rfl (by (try simp only [List.map_toArray, List.map_cons, List.map_nil]); first | done | rfl | (simp only [List.length_drop, List.length_take]; rfl)) ?_; (with_reducible refine (brookref1_Lower.calls a0 t286 _ A2.out).mono ?_); rintro e w3 ⟨rfl, hb⟩; refine ⟨_, rfl, ?_⟩; have n0_ := Aside0.mk (below_step (by repeat (first | (with_reducible first | exact HB.out | apply below_alloc | apply pw_below_drewN | apply below_drew1) | exact HB.out)) hb); clear HB; have HB := n0_; clear n0_; (try clear hb); (try clear hb2); (try clear hk); (try clear hi)))
 go_loopg [4, 5, 6] k (fun kq v4 v5 v6 w' => ∃ (x4_1 : ByteArray) (x5_1 : Bool) (x6_1 : Int), v4 = .string x4_1 ∧ v5 = .bool x5_1 ∧ v6 = .int .i64 x6_1 ∧ Aside0 (brookref1_Fold.l0 kq t286 x4_1 x5_1 x6_1 = some r) ∧ Aside0 (kq ≤ k) ∧ Aside0 (Below w.heap.size w w'))
 case atStart => exact ⟨((⟨#[]⟩ : ByteArray)), (false), (0), (by first | rfl | (simp; done) | (simp [*]; done) | (simp [u8_w, i64_w]; done) | (simp [isEmpty_bne]; done)), (by first | rfl | (simp; done) | (simp [*]; done) | (simp [u8_w, i64_w]; done) | (simp [isEmpty_bne]; done)), (by first | rfl | (simp; done) | (simp [*]; done) | (simp [u8_w, i64_w]; done) | (simp [isEmpty_bne]; done)), H', ⟨Nat.le_refl _⟩, ⟨by repeat (first | (with_reducible first | exact HB.out | apply below_alloc | apply pw_below_drewN | apply below_drew1) | exact HB.out)⟩⟩
 case round =>
  clear H'
  try clear c2
  try clear p2
  obtain ⟨x4_1, x5_1, x6_1, rfl, rfl, rfl, HA, HK1, HB⟩ := hrel
  cases gk with
  | zero => exact absurd HA.out (by simp [brookref1_Fold.l0])
  | succ k1 =>
   have H := HA.out
   clear HA
   simp only [brookref1_Fold.l0] at H
   by_cases c4 : x6_1 < (t286.size : Int)
   ·rw [if_pos c4] at H
    have c4b0 : decide (x6_1 < (t286.size : Int)) = true := decide_eq_true c4
    clear c4
    by_cases c5 : 0 ≤ x6_1
    ·rw [if_pos c5] at H
     have c5b0 : decide (0 ≤ x6_1) = true := decide_eq_true c5
     clear c5
     by_cases c7 : (bt t286 x6_1) = 32
     ·rw [if_pos c7] at H
      have c7b0 : ((bt t286 x6_1) == 32) = true := beq_iff_eq.mpr c7
      have c7b1 : ((bt t286 x6_1) != 32) = false := bne_eq_false_iff_eq.mpr c7
      clear c7
      have H' := Aside0.mk H
      clear H
      have p6 : 0 ≤ (x6_1 : Int) := of_decide_eq_true (by first | (with_reducible assumption) | assumption)
      have q6 : x6_1 < (t286.size : Int) := of_decide_eq_true (by first | (with_reducible assumption) | assumption)
      have hx6 := bt_at t286 x6_1
      replace p6 := eq_true p6
      replace q6 := eq_true q6
      go_wp2
      go_roundg k1
      case measure => have := HK1.out; omega
      case rel => exact ⟨(x4_1), ((x4_1.toList != ([] : List UInt8))), (wrap64 (x6_1 + 1)), (by first | rfl | (simp; done) | (simp [*]; done) | (simp [u8_w, i64_w]; done) | (simp [isEmpty_bne]; done)), (by first | rfl | (simp; done) | (simp [*]; done) | (simp [u8_w, i64_w]; done) | (simp [isEmpty_bne]; done)), (by first | rfl | (simp; done) | (simp [*]; done) | (simp [u8_w, i64_w]; done) | (simp [isEmpty_bne]; done)), H', ⟨by have := HK1.out; omega⟩, ⟨by repeat (first | (with_reducible first | exact HB.out | apply below_alloc | apply pw_below_drewN | apply below_drew1) | exact HB.out)⟩⟩
     ·rw [if_neg c7] at H
      have c7b0 : ((bt t286 x6_1) == 32) = false := beq_eq_false_iff_ne.mpr c7
      have c7b1 : ((bt t286 x6_1) != 32) = true := bne_iff_ne.mpr c7
      by_cases c8 : x5_1 = true
      ·subst c8
       have H1 : (if x4_1.size + 1 ≤ 9223372036854775807 then (if x6_1 ≤ (wrap64 (x6_1 + 1)) then (if (wrap64 (x6_1 + 1)) ≤ (t286.size : Int) then (if (x4_1 ++ (⟨#[32]⟩ : ByteArray)).size + (t286.extract (x6_1 : Int).toNat ((wrap64 (x6_1 + 1)) : Int).toNat).size ≤ 9223372036854775807 then (brookref1_Fold.l0 k1 t286 ((x4_1 ++ (⟨#[32]⟩ : ByteArray)) ++ (t286.extract (x6_1 : Int).toNat ((wrap64 (x6_1 + 1)) : Int).toNat)) false (wrap64 (x6_1 + 1))) else (none)) else (none)) else (none)) else (none)) = some r := by rw [if_pos rfl] at H; exact H
       clear H
       have H := H1
       clear H1
       by_cases c9 : x4_1.size + 1 ≤ 9223372036854775807
       ·rw [if_pos c9] at H
        have c9b0 := eq_true c9
        have c9b1 : decide (x4_1.size + 1 ≤ 9223372036854775807) = true := decide_eq_true c9
        try have c9b2 : (9223372036854775807 < x4_1.size + 1) = False := eq_false (Nat.not_lt.2 c9)
        have c10b0 := eq_true (of_decide_eq_true (by first | (with_reducible assumption) | assumption) : 0 ≤ x6_1)
        by_cases c11 : x6_1 ≤ (wrap64 (x6_1 + 1))
        ·rw [if_pos c11] at H
         have c11b0 := eq_true c11
         have c11b1 : decide (x6_1 ≤ (wrap64 (x6_1 + 1))) = true := decide_eq_true c11
         by_cases c12 : (wrap64 (x6_1 + 1)) ≤ (t286.size : Int)
         ·rw [if_pos c12] at H
          have c12b0 := eq_true c12
          have c12b1 : decide ((wrap64 (x6_1 + 1)) ≤ (t286.size : Int)) = true := decide_eq_true c12
          by_cases c13 : (x4_1 ++ (⟨#[32]⟩ : ByteArray)).size + (t286.extract (x6_1 : Int).toNat ((wrap64 (x6_1 + 1)) : Int).toNat).size ≤ 9223372036854775807
          ·rw [if_pos c13] at H
           have c13b0 := eq_true c13
           have c13b1 : decide ((x4_1 ++ (⟨#[32]⟩ : ByteArray)).size + (t286.extract (x6_1 : Int).toNat ((wrap64 (x6_1 + 1)) : Int).toNat).size ≤ 9223372036854775807) = true := decide_eq_true c13
           try have c13b2 : (9223372036854775807 < (x4_1 ++ (⟨#[32]⟩ : ByteArray)).size + (t286.extract (x6_1 : Int).toNat ((wrap64 (x6_1 + 1)) : Int).toNat).size) = False := eq_false (Nat.not_lt.2 c13)
           have H' := Aside0.mk H
           clear H
           have p6 : 0 ≤ (x6_1 : Int) := of_decide_eq_true (by first | (with_reducible assumption) | assumption)
           have q6 : x6_1 < (t286.size : Int) := of_decide_eq_true (by first | (with_reducible assumption) | assumption)
           have hx6 := bt_at t286 x6_1
           replace p6 := eq_true p6
           replace q6 := eq_true q6
           go_wp2
           go_roundg k1
           case measure => have := HK1.out; omega
           case rel => exact ⟨((x4_1 ++ (⟨#[32]⟩ : ByteArray)) ++ (t286.extract (x6_1 : Int).toNat ((wrap64 (x6_1 + 1)) : Int).toNat)), (false), (wrap64 (x6_1 + 1)), (by first | rfl | (simp; done) | (simp [*]; done) | (simp [u8_w, i64_w]; done) | (simp [isEmpty_bne]; done)), (by first | rfl | (simp; done) | (simp [*]; done) | (simp [u8_w, i64_w]; done) | (simp [isEmpty_bne]; done)), (by first | rfl | (simp; done) | (simp [*]; done) | (simp [u8_w, i64_w]; done) | (simp [isEmpty_bne]; done)), H', ⟨by have := HK1.out; omega⟩, ⟨by repeat (first | (with_reducible first | exact HB.out | apply below_alloc | apply pw_below_drewN | apply below_drew1) | exact HB.out)⟩⟩
          ·rw [if_neg c13] at H
           exact absurd H (by simp)
         ·rw [if_neg c12] at H
          exact absurd H (by simp)
        ·rw [if_neg c11] at H
         exact absurd H (by simp)
       ·rw [if_neg c9] at H
        exact absurd H (by simp)
      ·replace c8 := Bool.eq_false_iff.mpr c8
       subst c8
       have H1 : (if x6_1 ≤ (wrap64 (x6_1 + 1)) then (if (wrap64 (x6_1 + 1)) ≤ (t286.size : Int) then (if x4_1.size + (t286.extract (x6_1 : Int).toNat ((wrap64 (x6_1 + 1)) : Int).toNat).size ≤ 9223372036854775807 then (brookref1_Fold.l0 k1 t286 (x4_1 ++ (t286.extract (x6_1 : Int).toNat ((wrap64 (x6_1 + 1)) : Int).toNat)) false (wrap64 (x6_1 + 1))) else (none)) else (none)) else (none)) = some r := by rw [if_neg (show ¬ (false = true) by decide)] at H; exact H
       clear H
       have H := H1
       clear H1
       have c14b0 := eq_true (of_decide_eq_true (by first | (with_reducible assumption) | assumption) : 0 ≤ x6_1)
       by_cases c15 : x6_1 ≤ (wrap64 (x6_1 + 1))
       ·rw [if_pos c15] at H
        have c15b0 := eq_true c15
        have c15b1 : decide (x6_1 ≤ (wrap64 (x6_1 + 1))) = true := decide_eq_true c15
        by_cases c16 : (wrap64 (x6_1 + 1)) ≤ (t286.size : Int)
        ·rw [if_pos c16] at H
         have c16b0 := eq_true c16
         have c16b1 : decide ((wrap64 (x6_1 + 1)) ≤ (t286.size : Int)) = true := decide_eq_true c16
         by_cases c17 : x4_1.size + (t286.extract (x6_1 : Int).toNat ((wrap64 (x6_1 + 1)) : Int).toNat).size ≤ 9223372036854775807
         ·rw [if_pos c17] at H
          have c17b0 := eq_true c17
          have c17b1 : decide (x4_1.size + (t286.extract (x6_1 : Int).toNat ((wrap64 (x6_1 + 1)) : Int).toNat).size ≤ 9223372036854775807) = true := decide_eq_true c17
          try have c17b2 : (9223372036854775807 < x4_1.size + (t286.extract (x6_1 : Int).toNat ((wrap64 (x6_1 + 1)) : Int).toNat).size) = False := eq_false (Nat.not_lt.2 c17)
          have H' := Aside0.mk H
          clear H
          have p6 : 0 ≤ (x6_1 : Int) := of_decide_eq_true (by first | (with_reducible assumption) | assumption)
          have q6 : x6_1 < (t286.size : Int) := of_decide_eq_true (by first | (with_reducible assumption) | assumption)
          have hx6 := bt_at t286 x6_1
          replace p6 := eq_true p6
          replace q6 := eq_true q6
          go_wp2
          go_roundg k1
          case measure => have := HK1.out; omega
          case rel => exact ⟨(x4_1 ++ (t286.extract (x6_1 : Int).toNat ((wrap64 (x6_1 + 1)) : Int).toNat)), (false), (wrap64 (x6_1 + 1)), (by first | rfl | (simp; done) | (simp [*]; done) | (simp [u8_w, i64_w]; done) | (simp [isEmpty_bne]; done)), (by first | rfl | (simp; done) | (simp [*]; done) | (simp [u8_w, i64_w]; done) | (simp [isEmpty_bne]; done)), (by first | rfl | (simp; done) | (simp [*]; done) | (simp [u8_w, i64_w]; done) | (simp [isEmpty_bne]; done)), H', ⟨by have := HK1.out; omega⟩, ⟨by repeat (first | (with_reducible first | exact HB.out | apply below_alloc | apply pw_below_drewN | apply below_drew1) | exact HB.out)⟩⟩
         ·rw [if_neg c17] at H
          exact absurd H (by simp)
        ·rw [if_neg c16] at H
         exact absurd H (by simp)
       ·rw [if_neg c15] at H
        exact absurd H (by simp)
    ·rw [if_neg c5] at H
     exact absurd H (by simp)
   ·rw [if_neg c4] at H
    have c4b0 : decide (x6_1 < (t286.size : Int)) = false := decide_eq_false c4
    clear c4
    obtain rfl := Option.some.inj H
    go_wp2
    go_ret
    exact ⟨by first | rfl | (simp [errW_none, errW_some] <;> rfl) | (simp [*, errW_none, errW_some] <;> rfl), by repeat (first | (with_reducible first | exact HB.out | apply below_alloc | apply pw_below_drewN | apply below_drew1) | exact HB.out)⟩
end Go.Proofs.YtflkghdndffacaaDoor.PD
