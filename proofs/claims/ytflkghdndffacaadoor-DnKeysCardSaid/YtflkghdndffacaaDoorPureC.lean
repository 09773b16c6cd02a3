/- What dn.May, the document's MayType, MayDn, escaped and TextDn reckon, in plain words: both texts and both tests are one. No condition but bounds on lengths. -/
import Derived.Test.YtflkghdndffacaaDoorPDx12
import Derived.Test.YtflkghdndffacaaDoorPDx2
import Derived.Test.YtflkghdndffacaaDoorPureB
namespace Go.Proofs.YtflkghdndffacaaDoor.Pure
open Go.RowKit Go.Proofs.YtflkghdndffacaaDoor.PD Go.Proofs.YtflkghdndffacaaDoor.H Go.Proofs.YtflkghdndffacaaDoorW.PrintWords Go.Proofs.YtflkghdndffacaaDoorW.PrintLast
theorem u8_all {P : UInt8 → Prop} (h : ∀ n : Fin 256, P (UInt8.ofNat n.val)) (c : UInt8) : P c := by
  have := h ⟨c.toNat, UInt8.toNat_lt c⟩
  simpa using this
theorem rd_pre (p : List S25) (r : S25) (q : List S25) : rd_T25 (p ++ r :: q) (p.length : Int) = r := by simp [rd_T25]
theorem wrap_succ {n : Nat} (h : n < 9223372036854775807) : wrap64 ((n : Int) + 1) = ((n + 1 : Nat) : Int) := by rw [wrap64_small (by omega)]; omega
theorem B_nil : (⟨#[]⟩ : ByteArray) = B [] := rfl
theorem letter_fin : ∀ n : Fin 256, brookref1_letter.f (((UInt8.ofNat n.val).toNat : Nat) : Int) = some (letterB (UInt8.ofNat n.val)) := by decide +kernel
theorem letter_c (c : UInt8) : brookref1_letter.f (c.toNat : Int) = some (letterB c) := u8_all (P := fun c => brookref1_letter.f (c.toNat : Int) = some (letterB c)) letter_fin c
/-! ### MayType -/
theorem mt_l0 (l : List UInt8) (hl : l.length ≤ 30) : ∀ q p : List UInt8, l = p ++ q → Ev (fun k => brookref1_MayType.l0 k (B l) (p.length : Int)) (q.all typeC) := by
  intro q
  induction q with
  | nil =>
    intro p hp
    obtain rfl : l = p := by simpa using hp
    refine Ev.step (fun k => by rw [brookref1_MayType.l0]) ?_
    exact Ev.neg (by rw [B_size]; omega) (Ev.now _)
  | cons c q ih =>
    intro p hp
    have hlen : p.length + 1 + q.length = l.length := by rw [hp]; simp; omega
    have hi := ih (p ++ [c]) (by rw [hp]; simp)
    have hb : bt (B l) (p.length : Int) = (c.toNat : Int) := by rw [hp]; exact bt_pre p c q
    have hn : (p ++ [c]).length = p.length + 1 := by simp
    rw [hn] at hi
    refine Ev.step (fun k => by rw [brookref1_MayType.l0]) ?_
    refine Ev.pos (by rw [B_size]; omega) ?_
    refine Ev.pos (by omega) ?_
    rw [hb, wrap_succ (by omega)]
    refine Ev.fix (letter_c c) ?_
    have h45 : ((c.toNat : Int) = 45) ↔ c = 45 := u8_int_inj (n := 45) (by omega)
    by_cases ht : typeC c = true
    · have ha : (c :: q).all typeC = q.all typeC := by simp [ht]
      rw [ha]
      by_cases h1 : letterB c = true
      · exact Ev.pos h1 hi
      · refine Ev.neg h1 ?_
        by_cases h2 : c = 45
        · have h3 := h45.2 h2
          rw [h3]
          refine Ev.pos (by omega) ?_
          exact Ev.pos (by omega) hi
        · simp [typeC, h1, h2] at ht
          refine Ev.neg (by omega) ?_
          exact Ev.neg (by omega) hi
    · have ha : (c :: q).all typeC = false := by simp [ht]
      rw [ha]
      simp [typeC] at ht
      obtain ⟨⟨h1, h2⟩, h3⟩ := ht
      refine Ev.neg (by simp [h1]) ?_
      by_cases h4 : (c.toNat : Int) < 48
      · refine Ev.pos h4 ?_
        exact Ev.neg (fun e => h3 (h45.1 e)) (Ev.now _)
      · refine Ev.neg h4 ?_
        refine Ev.pos (by have := h2 (by omega); omega) ?_
        exact Ev.neg (fun e => h3 (h45.1 e)) (Ev.now _)
theorem mayType_ev (l : List UInt8) : Ev (fun k => brookref1_MayType.f k (B l)) (typedB l) := by
  unfold brookref1_MayType.f
  have jt : Ev (fun k => brookref1_MayType.j0 k (B l) true) false := Ev.step (fun k => by rw [brookref1_MayType.j0]) (Ev.pos rfl (Ev.now _))
  cases l with
  | nil => exact Ev.pos (by rw [B_toList]) jt
  | cons c q =>
    refine Ev.neg (by rw [B_toList]; simp) ?_
    by_cases h : q.length + 1 ≤ 30
    · refine Ev.neg (by rw [B_size]; simp; omega) ?_
      refine Ev.pos (by rw [B_size]; simp) ?_
      have hb : bt (B (c :: q)) 0 = (c.toNat : Int) := bt_pre [] c q
      rw [hb]
      refine Ev.fix (letter_c c) ?_
      refine Ev.step (fun k => by rw [brookref1_MayType.j0]) ?_
      by_cases h1 : letterB c = true
      · refine Ev.neg (by simp [h1]) ?_
        have := mt_l0 (c :: q) (by simpa using h) (c :: q) [] rfl
        have e : typedB (c :: q) = (c :: q).all typeC := by unfold typedB; simp [h, h1]
        rw [e]
        exact this
      · have e : typedB (c :: q) = false := by unfold typedB; simp [h1]
        rw [e]
        exact Ev.pos (by simp [h1]) (Ev.now _)
    · have e : typedB (c :: q) = false := by unfold typedB; simp [h]
      rw [e]
      exact Ev.pos (by rw [B_size]; simp; omega) jt
/-! ### May, MayDn -/
def partB (r : S25) : Bool := typedB r.f0.data.toList && (decide (r.f1.data.toList ≠ []) && decide (r.f1.data.toList.length ≤ 100))
def mayB (l : List S25) : Bool := l.all partB && decide (l.length ≤ 8)
theorem may_l0 (l : List S25) (hl : l.length ≤ 9000000000000000000) : ∀ q p : List S25, l = p ++ q → Ev (fun k => dn_May.l0 k l l (l.length : Int) (p.length : Int)) (q.all partB && decide (l.length ≤ 8)) := by
  intro q
  induction q with
  | nil =>
    intro p hp
    obtain rfl : l = p := by simpa using hp
    refine Ev.step (fun k => by rw [dn_May.l0]) ?_
    refine Ev.neg (by omega) ?_
    have : decide ((l.length : Int) ≤ 8) = ([].all partB && decide (l.length ≤ 8)) := by simp; omega
    rw [this]
    exact Ev.now _
  | cons r q ih =>
    intro p hp
    have hlen : p.length + 1 + q.length = l.length := by rw [hp]; simp; omega
    have hi := ih (p ++ [r]) (by rw [hp]; simp)
    have hb : rd_T25 l (p.length : Int) = r := by rw [hp]; exact rd_pre p r q
    have hn : (p ++ [r]).length = p.length + 1 := by simp
    rw [hn] at hi
    refine Ev.step (fun k => by rw [dn_May.l0]) ?_
    refine Ev.pos (by omega) ?_
    refine Ev.pos (by omega) ?_
    refine Ev.pos (by omega) ?_
    rw [hb, wrap_succ (by omega)]
    refine Ev.fix rfl ?_
    rw [List.all_cons, Bool.and_assoc]
    by_cases h1 : typedB r.f0.data.toList = true
    · refine Ev.pos h1 ?_
      by_cases h2 : r.f1.data.toList = []
      · have e : partB r = false := by unfold partB; simp only [h2]; simp
        rw [e]
        exact Ev.pos (by rw [Lib.toList_data]; exact h2) (Ev.now _)
      · refine Ev.neg (by rw [Lib.toList_data]; exact h2) ?_
        by_cases h3 : r.f1.data.toList.length ≤ 100
        · have e : partB r = true := by unfold partB; rw [h1, decide_eq_true h2, decide_eq_true h3]; rfl
          rw [e]
          refine Ev.neg (by rw [Lib.size_eq]; omega) ?_
          simpa using hi
        · have e : partB r = false := by unfold partB; rw [decide_eq_false h3]; simp
          rw [e]
          exact Ev.pos (by rw [Lib.size_eq]; omega) (Ev.now _)
    · have e : partB r = false := by unfold partB; simp [h1]
      rw [e]
      exact Ev.neg h1 (Ev.now _)
theorem may_ev (l : List S25) (hl : l.length ≤ 9000000000000000000) : Ev (fun k => dn_May.f k l) (mayB l) := may_l0 l hl l [] rfl
theorem mayDn_l0 (l : List S25) (hl : l.length ≤ 9000000000000000000) : ∀ q p : List S25, l = p ++ q → Ev (fun k => brookref1_MayDn.l0 k l (p.length : Int)) (q.all partB && decide (l.length ≤ 8)) := by
  intro q
  induction q with
  | nil =>
    intro p hp
    obtain rfl : l = p := by simpa using hp
    refine Ev.step (fun k => by rw [brookref1_MayDn.l0]) ?_
    refine Ev.neg (by omega) ?_
    have : decide ((l.length : Int) ≤ 8) = ([].all partB && decide (l.length ≤ 8)) := by simp; omega
    rw [this]
    exact Ev.now _
  | cons r q ih =>
    intro p hp
    have hlen : p.length + 1 + q.length = l.length := by rw [hp]; simp; omega
    have hi := ih (p ++ [r]) (by rw [hp]; simp)
    have hb : rd_T25 l (p.length : Int) = r := by rw [hp]; exact rd_pre p r q
    have hn : (p ++ [r]).length = p.length + 1 := by simp
    rw [hn] at hi
    refine Ev.step (fun k => by rw [brookref1_MayDn.l0]) ?_
    refine Ev.pos (by omega) ?_
    refine Ev.pos (by omega) ?_
    rw [hb, wrap_succ (by omega)]
    have ht := mayType_ev r.f0.data.toList
    rw [B_of] at ht
    refine Ev.bind ht ?_
    rw [List.all_cons, Bool.and_assoc]
    by_cases h1 : typedB r.f0.data.toList = true
    · refine Ev.pos h1 ?_
      by_cases h2 : r.f1.data.toList = []
      · have e : partB r = false := by unfold partB; simp only [h2]; simp
        rw [e]
        exact Ev.pos (by rw [Lib.toList_data]; exact h2) (Ev.now _)
      · refine Ev.neg (by rw [Lib.toList_data]; exact h2) ?_
        by_cases h3 : r.f1.data.toList.length ≤ 100
        · have e : partB r = true := by unfold partB; rw [h1, decide_eq_true h2, decide_eq_true h3]; rfl
          rw [e]
          refine Ev.neg (by rw [Lib.size_eq]; omega) ?_
          simpa using hi
        · have e : partB r = false := by unfold partB; rw [decide_eq_false h3]; simp
          rw [e]
          exact Ev.pos (by rw [Lib.size_eq]; omega) (Ev.now _)
    · have e : partB r = false := by unfold partB; simp [h1]
      rw [e]
      exact Ev.neg h1 (Ev.now _)
theorem mayDn_ev (l : List S25) (hl : l.length ≤ 9000000000000000000) : Ev (fun k => brookref1_MayDn.f k l) (mayB l) := mayDn_l0 l hl l [] rfl
/-! ### escaped -/
theorem in_l0 (l : List UInt8) (hl : l.length ≤ 100) (c : UInt8) : ∀ q p : List UInt8, l = p ++ q → Ev (fun k => brookref1_in.l0 k (B l) (c.toNat : Int) (p.length : Int)) (decide (c ∈ q)) := by
  intro q
  induction q with
  | nil =>
    intro p hp
    obtain rfl : l = p := by simpa using hp
    refine Ev.step (fun k => by rw [brookref1_in.l0]) ?_
    exact Ev.neg (by rw [B_size]; omega) (Ev.now _)
  | cons d q ih =>
    intro p hp
    have hlen : p.length + 1 + q.length = l.length := by rw [hp]; simp; omega
    have hi := ih (p ++ [d]) (by rw [hp]; simp)
    have hb : bt (B l) (p.length : Int) = (d.toNat : Int) := by rw [hp]; exact bt_pre p d q
    have hn : (p ++ [d]).length = p.length + 1 := by simp
    rw [hn] at hi
    refine Ev.step (fun k => by rw [brookref1_in.l0]) ?_
    refine Ev.pos (by rw [B_size]; omega) ?_
    refine Ev.pos (by omega) ?_
    rw [hb, wrap_succ (by omega)]
    by_cases h : d = c
    · subst h
      refine Ev.pos rfl ?_
      have : decide (d ∈ d :: q) = true := by simp
      rw [this]
      exact Ev.now _
    · refine Ev.neg (fun e => h (u8_eq.1 e)) ?_
      have : decide (c ∈ d :: q) = decide (c ∈ q) := by simp [Ne.symm h]
      rw [this]
      exact hi
theorem special_fin : ∀ n : Fin 256, decide ((UInt8.ofNat n.val) ∈ ([44, 43, 34, 92, 60, 62, 59] : List UInt8)) = specialB (UInt8.ofNat n.val) := by decide +kernel
theorem in_ev (c : UInt8) : Ev (fun k => brookref1_in.f k (⟨#[44, 43, 34, 92, 60, 62, 59]⟩ : ByteArray) (c.toNat : Int)) (specialB c) := by
  have h := in_l0 [44, 43, 34, 92, 60, 62, 59] (by simp) c [44, 43, 34, 92, 60, 62, 59] [] rfl
  rw [u8_all (P := fun c => decide (c ∈ ([44, 43, 34, 92, 60, 62, 59] : List UInt8)) = specialB c) special_fin c] at h
  exact h
theorem two_c (c : UInt8) : brookref1_two.f (c.toNat : Int) = some (B [92, hexD (c.toNat / 16), hexD (c.toNat % 16)]) := by
  unfold brookref1_two.f
  have := UInt8.toNat_lt c
  rw [if_pos (by omega), show ((c.toNat : Int) / 16).toNat = c.toNat / 16 by omega, show ((c.toNat : Int) % 16).toNat = c.toNat % 16 by omega]
  rfl
theorem escC_le (n k : Nat) (c : UInt8) : (escC n k c).length ≤ 3 := by
  unfold escC; split
  · simp
  · split <;> simp
theorem escUp_len (v : List UInt8) (k : Nat) : (escUp v k).length ≤ 3 * k := by
  induction k with
  | zero => simp [escUp]
  | succ k ih =>
    simp only [escUp, List.length_append]
    split
    · have := escC_le v.length k ‹_›; omega
    · simp; omega
theorem esc_step (l p : List UInt8) (c : UInt8) (q : List UInt8) (hp : l = p ++ c :: q) (hl : l.length ≤ 1000000) (out : List UInt8) (ho : out.length ≤ 3000000) (r : ByteArray)
    (h : Ev (fun k => brookref1_escaped.l0 k (B l) (B (out ++ escC l.length p.length c)) ((p.length + 1 : Nat) : Int)) r) :
    Ev (fun k => brookref1_escaped.l0 k (B l) (B out) (p.length : Int)) r := by
  have hlen : p.length + 1 + q.length = l.length := by rw [hp]; simp; omega
  have hb : bt (B l) (p.length : Int) = (c.toNat : Int) := by rw [hp]; exact bt_pre p c q
  have hx : (B l).extract (p.length : Int).toNat (((p.length + 1 : Nat) : Int)).toNat = B [c] := by rw [hp]; exact cut_pre p c q
  have hw := wrap_succ (n := p.length) (by omega)
  have hw2 : wrap64 ((l.length : Int) - 1) = ((l.length - 1 : Nat) : Int) := by rw [wrap64_small (by omega)]; omega
  have hs : ((B l).size : Int) = (l.length : Int) := by rw [B_size]
  have s1 : ∀ d : UInt8, (B [d]).size = 1 := fun d => rfl
  have so : (B out).size = out.length := B_size out
  have e92 : (⟨#[92]⟩ : ByteArray) = B [92] := rfl
  have h35 : ((c.toNat : Int) = 35) ↔ c = 35 := u8_int_inj (n := 35) (by omega)
  have h32 : ((c.toNat : Int) = 32) ↔ c = 32 := u8_int_inj (n := 32) (by omega)
  refine Ev.step (fun k => by rw [brookref1_escaped.l0]) ?_
  refine Ev.pos (by rw [B_size]; omega) ?_
  refine Ev.pos (by omega) ?_
  rw [hb]
  by_cases hd : c.toNat < 32 ∨ 126 < c.toNat
  · have hz : escC l.length p.length c = [92, hexD (c.toNat / 16), hexD (c.toNat % 16)] := by unfold escC; rw [if_pos hd]
    rw [hz] at h
    have key : Ev (fun k => brookref1_escaped.j1 k (B l) (B out) (p.length : Int) (c.toNat : Int) true) r := by
      refine Ev.step (fun k => by rw [brookref1_escaped.j1]) ?_
      refine Ev.pos rfl ?_
      refine Ev.fix (two_c c) ?_
      refine Ev.pos (by rw [B_size, B_size]; simp; omega) ?_
      rw [B_append, hw]
      exact h
    by_cases h1 : (c.toNat : Int) < 32
    · exact Ev.pos h1 key
    · refine Ev.neg h1 ?_
      rw [show decide ((c.toNat : Int) > 126) = true by simp; omega]
      exact key
  · refine Ev.neg (by omega) ?_
    rw [show decide ((c.toNat : Int) > 126) = false by simp; omega]
    refine Ev.step (fun k => by rw [brookref1_escaped.j1]) ?_
    refine Ev.neg (by simp) ?_
    refine Ev.bind (in_ev c) ?_
    simp only [hw, hw2, hs, hx, e92, B_append]
    by_cases hz : specialB c = true ∨ (p.length = 0 ∧ (c = 35 ∨ c = 32)) ∨ (p.length + 1 = l.length ∧ c = 32)
    · have hz' : escC l.length p.length c = [92, c] := by unfold escC; rw [if_neg hd, if_pos hz]
      rw [hz'] at h
      have h' : Ev (fun k => brookref1_escaped.l0 k (B l) (B (out ++ [92] ++ [c])) ((p.length + 1 : Nat) : Int)) r := by simpa using h
      by_cases g1 : specialB c = true
      · refine Ev.pos g1 ?_
        repeat' first
          | exact h'
          | refine Ev.pos (by simp [B_size] <;> omega) ?_
      · have g1' : specialB c = false := by simpa using g1
        refine Ev.neg (by simp [g1']) ?_
        by_cases g2 : p.length = 0
        · refine Ev.pos (by omega) ?_
          by_cases g3 : c = 35
          · refine Ev.pos (h35.2 g3) ?_
            repeat' first
              | exact h'
              | refine Ev.pos (by simp [B_size] <;> omega) ?_
          · refine Ev.neg (fun e => g3 (h35.1 e)) ?_
            have g4 : c = 32 := by
              rcases hz with hz | hz | hz
              · exact absurd hz g1
              · exact hz.2.resolve_left g3
              · exact hz.2
            refine Ev.pos (h32.2 g4) ?_
            repeat' first
              | exact h'
              | refine Ev.pos (by simp [B_size] <;> omega) ?_
        · refine Ev.neg (by omega) ?_
          have g4 : p.length + 1 = l.length ∧ c = 32 := by
            rcases hz with hz | hz | hz
            · exact absurd hz g1
            · exact absurd hz.1 g2
            · exact hz
          refine Ev.pos (by omega) ?_
          refine Ev.pos (h32.2 g4.2) ?_
          repeat' first
            | exact h'
            | refine Ev.pos (by simp [B_size] <;> omega) ?_
    · have hz' : escC l.length p.length c = [c] := by unfold escC; rw [if_neg hd, if_neg hz]
      rw [hz'] at h
      have g1 : specialB c = false := by
        cases e : specialB c with
        | false => rfl
        | true => exact absurd (.inl e) hz
      refine Ev.neg (by simp [g1]) ?_
      by_cases g2 : p.length = 0
      · have g3 : c ≠ 35 := fun e => hz (.inr (.inl ⟨g2, .inl e⟩))
        have g4 : c ≠ 32 := fun e => hz (.inr (.inl ⟨g2, .inr e⟩))
        refine Ev.pos (by omega) ?_
        refine Ev.neg (fun e => g3 (h35.1 e)) ?_
        refine Ev.neg (fun e => g4 (h32.1 e)) ?_
        by_cases g5 : p.length + 1 = l.length
        · refine Ev.pos (by omega) ?_
          repeat' first
            | exact h
            | refine Ev.pos (by simp [B_size] <;> omega) ?_
        · refine Ev.neg (by omega) ?_
          repeat' first
            | exact h
            | refine Ev.pos (by simp [B_size] <;> omega) ?_
      · refine Ev.neg (by omega) ?_
        by_cases g5 : p.length + 1 = l.length
        · have g4 : c ≠ 32 := fun e => hz (.inr (.inr ⟨g5, e⟩))
          refine Ev.pos (by omega) ?_
          refine Ev.neg (fun e => g4 (h32.1 e)) ?_
          repeat' first
            | exact h
            | refine Ev.pos (by simp [B_size] <;> omega) ?_
        · refine Ev.neg (by omega) ?_
          repeat' first
            | exact h
            | refine Ev.pos (by simp [B_size] <;> omega) ?_
theorem esc_l0 (l : List UInt8) (hl : l.length ≤ 1000000) : ∀ q p : List UInt8, l = p ++ q → Ev (fun k => brookref1_escaped.l0 k (B l) (B (escUp l p.length)) (p.length : Int)) (B (escUp l l.length)) := by
  intro q
  induction q with
  | nil =>
    intro p hp
    obtain rfl : l = p := by simpa using hp
    refine Ev.step (fun k => by rw [brookref1_escaped.l0]) ?_
    exact Ev.neg (by rw [B_size]; omega) (Ev.now _)
  | cons c q ih =>
    intro p hp
    have hlen : p.length + 1 + q.length = l.length := by rw [hp]; simp; omega
    have hi := ih (p ++ [c]) (by rw [hp]; simp)
    have hn : (p ++ [c]).length = p.length + 1 := by simp
    rw [hn, escUp_succ (c := c) (by rw [hp]; simp)] at hi
    have := escUp_len l p.length
    exact esc_step l p c q hp hl _ (by omega) _ hi
theorem escaped_ev (l : List UInt8) (hl : l.length ≤ 1000000) : Ev (fun k => brookref1_escaped.f k (B l)) (B (escUp l l.length)) := esc_l0 l hl l [] rfl
/-! ### TextDn -/
/-- All parts are of a modest length. -/
def Modest (l : List S25) : Prop := l.length ≤ 1000 ∧ ∀ r ∈ l, r.f0.size ≤ 1000000 ∧ r.f1.size ≤ 1000000
theorem textUp_len (l : List S25) (h : Modest l) (k : Nat) : (textUp l k).length ≤ 4000002 * k := by
  induction k with
  | zero => simp [textUp]
  | succ k ih =>
    simp only [textUp, List.length_append]
    split
    · next r hr =>
      obtain ⟨h1, h2⟩ := h.2 r (List.mem_of_getElem? hr)
      have h3 := escUp_len r.f1.data.toList r.f1.data.toList.length
      rw [Lib.size_eq] at h1 h2
      simp only [List.length_append, List.length_cons, List.length_nil]
      have : (if 0 < k then ([44] : List UInt8) else []).length ≤ 1 := by split <;> simp
      omega
    · simp; omega
theorem text_l0 (l : List S25) (h : Modest l) : ∀ q p : List S25, l = p ++ q → Ev (fun k => brookref1_TextDn.l0 k l (B (textUp l p.length)) (p.length : Int)) (B (textUp l l.length)) := by
  intro q
  induction q with
  | nil =>
    intro p hp
    obtain rfl : l = p := by simpa using hp
    refine Ev.step (fun k => by rw [brookref1_TextDn.l0]) ?_
    exact Ev.neg (by omega) (Ev.now _)
  | cons r q ih =>
    intro p hp
    have hlen : p.length + 1 + q.length = l.length := by rw [hp]; simp; omega
    have hi := ih (p ++ [r]) (by rw [hp]; simp)
    have hn : (p ++ [r]).length = p.length + 1 := by simp
    have hr : l[p.length]? = some r := by rw [hp]; simp
    rw [hn, textUp_succ hr] at hi
    have hb : rd_T25 l (p.length : Int) = r := by rw [hp]; exact rd_pre p r q
    have ht := textUp_len l h p.length
    have hl := h.1
    obtain ⟨h1, h2⟩ := h.2 r (List.mem_of_getElem? hr)
    rw [Lib.size_eq] at h1 h2
    have he := escaped_ev r.f1.data.toList h2
    have h3 := escUp_len r.f1.data.toList r.f1.data.toList.length
    rw [B_of] at he
    have e44 : (⟨#[44]⟩ : ByteArray) = B [44] := rfl
    have e61 : (⟨#[61]⟩ : ByteArray) = B [61] := rfl
    have ef : r.f0 = B r.f0.data.toList := (B_of r.f0).symm
    refine Ev.step (fun k => by rw [brookref1_TextDn.l0]) ?_
    refine Ev.pos (by omega) ?_
    rw [hb, wrap_succ (by omega), e44, e61]
    have hmul : 4000002 * p.length ≤ 4000002 * 1000 := Nat.mul_le_mul_left _ (by omega)
    by_cases h0 : 0 < p.length
    · have hi' : Ev (fun k => brookref1_TextDn.l0 k l (B (textUp l p.length ++ [44] ++ r.f0.data.toList ++ [61] ++ escUp r.f1.data.toList r.f1.data.toList.length)) ((p.length + 1 : Nat) : Int)) (B (textUp l l.length)) := by
        simpa [h0] using hi
      refine Ev.pos (by omega) ?_
      refine Ev.pos (by rw [B_size]; omega) ?_
      refine Ev.pos (by omega) ?_
      rw [ef]
      simp only [B_append]
      refine Ev.pos (by simp only [B_size, List.length_append, List.length_cons, List.length_nil]; omega) ?_
      refine Ev.pos (by simp only [B_size, List.length_append, List.length_cons, List.length_nil]; omega) ?_
      refine Ev.bind he ?_
      refine Ev.pos (by simp only [B_size, List.length_append, List.length_cons, List.length_nil]; omega) ?_
      rw [B_append]
      exact hi'
    · have hi' : Ev (fun k => brookref1_TextDn.l0 k l (B (textUp l p.length ++ r.f0.data.toList ++ [61] ++ escUp r.f1.data.toList r.f1.data.toList.length)) ((p.length + 1 : Nat) : Int)) (B (textUp l l.length)) := by
        simpa [h0] using hi
      refine Ev.neg (by omega) ?_
      refine Ev.pos (by omega) ?_
      rw [ef]
      simp only [B_append]
      refine Ev.pos (by simp only [B_size]; omega) ?_
      refine Ev.pos (by simp only [B_size, List.length_append]; omega) ?_
      refine Ev.bind he ?_
      refine Ev.pos (by simp only [B_size, List.length_append, List.length_cons, List.length_nil]; omega) ?_
      rw [B_append]
      exact hi'
theorem textDn_ev (l : List S25) (h : Modest l) : Ev (fun k => brookref1_TextDn.f k l) (B (textUp l l.length)) := text_l0 l h l [] rfl
theorem text_B (l : List S25) (h : Modest l) : dn_Text.f l = some (B (textUp l l.length)) := by
  unfold dn_Text.f
  have h1 := textUp_len l h l.length
  have h2 := h.1
  have : 4000002 * l.length ≤ 4000002 * 1000 := Nat.mul_le_mul_left _ h2
  rw [if_pos (by omega)]
  rfl
end Go.Proofs.YtflkghdndffacaaDoor.Pure
