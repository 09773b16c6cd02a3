/- What the document's Fold, ParseDn, Key, Up and Under reckon, in plain words; each is the program's. No condition but modest lengths. -/
import Derived.Test.YtflkghdndffacaaDoorPureT
import Derived.Test.YtflkghdndffacaaDoorPDx25
namespace Go.Proofs.YtflkghdndffacaaDoor.Pure
open Go.RowKit Go.Proofs.YtflkghdndffacaaDoor.PD Go.Proofs.YtflkghdndffacaaDoor.H Go.Proofs.YtflkghdndffacaaDoorW.PrintWords Go.Proofs.YtflkghdndffacaaDoorW.PrintLast
/-! ### A value, out of its own piece -/
def pvS (first : Bool) (acc : List UInt8) (sp : Bool) : List UInt8 → Option (List UInt8)
  | [] => if sp = true then none else some acc
  | c :: r => if c = 92 then match escAt r with
      | none => none
      | some (b, n) => pvS false (acc ++ [b]) false (r.drop n)
    else if badC first c = true then none else pvS false (acc ++ [c]) (c == 32) r
termination_by l => l.length
decreasing_by all_goals (simp; try omega)
def resO : Option (List UInt8) → ByteArray × Bool
  | none => (B [], false)
  | some v => (B v, true)
theorem hex_fin : ∀ n : Fin 256, brookref1_hex.f 4 (((UInt8.ofNat n.val).toNat : Nat) : Int) = some (digB (UInt8.ofNat n.val)) := by decide +kernel
theorem hex_ev (c : UInt8) : Ev (fun k => brookref1_hex.f k (c.toNat : Int)) (digB c) :=
  Ev.of (fun k => brookref1_hex.mono _ k) (u8_all (P := fun c => brookref1_hex.f 4 (c.toNat : Int) = some (digB c)) hex_fin c)
theorem pair_fin : ∀ h l : Fin 16, (wrap64 (wrap64 ((h.val : Int) * 16) + (l.val : Int))) % 256 = ((h.val * 16 + l.val).toUInt8.toNat : Int) := by decide +kernel
theorem pair_val {h l : Int} (h0 : 0 ≤ h) (h1 : h ≤ 15) (l0 : 0 ≤ l) (l1 : l ≤ 15) : (wrap64 (wrap64 (h * 16) + l)) % 256 = (((h.toNat * 16 + l.toNat).toUInt8).toNat : Int) := by
  have := pair_fin ⟨h.toNat, by omega⟩ ⟨l.toNat, by omega⟩
  simpa only [Int.toNat_of_nonneg h0, Int.toNat_of_nonneg l0] using this
theorem one_fin : ∀ n : Fin 256, decide ((UInt8.ofNat n.val) ∈ ([44, 43, 34, 92, 60, 62, 59, 61, 35, 32] : List UInt8)) = oneB (UInt8.ofNat n.val) := by decide +kernel
theorem one_ev (c : UInt8) : Ev (fun k => brookref1_in.f k (⟨#[44, 43, 34, 92, 60, 62, 59, 61, 35, 32]⟩ : ByteArray) (c.toNat : Int)) (oneB c) := by
  have h := in_l0 [44, 43, 34, 92, 60, 62, 59, 61, 35, 32] (by simp) c [44, 43, 34, 92, 60, 62, 59, 61, 35, 32] [] rfl
  rw [u8_all (P := fun c => decide (c ∈ ([44, 43, 34, 92, 60, 62, 59, 61, 35, 32] : List UInt8)) = oneB c) one_fin c] at h
  exact h
theorem raw_fin : ∀ n : Fin 256, UInt8.ofNat n.val ≠ 92 → decide ((UInt8.ofNat n.val) ∈ ([44, 43, 34, 60, 62, 59] : List UInt8)) = specialB (UInt8.ofNat n.val) := by decide +kernel
theorem raw_ev (c : UInt8) (hc : c ≠ 92) : Ev (fun k => brookref1_in.f k (⟨#[44, 43, 34, 60, 62, 59]⟩ : ByteArray) (c.toNat : Int)) (specialB c) := by
  have h := in_l0 [44, 43, 34, 60, 62, 59] (by simp) c [44, 43, 34, 60, 62, 59] [] rfl
  rw [u8_all (P := fun c => c ≠ 92 → decide (c ∈ ([44, 43, 34, 60, 62, 59] : List UInt8)) = specialB c) raw_fin c hc] at h
  exact h
theorem digit_one_fin : ∀ n : Fin 256, 0 ≤ digB (UInt8.ofNat n.val) → oneB (UInt8.ofNat n.val) = false ∧ UInt8.ofNat n.val ≠ 92 ∧ UInt8.ofNat n.val ≠ 44 := by decide +kernel
theorem digit_one {c : UInt8} (h : 0 ≤ digB c) : oneB c = false ∧ c ≠ 92 ∧ c ≠ 44 := u8_all (P := fun c => 0 ≤ digB c → oneB c = false ∧ c ≠ 92 ∧ c ≠ 44) digit_one_fin c h
theorem lt_big {n : Nat} (h : n < 200000000) : n < 9223372036854775807 := by omega
theorem wrap_two {n : Nat} (h : n < 200000000) : wrap64 ((n : Int) + 2) = ((n + 2 : Nat) : Int) := by rw [wrap64_small (by omega)]; omega
theorem rvalue_l0 (l : List UInt8) (hl : l.length ≤ 100000000) : ∀ n (q p acc : List UInt8) (sp : Bool), q.length ≤ n → l = p ++ q → acc.length ≤ p.length → (sp = true → q ≠ []) →
    Ev (fun k => brookref1_value.l0 k (B l) (bi acc) (p.length : Int)) (resO (pvS p.isEmpty acc sp q)) := by
  intro n
  induction n with
  | zero =>
    intro q p acc sp hq hp ha hsp
    obtain rfl : q = [] := List.length_eq_zero_iff.1 (by omega)
    obtain rfl : l = p := by simpa using hp
    have : sp = false := by cases sp with
      | false => rfl
      | true => exact absurd rfl (hsp rfl)
    subst this
    refine Ev.step (fun k => by rw [brookref1_value.l0]) ?_
    refine Ev.neg (by rw [B_size]; omega) ?_
    rw [pvS, str_bi]
    exact Ev.now _
  | succ n ih =>
    intro q p acc sp hq hp ha hsp
    cases q with
    | nil =>
      obtain rfl : l = p := by simpa using hp
      have : sp = false := by cases sp with
        | false => rfl
        | true => exact absurd rfl (hsp rfl)
      subst this
      refine Ev.step (fun k => by rw [brookref1_value.l0]) ?_
      refine Ev.neg (by rw [B_size]; omega) ?_
      rw [pvS, str_bi]
      exact Ev.now _
    | cons c q =>
      have hlen : p.length + 1 + q.length = l.length := by rw [hp]; simp; omega
      have hb : bt (B l) (p.length : Int) = (c.toNat : Int) := by rw [hp]; exact bt_pre p c q
      have h92 : ((c.toNat : Int) = 92) ↔ c = 92 := u8_int_inj (n := 92) (by omega)
      have h35 : ((c.toNat : Int) = 35) ↔ c = 35 := u8_int_inj (n := 35) (by omega)
      have h32 : ((c.toNat : Int) = 32) ↔ c = 32 := u8_int_inj (n := 32) (by omega)
      have hbl : (bi acc).length ≤ p.length := by rw [bi_length]; exact ha
      have hsm : p.length < 200000000 := by omega
      refine Ev.step (fun k => by rw [brookref1_value.l0]) ?_
      refine Ev.pos (by rw [B_size]; omega) ?_
      refine Ev.pos (by first | exact Int.natCast_nonneg _ | omega) ?_
      simp only [wrap_succ (lt_big hsm), wrap_two hsm, hb]
      rw [pvS]
      by_cases c92 : c = 92
      · rw [if_pos c92]
        refine Ev.pos (h92.2 c92) ?_
        have jt : Ev (fun k => brookref1_value.j2 k (B l) (bi acc) (p.length : Int) true) (resO none) := by
          refine Ev.step (fun k => by rw [brookref1_value.j2]) ?_
          exact Ev.pos rfl (Ev.now _)
        cases q with
        | nil =>
          have e : escAt [] = none := rfl
          rw [e]
          simp only [List.length_nil] at hlen
          refine Ev.neg (by rw [B_size]; omega) ?_
          refine Ev.step (fun k => by rw [brookref1_value.j1]) ?_
          refine Ev.neg (by simp) ?_
          rw [wrap_succ (lt_big hsm)]
          refine Ev.pos (by rw [B_size]; omega) ?_
          exact jt
        | cons d q =>
          have hd : bt (B l) ((p.length + 1 : Nat) : Int) = (d.toNat : Int) := bt_at' (by rw [hp]; simp)
          simp only [List.length_cons] at hlen hq
          have jf : oneB d = true ∨ escAt (d :: q) = none → Ev (fun k => brookref1_value.j1 k (B l) (bi acc) (p.length : Int) false) (resO (match escAt (d :: q) with
              | none => none
              | some (b, n) => pvS false (acc ++ [b]) false ((d :: q).drop n))) := by
            intro ho
            refine Ev.step (fun k => by rw [brookref1_value.j1]) ?_
            refine Ev.neg (by simp) ?_
            rw [wrap_succ (lt_big hsm)]
            refine Ev.neg (by rw [B_size]; omega) ?_
            refine Ev.pos (by first | exact Int.natCast_nonneg _ | omega) ?_
            refine Ev.pos (by rw [B_size]; omega) ?_
            rw [hd]
            refine Ev.bind (one_ev d) ?_
            by_cases h1 : oneB d = true
            · rw [escAt_one h1, h1]
              refine Ev.step (fun k => by rw [brookref1_value.j2]) ?_
              refine Ev.neg (by simp) ?_
              rw [wrap_succ (lt_big hsm)]
              refine Ev.pos (by first | exact Int.natCast_nonneg _ | omega) ?_
              refine Ev.pos (by rw [B_size]; omega) ?_
              refine Ev.pos (by first | exact Int.natCast_nonneg _ | omega) ?_
              rw [hd, bi_snoc, wrap_succ (by omega)]
              have := ih q (p ++ [c, d]) (acc ++ [d]) false (by omega) (by rw [hp]; simp) (by simp; omega) (by simp)
              rw [show (p ++ [c, d]).isEmpty = false by simp, show (p ++ [c, d]).length = p.length + 1 + 1 by simp] at this
              exact this
            · have he : escAt (d :: q) = none := ho.resolve_left h1
              rw [he, show (!oneB d) = true by simp [h1]]
              exact jt
          cases q with
          | nil =>
            simp only [List.length_nil] at hlen
            refine Ev.neg (by rw [B_size]; omega) ?_
            refine jf ?_
            by_cases h1 : oneB d = true
            · exact .inl h1
            · exact .inr (escAt_lone h1)
          | cons e q =>
            have he : bt (B l) ((p.length + 2 : Nat) : Int) = (e.toNat : Int) := bt_at' (by rw [hp]; simp)
            simp only [List.length_cons] at hlen hq
            refine Ev.pos (by rw [B_size]; omega) ?_
            refine Ev.pos (by first | exact Int.natCast_nonneg _ | omega) ?_
            refine Ev.pos (by rw [B_size]; omega) ?_
            rw [hd]
            refine Ev.bind (hex_ev d) ?_
            by_cases h1 : 0 ≤ digB d
            · refine Ev.pos h1 ?_
              refine Ev.pos (by first | exact Int.natCast_nonneg _ | omega) ?_
              rw [he]
              refine Ev.bind (hex_ev e) ?_
              have hno : ¬ oneB d = true := by simp [(digit_one h1).1]
              by_cases h2 : 0 ≤ digB e
              · rw [escAt_two hno ⟨h1, h2⟩]
                refine Ev.step (fun k => by rw [brookref1_value.j1]) ?_
                refine Ev.pos (by simpa using h2) ?_
                simp only [wrap_succ (lt_big hsm), wrap_two hsm]
                refine Ev.pos (by first | exact Int.natCast_nonneg _ | omega) ?_
                refine Ev.pos (by rw [B_size]; omega) ?_
                rw [hd, he]
                refine Ev.bind (hex_ev d) ?_
                refine Ev.pos (by first | exact Int.natCast_nonneg _ | omega) ?_
                refine Ev.pos (by rw [B_size]; omega) ?_
                refine Ev.bind (hex_ev e) ?_
                refine Ev.pos (by first | exact Int.natCast_nonneg _ | omega) ?_
                rw [pair_val h1 (digB_rng d).2 h2 (digB_rng e).2, bi_snoc, wrap_succ (by omega)]
                have := ih q (p ++ [c, d, e]) (acc ++ [((digB d).toNat * 16 + (digB e).toNat).toUInt8]) false (by omega) (by rw [hp]; simp) (by simp; omega) (by simp)
                rw [show (p ++ [c, d, e]).isEmpty = false by simp, show (p ++ [c, d, e]).length = p.length + 2 + 1 by simp] at this
                exact this
              · have hn := escAt_not (r := q) hno (fun h => h2 h.2)
                rw [show decide (digB e ≥ 0) = false by simpa using h2]
                exact jf (.inr hn)
            · refine Ev.neg h1 ?_
              refine jf ?_
              by_cases h3 : oneB d = true
              · exact .inl h3
              · exact .inr (escAt_not h3 (fun h => h1 h.1))
      · rw [if_neg c92]
        refine Ev.neg (fun e => c92 (h92.1 e)) ?_
        have hgo : badC p.isEmpty c = false → (c = 32 → q ≠ []) → Ev (fun k => brookref1_value.l0 k (B l) (bi acc ++ [(c.toNat : Int)]) ((p.length + 1 : Nat) : Int)) (resO (if badC p.isEmpty c = true then none else pvS false (acc ++ [c]) (c == 32) q)) := fun hbad hq0 => by
          rw [if_neg (by simp [hbad]), bi_snoc]
          have := ih q (p ++ [c]) (acc ++ [c]) (c == 32) (by simp at hq; omega) (by rw [hp]; simp) (by simp; omega) (by simpa using hq0)
          rw [show (p ++ [c]).isEmpty = false by simp, show (p ++ [c]).length = p.length + 1 by simp] at this
          exact this
        have hno : badC p.isEmpty c = true ∨ (c = 32 ∧ q = []) → Ev (fun _ => some ((⟨#[]⟩ : ByteArray), false)) (resO (if badC p.isEmpty c = true then none else pvS false (acc ++ [c]) (c == 32) q)) := fun hbad => by
          by_cases hb1 : badC p.isEmpty c = true
          · rw [if_pos hb1]; exact Ev.now _
          · obtain ⟨rfl, rfl⟩ := hbad.resolve_left hb1
            rw [if_neg hb1, pvS]; exact Ev.now _
        have hlast : wrap64 (((B l).size : Int) - 1) = ((l.length - 1 : Nat) : Int) := by rw [B_size, wrap64_small (by omega)]; omega
        rw [hlast]
        by_cases b1 : c.toNat < 32
        · exact Ev.pos (by first | exact Int.natCast_nonneg _ | omega) (hno (.inl (by unfold badC; simp [b1])))
        · refine Ev.neg (by omega) ?_
          by_cases b2 : 126 < c.toNat
          · exact Ev.pos (by first | exact Int.natCast_nonneg _ | omega) (hno (.inl (by unfold badC; simp [b2])))
          · refine Ev.neg (by omega) ?_
            refine Ev.bind (raw_ev c c92) ?_
            by_cases b3 : specialB c = true
            · exact Ev.pos b3 (hno (.inl (by unfold badC; simp [b3])))
            · refine Ev.neg b3 ?_
              by_cases b4 : p = []
              · subst b4
                refine Ev.pos (by simp) ?_
                by_cases b5 : c = 35
                · exact Ev.pos (h35.2 b5) (hno (.inl (by unfold badC; simp [b5])))
                · refine Ev.neg (fun e => b5 (h35.1 e)) ?_
                  by_cases b6 : c = 32
                  · exact Ev.pos (h32.2 b6) (hno (.inl (by unfold badC; simp [b6])))
                  · refine Ev.neg (fun e => b6 (h32.1 e)) ?_
                    have hg := hgo (by unfold badC; simp [b1, b2, b3, b5, b6]) (fun e => absurd e b6)
                    by_cases b7 : q = []
                    · subst b7
                      simp only [List.length_nil] at hlen
                      refine Ev.pos (by simp only [List.length_nil] at hlen ⊢; omega) ?_
                      exact Ev.pos (by simp only [List.length_nil] at hbl ⊢; omega) hg
                    · have : 0 < q.length := List.length_pos_iff.2 b7
                      refine Ev.neg (by simp only [List.length_nil] at hlen ⊢; omega) ?_
                      exact Ev.pos (by simp only [List.length_nil] at hbl ⊢; omega) hg
              · have : 0 < p.length := List.length_pos_iff.2 b4
                refine Ev.neg (by omega) ?_
                by_cases b7 : q = []
                · subst b7
                  simp only [List.length_nil] at hlen
                  refine Ev.pos (by first | exact Int.natCast_nonneg _ | omega) ?_
                  by_cases b6 : c = 32
                  · exact Ev.pos (h32.2 b6) (hno (.inr ⟨b6, rfl⟩))
                  · refine Ev.neg (fun e => b6 (h32.1 e)) ?_
                    exact Ev.pos (by first | exact Int.natCast_nonneg _ | omega) (hgo (by unfold badC; simp [b1, b2, b3, b4]) (fun e => absurd e b6))
                · have : 0 < q.length := List.length_pos_iff.2 b7
                  refine Ev.neg (by omega) ?_
                  exact Ev.pos (by first | exact Int.natCast_nonneg _ | omega) (hgo (by unfold badC; simp [b1, b2, b3, b4]) (fun _ => b7))
theorem rvalue_ev (l : List UInt8) (hl : l.length ≤ 100000000) : Ev (fun k => brookref1_value.f k (B l)) (resO (pvS true [] false l)) :=
  rvalue_l0 l hl l.length l [] [] false (Nat.le_refl _) rfl (by simp) (by simp)
/-! ### The first piece -/
def firstCut : List UInt8 → List UInt8 × List UInt8
  | [] => ([], [])
  | c :: r => if c = 92 then (c :: (r.take 1 ++ (firstCut (r.drop 1)).1), (firstCut (r.drop 1)).2)
    else if c = 44 then ([], c :: r) else (c :: (firstCut r).1, (firstCut r).2)
termination_by l => l.length
decreasing_by all_goals (simp; try omega)
theorem firstCut_nil : firstCut [] = ([], []) := by rw [firstCut]
theorem firstCut_92 (r : List UInt8) : firstCut (92 :: r) = (92 :: (r.take 1 ++ (firstCut (r.drop 1)).1), (firstCut (r.drop 1)).2) := by rw [firstCut, if_pos rfl]
theorem firstCut_44 (r : List UInt8) : firstCut (44 :: r) = ([], 44 :: r) := by rw [firstCut, if_neg (by decide), if_pos rfl]
theorem firstCut_raw {c : UInt8} (r : List UInt8) (h : c ≠ 92) (h1 : c ≠ 44) : firstCut (c :: r) = (c :: (firstCut r).1, (firstCut r).2) := by rw [firstCut, if_neg h, if_neg h1]
theorem firstCut_eq : ∀ n (q : List UInt8), q.length ≤ n → q = (firstCut q).1 ++ (firstCut q).2 ∧ ((firstCut q).2 = [] ∨ (firstCut q).2.head? = some 44) := by
  intro n
  induction n with
  | zero =>
    intro q h
    obtain rfl : q = [] := List.length_eq_zero_iff.1 (by omega)
    rw [firstCut_nil]; exact ⟨rfl, .inl rfl⟩
  | succ n ih =>
    intro q h
    cases q with
    | nil => rw [firstCut_nil]; exact ⟨rfl, .inl rfl⟩
    | cons c r =>
      simp only [List.length_cons] at h
      by_cases h92 : c = 92
      · subst h92
        obtain ⟨h1, h2⟩ := ih (r.drop 1) (by simp; omega)
        rw [firstCut_92]
        refine ⟨?_, h2⟩
        simp only [List.cons_append, List.append_assoc]
        rw [← h1, List.take_append_drop]
      · by_cases h44 : c = 44
        · subst h44
          rw [firstCut_44]
          exact ⟨rfl, .inr rfl⟩
        · obtain ⟨h1, h2⟩ := ih r (by omega)
          rw [firstCut_raw r h92 h44]
          refine ⟨?_, h2⟩
          simp only [List.cons_append]
          rw [← h1]
theorem piece_val : ∀ n (q : List UInt8), q.length ≤ n → ∀ (first : Bool) (acc : List UInt8) (sp : Bool),
    (∀ v, pvS first acc sp (firstCut q).1 = some v → valS first acc sp q = (v, (firstCut q).2, true)) ∧ (pvS first acc sp (firstCut q).1 = none → (valS first acc sp q).2.2 = false) := by
  intro n
  induction n with
  | zero =>
    intro q h first acc sp
    obtain rfl : q = [] := List.length_eq_zero_iff.1 (by omega)
    rw [firstCut_nil, pvS, valS]
    cases sp <;> simp
  | succ n ih =>
    intro q h first acc sp
    cases q with
    | nil =>
      rw [firstCut_nil, pvS, valS]
      cases sp <;> simp
    | cons c r =>
      simp only [List.length_cons] at h
      by_cases h92 : c = 92
      · subst h92
        rw [firstCut_92, pvS, valS, if_pos rfl, if_neg (by decide), if_pos rfl]
        cases r with
        | nil =>
          have e1 : escAt [] = none := rfl
          simp [firstCut_nil, e1]
        | cons d r =>
          simp only [List.take_succ_cons, List.take_zero, List.drop_succ_cons, List.drop_zero, List.cons_append, List.nil_append, List.length_cons] at h ⊢
          by_cases h1 : oneB d = true
          · rw [escAt_one h1, escAt_one h1]
            exact ih r (by omega) false (acc ++ [d]) false
          · cases r with
            | nil => rw [firstCut_nil, escAt_lone h1]; simp
            | cons e r =>
              by_cases h2 : 0 ≤ digB d ∧ 0 ≤ digB e
              · obtain ⟨_, e92, e44⟩ := digit_one h2.2
                rw [firstCut_raw r e92 e44, escAt_two h1 h2, escAt_two h1 h2]
                simp only [List.length_cons] at h
                exact ih r (by omega) false _ false
              · rw [escAt_not h1 h2]
                have : escAt (d :: (firstCut (e :: r)).1) = none := by
                  by_cases e92 : e = 92
                  · subst e92
                    rw [firstCut_92]
                    exact escAt_not h1 (fun hh => (digit_one hh.2).2.1 rfl)
                  · by_cases e44 : e = 44
                    · subst e44
                      rw [firstCut_44]
                      exact escAt_lone h1
                    · rw [firstCut_raw r e92 e44]
                      exact escAt_not h1 h2
                rw [this]; simp
      · by_cases h44 : c = 44
        · subst h44
          rw [firstCut_44, pvS, valS, if_pos rfl]
          cases sp <;> simp
        · rw [firstCut_raw r h92 h44, pvS, valS, if_neg h44, if_neg h92, if_neg h92]
          by_cases hb : badC first c = true
          · rw [if_pos hb, if_pos hb]; simp
          · rw [if_neg hb, if_neg hb]
            exact ih r (by omega) false _ _
/-! ### All pieces -/
def cutC (cur : List UInt8) : List UInt8 → List (List UInt8)
  | [] => [cur]
  | c :: r => if c = 92 then cutC (cur ++ (c :: r.take 1)) (r.drop 1) else if c = 44 then cur :: cutC [] r else cutC (cur ++ [c]) r
termination_by l => l.length
decreasing_by all_goals (simp; try omega)
theorem cutC_first : ∀ n (q cur : List UInt8), q.length ≤ n → cutC cur q = (cur ++ (firstCut q).1) :: (if (firstCut q).2 = [] then [] else cutC [] ((firstCut q).2.drop 1)) := by
  intro n
  induction n with
  | zero =>
    intro q cur h
    obtain rfl : q = [] := List.length_eq_zero_iff.1 (by omega)
    rw [cutC, firstCut_nil]; simp
  | succ n ih =>
    intro q cur h
    cases q with
    | nil => rw [cutC, firstCut_nil]; simp
    | cons c r =>
      simp only [List.length_cons] at h
      rw [cutC]
      by_cases h92 : c = 92
      · subst h92
        rw [if_pos rfl, firstCut_92, ih (r.drop 1) _ (by simp; omega)]
        simp
      · by_cases h44 : c = 44
        · subst h44
          rw [if_neg h92, if_pos rfl, firstCut_44]; simp
        · rw [if_neg h92, if_neg h44, firstCut_raw r h92 h44, ih r _ (by omega)]
          simp
theorem cut_l0 (l : List UInt8) (hl : l.length ≤ 1000000) : ∀ n (i a : Nat) (acc : List ByteArray), l.length + 1 - i ≤ n → i ≤ l.length + 1 → a ≤ i → a ≤ l.length → acc.length ≤ a →
    Ev (fun k => brookref1_cut.l0 k (B l) acc (a : Int) (i : Int)) (acc ++ (cutC ((l.take i).drop a) (l.drop i)).map B) := by
  intro n
  induction n with
  | zero =>
    intro i a acc hn hi ha hal hacc
    refine Ev.step (fun k => by rw [brookref1_cut.l0]) ?_
    refine Ev.neg (by rw [B_size]; omega) ?_
    refine Ev.pos (by omega) ?_
    refine Ev.pos (by rw [B_size]; omega) ?_
    refine Ev.pos (by omega) ?_
    rw [List.drop_eq_nil_of_le (by omega : l.length ≤ i), cutC, List.take_of_length_le (by omega : l.length ≤ i), B_extract, B_size, List.take_of_length_le (by simp)]
    exact Ev.now _
  | succ n ih =>
    intro i a acc hn hi ha hal hacc
    refine Ev.step (fun k => by rw [brookref1_cut.l0]) ?_
    by_cases h : i < l.length
    · obtain ⟨c, hc⟩ : ∃ c, l[i]? = some c := ⟨l[i], List.getElem?_eq_getElem h⟩
      have hd : l.drop i = c :: l.drop (i + 1) := by rw [List.drop_eq_getElem_cons h]; congr 1; exact Option.some.inj ((List.getElem?_eq_getElem h).symm.trans hc)
      have h44 : ((c.toNat : Int) = 44) ↔ c = 44 := u8_int_inj (n := 44) (by omega)
      have h92 : ((c.toNat : Int) = 92) ↔ c = 92 := u8_int_inj (n := 92) (by omega)
      have htk : (l.take (i + 1)).drop a = (l.take i).drop a ++ [c] := by
        rw [List.take_add_one, hc, List.drop_append_of_le_length (by simp; omega)]; rfl
      refine Ev.pos (by rw [B_size]; omega) ?_
      refine Ev.pos (by omega) ?_
      rw [bt_at' hc, wrap_succ (by omega), wrap_succ (by omega), hd, cutC]
      by_cases c92 : c = 92
      · rw [if_pos c92]
        refine Ev.pos (h92.2 c92) ?_
        have := ih (i + 1 + 1) a acc (by omega) (by omega) (by omega) hal hacc
        have e : (l.take (i + 1 + 1)).drop a = (l.take i).drop a ++ (c :: (l.drop (i + 1)).take 1) := by
          rw [List.take_add_one, List.drop_append_of_le_length (by simp; omega), htk, List.append_assoc]
          congr 1
          cases hx : l[i + 1]? with
          | none =>
            rw [List.drop_eq_nil_of_le (by have := List.getElem?_eq_none_iff.1 hx; omega)]; rfl
          | some d =>
            have hlt := (List.getElem?_eq_some_iff.1 hx).1
            rw [List.drop_eq_getElem_cons hlt]
            have hd2 : l[i + 1] = d := (List.getElem?_eq_some_iff.1 hx).2
            rw [hd2]
            simp
        rw [e] at this
        rw [List.drop_drop]
        exact this
      · rw [if_neg c92]
        refine Ev.neg (fun e => c92 (h92.1 e)) ?_
        by_cases c44 : c = 44
        · rw [if_pos c44]
          refine Ev.pos (h44.2 c44) ?_
          refine Ev.pos (by omega) ?_
          refine Ev.pos (by omega) ?_
          refine Ev.pos (by rw [B_size]; omega) ?_
          refine Ev.pos (by omega) ?_
          have e : (B l).extract (a : Int).toNat (i : Int).toNat = B ((l.take i).drop a) := by
            rw [B_extract, List.drop_take]; rfl
          rw [e]
          have := ih (i + 1) (i + 1) (acc ++ [B ((l.take i).drop a)]) (by omega) (by omega) (by omega) (by omega) (by simp; omega)
          rw [List.drop_eq_nil_of_le (by rw [List.length_take]; omega : (l.take (i + 1)).length ≤ i + 1)] at this
          simpa using this
        · rw [if_neg c44]
          refine Ev.neg (fun e => c44 (h44.1 e)) ?_
          have := ih (i + 1) a acc (by omega) (by omega) (by omega) hal hacc
          rw [htk] at this
          exact this
    · refine Ev.neg (by rw [B_size]; omega) ?_
      refine Ev.pos (by omega) ?_
      refine Ev.pos (by rw [B_size]; omega) ?_
      refine Ev.pos (by omega) ?_
      rw [List.drop_eq_nil_of_le (by omega : l.length ≤ i), cutC, List.take_of_length_le (by omega : l.length ≤ i), B_extract, B_size, List.take_of_length_le (by simp)]
      exact Ev.now _
theorem rcut_ev (l : List UInt8) (hl : l.length ≤ 1000000) : Ev (fun k => brookref1_cut.f k (B l)) ((cutC [] l).map B) := by
  exact cut_l0 l hl (l.length + 1) 0 0 [] (by omega) (by omega) (by omega) (by omega) (by simp)
theorem cutC_small : ∀ n (q cur : List UInt8), q.length ≤ n → (cutC cur q).length ≤ q.length + 1 ∧ ∀ p ∈ cutC cur q, p.length ≤ cur.length + q.length := by
  intro n
  induction n with
  | zero =>
    intro q cur h
    obtain rfl : q = [] := List.length_eq_zero_iff.1 (by omega)
    rw [cutC]; simp
  | succ n ih =>
    intro q cur h
    cases q with
    | nil => rw [cutC]; simp
    | cons c r =>
      simp only [List.length_cons] at h ⊢
      rw [cutC]
      split
      · obtain ⟨h1, h2⟩ := ih (r.drop 1) (cur ++ (c :: r.take 1)) (by simp; omega)
        simp only [List.length_drop, List.length_append, List.length_cons, List.length_take] at h1 h2
        exact ⟨by omega, fun p hp => by have := h2 p hp; omega⟩
      · split
        · obtain ⟨h1, h2⟩ := ih r [] (by omega)
          refine ⟨by simp; omega, fun p hp => ?_⟩
          rcases List.mem_cons.1 hp with rfl | hp
          · omega
          · have := h2 p hp; simp at this; omega
        · obtain ⟨h1, h2⟩ := ih r (cur ++ [c]) (by omega)
          exact ⟨by omega, fun p hp => by have := h2 p hp; simp at this; omega⟩
/-! ### ParseDn -/
def partOf (p : List UInt8) : Option S25 := match cutS p with
  | none => none
  | some (a, b) => (pvS true [] false b).map fun v => ⟨B a, B v⟩
def partsOf : List (List UInt8) → Option (List S25)
  | [] => some []
  | p :: ps => match partOf p with
    | none => none
    | some r => (partsOf ps).map fun rs => r :: rs
def endS (acc : List S25) : Option (List S25) → List S25 × Bool
  | none => ([], false)
  | some l => if mayB (acc ++ l) = true then (acc ++ l, true) else ([], false)
theorem j2_at (ps : List (List UInt8)) (acc : List S25) (i n : Nat) (p : List UInt8) (hp : (rdOf ByteArray.empty (ps.map B) (i : Int)) = B p) (hi : i < ps.length) (hps : ps.length ≤ 1000001) (hpl : p.length ≤ 1000001) (hacc : acc.length ≤ 1000001) (x : List S25 × Bool)
    (hc : cutS p = none → n = p.length ∧ x = ([], false)) (hs : ∀ a b, cutS p = some (a, b) → n = a.length ∧
      ((pvS true [] false b = none → x = ([], false)) ∧ ∀ v, pvS true [] false b = some v → Ev (fun k => brookref1_ParseDn.l0 k (acc ++ [⟨B a, B v⟩]) (ps.map B) ((i + 1 : Nat) : Int)) x)) :
    Ev (fun k => brookref1_ParseDn.j2 k acc (ps.map B) (i : Int) (n : Int)) x := by
  refine Ev.step (fun k => by rw [brookref1_ParseDn.j2]) ?_
  rw [hp]
  refine Ev.pos (by omega) ?_
  refine Ev.pos (by rw [List.length_map]; omega) ?_
  rcases cutS_index p with ⟨h1, _⟩ | ⟨a, b, h1, _, h3⟩
  · obtain ⟨rfl, rfl⟩ := hc h1
    exact Ev.pos (by rw [B_size]) (Ev.now _)
  · obtain ⟨rfl, h4, h5⟩ := hs a b h1
    have hlen : a.length + 1 + b.length = p.length := by rw [h3]; simp; omega
    refine Ev.neg (by rw [B_size]; omega) ?_
    rw [wrap_succ (by omega), wrap_succ (by omega)]
    refine Ev.pos (by omega) ?_
    refine Ev.pos (by rw [B_size]; omega) ?_
    have e1 : (B p).extract (((a.length + 1 : Nat) : Int)).toNat (B p).size = B b := by
      rw [B_extract, B_size, List.take_of_length_le (by simp), h3]
      simp
    have e2 : (B p).extract 0 (a.length : Int).toNat = B a := by rw [B_extract, h3]; simp
    rw [e1, e2]
    refine Ev.bind (rvalue_ev b (by omega)) ?_
    cases hv : pvS true [] false b with
    | none =>
      rw [h4 hv]
      exact Ev.neg (by simp [resO]) (Ev.now _)
    | some v =>
      refine Ev.pos rfl ?_
      refine Ev.pos (by omega) ?_
      refine Ev.pos (by rw [B_size]; omega) ?_
      refine Ev.pos (by omega) ?_
      exact h5 v hv
theorem l1_at (ps : List (List UInt8)) (acc : List S25) (i : Nat) (p : List UInt8) (hp : (rdOf ByteArray.empty (ps.map B) (i : Int)) = B p) (hi : i < ps.length) (hpl : p.length ≤ 1000001) (x : List S25 × Bool)
    (h : ∀ n : Nat, (cutS p = none → n = p.length) → (∀ a b, cutS p = some (a, b) → n = a.length) → Ev (fun k => brookref1_ParseDn.j2 k acc (ps.map B) (i : Int) (n : Int)) x) :
    ∀ q u : List UInt8, p = u ++ q → 61 ∉ u → Ev (fun k => brookref1_ParseDn.l1 k acc (ps.map B) (i : Int) (u.length : Int)) x := by
  intro q
  induction q with
  | nil =>
    intro u hu h61
    obtain rfl : p = u := by simpa using hu
    refine Ev.step (fun k => by rw [brookref1_ParseDn.l1]) ?_
    rw [hp]
    refine Ev.pos (by omega) ?_
    refine Ev.pos (by rw [List.length_map]; omega) ?_
    refine Ev.neg (by rw [B_size]; omega) ?_
    refine h p.length (fun _ => rfl) (fun a b hab => ?_)
    rcases cutS_index p with ⟨h1, _⟩ | ⟨a', b', h1, _, h3⟩
    · rw [h1] at hab; cases hab
    · exact absurd (by rw [h3]; simp) h61
  | cons c q ih =>
    intro u hu h61
    have hlen : u.length + 1 + q.length = p.length := by rw [hu]; simp; omega
    have hb : bt (B p) (u.length : Int) = (c.toNat : Int) := by rw [hu]; exact bt_pre u c q
    have h61' : ((c.toNat : Int) = 61) ↔ c = 61 := u8_int_inj (n := 61) (by omega)
    refine Ev.step (fun k => by rw [brookref1_ParseDn.l1]) ?_
    rw [hp]
    refine Ev.pos (by omega) ?_
    refine Ev.pos (by rw [List.length_map]; omega) ?_
    refine Ev.pos (by rw [B_size]; omega) ?_
    refine Ev.pos (by omega) ?_
    rw [hb, wrap_succ (by omega)]
    by_cases hc : c = 61
    · refine Ev.pos (h61'.2 hc) ?_
      subst hc
      have hcut := cutS_at u q h61
      rw [← hu] at hcut
      refine h u.length (fun hn => ?_) (fun a b hab => ?_)
      · rw [hcut] at hn; cases hn
      · rw [hcut] at hab; cases hab; rfl
    · refine Ev.neg (fun e => hc (h61'.1 e)) ?_
      have := ih (u ++ [c]) (by rw [hu]; simp) (by simp [h61]; exact fun e => hc e.symm)
      rw [show (u ++ [c]).length = u.length + 1 by simp] at this
      exact this
theorem pdn_l0 (ps : List (List UInt8)) (hps : ps.length ≤ 1000001) (hpl : ∀ p ∈ ps, p.length ≤ 1000001) : ∀ qs us : List (List UInt8), ps = us ++ qs → ∀ acc : List S25, acc.length = us.length →
    Ev (fun k => brookref1_ParseDn.l0 k acc (ps.map B) (us.length : Int)) (endS acc (partsOf qs)) := by
  intro qs
  induction qs with
  | nil =>
    intro us hu acc ha
    obtain rfl : ps = us := by simpa using hu
    refine Ev.step (fun k => by rw [brookref1_ParseDn.l0]) ?_
    refine Ev.neg (by rw [List.length_map]; omega) ?_
    refine Ev.bind (mayDn_ev acc (by omega)) ?_
    simp only [partsOf, endS, List.append_nil]
    by_cases hm : mayB acc = true
    · simp only [if_pos hm]; exact Ev.now _
    · simp only [if_neg hm]; exact Ev.now _
  | cons p qs ih =>
    intro us hu acc ha
    have hlen : us.length + 1 + qs.length = ps.length := by rw [hu]; simp; omega
    have hp : rdOf ByteArray.empty (ps.map B) (us.length : Int) = B p := by rw [hu]; simp [rdOf]
    have hpp := hpl p (by rw [hu]; simp)
    refine Ev.step (fun k => by rw [brookref1_ParseDn.l0]) ?_
    refine Ev.pos (by rw [List.length_map]; omega) ?_
    refine l1_at ps acc us.length p hp (by omega) hpp _ ?_ p [] rfl (by simp)
    intro n hn1 hn2
    refine j2_at ps acc us.length n p hp (by omega) hps hpp (by omega) _ ?_ ?_
    · intro hc
      refine ⟨hn1 hc, ?_⟩
      simp only [partsOf, partOf, hc, endS]
    · intro a b hc
      refine ⟨hn2 a b hc, fun hv => ?_, fun v hv => ?_⟩
      · simp only [partsOf, partOf, hc, hv, Option.map_none, endS]
      · have := ih (us ++ [p]) (by rw [hu]; simp) (acc ++ [⟨B a, B v⟩]) (by simp [ha])
        rw [show (us ++ [p]).length = us.length + 1 by simp] at this
        have e : endS acc (partsOf (p :: qs)) = endS (acc ++ [⟨B a, B v⟩]) (partsOf qs) := by
          simp only [partsOf, partOf, hc, hv, Option.map_some]
          cases partsOf qs with
          | none => rfl
          | some rs => simp [endS]
        rw [e]
        exact this
theorem mayB_mid {acc l : List S25} {r : S25} (h : partB r = false) : mayB (acc ++ r :: l) = false := by
  cases e : mayB (acc ++ r :: l) with
  | false => rfl
  | true => have := (mayB_iff.1 e).1 r (by simp); rw [h] at this; cases this
theorem cutS_piece {s a b : List UInt8} (h : cutS s = some (a, b)) : cutS (firstCut s).1 = none ∨ ∃ b', cutS (firstCut s).1 = some (a, b') := by
  obtain ⟨h1, _⟩ := firstCut_eq s.length s (Nat.le_refl _)
  rcases cutS_index (firstCut s).1 with ⟨h2, _⟩ | ⟨a', b', h2, _, h3⟩
  · exact .inl h2
  · right
    rcases cutS_index s with ⟨g1, _⟩ | ⟨a'', b'', g1, g2, g3⟩
    · rw [g1] at h; cases h
    · rw [g1] at h
      simp only [Option.some.injEq, Prod.mk.injEq] at h
      refine ⟨b', ?_⟩
      have : ∀ (x y : List UInt8) (c : List UInt8), cutS (x ++ 61 :: y) = none → False := fun x y c hh => by
        rcases cutS_index (x ++ 61 :: y) with ⟨_, k2⟩ | ⟨_, _, k1, _, _⟩
        · have hx : ∀ x : List UInt8, Lib.indexByte (x ++ 61 :: y) 61 ≠ -1 := by
            intro x
            induction x with
            | nil => simp [Lib.indexByte]
            | cons d x ihx =>
              have i1 : (Lib.indexByte (x ++ 61 :: y) 61 == -1) = false := by simpa using ihx
              have hrange : ∀ l : List UInt8, -1 ≤ Lib.indexByte l 61 := by
                intro l
                induction l with
                | nil => simp [Lib.indexByte]
                | cons f l ihl =>
                  rw [Lib.indexByte]
                  split
                  · omega
                  · split
                    · omega
                    · next hh => have : Lib.indexByte l 61 ≠ -1 := by simpa using hh
                                 omega
              have := hrange (x ++ 61 :: y)
              rw [List.cons_append, Lib.indexByte]
              split
              · omega
              · rw [i1]
                simp only [Bool.false_eq_true, if_false]
                omega
          exact hx x k2
        · rw [k1] at hh; cases hh
      have h61 : ∀ {s a b : List UInt8}, cutS s = some (a, b) → 61 ∉ a := by
        intro s
        induction s with
        | nil => intro a b hh; simp [cutS] at hh
        | cons d s ihs =>
          intro a b hh
          by_cases hd : d = 61
          · simp [cutS, hd] at hh
            rw [hh.1]; simp
          · simp only [cutS, if_neg hd, Option.map_eq_some_iff] at hh
            obtain ⟨⟨a1, b1⟩, e1, e2⟩ := hh
            simp only [Prod.mk.injEq] at e2
            rw [← e2.1]
            simp only [List.mem_cons, not_or]
            exact ⟨fun e => hd e.symm, ihs e1⟩
      have e1 : s = a' ++ 61 :: (b' ++ (firstCut s).2) := by
        conv => lhs; rw [h1, h3]
        simp
      have e2 := cutS_at a' (b' ++ (firstCut s).2) (h61 h2)
      rw [← e1, g1] at e2
      have : a'' = a' := by have := congrArg (fun o : Option (List UInt8 × List UInt8) => o.map Prod.fst) e2; simpa using this
      rw [h2, ← h.1, this]
theorem firstCut_typed : ∀ (a b : List UInt8), (∀ c ∈ a, typeC c = true) → firstCut (a ++ 61 :: b) = (a ++ 61 :: (firstCut b).1, (firstCut b).2) := by
  intro a
  induction a with
  | nil => intro b _; rw [List.nil_append, firstCut_raw b (by decide) (by decide)]; rfl
  | cons c a ih =>
    intro b h
    have hc := typeC_rng (h c (by simp))
    rw [List.cons_append, firstCut_raw _ hc.2.2.2.2.1 hc.2.2.2.1, ih b (fun d hd => h d (by simp [hd]))]
    rfl
theorem parts_first (s : List UInt8) : partsOf (cutC [] s) = match partOf (firstCut s).1 with
    | none => none
    | some r => (if (firstCut s).2 = [] then some [] else partsOf (cutC [] ((firstCut s).2.drop 1))).map fun rs => r :: rs := by
  rw [cutC_first s.length s [] (Nat.le_refl _), partsOf, List.nil_append]
  cases partOf (firstCut s).1 with
  | none => rfl
  | some r =>
    by_cases h : (firstCut s).2 = []
    · simp only [if_pos h]; rfl
    · simp only [if_neg h]
theorem parse_same : ∀ (n : Nat) (s : List UInt8) (acc : List S25), acc.length + n = 8 → parseS n s acc true = endS acc (partsOf (cutC [] s)) := by
  intro n
  induction n with
  | zero =>
    intro s acc hn
    rw [parseS_zero, parts_first]
    cases partOf (firstCut s).1 with
    | none => rfl
    | some r =>
      simp only
      cases (if (firstCut s).2 = [] then some [] else partsOf (cutC [] ((firstCut s).2.drop 1))) with
      | none => rfl
      | some rs =>
        simp only [Option.map_some, endS]
        have : mayB (acc ++ r :: rs) = false := by
          cases e : mayB (acc ++ r :: rs) with
          | false => rfl
          | true => have := (mayB_iff.1 e).2; simp at this; omega
        rw [this]; rfl
  | succ n ih =>
    intro s acc hn
    rw [parts_first]
    cases hc : cutS s with
    | none =>
      rw [parseS_none _ _ _ hc]
      have : partOf (firstCut s).1 = none := by
        unfold partOf
        obtain ⟨h1, _⟩ := firstCut_eq s.length s (Nat.le_refl _)
        rcases cutS_index (firstCut s).1 with ⟨h2, _⟩ | ⟨a', b', h2, _, h3⟩
        · rw [h2]
        · exfalso
          have hn61 : ∀ s : List UInt8, cutS s = none → 61 ∉ s := by
            intro s
            induction s with
            | nil => intro _; simp
            | cons d s ihs =>
              intro hh
              by_cases hd : d = 61
              · simp [cutS, hd] at hh
              · simp only [cutS, if_neg hd, Option.map_eq_none_iff] at hh
                simp only [List.mem_cons, not_or]
                exact ⟨fun e => hd e.symm, ihs hh⟩
          refine hn61 s hc ?_
          rw [h1, h3]; simp
      rw [this]; rfl
    | some x =>
      obtain ⟨a, b⟩ := x
      rw [parseS_some _ _ _ _ _ hc]
      by_cases ht : typedB a = true
      · rw [if_neg (by simp [ht])]
        have hs : s = a ++ 61 :: b := by
          rcases cutS_index s with ⟨h1, _⟩ | ⟨a', b', h1, _, h3⟩
          · rw [h1] at hc; cases hc
          · rw [h1] at hc; cases hc; exact h3
        have hf := firstCut_typed a b (typed_all ht)
        rw [← hs] at hf
        obtain ⟨hv1, hv2⟩ := piece_val b.length b (Nat.le_refl _) true [] false
        have hpart : partOf (firstCut s).1 = (pvS true [] false (firstCut b).1).map fun v => ⟨B a, B v⟩ := by
          unfold partOf
          rw [hf, cutS_at _ _ (typed_61 ht)]
        rw [hpart, hf]
        cases hv : pvS true [] false (firstCut b).1 with
        | none => rw [if_pos (hv2 hv)]; rfl
        | some v =>
          rw [hv1 v hv]
          simp only [Option.map_some]
          rw [if_neg (by simp)]
          by_cases hr : (firstCut b).2 = []
          · rw [hr, if_pos rfl]
            simp only [Option.map_some, endS]
            rw [show (([] : List UInt8) != []) = false from rfl, parseS_done]
          · rw [if_neg hr, show ((firstCut b).2 != []) = true by simpa using hr, ih _ _ (by simp; omega)]
            cases partsOf (cutC [] ((firstCut b).2.drop 1)) with
            | none => rfl
            | some rs => simp [endS]
      · have htf : typedB a = false := by simpa using ht
        rw [if_pos htf]
        rcases cutS_piece hc with h2 | ⟨b', h2⟩
        · have : partOf (firstCut s).1 = none := by unfold partOf; rw [h2]
          rw [this]; rfl
        · have : partOf (firstCut s).1 = (pvS true [] false b').map fun v => ⟨B a, B v⟩ := by unfold partOf; rw [h2]
          rw [this]
          cases pvS true [] false b' with
          | none => rfl
          | some v =>
            simp only [Option.map_some]
            cases (if (firstCut s).2 = [] then some [] else partsOf (cutC [] ((firstCut s).2.drop 1))) with
            | none => rfl
            | some rs =>
              simp only [Option.map_some, endS]
              rw [mayB_mid (by unfold partB; rw [B_data, htf]; rfl)]
              rfl
theorem parseDn_ev (s : List UInt8) (hs : s.length ≤ 1000000) : Ev (fun k => brookref1_ParseDn.f k (B s)) (parseL s) := by
  unfold brookref1_ParseDn.f parseL
  simp only [B_toList]
  cases s with
  | nil =>
    rw [show (([] : List UInt8) != []) = false from rfl, parseS_done]
    exact Ev.pos rfl (Ev.now _)
  | cons c s =>
    refine Ev.neg (by simp) ?_
    rw [show ((c :: s) != []) = true by simp, parse_same 8 (c :: s) [] rfl]
    refine Ev.bind (rcut_ev (c :: s) hs) ?_
    obtain ⟨h1, h2⟩ := cutC_small (c :: s).length (c :: s) [] (Nat.le_refl _)
    exact pdn_l0 (cutC [] (c :: s)) (by omega) (fun p hp => by have := h2 p hp; simp only [List.length_nil] at this; omega) (cutC [] (c :: s)) [] rfl [] rfl
/-! ### Fold -/
def rF (out : List UInt8) (pend : Bool) : List UInt8 → List UInt8
  | [] => out
  | c :: r => if c = 32 then rF out (out != []) r else rF (out ++ (if pend = true then [32] else []) ++ [c]) false r
def strip (x : List UInt8) : List UInt8 := if x.getLast? = some 32 then x.dropLast else x
theorem strip_snoc (x : List UInt8) : strip (x ++ [32]) = x := by unfold strip; simp
theorem strip_not {x : List UInt8} (h : x.getLast? ≠ some 32) : strip x = x := by unfold strip; rw [if_neg h]
theorem sq_ne {l : List UInt8} (h : l ≠ []) : sq l ≠ [] := by
  intro e
  have := sq_head l
  rw [e] at this
  cases l with
  | nil => exact h rfl
  | cons a l => simp at this
theorem all_of_drop {p : List UInt8} (h : p.dropWhile (· == 32) = []) : ∀ c ∈ p, c = 32 := by
  induction p with
  | nil => simp
  | cons a p ih =>
    rw [List.dropWhile_cons] at h
    split at h
    · next ha =>
      intro c hc
      rcases List.mem_cons.1 hc with rfl | hc
      · simpa using ha
      · exact ih h c hc
    · cases h
theorem drop_snoc (p m : List UInt8) (h : p.dropWhile (· == 32) ≠ []) : (p ++ m).dropWhile (· == 32) = p.dropWhile (· == 32) ++ m := by
  refine drop_snoc_some ?_
  refine Classical.byContradiction fun hn => h ?_
  have h' : ∀ c ∈ p, c = 32 := fun c hc => Classical.not_not.1 fun he => hn ⟨c, hc, he⟩
  have := drop_snoc_all (m := []) h'
  simpa using this
theorem rF_sq : ∀ (q p out : List UInt8) (pend : Bool), out ++ (if pend = true then [32] else []) = sq (p.dropWhile (· == 32)) → out.getLast? ≠ some 32 → rF out pend q = strip (sq ((p ++ q).dropWhile (· == 32))) := by
  intro q
  induction q with
  | nil =>
    intro p out pend h hl
    rw [List.append_nil, ← h, rF]
    cases pend with
    | true => rw [if_pos rfl, strip_snoc]
    | false => rw [if_neg (by simp), List.append_nil, strip_not hl]
  | cons c q ih =>
    intro p out pend h hl
    rw [rF]
    by_cases hc : c = 32
    · subst hc
      rw [if_pos rfl]
      have hp : p ++ 32 :: q = (p ++ [32]) ++ q := by simp
      rw [hp]
      by_cases ho : out = []
      · subst ho
        have hpf : pend = false := by
          cases pend with
          | false => rfl
          | true =>
            have h1 := sq_head (p.dropWhile (· == 32))
            rw [← h] at h1
            have h3 : (p.dropWhile (· == 32)).head? = some 32 := by rw [← h1]; rfl
            have h2 := dropWhile_head h3
            simp at h2
        subst hpf
        have hd : p.dropWhile (· == 32) = [] := Classical.byContradiction fun hn => sq_ne hn (by rw [← h]; simp)
        refine ih (p ++ [32]) [] _ ?_ hl
        rw [drop_snoc_all (all_of_drop hd)]
        simp [sq]
      · have hd : p.dropWhile (· == 32) ≠ [] := by
          intro e
          rw [e] at h
          simp [sq] at h
          exact ho h.1
        refine ih (p ++ [32]) out _ ?_ hl
        rw [drop_snoc _ _ hd, sq_cons_last, ← h, show (out != []) = true by simpa using ho, if_pos rfl]
        unfold sqStep
        cases pend with
        | true => simp
        | false => simp [hl]
    · rw [if_neg hc]
      have hp : p ++ c :: q = (p ++ [c]) ++ q := by simp
      rw [hp]
      refine ih (p ++ [c]) _ false ?_ (by simpa using hc)
      have hd : (p ++ [c]).dropWhile (· == 32) = p.dropWhile (· == 32) ++ [c] := by
        by_cases hd : p.dropWhile (· == 32) = []
        · rw [drop_snoc_all (all_of_drop hd), hd, List.dropWhile_cons_of_neg (by simpa using hc)]; rfl
        · exact drop_snoc _ _ hd
      have he : sqStep (sq (p.dropWhile (· == 32))) c = sq (p.dropWhile (· == 32)) ++ [c] := by
        unfold sqStep
        rw [if_neg (fun hh => hc hh.1)]
      rw [hd, sq_cons_last, he, ← h]
      simp
theorem strip_trim (s : List UInt8) : strip (sq (s.dropWhile (· == 32))) = sq (Lib.trimB s 32) := by
  induction s using snocRec with
  | nil => rfl
  | snoc s c ih =>
    have hrev : (s ++ [c]).reverse = c :: s.reverse := by simp
    by_cases hc : c = 32
    · subst hc
      have e1 : Lib.trimB (s ++ [32]) 32 = Lib.trimB s 32 := by
        unfold Lib.trimB Lib.trimRightB
        rw [hrev, List.dropWhile_cons_of_pos (by simp)]
      rw [e1, ← ih]
      by_cases hd : s.dropWhile (· == 32) = []
      · rw [drop_snoc_all (all_of_drop hd), hd]; rfl
      · rw [drop_snoc _ _ hd, sq_cons_last]
        unfold sqStep
        by_cases hl : (sq (s.dropWhile (· == 32))).getLast? = some 32
        · rw [if_pos ⟨rfl, hl⟩]
        · rw [if_neg (fun hh => hl hh.2), strip_snoc, strip_not hl]
    · have e1 : Lib.trimB (s ++ [c]) 32 = (s ++ [c]).dropWhile (· == 32) := by
        unfold Lib.trimB Lib.trimRightB Lib.trimLeftB
        rw [hrev, List.dropWhile_cons_of_neg (by simpa using hc), ← hrev, List.reverse_reverse]
      rw [e1]
      refine strip_not ?_
      rw [sq_last]
      refine dropWhile_last ?_
      simpa using hc
theorem rF_fold (l : List UInt8) : rF [] false (lowL l) = foldL l := by
  rw [rF_sq (lowL l) [] [] false rfl (by simp), List.nil_append, strip_trim, trimB_low]
  rfl
theorem rfold_l0 (s : List UInt8) (hs : s.length ≤ 100000000) : ∀ (q p out : List UInt8) (pend : Bool), s = p ++ q → out.length + (if pend = true then 1 else 0) ≤ p.length →
    Ev (fun k => brookref1_Fold.l0 k (B s) (B out) pend (p.length : Int)) (B (rF out pend q)) := by
  intro q
  induction q with
  | nil =>
    intro p out pend hp _
    obtain rfl : s = p := by simpa using hp
    refine Ev.step (fun k => by rw [brookref1_Fold.l0]) ?_
    refine Ev.neg (by rw [B_size]; omega) ?_
    exact Ev.now _
  | cons c q ih =>
    intro p out pend hp ho
    have hlen : p.length + 1 + q.length = s.length := by rw [hp]; simp; omega
    have hb : bt (B s) (p.length : Int) = (c.toNat : Int) := by rw [hp]; exact bt_pre p c q
    have h32 : ((c.toNat : Int) = 32) ↔ c = 32 := u8_int_inj (n := 32) (by omega)
    have hx : (B s).extract (p.length : Int).toNat (((p.length + 1 : Nat) : Int)).toNat = B [c] := by rw [hp]; exact cut_pre p c q
    have hsm : p.length < 200000000 := by omega
    have hn : (p ++ [c]).length = p.length + 1 := by simp
    refine Ev.step (fun k => by rw [brookref1_Fold.l0]) ?_
    refine Ev.pos (by rw [B_size]; omega) ?_
    refine Ev.pos (by omega) ?_
    simp only [wrap_succ (lt_big hsm), hb, hx, B_toList]
    rw [rF]
    by_cases hc : c = 32
    · rw [if_pos hc]
      refine Ev.pos (h32.2 hc) ?_
      have := ih (p ++ [c]) out (out != []) (by rw [hp]; simp) (by rw [hn]; split <;> split at ho <;> omega)
      rw [hn] at this
      exact this
    · rw [if_neg hc]
      refine Ev.neg (fun e => hc (h32.1 e)) ?_
      cases pend with
      | true =>
        rw [if_pos rfl] at ho ⊢
        refine Ev.pos rfl ?_
        rw [show (⟨#[32]⟩ : ByteArray) = B [32] from rfl]
        simp only [B_append]
        refine Ev.pos (by rw [B_size]; omega) ?_
        refine Ev.pos (by omega) ?_
        refine Ev.pos (by rw [B_size]; omega) ?_
        refine Ev.pos (by rw [B_size, B_size]; simp; omega) ?_
        have := ih (p ++ [c]) (out ++ [32] ++ [c]) false (by rw [hp]; simp) (by rw [hn]; simp; omega)
        rw [hn] at this
        exact this
      | false =>
        rw [if_neg (by simp)] at ho ⊢
        refine Ev.neg (by simp) ?_
        simp only [B_append]
        refine Ev.pos (by omega) ?_
        refine Ev.pos (by rw [B_size]; omega) ?_
        refine Ev.pos (by rw [B_size, B_size]; simp; omega) ?_
        have := ih (p ++ [c]) (out ++ [] ++ [c]) false (by rw [hp]; simp) (by rw [hn]; simp; omega)
        rw [hn, List.append_nil] at this
        rw [List.append_nil]
        exact this
theorem rfold_ev (l : List UInt8) (hl : l.length ≤ 100000000) : Ev (fun k => brookref1_Fold.f k (B l)) (B (foldL l)) := by
  unfold brookref1_Fold.f
  refine Ev.fix (lower_B (by omega)) ?_
  have := rfold_l0 (lowL l) (by rw [lowL_length]; exact hl) (lowL l) [] [] false rfl (by simp)
  rw [rF_fold] at this
  exact this
/-! ### Key -/
theorem rkey_l0 (l : List S25) (hm : Modest l) (ok : Bool) : ∀ q p : List S25, l = p ++ q →
    Ev (fun k => brookref1_Key.l0 k (keyL p) (p.length : Int) l ok) (if q.all foldOk = true then (B (text (keyL l)), true) else (B [], false)) := by
  intro q
  induction q with
  | nil =>
    intro p hp
    obtain rfl : l = p := by simpa using hp
    refine Ev.step (fun k => by rw [brookref1_Key.l0]) ?_
    refine Ev.neg (by omega) ?_
    have := textDn_ev (keyL l) (keyL_modest hm)
    rw [text_up] at this
    refine Ev.bind this ?_
    exact Ev.now _
  | cons r q ih =>
    intro p hp
    have hlen : p.length + 1 + q.length = l.length := by rw [hp]; simp; omega
    have hl := hm.1
    obtain ⟨h1, h2⟩ := hm.2 r (by rw [hp]; simp)
    rw [Lib.size_eq] at h1 h2
    have hkl := keyL_length p
    have hb : rd_T25 l (p.length : Int) = r := by rw [hp]; exact rd_pre p r q
    refine Ev.step (fun k => by rw [brookref1_Key.l0]) ?_
    refine Ev.pos (by omega) ?_
    refine Ev.pos (by omega) ?_
    rw [hb, wrap_succ (by omega)]
    refine Ev.fix (v := B (lowL r.f0.data.toList)) (by rw [← lower_B (by omega), B_of]) ?_
    have hf := rfold_ev r.f1.data.toList (by omega)
    rw [B_of] at hf
    refine Ev.bind hf ?_
    simp only [B_toList]
    by_cases hf : foldL r.f1.data.toList = []
    · have : foldOk r = false := by unfold foldOk; simp [hf]
      rw [List.all_cons, this]
      exact Ev.pos hf (Ev.now _)
    · have : foldOk r = true := by unfold foldOk; simp [hf]
      rw [List.all_cons, this, Bool.true_and]
      refine Ev.neg hf ?_
      refine Ev.pos (by omega) ?_
      have hi := ih (p ++ [r]) (by rw [hp]; simp)
      rw [keyL_append, show (p ++ [r]).length = p.length + 1 by simp] at hi
      exact hi
theorem rkey_ev (s : List UInt8) (hs : s.length ≤ 1000000) : Ev (fun k => brookref1_Key.f k (B s)) (keyS s) := by
  unfold brookref1_Key.f keyS
  refine Ev.bind (parseDn_ev s hs) ?_
  by_cases h : (parseL s).2 = true
  · rw [if_pos h]
    refine Ev.pos h ?_
    have hm : mayB (parseL s).1 = true := parseS_may 8 s [] (s != []) _ (by rw [← h]; rfl)
    exact rkey_l0 _ (may_modest hm) _ _ [] rfl
  · rw [if_neg h]
    exact Ev.neg h (Ev.now _)
/-! ### Up and Under -/
theorem rup_l0 (l : List UInt8) (hl : l.length ≤ 1000000000) : ∀ n (i : Nat), l.length + 1 - i ≤ n → i ≤ l.length + 1 → Ev (fun k => brookref1_Up.l0 k (B l) (i : Int)) (B (upS (l.drop i))) := by
  intro n
  induction n with
  | zero =>
    intro i hn hi
    refine Ev.step (fun k => by rw [brookref1_Up.l0]) ?_
    refine Ev.neg (by rw [B_size]; omega) ?_
    rw [List.drop_eq_nil_of_le (by omega), upS]
    exact Ev.now _
  | succ n ih =>
    intro i hn hi
    refine Ev.step (fun k => by rw [brookref1_Up.l0]) ?_
    by_cases h : i < l.length
    · obtain ⟨c, hc⟩ : ∃ c, l[i]? = some c := ⟨l[i], List.getElem?_eq_getElem h⟩
      have hd : l.drop i = c :: l.drop (i + 1) := by rw [List.drop_eq_getElem_cons h]; congr 1; exact Option.some.inj ((List.getElem?_eq_getElem h).symm.trans hc)
      have h44 : ((c.toNat : Int) = 44) ↔ c = 44 := u8_int_inj (n := 44) (by omega)
      have h92 : ((c.toNat : Int) = 92) ↔ c = 92 := u8_int_inj (n := 92) (by omega)
      refine Ev.pos (by rw [B_size]; omega) ?_
      refine Ev.pos (by omega) ?_
      rw [bt_at' hc, wrap_succ (by omega), wrap_succ (by omega), hd, upS]
      by_cases c92 : c = 92
      · rw [if_pos c92]
        refine Ev.pos (h92.2 c92) ?_
        have := ih (i + 1 + 1) (by omega) (by omega)
        rw [List.drop_drop]
        exact this
      · rw [if_neg c92]
        refine Ev.neg (fun e => c92 (h92.1 e)) ?_
        by_cases c44 : c = 44
        · rw [if_pos c44]
          refine Ev.pos (h44.2 c44) ?_
          refine Ev.pos (by omega) ?_
          refine Ev.pos (by rw [B_size]; omega) ?_
          have : (B l).extract (((i + 1 : Nat) : Int)).toNat (B l).size = B (l.drop (i + 1)) := by
            rw [B_extract, B_size, List.take_of_length_le (by simp)]
            congr 2
          rw [this]
          exact Ev.now _
        · rw [if_neg c44]
          refine Ev.neg (fun e => c44 (h44.1 e)) ?_
          exact ih (i + 1) (by omega) (by omega)
    · refine Ev.neg (by rw [B_size]; omega) ?_
      rw [List.drop_eq_nil_of_le (by omega), upS]
      exact Ev.now _
theorem rup_ev (l : List UInt8) (hl : l.length ≤ 1000000000) : Ev (fun k => brookref1_Up.f k (B l)) (B (upS l)) := by
  exact rup_l0 l hl (l.length + 1) 0 (by omega) (by omega)
theorem runder_l0 (y : List UInt8) : ∀ n (x : List UInt8), x.length ≤ n → n ≤ 1000000000 → Ev (fun k => brookref1_Under.l0 k (B x) (B y)) (underS x y) := by
  intro n
  induction n with
  | zero =>
    intro x hx _
    obtain rfl : x = [] := List.length_eq_zero_iff.1 (by omega)
    refine Ev.step (fun k => by rw [brookref1_Under.l0]) ?_
    simp only [B_toList]
    rw [underS]
    by_cases h : [] = y
    · rw [if_pos h]; exact Ev.pos h (Ev.now _)
    · rw [if_neg h]
      refine Ev.neg h ?_
      simp only [if_true]
      exact Ev.now _
  | succ n ih =>
    intro x hx hn
    refine Ev.step (fun k => by rw [brookref1_Under.l0]) ?_
    simp only [B_toList]
    rw [underS]
    by_cases h : x = y
    · rw [if_pos h]; exact Ev.pos h (Ev.now _)
    · rw [if_neg h]
      refine Ev.neg h ?_
      by_cases h2 : x = []
      · rw [dif_pos h2]; exact Ev.pos h2 (Ev.now _)
      · rw [dif_neg h2]
        refine Ev.neg h2 ?_
        refine Ev.bind (rup_ev x (by omega)) ?_
        have := upS_len x.length x (Nat.le_refl _)
        exact ih (upS x) (by omega) (by omega)
theorem runder_ev (x y : List UInt8) (hx : x.length ≤ 1000000000) : Ev (fun k => brookref1_Under.f k (B x) (B y)) (underS x y) := runder_l0 y x.length x (Nat.le_refl _) hx
end Go.Proofs.YtflkghdndffacaaDoor.Pure
