/- Words, functions' contracts and plain laws for the row of Root, part 5: cut out of this session's texts by a program of its own. No condition. -/
import Derived.Below
import Derived.Deep.Draws
import Derived.Deep.AppendLies
import Derived.Maps.AppendAt
import Derived.OwnWalk
import Derived.Laws.BytesArg
import Derived.Laws.MakeOwn
import Derived.Laws.OwnMore
import Derived.Deep.OwnRows
import Derived.Tactics
import Derived.Lib.ConvBytes
import Derived.Laws.Slices
import Derived.WalkKit
import Derived.KernelRfl
import Derived.RowKit3
import Derived.Deep.LoopGhost
import Derived.Deep.QuietTactic
import Derived.BigQuiet
import Derived.WideLaws
import Derived.Deep.DeepCutAuto
import Derived.Deep.CutBlock
import Derived.Deep.RegionHeld3
import Derived.Laws.Rows
import Derived.Lib.AppendStr
import Derived.ArgAppend
import Derived.Laws.IdiomCopy
import Derived.OrdersHeld
import Derived.Laws.BitsLemmas
import Derived.RowKit
import Derived.Lib.SliceRun
import Derived.WalkLawsBesides
import Derived.ProofKit
import Derived.OpenShut
import Derived.ShutString
import Derived.ChangeOld
import Derived.SizedLaws
import Derived.Handed
import Derived.JoinedOf
import Derived.LaidHandle
import Derived.SevenTiedAt
import Derived.Deep.DeepLaidRun
import Derived.Test.YtflkghdndffacaaGreatDoorGRt4
namespace Go.Proofs.YtflkghdndffacaaGreatDoor.Pure
open Go.RowKit Go.Proofs.YtflkghdndffacaaGreatDoor.PD Go.Proofs.YtflkghdndffacaaGreatDoor.H Go.Proofs.YtflkghdndffacaaGreatDoorW.PrintWords Go.Proofs.YtflkghdndffacaaGreatDoorW.PrintLast
def pvS (first : Bool) (acc : List UInt8) (sp : Bool) : List UInt8 → Option (List UInt8)
  | [] => if sp = true then none else some acc
  | c :: r => if c = 92 then match escAt r with
      | none => none
      | some (b, n) => pvS false (acc ++ [b]) false (r.drop n)
    else if badC first c = true then none else pvS false (acc ++ [c]) (c == 32) r
termination_by l => l.length
decreasing_by all_goals (simp; try omega)
def resO : Option (List UInt8) → ByteArray × Bool
  | none => (B [], false)
  | some v => (B v, true)
theorem hex_fin : ∀ n : Fin 256, brookref1_hex.f 4 (((UInt8.ofNat n.val).toNat : Nat) : Int) = some (digB (UInt8.ofNat n.val)) := by decide +kernel
theorem hex_ev (c : UInt8) : Ev (fun k => brookref1_hex.f k (c.toNat : Int)) (digB c) :=
  Ev.of (fun k => brookref1_hex.mono _ k) (u8_all (P := fun c => brookref1_hex.f 4 (c.toNat : Int) = some (digB c)) hex_fin c)
theorem pair_fin : ∀ h l : Fin 16, (wrap64 (wrap64 ((h.val : Int) * 16) + (l.val : Int))) % 256 = ((h.val * 16 + l.val).toUInt8.toNat : Int) := by decide +kernel
theorem pair_val {h l : Int} (h0 : 0 ≤ h) (h1 : h ≤ 15) (l0 : 0 ≤ l) (l1 : l ≤ 15) : (wrap64 (wrap64 (h * 16) + l)) % 256 = (((h.toNat * 16 + l.toNat).toUInt8).toNat : Int) := by
  have := pair_fin ⟨h.toNat, by omega⟩ ⟨l.toNat, by omega⟩
  simpa only [Int.toNat_of_nonneg h0, Int.toNat_of_nonneg l0] using this
theorem one_fin : ∀ n : Fin 256, decide ((UInt8.ofNat n.val) ∈ ([44, 43, 34, 92, 60, 62, 59, 61, 35, 32] : List UInt8)) = oneB (UInt8.ofNat n.val) := by decide +kernel
theorem one_ev (c : UInt8) : Ev (fun k => brookref1_in.f k (⟨#[44, 43, 34, 92, 60, 62, 59, 61, 35, 32]⟩ : ByteArray) (c.toNat : Int)) (oneB c) := by
  have h := in_l0 [44, 43, 34, 92, 60, 62, 59, 61, 35, 32] (by simp) c [44, 43, 34, 92, 60, 62, 59, 61, 35, 32] [] rfl
  rw [u8_all (P := fun c => decide (c ∈ ([44, 43, 34, 92, 60, 62, 59, 61, 35, 32] : List UInt8)) = oneB c) one_fin c] at h
  exact h
theorem raw_fin : ∀ n : Fin 256, UInt8.ofNat n.val ≠ 92 → decide ((UInt8.ofNat n.val) ∈ ([44, 43, 34, 60, 62, 59] : List UInt8)) = specialB (UInt8.ofNat n.val) := by decide +kernel
theorem raw_ev (c : UInt8) (hc : c ≠ 92) : Ev (fun k => brookref1_in.f k (⟨#[44, 43, 34, 60, 62, 59]⟩ : ByteArray) (c.toNat : Int)) (specialB c) := by
  have h := in_l0 [44, 43, 34, 60, 62, 59] (by simp) c [44, 43, 34, 60, 62, 59] [] rfl
  rw [u8_all (P := fun c => c ≠ 92 → decide (c ∈ ([44, 43, 34, 60, 62, 59] : List UInt8)) = specialB c) raw_fin c hc] at h
  exact h
theorem digit_one_fin : ∀ n : Fin 256, 0 ≤ digB (UInt8.ofNat n.val) → oneB (UInt8.ofNat n.val) = false ∧ UInt8.ofNat n.val ≠ 92 ∧ UInt8.ofNat n.val ≠ 44 := by decide +kernel
theorem digit_one {c : UInt8} (h : 0 ≤ digB c) : oneB c = false ∧ c ≠ 92 ∧ c ≠ 44 := u8_all (P := fun c => 0 ≤ digB c → oneB c = false ∧ c ≠ 92 ∧ c ≠ 44) digit_one_fin c h
theorem lt_big {n : Nat} (h : n < 200000000) : n < 9223372036854775807 := by omega
theorem wrap_two {n : Nat} (h : n < 200000000) : wrap64 ((n : Int) + 2) = ((n + 2 : Nat) : Int) := by rw [wrap64_small (by omega)]; omega
theorem rvalue_l0 (l : List UInt8) (hl : l.length ≤ 100000000) : ∀ n (q p acc : List UInt8) (sp : Bool), q.length ≤ n → l = p ++ q → acc.length ≤ p.length → (sp = true → q ≠ []) →
    Ev (fun k => brookref1_value.l0 k (B l) (bi acc) (p.length : Int)) (resO (pvS p.isEmpty acc sp q)) := by
  intro n
  induction n with
  | zero =>
    intro q p acc sp hq hp ha hsp
    obtain rfl : q = [] := List.length_eq_zero_iff.1 (by omega)
    obtain rfl : l = p := by simpa using hp
    have : sp = false := by cases sp with
      | false => rfl
      | true => exact absurd rfl (hsp rfl)
    subst this
    refine Ev.step (fun k => by rw [brookref1_value.l0]) ?_
    refine Ev.neg (by rw [B_size]; omega) ?_
    rw [pvS, str_bi]
    exact Ev.now _
  | succ n ih =>
    intro q p acc sp hq hp ha hsp
    cases q with
    | nil =>
      obtain rfl : l = p := by simpa using hp
      have : sp = false := by cases sp with
        | false => rfl
        | true => exact absurd rfl (hsp rfl)
      subst this
      refine Ev.step (fun k => by rw [brookref1_value.l0]) ?_
      refine Ev.neg (by rw [B_size]; omega) ?_
      rw [pvS, str_bi]
      exact Ev.now _
    | cons c q =>
      have hlen : p.length + 1 + q.length = l.length := by rw [hp]; simp; omega
      have hb : bt (B l) (p.length : Int) = (c.toNat : Int) := by rw [hp]; exact bt_pre p c q
      have h92 : ((c.toNat : Int) = 92) ↔ c = 92 := u8_int_inj (n := 92) (by omega)
      have h35 : ((c.toNat : Int) = 35) ↔ c = 35 := u8_int_inj (n := 35) (by omega)
      have h32 : ((c.toNat : Int) = 32) ↔ c = 32 := u8_int_inj (n := 32) (by omega)
      have hbl : (bi acc).length ≤ p.length := by rw [bi_length]; exact ha
      have hsm : p.length < 200000000 := by omega
      refine Ev.step (fun k => by rw [brookref1_value.l0]) ?_
      refine Ev.pos (by rw [B_size]; omega) ?_
      refine Ev.pos (by first | exact Int.natCast_nonneg _ | omega) ?_
      simp only [wrap_succ (lt_big hsm), wrap_two hsm, hb]
      rw [pvS]
      by_cases c92 : c = 92
      · rw [if_pos c92]
        refine Ev.pos (h92.2 c92) ?_
        have jt : Ev (fun k => brookref1_value.j2 k (B l) (bi acc) (p.length : Int) true) (resO none) := by
          refine Ev.step (fun k => by rw [brookref1_value.j2]) ?_
          exact Ev.pos rfl (Ev.now _)
        cases q with
        | nil =>
          have e : escAt [] = none := rfl
          rw [e]
          simp only [List.length_nil] at hlen
          refine Ev.neg (by rw [B_size]; omega) ?_
          refine Ev.step (fun k => by rw [brookref1_value.j1]) ?_
          refine Ev.neg (by simp) ?_
          rw [wrap_succ (lt_big hsm)]
          refine Ev.pos (by rw [B_size]; omega) ?_
          exact jt
        | cons d q =>
          have hd : bt (B l) ((p.length + 1 : Nat) : Int) = (d.toNat : Int) := bt_at' (by rw [hp]; simp)
          simp only [List.length_cons] at hlen hq
          have jf : oneB d = true ∨ escAt (d :: q) = none → Ev (fun k => brookref1_value.j1 k (B l) (bi acc) (p.length : Int) false) (resO (match escAt (d :: q) with
              | none => none
              | some (b, n) => pvS false (acc ++ [b]) false ((d :: q).drop n))) := by
            intro ho
            refine Ev.step (fun k => by rw [brookref1_value.j1]) ?_
            refine Ev.neg (by simp) ?_
            rw [wrap_succ (lt_big hsm)]
            refine Ev.neg (by rw [B_size]; omega) ?_
            refine Ev.pos (by first | exact Int.natCast_nonneg _ | omega) ?_
            refine Ev.pos (by rw [B_size]; omega) ?_
            rw [hd]
            refine Ev.bind (one_ev d) ?_
            by_cases h1 : oneB d = true
            · rw [escAt_one h1, h1]
              refine Ev.step (fun k => by rw [brookref1_value.j2]) ?_
              refine Ev.neg (by simp) ?_
              rw [wrap_succ (lt_big hsm)]
              refine Ev.pos (by first | exact Int.natCast_nonneg _ | omega) ?_
              refine Ev.pos (by rw [B_size]; omega) ?_
              refine Ev.pos (by first | exact Int.natCast_nonneg _ | omega) ?_
              rw [hd, bi_snoc, wrap_succ (by omega)]
              have := ih q (p ++ [c, d]) (acc ++ [d]) false (by omega) (by rw [hp]; simp) (by simp; omega) (by simp)
              rw [show (p ++ [c, d]).isEmpty = false by simp, show (p ++ [c, d]).length = p.length + 1 + 1 by simp] at this
              exact this
            · have he : escAt (d :: q) = none := ho.resolve_left h1
              rw [he, show (!oneB d) = true by simp [h1]]
              exact jt
          cases q with
          | nil =>
            simp only [List.length_nil] at hlen
            refine Ev.neg (by rw [B_size]; omega) ?_
            refine jf ?_
            by_cases h1 : oneB d = true
            · exact .inl h1
            · exact .inr (escAt_lone h1)
          | cons e q =>
            have he : bt (B l) ((p.length + 2 : Nat) : Int) = (e.toNat : Int) := bt_at' (by rw [hp]; simp)
            simp only [List.length_cons] at hlen hq
            refine Ev.pos (by rw [B_size]; omega) ?_
            refine Ev.pos (by first | exact Int.natCast_nonneg _ | omega) ?_
            refine Ev.pos (by rw [B_size]; omega) ?_
            rw [hd]
            refine Ev.bind (hex_ev d) ?_
            by_cases h1 : 0 ≤ digB d
            · refine Ev.pos h1 ?_
              refine Ev.pos (by first | exact Int.natCast_nonneg _ | omega) ?_
              rw [he]
              refine Ev.bind (hex_ev e) ?_
              have hno : ¬ oneB d = true := by simp [(digit_one h1).1]
              by_cases h2 : 0 ≤ digB e
              · rw [escAt_two hno ⟨h1, h2⟩]
                refine Ev.step (fun k => by rw [brookref1_value.j1]) ?_
                refine Ev.pos (by simpa using h2) ?_
                simp only [wrap_succ (lt_big hsm), wrap_two hsm]
                refine Ev.pos (by first | exact Int.natCast_nonneg _ | omega) ?_
                refine Ev.pos (by rw [B_size]; omega) ?_
                rw [hd, he]
                refine Ev.bind (hex_ev d) ?_
                refine Ev.pos (by first | exact Int.natCast_nonneg _ | omega) ?_
                refine Ev.pos (by rw [B_size]; omega) ?_
                refine Ev.bind (hex_ev e) ?_
                refine Ev.pos (by first | exact Int.natCast_nonneg _ | omega) ?_
                rw [pair_val h1 (digB_rng d).2 h2 (digB_rng e).2, bi_snoc, wrap_succ (by omega)]
                have := ih q (p ++ [c, d, e]) (acc ++ [((digB d).toNat * 16 + (digB e).toNat).toUInt8]) false (by omega) (by rw [hp]; simp) (by simp; omega) (by simp)
                rw [show (p ++ [c, d, e]).isEmpty = false by simp, show (p ++ [c, d, e]).length = p.length + 2 + 1 by simp] at this
                exact this
              · have hn := escAt_not (r := q) hno (fun h => h2 h.2)
                rw [show decide (digB e ≥ 0) = false by simpa using h2]
                exact jf (.inr hn)
            · refine Ev.neg h1 ?_
              refine jf ?_
              by_cases h3 : oneB d = true
              · exact .inl h3
              · exact .inr (escAt_not h3 (fun h => h1 h.1))
      · rw [if_neg c92]
        refine Ev.neg (fun e => c92 (h92.1 e)) ?_
        have hgo : badC p.isEmpty c = false → (c = 32 → q ≠ []) → Ev (fun k => brookref1_value.l0 k (B l) (bi acc ++ [(c.toNat : Int)]) ((p.length + 1 : Nat) : Int)) (resO (if badC p.isEmpty c = true then none else pvS false (acc ++ [c]) (c == 32) q)) := fun hbad hq0 => by
          rw [if_neg (by simp [hbad]), bi_snoc]
          have := ih q (p ++ [c]) (acc ++ [c]) (c == 32) (by simp at hq; omega) (by rw [hp]; simp) (by simp; omega) (by simpa using hq0)
          rw [show (p ++ [c]).isEmpty = false by simp, show (p ++ [c]).length = p.length + 1 by simp] at this
          exact this
        have hno : badC p.isEmpty c = true ∨ (c = 32 ∧ q = []) → Ev (fun _ => some ((⟨#[]⟩ : ByteArray), false)) (resO (if badC p.isEmpty c = true then none else pvS false (acc ++ [c]) (c == 32) q)) := fun hbad => by
          by_cases hb1 : badC p.isEmpty c = true
          · rw [if_pos hb1]; exact Ev.now _
          · obtain ⟨rfl, rfl⟩ := hbad.resolve_left hb1
            rw [if_neg hb1, pvS]; exact Ev.now _
        have hlast : wrap64 (((B l).size : Int) - 1) = ((l.length - 1 : Nat) : Int) := by rw [B_size, wrap64_small (by omega)]; omega
        rw [hlast]
        by_cases b1 : c.toNat < 32
        · exact Ev.pos (by first | exact Int.natCast_nonneg _ | omega) (hno (.inl (by unfold badC; simp [b1])))
        · refine Ev.neg (by omega) ?_
          by_cases b2 : 126 < c.toNat
          · exact Ev.pos (by first | exact Int.natCast_nonneg _ | omega) (hno (.inl (by unfold badC; simp [b2])))
          · refine Ev.neg (by omega) ?_
            refine Ev.bind (raw_ev c c92) ?_
            by_cases b3 : specialB c = true
            · exact Ev.pos b3 (hno (.inl (by unfold badC; simp [b3])))
            · refine Ev.neg b3 ?_
              by_cases b4 : p = []
              · subst b4
                refine Ev.pos (by simp) ?_
                by_cases b5 : c = 35
                · exact Ev.pos (h35.2 b5) (hno (.inl (by unfold badC; simp [b5])))
                · refine Ev.neg (fun e => b5 (h35.1 e)) ?_
                  by_cases b6 : c = 32
                  · exact Ev.pos (h32.2 b6) (hno (.inl (by unfold badC; simp [b6])))
                  · refine Ev.neg (fun e => b6 (h32.1 e)) ?_
                    have hg := hgo (by unfold badC; simp [b1, b2, b3, b5, b6]) (fun e => absurd e b6)
                    by_cases b7 : q = []
                    · subst b7
                      simp only [List.length_nil] at hlen
                      refine Ev.pos (by simp only [List.length_nil] at hlen ⊢; omega) ?_
                      exact Ev.pos (by simp only [List.length_nil] at hbl ⊢; omega) hg
                    · have : 0 < q.length := List.length_pos_iff.2 b7
                      refine Ev.neg (by simp only [List.length_nil] at hlen ⊢; omega) ?_
                      exact Ev.pos (by simp only [List.length_nil] at hbl ⊢; omega) hg
              · have : 0 < p.length := List.length_pos_iff.2 b4
                refine Ev.neg (by omega) ?_
                by_cases b7 : q = []
                · subst b7
                  simp only [List.length_nil] at hlen
                  refine Ev.pos (by first | exact Int.natCast_nonneg _ | omega) ?_
                  by_cases b6 : c = 32
                  · exact Ev.pos (h32.2 b6) (hno (.inr ⟨b6, rfl⟩))
                  · refine Ev.neg (fun e => b6 (h32.1 e)) ?_
                    exact Ev.pos (by first | exact Int.natCast_nonneg _ | omega) (hgo (by unfold badC; simp [b1, b2, b3, b4]) (fun e => absurd e b6))
                · have : 0 < q.length := List.length_pos_iff.2 b7
                  refine Ev.neg (by omega) ?_
                  exact Ev.pos (by first | exact Int.natCast_nonneg _ | omega) (hgo (by unfold badC; simp [b1, b2, b3, b4]) (fun _ => b7))
theorem rvalue_ev (l : List UInt8) (hl : l.length ≤ 100000000) : Ev (fun k => brookref1_value.f k (B l)) (resO (pvS true [] false l)) :=
  rvalue_l0 l hl l.length l [] [] false (Nat.le_refl _) rfl (by simp) (by simp)
def firstCut : List UInt8 → List UInt8 × List UInt8
  | [] => ([], [])
  | c :: r => if c = 92 then (c :: (r.take 1 ++ (firstCut (r.drop 1)).1), (firstCut (r.drop 1)).2)
    else if c = 44 then ([], c :: r) else (c :: (firstCut r).1, (firstCut r).2)
termination_by l => l.length
decreasing_by all_goals (simp; try omega)
theorem firstCut_nil : firstCut [] = ([], []) := by rw [firstCut]
theorem firstCut_92 (r : List UInt8) : firstCut (92 :: r) = (92 :: (r.take 1 ++ (firstCut (r.drop 1)).1), (firstCut (r.drop 1)).2) := by rw [firstCut, if_pos rfl]
theorem firstCut_44 (r : List UInt8) : firstCut (44 :: r) = ([], 44 :: r) := by rw [firstCut, if_neg (by decide), if_pos rfl]
theorem firstCut_raw {c : UInt8} (r : List UInt8) (h : c ≠ 92) (h1 : c ≠ 44) : firstCut (c :: r) = (c :: (firstCut r).1, (firstCut r).2) := by rw [firstCut, if_neg h, if_neg h1]
theorem firstCut_eq : ∀ n (q : List UInt8), q.length ≤ n → q = (firstCut q).1 ++ (firstCut q).2 ∧ ((firstCut q).2 = [] ∨ (firstCut q).2.head? = some 44) := by
  intro n
  induction n with
  | zero =>
    intro q h
    obtain rfl : q = [] := List.length_eq_zero_iff.1 (by omega)
    rw [firstCut_nil]; exact ⟨rfl, .inl rfl⟩
  | succ n ih =>
    intro q h
    cases q with
    | nil => rw [firstCut_nil]; exact ⟨rfl, .inl rfl⟩
    | cons c r =>
      simp only [List.length_cons] at h
      by_cases h92 : c = 92
      · subst h92
        obtain ⟨h1, h2⟩ := ih (r.drop 1) (by simp; omega)
        rw [firstCut_92]
        refine ⟨?_, h2⟩
        simp only [List.cons_append, List.append_assoc]
        rw [← h1, List.take_append_drop]
      · by_cases h44 : c = 44
        · subst h44
          rw [firstCut_44]
          exact ⟨rfl, .inr rfl⟩
        · obtain ⟨h1, h2⟩ := ih r (by omega)
          rw [firstCut_raw r h92 h44]
          refine ⟨?_, h2⟩
          simp only [List.cons_append]
          rw [← h1]
theorem piece_val : ∀ n (q : List UInt8), q.length ≤ n → ∀ (first : Bool) (acc : List UInt8) (sp : Bool),
    (∀ v, pvS first acc sp (firstCut q).1 = some v → valS first acc sp q = (v, (firstCut q).2, true)) ∧ (pvS first acc sp (firstCut q).1 = none → (valS first acc sp q).2.2 = false) := by
  intro n
  induction n with
  | zero =>
    intro q h first acc sp
    obtain rfl : q = [] := List.length_eq_zero_iff.1 (by omega)
    rw [firstCut_nil, pvS, valS]
    cases sp <;> simp
  | succ n ih =>
    intro q h first acc sp
    cases q with
    | nil =>
      rw [firstCut_nil, pvS, valS]
      cases sp <;> simp
    | cons c r =>
      simp only [List.length_cons] at h
      by_cases h92 : c = 92
      · subst h92
        rw [firstCut_92, pvS, valS, if_pos rfl, if_neg (by decide), if_pos rfl]
        cases r with
        | nil =>
          have e1 : escAt [] = none := rfl
          simp [firstCut_nil, e1]
        | cons d r =>
          simp only [List.take_succ_cons, List.take_zero, List.drop_succ_cons, List.drop_zero, List.cons_append, List.nil_append, List.length_cons] at h ⊢
          by_cases h1 : oneB d = true
          · rw [escAt_one h1, escAt_one h1]
            exact ih r (by omega) false (acc ++ [d]) false
          · cases r with
            | nil => rw [firstCut_nil, escAt_lone h1]; simp
            | cons e r =>
              by_cases h2 : 0 ≤ digB d ∧ 0 ≤ digB e
              · obtain ⟨_, e92, e44⟩ := digit_one h2.2
                rw [firstCut_raw r e92 e44, escAt_two h1 h2, escAt_two h1 h2]
                simp only [List.length_cons] at h
                exact ih r (by omega) false _ false
              · rw [escAt_not h1 h2]
                have : escAt (d :: (firstCut (e :: r)).1) = none := by
                  by_cases e92 : e = 92
                  · subst e92
                    rw [firstCut_92]
                    exact escAt_not h1 (fun hh => (digit_one hh.2).2.1 rfl)
                  · by_cases e44 : e = 44
                    · subst e44
                      rw [firstCut_44]
                      exact escAt_lone h1
                    · rw [firstCut_raw r e92 e44]
                      exact escAt_not h1 h2
                rw [this]; simp
      · by_cases h44 : c = 44
        · subst h44
          rw [firstCut_44, pvS, valS, if_pos rfl]
          cases sp <;> simp
        · rw [firstCut_raw r h92 h44, pvS, valS, if_neg h44, if_neg h92, if_neg h92]
          by_cases hb : badC first c = true
          · rw [if_pos hb, if_pos hb]; simp
          · rw [if_neg hb, if_neg hb]
            exact ih r (by omega) false _ _
def cutC (cur : List UInt8) : List UInt8 → List (List UInt8)
  | [] => [cur]
  | c :: r => if c = 92 then cutC (cur ++ (c :: r.take 1)) (r.drop 1) else if c = 44 then cur :: cutC [] r else cutC (cur ++ [c]) r
termination_by l => l.length
decreasing_by all_goals (simp; try omega)
theorem cutC_first : ∀ n (q cur : List UInt8), q.length ≤ n → cutC cur q = (cur ++ (firstCut q).1) :: (if (firstCut q).2 = [] then [] else cutC [] ((firstCut q).2.drop 1)) := by
  intro n
  induction n with
  | zero =>
    intro q cur h
    obtain rfl : q = [] := List.length_eq_zero_iff.1 (by omega)
    rw [cutC, firstCut_nil]; simp
  | succ n ih =>
    intro q cur h
    cases q with
    | nil => rw [cutC, firstCut_nil]; simp
    | cons c r =>
      simp only [List.length_cons] at h
      rw [cutC]
      by_cases h92 : c = 92
      · subst h92
        rw [if_pos rfl, firstCut_92, ih (r.drop 1) _ (by simp; omega)]
        simp
      · by_cases h44 : c = 44
        · subst h44
          rw [if_neg h92, if_pos rfl, firstCut_44]; simp
        · rw [if_neg h92, if_neg h44, firstCut_raw r h92 h44, ih r _ (by omega)]
          simp
theorem cut_l0 (l : List UInt8) (hl : l.length ≤ 1000000) : ∀ n (i a : Nat) (acc : List ByteArray), l.length + 1 - i ≤ n → i ≤ l.length + 1 → a ≤ i → a ≤ l.length → acc.length ≤ a →
    Ev (fun k => brookref1_cut.l0 k (B l) acc (a : Int) (i : Int)) (acc ++ (cutC ((l.take i).drop a) (l.drop i)).map B) := by
  intro n
  induction n with
  | zero =>
    intro i a acc hn hi ha hal hacc
    refine Ev.step (fun k => by rw [brookref1_cut.l0]) ?_
    refine Ev.neg (by rw [B_size]; omega) ?_
    refine Ev.pos (by omega) ?_
    refine Ev.pos (by rw [B_size]; omega) ?_
    refine Ev.pos (by omega) ?_
    rw [List.drop_eq_nil_of_le (by omega : l.length ≤ i), cutC, List.take_of_length_le (by omega : l.length ≤ i), B_extract, B_size, List.take_of_length_le (by simp)]
    exact Ev.now _
  | succ n ih =>
    intro i a acc hn hi ha hal hacc
    refine Ev.step (fun k => by rw [brookref1_cut.l0]) ?_
    by_cases h : i < l.length
    · obtain ⟨c, hc⟩ : ∃ c, l[i]? = some c := ⟨l[i], List.getElem?_eq_getElem h⟩
      have hd : l.drop i = c :: l.drop (i + 1) := by rw [List.drop_eq_getElem_cons h]; congr 1; exact Option.some.inj ((List.getElem?_eq_getElem h).symm.trans hc)
      have h44 : ((c.toNat : Int) = 44) ↔ c = 44 := u8_int_inj (n := 44) (by omega)
      have h92 : ((c.toNat : Int) = 92) ↔ c = 92 := u8_int_inj (n := 92) (by omega)
      have htk : (l.take (i + 1)).drop a = (l.take i).drop a ++ [c] := by
        rw [List.take_add_one, hc, List.drop_append_of_le_length (by simp; omega)]; rfl
      refine Ev.pos (by rw [B_size]; omega) ?_
      refine Ev.pos (by omega) ?_
      rw [bt_at' hc, wrap_succ (by omega), wrap_succ (by omega), hd, cutC]
      by_cases c92 : c = 92
      · rw [if_pos c92]
        refine Ev.pos (h92.2 c92) ?_
        have := ih (i + 1 + 1) a acc (by omega) (by omega) (by omega) hal hacc
        have e : (l.take (i + 1 + 1)).drop a = (l.take i).drop a ++ (c :: (l.drop (i + 1)).take 1) := by
          rw [List.take_add_one, List.drop_append_of_le_length (by simp; omega), htk, List.append_assoc]
          congr 1
          cases hx : l[i + 1]? with
          | none =>
            rw [List.drop_eq_nil_of_le (by have := List.getElem?_eq_none_iff.1 hx; omega)]; rfl
          | some d =>
            have hlt := (List.getElem?_eq_some_iff.1 hx).1
            rw [List.drop_eq_getElem_cons hlt]
            have hd2 : l[i + 1] = d := (List.getElem?_eq_some_iff.1 hx).2
            rw [hd2]
            simp
        rw [e] at this
        rw [List.drop_drop]
        exact this
      · rw [if_neg c92]
        refine Ev.neg (fun e => c92 (h92.1 e)) ?_
        by_cases c44 : c = 44
        · rw [if_pos c44]
          refine Ev.pos (h44.2 c44) ?_
          refine Ev.pos (by omega) ?_
          refine Ev.pos (by omega) ?_
          refine Ev.pos (by rw [B_size]; omega) ?_
          refine Ev.pos (by omega) ?_
          have e : (B l).extract (a : Int).toNat (i : Int).toNat = B ((l.take i).drop a) := by
            rw [B_extract, List.drop_take]; rfl
          rw [e]
          have := ih (i + 1) (i + 1) (acc ++ [B ((l.take i).drop a)]) (by omega) (by omega) (by omega) (by omega) (by simp; omega)
          rw [List.drop_eq_nil_of_le (by rw [List.length_take]; omega : (l.take (i + 1)).length ≤ i + 1)] at this
          simpa using this
        · rw [if_neg c44]
          refine Ev.neg (fun e => c44 (h44.1 e)) ?_
          have := ih (i + 1) a acc (by omega) (by omega) (by omega) hal hacc
          rw [htk] at this
          exact this
    · refine Ev.neg (by rw [B_size]; omega) ?_
      refine Ev.pos (by omega) ?_
      refine Ev.pos (by rw [B_size]; omega) ?_
      refine Ev.pos (by omega) ?_
      rw [List.drop_eq_nil_of_le (by omega : l.length ≤ i), cutC, List.take_of_length_le (by omega : l.length ≤ i), B_extract, B_size, List.take_of_length_le (by simp)]
      exact Ev.now _
theorem rcut_ev (l : List UInt8) (hl : l.length ≤ 1000000) : Ev (fun k => brookref1_cut.f k (B l)) ((cutC [] l).map B) := by
  exact cut_l0 l hl (l.length + 1) 0 0 [] (by omega) (by omega) (by omega) (by omega) (by simp)
theorem cutC_small : ∀ n (q cur : List UInt8), q.length ≤ n → (cutC cur q).length ≤ q.length + 1 ∧ ∀ p ∈ cutC cur q, p.length ≤ cur.length + q.length := by
  intro n
  induction n with
  | zero =>
    intro q cur h
    obtain rfl : q = [] := List.length_eq_zero_iff.1 (by omega)
    rw [cutC]; simp
  | succ n ih =>
    intro q cur h
    cases q with
    | nil => rw [cutC]; simp
    | cons c r =>
      simp only [List.length_cons] at h ⊢
      rw [cutC]
      split
      · obtain ⟨h1, h2⟩ := ih (r.drop 1) (cur ++ (c :: r.take 1)) (by simp; omega)
        simp only [List.length_drop, List.length_append, List.length_cons, List.length_take] at h1 h2
        exact ⟨by omega, fun p hp => by have := h2 p hp; omega⟩
      · split
        · obtain ⟨h1, h2⟩ := ih r [] (by omega)
          refine ⟨by simp; omega, fun p hp => ?_⟩
          rcases List.mem_cons.1 hp with rfl | hp
          · omega
          · have := h2 p hp; simp at this; omega
        · obtain ⟨h1, h2⟩ := ih r (cur ++ [c]) (by omega)
          exact ⟨by omega, fun p hp => by have := h2 p hp; simp at this; omega⟩
def partOf (p : List UInt8) : Option S25 := match cutS p with
  | none => none
  | some (a, b) => (pvS true [] false b).map fun v => ⟨B a, B v⟩
def partsOf : List (List UInt8) → Option (List S25)
  | [] => some []
  | p :: ps => match partOf p with
    | none => none
    | some r => (partsOf ps).map fun rs => r :: rs
def endS (acc : List S25) : Option (List S25) → List S25 × Bool
  | none => ([], false)
  | some l => if mayB (acc ++ l) = true then (acc ++ l, true) else ([], false)
theorem j2_at (ps : List (List UInt8)) (acc : List S25) (i n : Nat) (p : List UInt8) (hp : (rdOf ByteArray.empty (ps.map B) (i : Int)) = B p) (hi : i < ps.length) (hps : ps.length ≤ 1000001) (hpl : p.length ≤ 1000001) (hacc : acc.length ≤ 1000001) (x : List S25 × Bool)
    (hc : cutS p = none → n = p.length ∧ x = ([], false)) (hs : ∀ a b, cutS p = some (a, b) → n = a.length ∧
      ((pvS true [] false b = none → x = ([], false)) ∧ ∀ v, pvS true [] false b = some v → Ev (fun k => brookref1_ParseDn.l0 k (acc ++ [⟨B a, B v⟩]) (ps.map B) ((i + 1 : Nat) : Int)) x)) :
    Ev (fun k => brookref1_ParseDn.j2 k acc (ps.map B) (i : Int) (n : Int)) x := by
  refine Ev.step (fun k => by rw [brookref1_ParseDn.j2]) ?_
  rw [hp]
  refine Ev.pos (by omega) ?_
  refine Ev.pos (by rw [List.length_map]; omega) ?_
  rcases cutS_index p with ⟨h1, _⟩ | ⟨a, b, h1, _, h3⟩
  · obtain ⟨rfl, rfl⟩ := hc h1
    exact Ev.pos (by rw [B_size]) (Ev.now _)
  · obtain ⟨rfl, h4, h5⟩ := hs a b h1
    have hlen : a.length + 1 + b.length = p.length := by rw [h3]; simp; omega
    refine Ev.neg (by rw [B_size]; omega) ?_
    rw [wrap_succ (by omega), wrap_succ (by omega)]
    refine Ev.pos (by omega) ?_
    refine Ev.pos (by rw [B_size]; omega) ?_
    have e1 : (B p).extract (((a.length + 1 : Nat) : Int)).toNat (B p).size = B b := by
      rw [B_extract, B_size, List.take_of_length_le (by simp), h3]
      simp
    have e2 : (B p).extract 0 (a.length : Int).toNat = B a := by rw [B_extract, h3]; simp
    rw [e1, e2]
    refine Ev.bind (rvalue_ev b (by omega)) ?_
    cases hv : pvS true [] false b with
    | none =>
      rw [h4 hv]
      exact Ev.neg (by simp [resO]) (Ev.now _)
    | some v =>
      refine Ev.pos rfl ?_
      refine Ev.pos (by omega) ?_
      refine Ev.pos (by rw [B_size]; omega) ?_
      refine Ev.pos (by omega) ?_
      exact h5 v hv
theorem l1_at (ps : List (List UInt8)) (acc : List S25) (i : Nat) (p : List UInt8) (hp : (rdOf ByteArray.empty (ps.map B) (i : Int)) = B p) (hi : i < ps.length) (hpl : p.length ≤ 1000001) (x : List S25 × Bool)
    (h : ∀ n : Nat, (cutS p = none → n = p.length) → (∀ a b, cutS p = some (a, b) → n = a.length) → Ev (fun k => brookref1_ParseDn.j2 k acc (ps.map B) (i : Int) (n : Int)) x) :
    ∀ q u : List UInt8, p = u ++ q → 61 ∉ u → Ev (fun k => brookref1_ParseDn.l1 k acc (ps.map B) (i : Int) (u.length : Int)) x := by
  intro q
  induction q with
  | nil =>
    intro u hu h61
    obtain rfl : p = u := by simpa using hu
    refine Ev.step (fun k => by rw [brookref1_ParseDn.l1]) ?_
    rw [hp]
    refine Ev.pos (by omega) ?_
    refine Ev.pos (by rw [List.length_map]; omega) ?_
    refine Ev.neg (by rw [B_size]; omega) ?_
    refine h p.length (fun _ => rfl) (fun a b hab => ?_)
    rcases cutS_index p with ⟨h1, _⟩ | ⟨a', b', h1, _, h3⟩
    · rw [h1] at hab; cases hab
    · exact absurd (by rw [h3]; simp) h61
  | cons c q ih =>
    intro u hu h61
    have hlen : u.length + 1 + q.length = p.length := by rw [hu]; simp; omega
    have hb : bt (B p) (u.length : Int) = (c.toNat : Int) := by rw [hu]; exact bt_pre u c q
    have h61' : ((c.toNat : Int) = 61) ↔ c = 61 := u8_int_inj (n := 61) (by omega)
    refine Ev.step (fun k => by rw [brookref1_ParseDn.l1]) ?_
    rw [hp]
    refine Ev.pos (by omega) ?_
    refine Ev.pos (by rw [List.length_map]; omega) ?_
    refine Ev.pos (by rw [B_size]; omega) ?_
    refine Ev.pos (by omega) ?_
    rw [hb, wrap_succ (by omega)]
    by_cases hc : c = 61
    · refine Ev.pos (h61'.2 hc) ?_
      subst hc
      have hcut := cutS_at u q h61
      rw [← hu] at hcut
      refine h u.length (fun hn => ?_) (fun a b hab => ?_)
      · rw [hcut] at hn; cases hn
      · rw [hcut] at hab; cases hab; rfl
    · refine Ev.neg (fun e => hc (h61'.1 e)) ?_
      have := ih (u ++ [c]) (by rw [hu]; simp) (by simp [h61]; exact fun e => hc e.symm)
      rw [show (u ++ [c]).length = u.length + 1 by simp] at this
      exact this
theorem pdn_l0 (ps : List (List UInt8)) (hps : ps.length ≤ 1000001) (hpl : ∀ p ∈ ps, p.length ≤ 1000001) : ∀ qs us : List (List UInt8), ps = us ++ qs → ∀ acc : List S25, acc.length = us.length →
    Ev (fun k => brookref1_ParseDn.l0 k acc (ps.map B) (us.length : Int)) (endS acc (partsOf qs)) := by
  intro qs
  induction qs with
  | nil =>
    intro us hu acc ha
    obtain rfl : ps = us := by simpa using hu
    refine Ev.step (fun k => by rw [brookref1_ParseDn.l0]) ?_
    refine Ev.neg (by rw [List.length_map]; omega) ?_
    refine Ev.bind (mayDn_ev acc (by omega)) ?_
    simp only [partsOf, endS, List.append_nil]
    by_cases hm : mayB acc = true
    · simp only [if_pos hm]; exact Ev.now _
    · simp only [if_neg hm]; exact Ev.now _
  | cons p qs ih =>
    intro us hu acc ha
    have hlen : us.length + 1 + qs.length = ps.length := by rw [hu]; simp; omega
    have hp : rdOf ByteArray.empty (ps.map B) (us.length : Int) = B p := by rw [hu]; simp [rdOf]
    have hpp := hpl p (by rw [hu]; simp)
    refine Ev.step (fun k => by rw [brookref1_ParseDn.l0]) ?_
    refine Ev.pos (by rw [List.length_map]; omega) ?_
    refine l1_at ps acc us.length p hp (by omega) hpp _ ?_ p [] rfl (by simp)
    intro n hn1 hn2
    refine j2_at ps acc us.length n p hp (by omega) hps hpp (by omega) _ ?_ ?_
    · intro hc
      refine ⟨hn1 hc, ?_⟩
      simp only [partsOf, partOf, hc, endS]
    · intro a b hc
      refine ⟨hn2 a b hc, fun hv => ?_, fun v hv => ?_⟩
      · simp only [partsOf, partOf, hc, hv, Option.map_none, endS]
      · have := ih (us ++ [p]) (by rw [hu]; simp) (acc ++ [⟨B a, B v⟩]) (by simp [ha])
        rw [show (us ++ [p]).length = us.length + 1 by simp] at this
        have e : endS acc (partsOf (p :: qs)) = endS (acc ++ [⟨B a, B v⟩]) (partsOf qs) := by
          simp only [partsOf, partOf, hc, hv, Option.map_some]
          cases partsOf qs with
          | none => rfl
          | some rs => simp [endS]
        rw [e]
        exact this
theorem mayB_mid {acc l : List S25} {r : S25} (h : partB r = false) : mayB (acc ++ r :: l) = false := by
  cases e : mayB (acc ++ r :: l) with
  | false => rfl
  | true => have := (mayB_iff.1 e).1 r (by simp); rw [h] at this; cases this
theorem cutS_piece {s a b : List UInt8} (h : cutS s = some (a, b)) : cutS (firstCut s).1 = none ∨ ∃ b', cutS (firstCut s).1 = some (a, b') := by
  obtain ⟨h1, _⟩ := firstCut_eq s.length s (Nat.le_refl _)
  rcases cutS_index (firstCut s).1 with ⟨h2, _⟩ | ⟨a', b', h2, _, h3⟩
  · exact .inl h2
  · right
    rcases cutS_index s with ⟨g1, _⟩ | ⟨a'', b'', g1, g2, g3⟩
    · rw [g1] at h; cases h
    · rw [g1] at h
      simp only [Option.some.injEq, Prod.mk.injEq] at h
      refine ⟨b', ?_⟩
      have : ∀ (x y : List UInt8) (c : List UInt8), cutS (x ++ 61 :: y) = none → False := fun x y c hh => by
        rcases cutS_index (x ++ 61 :: y) with ⟨_, k2⟩ | ⟨_, _, k1, _, _⟩
        · have hx : ∀ x : List UInt8, Lib.indexByte (x ++ 61 :: y) 61 ≠ -1 := by
            intro x
            induction x with
            | nil => simp [Lib.indexByte]
            | cons d x ihx =>
              have i1 : (Lib.indexByte (x ++ 61 :: y) 61 == -1) = false := by simpa using ihx
              have hrange : ∀ l : List UInt8, -1 ≤ Lib.indexByte l 61 := by
                intro l
                induction l with
                | nil => simp [Lib.indexByte]
                | cons f l ihl =>
                  rw [Lib.indexByte]
                  split
                  · omega
                  · split
                    · omega
                    · next hh => have : Lib.indexByte l 61 ≠ -1 := by simpa using hh
                                 omega
              have := hrange (x ++ 61 :: y)
              rw [List.cons_append, Lib.indexByte]
              split
              · omega
              · rw [i1]
                simp only [Bool.false_eq_true, if_false]
                omega
          exact hx x k2
        · rw [k1] at hh; cases hh
      have h61 : ∀ {s a b : List UInt8}, cutS s = some (a, b) → 61 ∉ a := by
        intro s
        induction s with
        | nil => intro a b hh; simp [cutS] at hh
        | cons d s ihs =>
          intro a b hh
          by_cases hd : d = 61
          · simp [cutS, hd] at hh
            rw [hh.1]; simp
          · simp only [cutS, if_neg hd, Option.map_eq_some_iff] at hh
            obtain ⟨⟨a1, b1⟩, e1, e2⟩ := hh
            simp only [Prod.mk.injEq] at e2
            rw [← e2.1]
            simp only [List.mem_cons, not_or]
            exact ⟨fun e => hd e.symm, ihs e1⟩
      have e1 : s = a' ++ 61 :: (b' ++ (firstCut s).2) := by
        conv => lhs; rw [h1, h3]
        simp
      have e2 := cutS_at a' (b' ++ (firstCut s).2) (h61 h2)
      rw [← e1, g1] at e2
      have : a'' = a' := by have := congrArg (fun o : Option (List UInt8 × List UInt8) => o.map Prod.fst) e2; simpa using this
      rw [h2, ← h.1, this]
theorem firstCut_typed : ∀ (a b : List UInt8), (∀ c ∈ a, typeC c = true) → firstCut (a ++ 61 :: b) = (a ++ 61 :: (firstCut b).1, (firstCut b).2) := by
  intro a
  induction a with
  | nil => intro b _; rw [List.nil_append, firstCut_raw b (by decide) (by decide)]; rfl
  | cons c a ih =>
    intro b h
    have hc := typeC_rng (h c (by simp))
    rw [List.cons_append, firstCut_raw _ hc.2.2.2.2.1 hc.2.2.2.1, ih b (fun d hd => h d (by simp [hd]))]
    rfl
theorem parts_first (s : List UInt8) : partsOf (cutC [] s) = match partOf (firstCut s).1 with
    | none => none
    | some r => (if (firstCut s).2 = [] then some [] else partsOf (cutC [] ((firstCut s).2.drop 1))).map fun rs => r :: rs := by
  rw [cutC_first s.length s [] (Nat.le_refl _), partsOf, List.nil_append]
  cases partOf (firstCut s).1 with
  | none => rfl
  | some r =>
    by_cases h : (firstCut s).2 = []
    · simp only [if_pos h]; rfl
    · simp only [if_neg h]
theorem parse_same : ∀ (n : Nat) (s : List UInt8) (acc : List S25), acc.length + n = 8 → parseS n s acc true = endS acc (partsOf (cutC [] s)) := by
  intro n
  induction n with
  | zero =>
    intro s acc hn
    rw [parseS_zero, parts_first]
    cases partOf (firstCut s).1 with
    | none => rfl
    | some r =>
      simp only
      cases (if (firstCut s).2 = [] then some [] else partsOf (cutC [] ((firstCut s).2.drop 1))) with
      | none => rfl
      | some rs =>
        simp only [Option.map_some, endS]
        have : mayB (acc ++ r :: rs) = false := by
          cases e : mayB (acc ++ r :: rs) with
          | false => rfl
          | true => have := (mayB_iff.1 e).2; simp at this; omega
        rw [this]; rfl
  | succ n ih =>
    intro s acc hn
    rw [parts_first]
    cases hc : cutS s with
    | none =>
      rw [parseS_none _ _ _ hc]
      have : partOf (firstCut s).1 = none := by
        unfold partOf
        obtain ⟨h1, _⟩ := firstCut_eq s.length s (Nat.le_refl _)
        rcases cutS_index (firstCut s).1 with ⟨h2, _⟩ | ⟨a', b', h2, _, h3⟩
        · rw [h2]
        · exfalso
          have hn61 : ∀ s : List UInt8, cutS s = none → 61 ∉ s := by
            intro s
            induction s with
            | nil => intro _; simp
            | cons d s ihs =>
              intro hh
              by_cases hd : d = 61
              · simp [cutS, hd] at hh
              · simp only [cutS, if_neg hd, Option.map_eq_none_iff] at hh
                simp only [List.mem_cons, not_or]
                exact ⟨fun e => hd e.symm, ihs hh⟩
          refine hn61 s hc ?_
          rw [h1, h3]; simp
      rw [this]; rfl
    | some x =>
      obtain ⟨a, b⟩ := x
      rw [parseS_some _ _ _ _ _ hc]
      by_cases ht : typedB a = true
      · rw [if_neg (by simp [ht])]
        have hs : s = a ++ 61 :: b := by
          rcases cutS_index s with ⟨h1, _⟩ | ⟨a', b', h1, _, h3⟩
          · rw [h1] at hc; cases hc
          · rw [h1] at hc; cases hc; exact h3
        have hf := firstCut_typed a b (typed_all ht)
        rw [← hs] at hf
        obtain ⟨hv1, hv2⟩ := piece_val b.length b (Nat.le_refl _) true [] false
        have hpart : partOf (firstCut s).1 = (pvS true [] false (firstCut b).1).map fun v => ⟨B a, B v⟩ := by
          unfold partOf
          rw [hf, cutS_at _ _ (typed_61 ht)]
        rw [hpart, hf]
        cases hv : pvS true [] false (firstCut b).1 with
        | none => rw [if_pos (hv2 hv)]; rfl
        | some v =>
          rw [hv1 v hv]
          simp only [Option.map_some]
          rw [if_neg (by simp)]
          by_cases hr : (firstCut b).2 = []
          · rw [hr, if_pos rfl]
            simp only [Option.map_some, endS]
            rw [show (([] : List UInt8) != []) = false from rfl, parseS_done]
          · rw [if_neg hr, show ((firstCut b).2 != []) = true by simpa using hr, ih _ _ (by simp; omega)]
            cases partsOf (cutC [] ((firstCut b).2.drop 1)) with
            | none => rfl
            | some rs => simp [endS]
      · have htf : typedB a = false := by simpa using ht
        rw [if_pos htf]
        rcases cutS_piece hc with h2 | ⟨b', h2⟩
        · have : partOf (firstCut s).1 = none := by unfold partOf; rw [h2]
          rw [this]; rfl
        · have : partOf (firstCut s).1 = (pvS true [] false b').map fun v => ⟨B a, B v⟩ := by unfold partOf; rw [h2]
          rw [this]
          cases pvS true [] false b' with
          | none => rfl
          | some v =>
            simp only [Option.map_some]
            cases (if (firstCut s).2 = [] then some [] else partsOf (cutC [] ((firstCut s).2.drop 1))) with
            | none => rfl
            | some rs =>
              simp only [Option.map_some, endS]
              rw [mayB_mid (by unfold partB; rw [B_data, htf]; rfl)]
              rfl
theorem parseDn_ev (s : List UInt8) (hs : s.length ≤ 1000000) : Ev (fun k => brookref1_ParseDn.f k (B s)) (parseL s) := by
  unfold brookref1_ParseDn.f parseL
  simp only [B_toList]
  cases s with
  | nil =>
    rw [show (([] : List UInt8) != []) = false from rfl, parseS_done]
    exact Ev.pos rfl (Ev.now _)
  | cons c s =>
    refine Ev.neg (by simp) ?_
    rw [show ((c :: s) != []) = true by simp, parse_same 8 (c :: s) [] rfl]
    refine Ev.bind (rcut_ev (c :: s) hs) ?_
    obtain ⟨h1, h2⟩ := cutC_small (c :: s).length (c :: s) [] (Nat.le_refl _)
    exact pdn_l0 (cutC [] (c :: s)) (by omega) (fun p hp => by have := h2 p hp; simp only [List.length_nil] at this; omega) (cutC [] (c :: s)) [] rfl [] rfl
def rF (out : List UInt8) (pend : Bool) : List UInt8 → List UInt8
  | [] => out
  | c :: r => if c = 32 then rF out (out != []) r else rF (out ++ (if pend = true then [32] else []) ++ [c]) false r
def strip (x : List UInt8) : List UInt8 := if x.getLast? = some 32 then x.dropLast else x
theorem strip_snoc (x : List UInt8) : strip (x ++ [32]) = x := by unfold strip; simp
theorem strip_not {x : List UInt8} (h : x.getLast? ≠ some 32) : strip x = x := by unfold strip; rw [if_neg h]
theorem sq_ne {l : List UInt8} (h : l ≠ []) : sq l ≠ [] := by
  intro e
  have := sq_head l
  rw [e] at this
  cases l with
  | nil => exact h rfl
  | cons a l => simp at this
theorem all_of_drop {p : List UInt8} (h : p.dropWhile (· == 32) = []) : ∀ c ∈ p, c = 32 := by
  induction p with
  | nil => simp
  | cons a p ih =>
    rw [List.dropWhile_cons] at h
    split at h
    · next ha =>
      intro c hc
      rcases List.mem_cons.1 hc with rfl | hc
      · simpa using ha
      · exact ih h c hc
    · cases h
theorem drop_snoc (p m : List UInt8) (h : p.dropWhile (· == 32) ≠ []) : (p ++ m).dropWhile (· == 32) = p.dropWhile (· == 32) ++ m := by
  refine drop_snoc_some ?_
  refine Classical.byContradiction fun hn => h ?_
  have h' : ∀ c ∈ p, c = 32 := fun c hc => Classical.not_not.1 fun he => hn ⟨c, hc, he⟩
  have := drop_snoc_all (m := []) h'
  simpa using this
theorem rF_sq : ∀ (q p out : List UInt8) (pend : Bool), out ++ (if pend = true then [32] else []) = sq (p.dropWhile (· == 32)) → out.getLast? ≠ some 32 → rF out pend q = strip (sq ((p ++ q).dropWhile (· == 32))) := by
  intro q
  induction q with
  | nil =>
    intro p out pend h hl
    rw [List.append_nil, ← h, rF]
    cases pend with
    | true => rw [if_pos rfl, strip_snoc]
    | false => rw [if_neg (by simp), List.append_nil, strip_not hl]
  | cons c q ih =>
    intro p out pend h hl
    rw [rF]
    by_cases hc : c = 32
    · subst hc
      rw [if_pos rfl]
      have hp : p ++ 32 :: q = (p ++ [32]) ++ q := by simp
      rw [hp]
      by_cases ho : out = []
      · subst ho
        have hpf : pend = false := by
          cases pend with
          | false => rfl
          | true =>
            have h1 := sq_head (p.dropWhile (· == 32))
            rw [← h] at h1
            have h3 : (p.dropWhile (· == 32)).head? = some 32 := by rw [← h1]; rfl
            have h2 := dropWhile_head h3
            simp at h2
        subst hpf
        have hd : p.dropWhile (· == 32) = [] := Classical.byContradiction fun hn => sq_ne hn (by rw [← h]; simp)
        refine ih (p ++ [32]) [] _ ?_ hl
        rw [drop_snoc_all (all_of_drop hd)]
        simp [sq]
      · have hd : p.dropWhile (· == 32) ≠ [] := by
          intro e
          rw [e] at h
          simp [sq] at h
          exact ho h.1
        refine ih (p ++ [32]) out _ ?_ hl
        rw [drop_snoc _ _ hd, sq_cons_last, ← h, show (out != []) = true by simpa using ho, if_pos rfl]
        unfold sqStep
        cases pend with
        | true => simp
        | false => simp [hl]
    · rw [if_neg hc]
      have hp : p ++ c :: q = (p ++ [c]) ++ q := by simp
      rw [hp]
      refine ih (p ++ [c]) _ false ?_ (by simpa using hc)
      have hd : (p ++ [c]).dropWhile (· == 32) = p.dropWhile (· == 32) ++ [c] := by
        by_cases hd : p.dropWhile (· == 32) = []
        · rw [drop_snoc_all (all_of_drop hd), hd, List.dropWhile_cons_of_neg (by simpa using hc)]; rfl
        · exact drop_snoc _ _ hd
      have he : sqStep (sq (p.dropWhile (· == 32))) c = sq (p.dropWhile (· == 32)) ++ [c] := by
        unfold sqStep
        rw [if_neg (fun hh => hc hh.1)]
      rw [hd, sq_cons_last, he, ← h]
      simp
theorem strip_trim (s : List UInt8) : strip (sq (s.dropWhile (· == 32))) = sq (Lib.trimB s 32) := by
  induction s using snocRec with
  | nil => rfl
  | snoc s c ih =>
    have hrev : (s ++ [c]).reverse = c :: s.reverse := by simp
    by_cases hc : c = 32
    · subst hc
      have e1 : Lib.trimB (s ++ [32]) 32 = Lib.trimB s 32 := by
        unfold Lib.trimB Lib.trimRightB
        rw [hrev, List.dropWhile_cons_of_pos (by simp)]
      rw [e1, ← ih]
      by_cases hd : s.dropWhile (· == 32) = []
      · rw [drop_snoc_all (all_of_drop hd), hd]; rfl
      · rw [drop_snoc _ _ hd, sq_cons_last]
        unfold sqStep
        by_cases hl : (sq (s.dropWhile (· == 32))).getLast? = some 32
        · rw [if_pos ⟨rfl, hl⟩]
        · rw [if_neg (fun hh => hl hh.2), strip_snoc, strip_not hl]
    · have e1 : Lib.trimB (s ++ [c]) 32 = (s ++ [c]).dropWhile (· == 32) := by
        unfold Lib.trimB Lib.trimRightB Lib.trimLeftB
        rw [hrev, List.dropWhile_cons_of_neg (by simpa using hc), ← hrev, List.reverse_reverse]
      rw [e1]
      refine strip_not ?_
      rw [sq_last]
      refine dropWhile_last ?_
      simpa using hc
theorem rF_fold (l : List UInt8) : rF [] false (lowL l) = foldL l := by
  rw [rF_sq (lowL l) [] [] false rfl (by simp), List.nil_append, strip_trim, trimB_low]
  rfl
theorem rfold_l0 (s : List UInt8) (hs : s.length ≤ 100000000) : ∀ (q p out : List UInt8) (pend : Bool), s = p ++ q → out.length + (if pend = true then 1 else 0) ≤ p.length →
    Ev (fun k => brookref1_Fold.l0 k (B s) (B out) pend (p.length : Int)) (B (rF out pend q)) := by
  intro q
  induction q with
  | nil =>
    intro p out pend hp _
    obtain rfl : s = p := by simpa using hp
    refine Ev.step (fun k => by rw [brookref1_Fold.l0]) ?_
    refine Ev.neg (by rw [B_size]; omega) ?_
    exact Ev.now _
  | cons c q ih =>
    intro p out pend hp ho
    have hlen : p.length + 1 + q.length = s.length := by rw [hp]; simp; omega
    have hb : bt (B s) (p.length : Int) = (c.toNat : Int) := by rw [hp]; exact bt_pre p c q
    have h32 : ((c.toNat : Int) = 32) ↔ c = 32 := u8_int_inj (n := 32) (by omega)
    have hx : (B s).extract (p.length : Int).toNat (((p.length + 1 : Nat) : Int)).toNat = B [c] := by rw [hp]; exact cut_pre p c q
    have hsm : p.length < 200000000 := by omega
    have hn : (p ++ [c]).length = p.length + 1 := by simp
    refine Ev.step (fun k => by rw [brookref1_Fold.l0]) ?_
    refine Ev.pos (by rw [B_size]; omega) ?_
    refine Ev.pos (by omega) ?_
    simp only [wrap_succ (lt_big hsm), hb, hx, B_toList]
    rw [rF]
    by_cases hc : c = 32
    · rw [if_pos hc]
      refine Ev.pos (h32.2 hc) ?_
      have := ih (p ++ [c]) out (out != []) (by rw [hp]; simp) (by rw [hn]; split <;> split at ho <;> omega)
      rw [hn] at this
      exact this
    · rw [if_neg hc]
      refine Ev.neg (fun e => hc (h32.1 e)) ?_
      cases pend with
      | true =>
        rw [if_pos rfl] at ho ⊢
        refine Ev.pos rfl ?_
        rw [show (⟨#[32]⟩ : ByteArray) = B [32] from rfl]
        simp only [B_append]
        refine Ev.pos (by rw [B_size]; omega) ?_
        refine Ev.pos (by omega) ?_
        refine Ev.pos (by rw [B_size]; omega) ?_
        refine Ev.pos (by rw [B_size, B_size]; simp; omega) ?_
        have := ih (p ++ [c]) (out ++ [32] ++ [c]) false (by rw [hp]; simp) (by rw [hn]; simp; omega)
        rw [hn] at this
        exact this
      | false =>
        rw [if_neg (by simp)] at ho ⊢
        refine Ev.neg (by simp) ?_
        simp only [B_append]
        refine Ev.pos (by omega) ?_
        refine Ev.pos (by rw [B_size]; omega) ?_
        refine Ev.pos (by rw [B_size, B_size]; simp; omega) ?_
        have := ih (p ++ [c]) (out ++ [] ++ [c]) false (by rw [hp]; simp) (by rw [hn]; simp; omega)
        rw [hn, List.append_nil] at this
        rw [List.append_nil]
        exact this
theorem rfold_ev (l : List UInt8) (hl : l.length ≤ 100000000) : Ev (fun k => brookref1_Fold.f k (B l)) (B (foldL l)) := by
  unfold brookref1_Fold.f
  refine Ev.fix (lower_B (by omega)) ?_
  have := rfold_l0 (lowL l) (by rw [lowL_length]; exact hl) (lowL l) [] [] false rfl (by simp)
  rw [rF_fold] at this
  exact this
theorem rkey_l0 (l : List S25) (hm : Modest l) (ok : Bool) : ∀ q p : List S25, l = p ++ q →
    Ev (fun k => brookref1_Key.l0 k (keyL p) (p.length : Int) l ok) (if q.all foldOk = true then (B (text (keyL l)), true) else (B [], false)) := by
  intro q
  induction q with
  | nil =>
    intro p hp
    obtain rfl : l = p := by simpa using hp
    refine Ev.step (fun k => by rw [brookref1_Key.l0]) ?_
    refine Ev.neg (by omega) ?_
    have := textDn_ev (keyL l) (keyL_modest hm)
    rw [text_up] at this
    refine Ev.bind this ?_
    exact Ev.now _
  | cons r q ih =>
    intro p hp
    have hlen : p.length + 1 + q.length = l.length := by rw [hp]; simp; omega
    have hl := hm.1
    obtain ⟨h1, h2⟩ := hm.2 r (by rw [hp]; simp)
    rw [Lib.size_eq] at h1 h2
    have hkl := keyL_length p
    have hb : rd_T25 l (p.length : Int) = r := by rw [hp]; exact rd_pre p r q
    refine Ev.step (fun k => by rw [brookref1_Key.l0]) ?_
    refine Ev.pos (by omega) ?_
    refine Ev.pos (by omega) ?_
    rw [hb, wrap_succ (by omega)]
    refine Ev.fix (v := B (lowL r.f0.data.toList)) (by rw [← lower_B (by omega), B_of]) ?_
    have hf := rfold_ev r.f1.data.toList (by omega)
    rw [B_of] at hf
    refine Ev.bind hf ?_
    simp only [B_toList]
    by_cases hf : foldL r.f1.data.toList = []
    · have : foldOk r = false := by unfold foldOk; simp [hf]
      rw [List.all_cons, this]
      exact Ev.pos hf (Ev.now _)
    · have : foldOk r = true := by unfold foldOk; simp [hf]
      rw [List.all_cons, this, Bool.true_and]
      refine Ev.neg hf ?_
      refine Ev.pos (by omega) ?_
      have hi := ih (p ++ [r]) (by rw [hp]; simp)
      rw [keyL_append, show (p ++ [r]).length = p.length + 1 by simp] at hi
      exact hi
theorem rkey_ev (s : List UInt8) (hs : s.length ≤ 1000000) : Ev (fun k => brookref1_Key.f k (B s)) (keyS s) := by
  unfold brookref1_Key.f keyS
  refine Ev.bind (parseDn_ev s hs) ?_
  by_cases h : (parseL s).2 = true
  · rw [if_pos h]
    refine Ev.pos h ?_
    have hm : mayB (parseL s).1 = true := parseS_may 8 s [] (s != []) _ (by rw [← h]; rfl)
    exact rkey_l0 _ (may_modest hm) _ _ [] rfl
  · rw [if_neg h]
    exact Ev.neg h (Ev.now _)
theorem rup_l0 (l : List UInt8) (hl : l.length ≤ 1000000000) : ∀ n (i : Nat), l.length + 1 - i ≤ n → i ≤ l.length + 1 → Ev (fun k => brookref1_Up.l0 k (B l) (i : Int)) (B (upS (l.drop i))) := by
  intro n
  induction n with
  | zero =>
    intro i hn hi
    refine Ev.step (fun k => by rw [brookref1_Up.l0]) ?_
    refine Ev.neg (by rw [B_size]; omega) ?_
    rw [List.drop_eq_nil_of_le (by omega), upS]
    exact Ev.now _
  | succ n ih =>
    intro i hn hi
    refine Ev.step (fun k => by rw [brookref1_Up.l0]) ?_
    by_cases h : i < l.length
    · obtain ⟨c, hc⟩ : ∃ c, l[i]? = some c := ⟨l[i], List.getElem?_eq_getElem h⟩
      have hd : l.drop i = c :: l.drop (i + 1) := by rw [List.drop_eq_getElem_cons h]; congr 1; exact Option.some.inj ((List.getElem?_eq_getElem h).symm.trans hc)
      have h44 : ((c.toNat : Int) = 44) ↔ c = 44 := u8_int_inj (n := 44) (by omega)
      have h92 : ((c.toNat : Int) = 92) ↔ c = 92 := u8_int_inj (n := 92) (by omega)
      refine Ev.pos (by rw [B_size]; omega) ?_
      refine Ev.pos (by omega) ?_
      rw [bt_at' hc, wrap_succ (by omega), wrap_succ (by omega), hd, upS]
      by_cases c92 : c = 92
      · rw [if_pos c92]
        refine Ev.pos (h92.2 c92) ?_
        have := ih (i + 1 + 1) (by omega) (by omega)
        rw [List.drop_drop]
        exact this
      · rw [if_neg c92]
        refine Ev.neg (fun e => c92 (h92.1 e)) ?_
        by_cases c44 : c = 44
        · rw [if_pos c44]
          refine Ev.pos (h44.2 c44) ?_
          refine Ev.pos (by omega) ?_
          refine Ev.pos (by rw [B_size]; omega) ?_
          have : (B l).extract (((i + 1 : Nat) : Int)).toNat (B l).size = B (l.drop (i + 1)) := by
            rw [B_extract, B_size, List.take_of_length_le (by simp)]
            congr 2
          rw [this]
          exact Ev.now _
        · rw [if_neg c44]
          refine Ev.neg (fun e => c44 (h44.1 e)) ?_
          exact ih (i + 1) (by omega) (by omega)
    · refine Ev.neg (by rw [B_size]; omega) ?_
      rw [List.drop_eq_nil_of_le (by omega), upS]
      exact Ev.now _
theorem rup_ev (l : List UInt8) (hl : l.length ≤ 1000000000) : Ev (fun k => brookref1_Up.f k (B l)) (B (upS l)) := by
  exact rup_l0 l hl (l.length + 1) 0 (by omega) (by omega)
theorem runder_l0 (y : List UInt8) : ∀ n (x : List UInt8), x.length ≤ n → n ≤ 1000000000 → Ev (fun k => brookref1_Under.l0 k (B x) (B y)) (underS x y) := by
  intro n
  induction n with
  | zero =>
    intro x hx _
    obtain rfl : x = [] := List.length_eq_zero_iff.1 (by omega)
    refine Ev.step (fun k => by rw [brookref1_Under.l0]) ?_
    simp only [B_toList]
    rw [underS]
    by_cases h : [] = y
    · rw [if_pos h]; exact Ev.pos h (Ev.now _)
    · rw [if_neg h]
      refine Ev.neg h ?_
      simp only [if_true]
      exact Ev.now _
  | succ n ih =>
    intro x hx hn
    refine Ev.step (fun k => by rw [brookref1_Under.l0]) ?_
    simp only [B_toList]
    rw [underS]
    by_cases h : x = y
    · rw [if_pos h]; exact Ev.pos h (Ev.now _)
    · rw [if_neg h]
      refine Ev.neg h ?_
      by_cases h2 : x = []
      · rw [dif_pos h2]; exact Ev.pos h2 (Ev.now _)
      · rw [dif_neg h2]
        refine Ev.neg h2 ?_
        refine Ev.bind (rup_ev x (by omega)) ?_
        have := upS_len x.length x (Nat.le_refl _)
        exact ih (upS x) (by omega) (by omega)
theorem runder_ev (x y : List UInt8) (hx : x.length ≤ 1000000000) : Ev (fun k => brookref1_Under.f k (B x) (B y)) (underS x y) := runder_l0 y x.length x (Nat.le_refl _) hx
end Go.Proofs.YtflkghdndffacaaGreatDoor.Pure
namespace Go.Proofs.YtflkghdndffacaaGreatDoor.C
open Go.RowKit Go.Proofs.YtflkghdndffacaaGreatDoor.H Go.Proofs.YtflkghdndffacaaGreatDoor.PD Go.Proofs.YtflkghdndffacaaGreatDoor.Pure Go.Proofs.YtflkghdndffacaaGreatDoorW.PrintWords Go.Proofs.YtflkghdndffacaaGreatDoorW.PrintLast Go.Proofs.YtflkghdndffacaaGreatDoorW.PrintMore
set_option linter.unusedVariables false
abbrev bl (s : ByteArray) : List UInt8 := s.data.toList
theorem bl_len (s : ByteArray) : (bl s).length = s.size := (Lib.size_eq s).symm
theorem ev_get {α : Type} {g : Nat → Option α} {r : α} (h : Ev g r) : ∃ k, g k = some r := by
  obtain ⟨n, h⟩ := h
  exact ⟨n, h n (Nat.le_refl _)⟩
def keyB (s : ByteArray) : ByteArray × Bool := keyS (bl s)
theorem key_c (s : ByteArray) (hs : s.size ≤ 100000000) (w : World) : Calls Tryz.prog 26 #[.string s] w fun e w' => e = .returned (.tuple #[.string (keyB s).1, .bool (keyB s).2]) ∧ Below w.heap.size w w' := by
  obtain ⟨k, h⟩ := ev_get (key_ev (bl s) (by rw [bl_len]; exact hs))
  rw [B_of] at h
  exact dn_Key.calls k s _ _ w h
theorem rkey_c (s : ByteArray) (hs : s.size ≤ 1000000) (w : World) : Calls Tryz.prog 9 #[.string s] w fun e w' => e = .returned (.agg #[.string (keyB s).1, .bool (keyB s).2]) ∧ Below w.heap.size w w' := by
  obtain ⟨k, h⟩ := ev_get (rkey_ev (bl s) (by rw [bl_len]; exact hs))
  rw [B_of] at h
  exact brookref1_Key.calls k s _ _ w h
def underB (a b : ByteArray) : Bool := underS (bl a) (bl b)
theorem under_c (a b : ByteArray) (hs : a.size ≤ 1000000000) (w : World) : Calls Tryz.prog 49 #[.string a, .string b] w fun e w' => e = .returned (.bool (underB a b)) ∧ Drawn0 w w' := by
  obtain ⟨k, h⟩ := ev_get (under_ev (bl a) (bl b) (by rw [bl_len]; exact hs))
  rw [B_of, B_of] at h
  exact dn_Under.calls k a b _ w h
theorem runder_c (a b : ByteArray) (hs : a.size ≤ 1000000000) (w : World) : Calls Tryz.prog 29 #[.string a, .string b] w fun e w' => e = .returned (.bool (underB a b)) ∧ Drawn0 w w' := by
  obtain ⟨k, h⟩ := ev_get (runder_ev (bl a) (bl b) (by rw [bl_len]; exact hs))
  rw [B_of, B_of] at h
  exact brookref1_Under.calls k a b _ w h
theorem parseDn_c (s : ByteArray) (hs : s.size ≤ 1000000) (w : World) : Calls Tryz.prog 23 #[.string s] w fun e w' => ∃ v : Value, e = .returned (.agg #[v, .bool (parseL (bl s)).2]) ∧ Kd.R k25 53 w' w.heap.size (fun _ => True) v (parseL (bl s)).1 ∧ Below w.heap.size w w' := by
  obtain ⟨k, h⟩ := ev_get (parseDn_ev (bl s) (by rw [bl_len]; exact hs))
  rw [B_of] at h
  exact brookref1_ParseDn.calls k s _ _ w h
theorem textDn_c (A : Option Addr) (c : Nat) (l : List S25) (w : World) (hr : Kd.C k25 w A l.length l) (hc : l.length ≤ c) (h : Pure.Modest l) : Calls Tryz.prog 25 #[.slice A l.length c] w fun e w' => e = .returned (.string (B (text l))) ∧ Drawn0 w w' := by
  obtain ⟨k, h⟩ := ev_get (textDn_ev l h)
  rw [text_up] at h
  exact brookref1_TextDn.calls k A c l _ w hr hc h
end Go.Proofs.YtflkghdndffacaaGreatDoor.C
namespace Go.Proofs.YtflkghdndffacaaGreatDoor.C
open Go.RowKit Go.Proofs.YtflkghdndffacaaGreatDoor.H Go.Proofs.YtflkghdndffacaaGreatDoor.Pure Go.Proofs.YtflkghdndffacaaGreatDoorW.PrintWords Go.Proofs.YtflkghdndffacaaGreatDoorW.PrintLast Go.Proofs.YtflkghdndffacaaGreatDoorW.PrintMore
set_option linter.unusedVariables false
def memB (l : List ByteArray) (x : ByteArray) : Bool := l.any fun y => x.toList == y.toList
def idxB (l : List ByteArray) (x : ByteArray) : Int := if memB l x then ((l.findIdx fun y => x.toList == y.toList : Nat) : Int) else -1
theorem ret_int {k : IntKind} {a b : Int} (h : a = b) : Ending.returned (.int k a) = .returned (.int k b) := by rw [h]
theorem ret_bool {a b : Bool} (h : a = b) : Ending.returned (.bool a) = .returned (.bool b) := by rw [h]
theorem str_at {w : World} {A : Option Addr} {n : Nat} {xs : List ByteArray} (h : Kd.C Kd.string w A n xs) {k : Nat} {y : ByteArray} (hy : xs[k]? = some y) : ∃ ad, A = some ad ∧ w.cell? (ad.add k) = some (.string y) := by
 have hk : k < xs.length := (List.getElem?_eq_some_iff.1 hy).1
 have hn : xs.length = n := h.1
 obtain ⟨ad, e, hc⟩ := Kd.at_string h (k : Int) (by omega) (by omega)
 refine ⟨ad, e, ?_⟩
 simpa [rdOf, List.getD_eq_getElem?_getD, hy] using hc
theorem idx_here {l : List ByteArray} {x y : ByteArray} {k : Nat} (hy : l[k]? = some y) (he : (x.toList == y.toList) = true) (HF : ∀ z ∈ l.take k, (x.toList == z.toList) = false) : idxB l x = k := by
 have hk : k < l.length := (List.getElem?_eq_some_iff.1 hy).1
 have hm : memB l x = true := List.any_eq_true.2 ⟨y, List.mem_of_getElem? hy, he⟩
 unfold idxB
 rw [if_pos hm]
 congr 1
 apply (List.findIdx_eq hk).2
 refine ⟨by rw [(List.getElem?_eq_some_iff.1 hy).2]; exact he, fun j hj => ?_⟩
 have : l[j] ∈ l.take k := by rw [List.mem_take_iff_getElem]; exact ⟨j, by omega, rfl⟩
 simpa using HF _ this
theorem idx_none {l : List ByteArray} {x : ByteArray} (HF : ∀ z ∈ l.take l.length, (x.toList == z.toList) = false) : idxB l x = -1 := by
 unfold idxB
 rw [if_neg]
 intro h
 obtain ⟨y, hy, he⟩ := List.any_eq_true.1 h
 rw [List.take_length] at HF
 rw [HF y hy] at he
 cases he
theorem idx_sign (l : List ByteArray) (x : ByteArray) : decide (0 ≤ idxB l x) = memB l x := by
 unfold idxB
 split <;> simp_all
set_option maxHeartbeats 1000000 in
theorem index_c (A : Option Addr) (c : Nat) (l : List ByteArray) (x : ByteArray) (w : World) (hr : Kd.C Kd.string w A l.length l) (hc : l.length ≤ c) :
  Calls Tryz.prog 72 #[.slice A l.length c, .string x] w fun e w' => e = .returned (.int .i64 (idxB l x)) ∧ w = w' := by
 have hmax : l.length ≤ 9223372036854775807 := hr.2.1
 have HR := Lib.hid hr
 clear hr
 go_enter Tryz.func72, Tryz.ntmps72
 go_wp2
 go_loop [8] (fun i => ∃ k : Nat, k ≤ l.length ∧ i = .int .i64 k ∧ Hid (∀ y ∈ l.take k, (x.toList == y.toList) = false)) (fun i => l.length - (intOf i).toNat)
 case atStart => exact ⟨0, Nat.zero_le _, rfl, Lib.hid (by simp)⟩
 case round =>
  obtain ⟨k, hk, rfl, HF⟩ := hrel
  by_cases hlt : k < l.length
  ·obtain ⟨y, hy⟩ : ∃ y, l[k]? = some y := ⟨_, List.getElem?_eq_getElem hlt⟩
   obtain ⟨ad, e, hcell⟩ := str_at HR.out hy
   cases e
   have HY := Lib.hid hy
   clear hy
   have hlt' : (k : Int) < (l.length : Int) := by omega
   by_cases he : (x.toList == y.toList) = true
   ·go_wp2
    go_ret
    exact ⟨ret_int (idx_here HY.out he HF.out).symm, rfl⟩
   ·replace he := Bool.eq_false_iff.mpr he
    go_wp2
    go_round
    case measure => simp [intOf]; omega
    case rel =>
     refine ⟨k + 1, by omega, by go_num, Lib.hid ?_⟩
     rw [List.take_add_one, HY.out]
     intro z hz
     rcases List.mem_append.1 hz with hz | hz
     ·exact HF.out z hz
     ·obtain rfl : z = y := by simpa using hz
      exact he
  ·obtain rfl : k = l.length := by omega
   go_wp2
   go_ret
   exact ⟨ret_int (idx_none HF.out).symm, rfl⟩
theorem contains_c (A : Option Addr) (c : Nat) (l : List ByteArray) (x : ByteArray) (w : World) (hr : Kd.C Kd.string w A l.length l) (hc : l.length ≤ c) :
  Calls Tryz.prog 50 #[.slice A l.length c, .string x] w fun e w' => e = .returned (.bool (memB l x)) ∧ w = w' := by
 have HS := Lib.hid (idx_sign l x)
 have HR := Lib.hid hr
 clear hr
 go_enter Tryz.func50, Tryz.ntmps50
 go_wp2_with (go_at_call 72; refine (index_c _ _ _ _ _ HR.out hc).mono ?_; rintro e w' ⟨rfl, rfl⟩)
 go_ret
 exact ⟨ret_bool HS.out, rfl⟩
end Go.Proofs.YtflkghdndffacaaGreatDoor.C
namespace Go.Proofs.YtflkghdndffacaaGreatDoor.PA
open Go.RowKit Go.Proofs.YtflkghdndffacaaGreatDoor.H Go.Proofs.YtflkghdndffacaaGreatDoor.PD Go.Proofs.YtflkghdndffacaaGreatDoorW.PrintWords Go.Proofs.YtflkghdndffacaaGreatDoorW.PrintLast Go.Proofs.YtflkghdndffacaaGreatDoorW.PrintMore
attribute [local go_sem] max2_int min2_int max_two min_two max_three min_three max_four min_four
set_option linter.unusedVariables false
set_option linter.unusedSimpArgs false
def errW : Option Int → Value
 | none => .nilIface
 | some c => .iface 0 (.int .i64 c)
theorem errW_none : errW none = .nilIface := rfl
theorem errW_some (c : Int) : errW (some c) = .iface 0 (.int .i64 c) := rfl
theorem info9 : (Tryz.prog.info? 9).map (fun i => (i.zero, i.size, i.bytes)) = some (some (.string ⟨#[]⟩), 1, 16) := by kernel_rfl
theorem info69 : (Tryz.prog.info? 42).map (fun i => (i.zero, i.size, i.bytes)) = some (some (.agg #[(.string ⟨#[]⟩), (.slice none 0 0)]), 2, 40) := by kernel_rfl
structure S54 where
 f0 : Int
 f1 : ByteArray
 f2 : ByteArray
 f3 : Bool
 f4 : (List ByteArray)
 f5 : Int
def z54 : S54 := ⟨(0 : Int), (⟨#[]⟩ : ByteArray), (⟨#[]⟩ : ByteArray), false, ([] : List ByteArray), (0 : Int)⟩
def k54 : Kd S54 := Kd.iso (Kd.pair (Kd.int .i64) (Kd.pair Kd.string (Kd.pair Kd.string (Kd.pair Kd.bool (Kd.pair (Kd.slice 9 Kd.string) (Kd.int .i64)))))) (fun x : S54 => (x.f0, x.f1, x.f2, x.f3, x.f4, x.f5))
theorem k54_open {w : World} {x : S54} {cs : List Value} (h : k54.K w x cs) : ∃ A4 c4, cs = [.int .i64 x.f0, .string x.f1, .string x.f2, .bool x.f3, .slice A4 x.f4.length c4, .int .i64 x.f5] ∧ x.f4.length ≤ c4 ∧ Kd.string.C w A4 x.f4.length x.f4 := by
 obtain ⟨_, _, rfl, rfl, ⟨_, _, rfl, rfl, ⟨_, _, rfl, rfl, ⟨_, _, rfl, rfl, ⟨_, _, rfl, ⟨A4, c4, rfl, l4, g4⟩, rfl⟩⟩⟩⟩⟩ := h
 exact ⟨A4, c4, rfl, l4, g4⟩
theorem k54_mk (w : World) (x : S54) {A4 : Option Addr} {c4 : Nat} (l4 : x.f4.length ≤ c4) (g4 : Kd.string.C w A4 x.f4.length x.f4) : k54.K w x [.int .i64 x.f0, .string x.f1, .string x.f2, .bool x.f3, .slice A4 x.f4.length c4, .int .i64 x.f5] := ⟨[.int .i64 x.f0], [.string x.f1, .string x.f2, .bool x.f3, .slice A4 x.f4.length c4, .int .i64 x.f5], rfl, rfl, ⟨[.string x.f1], [.string x.f2, .bool x.f3, .slice A4 x.f4.length c4, .int .i64 x.f5], rfl, rfl, ⟨[.string x.f2], [.bool x.f3, .slice A4 x.f4.length c4, .int .i64 x.f5], rfl, rfl, ⟨[.bool x.f3], [.slice A4 x.f4.length c4, .int .i64 x.f5], rfl, rfl, ⟨[.slice A4 x.f4.length c4], [.int .i64 x.f5], rfl, ⟨A4, c4, rfl, l4, g4⟩, rfl⟩⟩⟩⟩⟩
def rd_T54 (xs : List S54) (i : Int) : S54 := xs.getD i.toNat z54
theorem at_T54 {w : World} {A : Option Addr} {n : Nat} {xs : List S54} (h : Kd.C k54 w A n xs) (i : Int) (h0 : 0 ≤ i) (h1 : i < n) : ∃ ad A4 c4, A = some ad ∧ w.cell? (ad.add (i.toNat * 6)) = some (.int .i64 (rd_T54 xs i).f0) ∧ w.cell? ⟨(ad.add (i.toNat * 6)).block, (ad.add (i.toNat * 6)).off + 1, none⟩ = some (.string (rd_T54 xs i).f1) ∧ w.cell? ⟨(ad.add (i.toNat * 6)).block, (ad.add (i.toNat * 6)).off + 2, none⟩ = some (.string (rd_T54 xs i).f2) ∧ w.cell? ⟨(ad.add (i.toNat * 6)).block, (ad.add (i.toNat * 6)).off + 3, none⟩ = some (.bool (rd_T54 xs i).f3) ∧ w.cell? ⟨(ad.add (i.toNat * 6)).block, (ad.add (i.toNat * 6)).off + 4, none⟩ = some (.slice A4 (rd_T54 xs i).f4.length c4) ∧ w.cell? ⟨(ad.add (i.toNat * 6)).block, (ad.add (i.toNat * 6)).off + 5, none⟩ = some (.int .i64 (rd_T54 xs i).f5) ∧ (rd_T54 xs i).f4.length ≤ c4 ∧ Kd.string.C w A4 (rd_T54 xs i).f4.length (rd_T54 xs i).f4 := by
 obtain ⟨ad, c, e, _, hK, hc0⟩ := Kd.C_get h z54 i h0 h1
 have hc : ∀ j u, c[j]? = some u → w.cell? (ad.add (i.toNat * 6 + j)) = some u := hc0
 obtain ⟨A4, c4, rfl, l4, g4⟩ := k54_open hK
 exact ⟨ad, A4, c4, e, hc 0 _ rfl, by rw [← add_field _ _ 1 (by omega)]; exact hc 1 _ rfl, by rw [← add_field _ _ 2 (by omega)]; exact hc 2 _ rfl, by rw [← add_field _ _ 3 (by omega)]; exact hc 3 _ rfl, by rw [← add_field _ _ 4 (by omega)]; exact hc 4 _ rfl, by rw [← add_field _ _ 5 (by omega)]; exact hc 5 _ rfl, l4, g4⟩
structure S69 where
 f0 : ByteArray
 f1 : (List ByteArray)
def z69 : S69 := ⟨(⟨#[]⟩ : ByteArray), ([] : List ByteArray)⟩
def k69 : Kd S69 := Kd.iso (Kd.pair Kd.string (Kd.slice 9 Kd.string)) (fun x : S69 => (x.f0, x.f1))
theorem k69_open {w : World} {x : S69} {cs : List Value} (h : k69.K w x cs) : ∃ A1 c1, cs = [.string x.f0, .slice A1 x.f1.length c1] ∧ x.f1.length ≤ c1 ∧ Kd.string.C w A1 x.f1.length x.f1 := by
 obtain ⟨_, _, rfl, rfl, ⟨A1, c1, rfl, l1, g1⟩⟩ := h
 exact ⟨A1, c1, rfl, l1, g1⟩
theorem k69_mk (w : World) (x : S69) {A1 : Option Addr} {c1 : Nat} (l1 : x.f1.length ≤ c1) (g1 : Kd.string.C w A1 x.f1.length x.f1) : k69.K w x [.string x.f0, .slice A1 x.f1.length c1] := ⟨[.string x.f0], [.slice A1 x.f1.length c1], rfl, rfl, ⟨A1, c1, rfl, l1, g1⟩⟩
theorem k69_mkM (w : World) (base : Nat) (ok : Nat → Prop) (x : S69) {v1 : Value} (g1 : Kd.string.R 9 w base ok v1 x.f1) : k69.M w base ok x [.string x.f0, v1] := ⟨[.string x.f0], [v1], rfl, rfl, ⟨v1, rfl, g1⟩⟩
def rd_T69 (xs : List S69) (i : Int) : S69 := xs.getD i.toNat z69
theorem at_T69 {w : World} {A : Option Addr} {n : Nat} {xs : List S69} (h : Kd.C k69 w A n xs) (i : Int) (h0 : 0 ≤ i) (h1 : i < n) : ∃ ad A1 c1, A = some ad ∧ w.cell? (ad.add (i.toNat * 2)) = some (.string (rd_T69 xs i).f0) ∧ w.cell? ⟨(ad.add (i.toNat * 2)).block, (ad.add (i.toNat * 2)).off + 1, none⟩ = some (.slice A1 (rd_T69 xs i).f1.length c1) ∧ (rd_T69 xs i).f1.length ≤ c1 ∧ Kd.string.C w A1 (rd_T69 xs i).f1.length (rd_T69 xs i).f1 := by
 obtain ⟨ad, c, e, _, hK, hc0⟩ := Kd.C_get h z69 i h0 h1
 have hc : ∀ j u, c[j]? = some u → w.cell? (ad.add (i.toNat * 2 + j)) = some u := hc0
 obtain ⟨A1, c1, rfl, l1, g1⟩ := k69_open hK
 exact ⟨ad, A1, c1, e, hc 0 _ rfl, by rw [← add_field _ _ 1 (by omega)]; exact hc 1 _ rfl, l1, g1⟩
end Go.Proofs.YtflkghdndffacaaGreatDoor.PA
namespace Go.Proofs.YtflkghdndffacaaGreatDoor.C
open Go.RowKit Go.Proofs.YtflkghdndffacaaGreatDoor.Sq Go.Proofs.YtflkghdndffacaaGreatDoor.H Go.Proofs.YtflkghdndffacaaGreatDoor.PA Go.Proofs.YtflkghdndffacaaGreatDoor.Pure Go.Proofs.YtflkghdndffacaaGreatDoorW.PrintWords Go.Proofs.YtflkghdndffacaaGreatDoorW.PrintLast Go.Proofs.YtflkghdndffacaaGreatDoorW.PrintMore
set_option linter.unusedVariables false
def ruleV (r : S54) (A : Option Addr) (c : Nat) : Array Value := #[.int .i64 r.f0, .string r.f1, .string r.f2, .bool r.f3, .slice A r.f4.length c, .int .i64 r.f5]
def notHereB (r : S54) (key typ : ByteArray) : Bool := (!(key.toList == (keyB r.f2).1.toList) && !(r.f3 && underB key (keyB r.f2).1)) || (decide (0 < r.f4.length) && !memB r.f4 (lowS typ))
def whoB (r : S54) (who key : ByteArray) : Bool := if r.f0 = 2 then who.toList != [] else if r.f0 = 3 then who.toList == key.toList else if r.f0 = 4 then who.toList == (keyB r.f1).1.toList else true
def speaksB (r : S54) (who key typ : ByteArray) : Bool := !notHereB r key typ && whoB r who key
theorem lowered_c (s : ByteArray) (hs : s.size ≤ 9223372036854775806) (w : World) : Calls Tryz.prog 51 #[.string s] w fun e w' => e = .returned (.string (lowS s)) ∧ Below w.heap.size w w' := acl_lowered.calls s _ w (by unfold acl_lowered.f; rw [if_pos hs])
def Own (w : World) (g : Nat) (o : Obj) (W : World) : Prop := W.heap[g]? = some o ∧ Below w.heap.size w W
theorem Own.step {w W w1 : World} {g : Nat} {o : Obj} (h : Own w g o W) (hb : Below W.heap.size W w1) : Own w g o w1 := ⟨blk_below h.1 hb, below_step h.2 hb⟩
theorem Own.drew {w W : World} {g : Nat} {o : Obj} (h : Own w g o W) : Own w g o W.drew := ⟨h.1, h.2.drew⟩
theorem rule_cells {W : World} {g : Nat} {r : S54} {A : Option Addr} {c : Nat} (h : W.heap[g]? = some (.cells (ruleV r A c) 40 (0, 0))) : W.cell? ⟨g, 0, none⟩ = some (.int .i64 r.f0) ∧ W.cell? ⟨g, 1, none⟩ = some (.string r.f1) ∧ W.cell? ⟨g, 2, none⟩ = some (.string r.f2) ∧ W.cell? ⟨g, 3, none⟩ = some (.bool r.f3) ∧ W.cell? ⟨g, 4, none⟩ = some (.slice A r.f4.length c) ∧ W.cell? ⟨g, 5, none⟩ = some (.int .i64 r.f5) := ⟨blk_cell h 0, blk_cell h 1, blk_cell h 2, blk_cell h 3, blk_cell h 4, blk_cell h 5⟩
theorem six {p : Prop} (b1 b2 b3 b4 : Bool) (h1 : b1 = true → b4 = false → p) (h2 : b1 = true → b4 = true → p) (h3 : b1 = false → b2 = false → p) (h4 : b1 = false → b2 = true → b3 = false → p) (h5 : b1 = false → b2 = true → b3 = true → b4 = false → p) (h6 : b1 = false → b2 = true → b3 = true → b4 = true → p) : p := by
 cases b1 <;> cases b2 <;> cases b3 <;> cases b4 <;> simp_all
set_option maxHeartbeats 4000000 in
theorem speaks_c (r : S54) (A : Option Addr) (c : Nat) (who key typ : ByteArray) (w : World) (hr : Kd.string.C w A r.f4.length r.f4) (hc : r.f4.length ≤ c) (h1 : r.f1.size ≤ 100000000) (h2 : r.f2.size ≤ 100000000) (hk : key.size ≤ 1000000000) (ht : typ.size ≤ 9223372036854775806) :
  Calls Tryz.prog 27 #[.agg (ruleV r A c), .string who, .string key, .string typ] w fun e w' => e = .returned (.bool (speaksB r who key typ)) ∧ Below w.heap.size w w' := by
 unfold ruleV
 have HR := Lib.hid hr
 clear hr
 go_enter Tryz.func27, Tryz.ntmps27
 go_wp2_with fail
 refine (key_c _ h2 _).mono ?_
 rintro e w1 ⟨rfl, hb⟩
 have HO : Own w w.heap.size (.cells (ruleV r A c) 40 (0, 0)) w1 := Own.step ⟨heap_alloc_new w _, (Below.refl _ _).alloc (Nat.le_refl _) _⟩ hb
 clear hb
 go_upto_region 2 with (fail)
 go_cut [45] (fun v wc => v = .bool (notHereB r key typ) ∧ Own w w.heap.size (.cells (ruleV r A c) 40 (0, 0)) wc)
 case first =>
  refine sq_ (Own w w.heap.size (.cells (ruleV r A c) 40 (0, 0))) [] [(0,0,some 19),(0,1,some 20),(0,2,some 21),(0,3,some 22),(0,4,some 23),(1,5,some 24),(0,6,some 25),(0,7,some 26),(0,8,some 27),(2,9,some 28),(0,10,some 29),(0,11,some 30),(0,12,some 31),(0,13,some 32),(0,14,some 33),(1,15,some 34),(0,16,some 35),(0,17,some 36),(0,18,some 37),(0,19,some 38),(1,20,some 39),(0,21,some 40),(2,22,some 41),(2,23,some 42),(0,24,some 43),(0,25,some 44),(0,26,some 45)] (by kernel_rfl) (by kernel_rfl) HO.drew (fun hS => ?_)
  generalize w1.drew = W at hS ⊢
  refine six (key.toList == (keyB r.f2).1.toList) r.f3 (underB key (keyB r.f2).1) (decide (0 < r.f4.length)) ?_ ?_ ?_ ?_ ?_ ?_
  all_goals
   intros
   repeat (first
    | (refine sq0 rfl ?_ (fun _ _ _ _ h => h) ?_; (focus rfl); apply Exists.intro; constructor; (focus (intro w'; go_simp; with_reducible rfl)); (simp only [Act.put, List.setIfInBounds_toArray, List.set_cons_zero, List.set_cons_succ]))
    | (refine sq0_off rfl ?_ (fun _ _ _ _ h => h) ?_; (focus rfl); (simp only [Act.put, List.setIfInBounds_toArray, List.set_cons_zero, List.set_cons_succ]))
    | (refine sq1 rfl ?_ (fun _ _ _ _ h => h) hS ?_; (focus rfl); apply Exists.intro; constructor; (focus (intro w' hS'; obtain ⟨s0, s1, s2, s3, s4, s5⟩ := rule_cells hS'.1; go_simp; with_reducible rfl)); (simp only [Act.put, List.setIfInBounds_toArray, List.set_cons_zero, List.set_cons_succ]))
    | (refine sq1_off rfl ?_ (fun _ _ _ _ h => h) hS ?_; (focus rfl); (simp only [Act.put, List.setIfInBounds_toArray, List.set_cons_zero, List.set_cons_succ]))
    | (refine sq_call rfl Tryz.func49 (by kernel_rfl) rfl #[.string key, .string (keyB r.f2).1] rfl ?_ rfl ?_ ?_; (focus rfl); (focus ((try simp only [List.map_toArray, List.map_cons, List.map_nil]); first | done | rfl)); refine (under_c _ _ hk _).mono ?_; rintro e w2 ⟨rfl, hd⟩; refine ⟨_, rfl, Own.step hS hd.below, fun hS2 => ?_⟩; clear hd hS; have hS := hS2; clear hS2; (simp only [Act.put, List.setIfInBounds_toArray, List.set_cons_zero, List.set_cons_succ]))
    | (refine sq_call rfl Tryz.func51 (by kernel_rfl) rfl #[.string typ] rfl ?_ rfl ?_ ?_; (focus rfl); (focus ((try simp only [List.map_toArray, List.map_cons, List.map_nil]); first | done | rfl)); refine (lowered_c _ ht _).mono ?_; rintro e w2 ⟨rfl, hb⟩; refine ⟨_, rfl, Own.step hS hb, fun hS2 => ?_⟩; clear hb hS; have hS := hS2; clear hS2; (simp only [Act.put, List.setIfInBounds_toArray, List.set_cons_zero, List.set_cons_succ]))
    | (refine sq_call rfl Tryz.func50 (by kernel_rfl) rfl #[.slice A r.f4.length c, .string (lowS typ)] rfl ?_ rfl ?_ ?_; (focus rfl); (focus ((try simp only [List.map_toArray, List.map_cons, List.map_nil]); first | done | rfl)); refine (contains_c _ _ _ _ _ (Kd.C_below HR.out hS.2) hc).mono ?_; rintro e w2 ⟨rfl, rfl⟩; refine ⟨_, rfl, hS, fun hS2 => ?_⟩; clear hS2; (simp only [Act.put, List.setIfInBounds_toArray, List.set_cons_zero, List.set_cons_succ]))
    | (refine sq_off rfl ?_ hS ?_; (focus rfl); (simp only [Act.put, List.setIfInBounds_toArray, List.set_cons_zero, List.set_cons_succ])))
   refine sq_end ?_
   go_wp2
   go_meet
   case rel => exact ⟨by simp [notHereB, *], hS⟩
 case rest =>
  obtain ⟨rfl, hO⟩ := hcut
  cases hn : notHereB r key typ
  case true =>
   go_wp2
   go_ret
   exact ⟨ret_bool (by simp [speaksB, hn]), hO.2⟩
  obtain ⟨s0, s1, s2, s3, s4, s5⟩ := rule_cells hO.1
  have HS : Hid (speaksB r who key typ = whoB r who key) := Lib.hid (by simp [speaksB, hn])
  clear hn s2 s3 s4 s5
  by_cases e2 : r.f0 = 2
  ·have e2b : (r.f0 == 2) = true := by simp [e2]
   have HW : Hid (whoB r who key = (who.toList != [])) := Lib.hid (by simp [whoB, e2])
   clear e2
   go_wp2
   go_ret
   exact ⟨ret_bool (by rw [HS.out, HW.out]; cases who.toList <;> rfl), hO.2⟩
  have e2b : (r.f0 == 2) = false := by simp [e2]
  by_cases e3 : r.f0 = 3
  ·have e3b : (r.f0 == 3) = true := by simp [e3]
   have HW : Hid (whoB r who key = (who.toList == key.toList)) := Lib.hid (by simp [whoB, e3])
   clear e2 e3
   go_wp2
   go_ret
   exact ⟨ret_bool (by rw [HS.out, HW.out]), hO.2⟩
  have e3b : (r.f0 == 3) = false := by simp [e3]
  by_cases e4 : r.f0 = 4
  ·have e4b : (r.f0 == 4) = true := by simp [e4]
   have HW : Hid (whoB r who key = (who.toList == (keyB r.f1).1.toList)) := Lib.hid (by simp [whoB, e4])
   clear e2 e3 e4
   go_wp2_with (go_at_call 26; refine (key_c _ h1 _).mono ?_; rintro e w2 ⟨rfl, hb2⟩)
   go_ret
   exact ⟨ret_bool (by rw [HS.out, HW.out]), (hO.step hb2).2⟩
  have e4b : (r.f0 == 4) = false := by simp [e4]
  have HW : Hid (whoB r who key = true) := Lib.hid (by simp [whoB, e2, e3, e4])
  clear e2 e3 e4
  go_wp2
  go_ret
  exact ⟨ret_bool (by rw [HS.out, HW.out]), hO.2⟩
end Go.Proofs.YtflkghdndffacaaGreatDoor.C
namespace Go.Proofs.YtflkghdndffacaaGreatDoor.C
open Go.RowKit Go.Proofs.YtflkghdndffacaaGreatDoor.Sq Go.Proofs.YtflkghdndffacaaGreatDoor.H Go.Proofs.YtflkghdndffacaaGreatDoor.PA Go.Proofs.YtflkghdndffacaaGreatDoor.Pure Go.Proofs.YtflkghdndffacaaGreatDoorW.PrintWords Go.Proofs.YtflkghdndffacaaGreatDoorW.PrintLast Go.Proofs.YtflkghdndffacaaGreatDoorW.PrintMore
set_option linter.unusedVariables false
theorem keyS_size (s : List UInt8) : (keyS s).1.size ≤ 1000000000 := by
 unfold keyS
 split
 ·rename_i h
  split
  ·have hm : mayB (parseL s).1 = true := parseS_may 8 s [] (s != []) (parseL s).1 (by rw [← h]; rfl)
   have h1 := text_len (keyL_modest (may_modest hm))
   have h2 := (mayB_iff.1 hm).2
   rw [keyL_length] at h1
   rw [B_size]
   show _ ≤ _
   omega
  ·simp [B_size]
 ·simp [B_size]
theorem keyB_size (s : ByteArray) : (keyB s).1.size ≤ 1000000000 := keyS_size _
theorem rule_at {w : World} {A : Option Addr} {n : Nat} {xs : List S54} (h : Kd.C k54 w A n xs) {k : Nat} {r : S54} (hr : xs[k]? = some r) : ∃ ad A4 c4, A = some ad ∧ w.cell? (ad.add (k * 6)) = some (.int .i64 r.f0) ∧ w.cell? ⟨(ad.add (k * 6)).block, (ad.add (k * 6)).off + 1, none⟩ = some (.string r.f1) ∧ w.cell? ⟨(ad.add (k * 6)).block, (ad.add (k * 6)).off + 2, none⟩ = some (.string r.f2) ∧ w.cell? ⟨(ad.add (k * 6)).block, (ad.add (k * 6)).off + 3, none⟩ = some (.bool r.f3) ∧ w.cell? ⟨(ad.add (k * 6)).block, (ad.add (k * 6)).off + 4, none⟩ = some (.slice A4 r.f4.length c4) ∧ w.cell? ⟨(ad.add (k * 6)).block, (ad.add (k * 6)).off + 5, none⟩ = some (.int .i64 r.f5) ∧ r.f4.length ≤ c4 ∧ Kd.string.C w A4 r.f4.length r.f4 := by
 have hk : k < xs.length := (List.getElem?_eq_some_iff.1 hr).1
 have hn : xs.length = n := h.1
 have e : rd_T54 xs (k : Int) = r := by simp [rd_T54, List.getD_eq_getElem?_getD, hr]
 have := at_T54 h (k : Int) (by omega) (by omega)
 rw [e] at this
 exact this
def rightB (rules : List S54) (who key typ : ByteArray) : Int := match rules.find? fun r => speaksB r who key typ with
 | some r => r.f5
 | none => 0
theorem right_here {rules : List S54} {who key typ : ByteArray} {k : Nat} {r : S54} (hr : rules[k]? = some r) (h : speaksB r who key typ = true) (HF : ∀ x ∈ rules.take k, speaksB x who key typ = false) : rightB rules who key typ = r.f5 := by
 have hk : k < rules.length := (List.getElem?_eq_some_iff.1 hr).1
 have e : rules = rules.take k ++ r :: rules.drop (k + 1) := by
  rw [← (List.getElem?_eq_some_iff.1 hr).2, List.getElem_cons_drop, List.take_append_drop]
 unfold rightB
 rw [e, List.find?_append, List.find?_eq_none.2 (by simpa using HF)]
 simp [h]
theorem right_none {rules : List S54} {who key typ : ByteArray} (HF : ∀ x ∈ rules.take rules.length, speaksB x who key typ = false) : rightB rules who key typ = 0 := by
 unfold rightB
 rw [List.take_length] at HF
 rw [List.find?_eq_none.2 (by simpa using HF)]
def RulesOk (rules : List S54) : Prop := ∀ r ∈ rules, r.f1.size ≤ 100000000 ∧ r.f2.size ≤ 100000000
set_option maxHeartbeats 2000000 in
theorem right_c (rules : List S54) (A : Option Addr) (c : Nat) (who dn typ : ByteArray) (at1 : Value) (w : World) (hr : Kd.C k54 w A rules.length rules) (hc : rules.length ≤ c) (hm : RulesOk rules) (hd : dn.size ≤ 100000000) (ht : typ.size ≤ 9223372036854775806) (h1 : at1.oneCell' = true) :
  Calls Tryz.prog 10 #[.slice A rules.length c, .string who, .agg #[.string dn, at1], .string typ] w fun e w' => e = .returned (.int .i64 (rightB rules who (keyB dn).1 typ)) ∧ Below w.heap.size w w' := by
 have hmax : rules.length ≤ 9223372036854775807 := hr.2.1
 have HR := Lib.hid hr
 clear hr
 have HM := Lib.hid hm
 clear hm
 go_enter Tryz.func10, Tryz.ntmps10
 go_wp2_with fail
 refine (key_c _ hd _).mono ?_
 rintro e w1 ⟨rfl, hb⟩
 have HB := Lib.hid (below_step ((Below.refl _ _).alloc (Nat.le_refl _) _) hb)
 have hks := keyB_size dn
 clear hb
 go_wp2
 go_loopw [21] (fun i wr => ∃ k : Nat, k ≤ rules.length ∧ i = .int .i64 k ∧ Hid (∀ x ∈ rules.take k, speaksB x who (keyB dn).1 typ = false) ∧ Hid (Below w.heap.size w wr)) (fun i _ => rules.length - (intOf i).toNat)
 case atStart => exact ⟨0, Nat.zero_le _, rfl, Lib.hid (by simp), HB⟩
 case round =>
  clear HB
  obtain ⟨k, hk, rfl, HF, HB⟩ := hrel
  by_cases hlt : k < rules.length
  ·obtain ⟨r, hy⟩ : ∃ r, rules[k]? = some r := ⟨_, List.getElem?_eq_getElem hlt⟩
   obtain ⟨m1, m2⟩ := HM.out r (List.mem_of_getElem? hy)
   obtain ⟨ad, A4, c4, e, x0, x1, x2, x3, x4, x5, hl4, hi4⟩ := rule_at (Kd.C_below HR.out HB.out) hy
   cases e
   have HY := Lib.hid hy
   clear hy
   have hlt' : (k : Int) < (rules.length : Int) := by omega
   go_wp2_with fail
   refine (speaks_c r A4 c4 who _ typ _ (Kd.C_below hi4 (below_alloc (Below.refl _ _) _)) hl4 m1 m2 hks ht).mono ?_
   rintro e w2 ⟨rfl, hb2⟩
   have HO : Own wr wr.heap.size (.cells (ruleV r A4 c4) 40 (0, 0)) w2 := Own.step ⟨heap_alloc_new wr _, (Below.refl _ _).alloc (Nat.le_refl _) _⟩ hb2
   have HB2 := Lib.hid (below_step HB.out HO.2)
   obtain ⟨s0, s1, s2, s3, s4, s5⟩ := rule_cells HO.1
   clear hb2 x0 x1 x2 x3 x4 x5 hl4 hi4 s0 s1 s2 s3 s4 HO HB
   cases hs : speaksB r who (keyB dn).1 typ
   ·go_wp2
    go_roundw
    case measure => simp [intOf]; omega
    case rel =>
     refine ⟨k + 1, by omega, by go_num, Lib.hid ?_, HB2⟩
     rw [List.take_add_one, HY.out]
     intro z hz
     rcases List.mem_append.1 hz with hz | hz
     ·exact HF.out z hz
     ·obtain rfl : z = r := by simpa using hz
      exact hs
   ·go_wp2
    go_ret
    exact ⟨ret_int (right_here HY.out hs HF.out).symm, HB2.out⟩
  ·obtain rfl : k = rules.length := by omega
   go_wp2
   go_ret
   exact ⟨ret_int (right_none HF.out).symm, HB.out⟩
end Go.Proofs.YtflkghdndffacaaGreatDoor.C
namespace Go.Proofs.YtflkghdndffacaaGreatDoor.C
open Go.RowKit Go.Proofs.YtflkghdndffacaaGreatDoor.Sq Go.Proofs.YtflkghdndffacaaGreatDoor.H Go.Proofs.YtflkghdndffacaaGreatDoor.PA Go.Proofs.YtflkghdndffacaaGreatDoor.PM Go.Proofs.YtflkghdndffacaaGreatDoor.Pure Go.Proofs.YtflkghdndffacaaGreatDoorW.PrintWords Go.Proofs.YtflkghdndffacaaGreatDoorW.PrintLast Go.Proofs.YtflkghdndffacaaGreatDoorW.PrintMore
set_option linter.unusedVariables false
def typeN (s : ByteArray) : Int := (match_rules.f s).getD 0
theorem rules_some (s : ByteArray) : match_rules.f s = some (typeN s) := by
 unfold typeN match_rules.f
 repeat' (split; · rfl)
 rfl
def canonB (s : ByteArray) : ByteArray × Bool := if typeN (lowS s) = 0 then (⟨#[]⟩, false) else (lowS s, true)
theorem canon_c (s : ByteArray) (hs : s.size ≤ 9223372036854775806) (w : World) : Calls Tryz.prog 39 #[.string s] w fun e w' => e = .returned (.tuple #[.string (canonB s).1, .bool (canonB s).2]) ∧ Below w.heap.size w w' := by
 refine match_Canon.calls s _ _ w ?_
 unfold match_Canon.f canonB
 rw [if_pos hs, rules_some]
 simp only [Option.bind_some]
 split <;> rfl
def whoOk (r : S54) : Bool := if r.f0 = 1 ∨ r.f0 = 2 ∨ r.f0 = 3 then r.f1.toList.isEmpty else if r.f0 = 4 then (keyB r.f1).2 && !r.f1.toList.isEmpty else false
set_option maxHeartbeats 2000000 in
theorem mayWho_c (r : S54) (A : Option Addr) (c : Nat) (w : World) (h1 : r.f1.size ≤ 100000000) : Calls Tryz.prog 40 #[.agg (ruleV r A c)] w fun e w' => e = .returned (.bool (whoOk r)) ∧ Below w.heap.size w w' := by
 unfold ruleV
 have HB := fun o => Lib.hid (below_alloc (Below.refl w.heap.size w) o)
 by_cases e1 : r.f0 = 1 ∨ r.f0 = 2 ∨ r.f0 = 3
 ·have HW : Hid (whoOk r = r.f1.toList.isEmpty) := Lib.hid (by unfold whoOk; rw [if_pos e1])
  rcases e1 with e1 | e1 | e1
  all_goals
   go_enter Tryz.func40, Tryz.ntmps40
   go_wp2
   go_ret
   exact ⟨ret_bool HW.out.symm, (HB _).out⟩
 ·have n1 : (r.f0 == 1) = false := by simp; omega
  have n2 : (r.f0 == 2) = false := by simp; omega
  have n3 : (r.f0 == 3) = false := by simp; omega
  by_cases e4 : r.f0 = 4
  ·have n4 : (r.f0 == 4) = true := by simp [e4]
   have HW : Hid (whoOk r = ((keyB r.f1).2 && !r.f1.toList.isEmpty)) := Lib.hid (by unfold whoOk; rw [if_neg e1, if_pos e4])
   clear e1 e4
   go_enter Tryz.func40, Tryz.ntmps40
   go_wp2_with fail
   refine (key_c _ h1 _).mono ?_
   rintro e w1 ⟨rfl, hb⟩
   have HO : Own w w.heap.size (.cells (ruleV r A c) 40 (0, 0)) w1 := Own.step ⟨heap_alloc_new w _, (Below.refl _ _).alloc (Nat.le_refl _) _⟩ hb
   obtain ⟨s0, s1, s2, s3, s4, s5⟩ := rule_cells HO.1
   clear hb
   cases hk : (keyB r.f1).2
   all_goals
    go_wp2
    go_ret
    exact ⟨ret_bool (by rw [HW.out, hk]; rfl), HO.2⟩
  ·have n4 : (r.f0 == 4) = false := by simp [e4]
   have HW : Hid (whoOk r = false) := Lib.hid (by unfold whoOk; rw [if_neg e1, if_neg e4])
   clear e1 e4
   go_enter Tryz.func40, Tryz.ntmps40
   go_wp2
   go_ret
   exact ⟨ret_bool HW.out.symm, (HB _).out⟩
def typeBad (s : ByteArray) : Bool := !(s.toList == [101, 110, 116, 114, 121]) && !((canonB s).2 && (canonB s).1.toList == s.toList)
set_option maxHeartbeats 2000000 in
theorem bad_c (s : ByteArray) (hs : s.size ≤ 9223372036854775806) (w : World) : Calls Tryz.prog 38 #[.string s] w fun e w' => e = .returned (.bool (typeBad s)) ∧ Below w.heap.size w w' := by
 have HT : Hid (typeBad s = (!(s.toList == [101, 110, 116, 114, 121]) && !((canonB s).2 && (canonB s).1.toList == s.toList))) := Lib.hid rfl
 cases h1 : s.toList == [101, 110, 116, 114, 121] <;> cases h2 : (canonB s).2
 all_goals
  go_enter Tryz.func38, Tryz.ntmps38
  go_wp2_with (go_at_call 39; refine (canon_c _ hs _).mono ?_; rintro e w2 ⟨rfl, hb2⟩)
  go_ret
  exact ⟨ret_bool (by rw [HT.out, h1, h2]; first | rfl | simp), hb2⟩
end Go.Proofs.YtflkghdndffacaaGreatDoor.C
namespace Go.Proofs.YtflkghdndffacaaGreatDoor.C
open Go.RowKit Go.Proofs.YtflkghdndffacaaGreatDoor.Sq Go.Proofs.YtflkghdndffacaaGreatDoor.H Go.Proofs.YtflkghdndffacaaGreatDoor.PA Go.Proofs.YtflkghdndffacaaGreatDoor.Pure Go.Proofs.YtflkghdndffacaaGreatDoorW.PrintWords Go.Proofs.YtflkghdndffacaaGreatDoorW.PrintLast Go.Proofs.YtflkghdndffacaaGreatDoorW.PrintMore
set_option linter.unusedVariables false
def gateB (rules : List S54) (who key : ByteArray) (types : List ByteArray) : Bool := types.all fun t => rightB rules who key t == 2
def TypesOk (types : List ByteArray) : Prop := ∀ t ∈ types, t.size ≤ 9223372036854775806
theorem all_here {α : Type} {l : List α} {p : α → Bool} {k : Nat} {x : α} (hx : l[k]? = some x) (h : p x = false) : l.all p = false := by
 rw [List.all_eq_false]
 exact ⟨x, List.mem_of_getElem? hx, by simp [h]⟩
theorem all_end {α : Type} {l : List α} {p : α → Bool} (h : (l.take l.length).all p = true) : l.all p = true := by rwa [List.take_length] at h
theorem all_next {α : Type} {l : List α} {p : α → Bool} {k : Nat} {x : α} (hx : l[k]? = some x) (h : p x = true) (hk : (l.take k).all p = true) : (l.take (k + 1)).all p = true := by
 rw [List.take_add_one, hx]
 simp [hk, h]
set_option maxHeartbeats 2000000 in
theorem gate_c (rules : List S54) (A : Option Addr) (c : Nat) (who dn : ByteArray) (at1 : Value) (types : List ByteArray) (A2 : Option Addr) (c2 : Nat) (w : World) (hr : Kd.C k54 w A rules.length rules) (hc : rules.length ≤ c) (hm : RulesOk rules) (hd : dn.size ≤ 100000000) (h1 : at1.oneCell' = true) (hr2 : Kd.C Kd.string w A2 types.length types) (hc2 : types.length ≤ c2) (ht : TypesOk types) :
  Calls Tryz.prog 15 #[.slice A rules.length c, .string who, .agg #[.string dn, at1], .slice A2 types.length c2] w fun e w' => e = .returned (.bool (gateB rules who (keyB dn).1 types)) ∧ Below w.heap.size w w' := by
 have hmax : types.length ≤ 9223372036854775807 := hr2.2.1
 have HR := Lib.hid hr
 have HM := Lib.hid hm
 have HR2 := Lib.hid hr2
 have HT := Lib.hid ht
 clear hr hm hr2 ht
 go_enter Tryz.func15, Tryz.ntmps15
 go_wp2
 go_loopw [13] (fun i wr => ∃ k : Nat, k ≤ types.length ∧ i = .int .i64 k ∧ Hid ((types.take k).all (fun t => rightB rules who (keyB dn).1 t == 2) = true) ∧ Own w w.heap.size (.cells #[.string dn, at1] 25 (0, 0)) wr) (fun i _ => types.length - (intOf i).toNat)
 case atStart => exact ⟨0, Nat.zero_le _, rfl, Lib.hid (by simp), heap_alloc_new w _, (Below.refl _ _).alloc (Nat.le_refl _) _⟩
 case round =>
  obtain ⟨k, hk, rfl, HF, HO⟩ := hrel
  by_cases hlt : k < types.length
  ·obtain ⟨y, hy⟩ : ∃ y, types[k]? = some y := ⟨_, List.getElem?_eq_getElem hlt⟩
   obtain ⟨ad, e, x0⟩ := str_at (Kd.C_below HR2.out HO.2) hy
   cases e
   have hyt := HT.out y (List.mem_of_getElem? hy)
   have HY := Lib.hid hy
   clear hy
   have hlt' : (k : Int) < (types.length : Int) := by omega
   have s0 : wr.cell? ⟨w.heap.size, 0, none⟩ = some (.string dn) := blk_cell HO.1 0
   have s1 : wr.cell? ⟨w.heap.size, 1, none⟩ = some at1 := blk_cell HO.1 1
   cases hs : rightB rules who (keyB dn).1 y == 2
   ·have hs' : (rightB rules who (keyB dn).1 y != 2) = true := by simpa using hs
    have HS := Lib.hid hs
    clear hs
    go_wp2_with (go_at_call 10; refine (right_c rules _ _ who dn y at1 _ (Kd.C_below HR.out HO.2) hc HM.out hd hyt h1).mono ?_; rintro e w2 ⟨rfl, hb2⟩)
    go_ret
    exact ⟨ret_bool (all_here (p := fun t => rightB rules who (keyB dn).1 t == 2) HY.out HS.out).symm, (HO.step hb2).2⟩
   ·have hs' : (rightB rules who (keyB dn).1 y != 2) = false := by simpa using hs
    have HS := Lib.hid hs
    clear hs
    go_wp2_with (go_at_call 10; refine (right_c rules _ _ who dn y at1 _ (Kd.C_below HR.out HO.2) hc HM.out hd hyt h1).mono ?_; rintro e w2 ⟨rfl, hb2⟩)
    go_roundw
    case measure => simp [intOf]; omega
    case rel => exact ⟨k + 1, by omega, by go_num, Lib.hid (all_next HY.out HS.out HF.out), HO.step hb2⟩
  ·obtain rfl : k = types.length := by omega
   go_wp2
   go_ret
   exact ⟨ret_bool (all_end HF.out).symm, HO.2⟩
end Go.Proofs.YtflkghdndffacaaGreatDoor.C
namespace Go.Proofs.YtflkghdndffacaaGreatDoor.C
open Go.RowKit Go.Proofs.YtflkghdndffacaaGreatDoor.Sq Go.Proofs.YtflkghdndffacaaGreatDoor.H Go.Proofs.YtflkghdndffacaaGreatDoor.PA Go.Proofs.YtflkghdndffacaaGreatDoor.Pure Go.Proofs.YtflkghdndffacaaGreatDoorW.PrintWords Go.Proofs.YtflkghdndffacaaGreatDoorW.PrintLast Go.Proofs.YtflkghdndffacaaGreatDoorW.PrintMore
set_option linter.unusedVariables false
def idxF {α : Type} (l : List α) (p : α → Bool) : Int := if l.any p then ((l.findIdx p : Nat) : Int) else -1
theorem idxF_here {α : Type} {l : List α} {p : α → Bool} {k : Nat} {y : α} (hy : l[k]? = some y) (he : p y = true) (HF : ∀ z ∈ l.take k, p z = false) : idxF l p = k := by
 have hk : k < l.length := (List.getElem?_eq_some_iff.1 hy).1
 have hm : l.any p = true := List.any_eq_true.2 ⟨y, List.mem_of_getElem? hy, he⟩
 unfold idxF
 rw [if_pos hm]
 congr 1
 apply (List.findIdx_eq hk).2
 refine ⟨by rw [(List.getElem?_eq_some_iff.1 hy).2]; exact he, fun j hj => ?_⟩
 have : l[j] ∈ l.take k := by rw [List.mem_take_iff_getElem]; exact ⟨j, by omega, rfl⟩
 simpa using HF _ this
theorem idxF_none {α : Type} {l : List α} {p : α → Bool} (HF : ∀ z ∈ l.take l.length, p z = false) : idxF l p = -1 := by
 unfold idxF
 rw [if_neg]
 intro h
 obtain ⟨y, hy, he⟩ := List.any_eq_true.1 h
 rw [List.take_length] at HF
 rw [HF y hy] at he
 cases he
theorem idxF_sign {α : Type} (l : List α) (p : α → Bool) : decide (0 ≤ idxF l p) = l.any p := by
 unfold idxF
 split <;> simp_all
theorem none_next {α : Type} {l : List α} {p : α → Bool} {k : Nat} {y : α} (hy : l[k]? = some y) (he : p y = false) (HF : ∀ z ∈ l.take k, p z = false) : ∀ z ∈ l.take (k + 1), p z = false := by
 rw [List.take_add_one, hy]
 intro z hz
 rcases List.mem_append.1 hz with hz | hz
 ·exact HF z hz
 ·obtain rfl : z = y := by simpa using hz
  exact he
set_option maxHeartbeats 2000000 in
theorem indexBad_c (A : Option Addr) (c : Nat) (l : List ByteArray) (w : World) (hr : Kd.C Kd.string w A l.length l) (hc : l.length ≤ c) (ht : ∀ s ∈ l, s.size ≤ 9223372036854775806) :
  Calls Tryz.prog 54 #[.slice A l.length c, .func (.func 38) #[] #[]] w fun e w' => e = .returned (.int .i64 (idxF l typeBad)) ∧ Below w.heap.size w w' := by
 have hmax : l.length ≤ 9223372036854775807 := hr.2.1
 have HR := Lib.hid hr
 have HT := Lib.hid ht
 clear hr ht
 go_enter Tryz.func54, Tryz.ntmps54
 go_wp2
 go_loopw [8] (fun i wr => ∃ k : Nat, k ≤ l.length ∧ i = .int .i64 k ∧ Hid (∀ y ∈ l.take k, typeBad y = false) ∧ Hid (Below w.heap.size w wr)) (fun i _ => l.length - (intOf i).toNat)
 case atStart => exact ⟨0, Nat.zero_le _, rfl, Lib.hid (by simp), Lib.hid (Below.refl _ _)⟩
 case round =>
  obtain ⟨k, hk, rfl, HF, HB⟩ := hrel
  by_cases hlt : k < l.length
  ·obtain ⟨y, hy⟩ : ∃ y, l[k]? = some y := ⟨_, List.getElem?_eq_getElem hlt⟩
   obtain ⟨ad, e, hcell⟩ := str_at (Kd.C_below HR.out HB.out) hy
   cases e
   have hys := HT.out y (List.mem_of_getElem? hy)
   have HY := Lib.hid hy
   clear hy
   have hlt' : (k : Int) < (l.length : Int) := by omega
   cases hs : typeBad y
   ·have HS := Lib.hid hs
    go_wp2_with (go_at_call 38; refine (bad_c y hys _).mono ?_; rintro e w2 ⟨rfl, hb2⟩)
    go_roundw
    case measure => simp [intOf]; omega
    case rel => exact ⟨k + 1, by omega, by go_num, Lib.hid (none_next HY.out HS.out HF.out), Lib.hid (below_step HB.out hb2)⟩
   ·have HS := Lib.hid hs
    go_wp2_with (go_at_call 38; refine (bad_c y hys _).mono ?_; rintro e w2 ⟨rfl, hb2⟩)
    go_ret
    exact ⟨ret_int (idxF_here HY.out HS.out HF.out).symm, below_step HB.out hb2⟩
  ·obtain rfl : k = l.length := by omega
   go_wp2
   go_ret
   exact ⟨ret_int (idxF_none HF.out).symm, HB.out⟩
set_option maxHeartbeats 1000000 in
theorem anyBad_c (A : Option Addr) (c : Nat) (l : List ByteArray) (w : World) (hr : Kd.C Kd.string w A l.length l) (hc : l.length ≤ c) (ht : ∀ s ∈ l, s.size ≤ 9223372036854775806) :
  Calls Tryz.prog 37 #[.slice A l.length c, .func (.func 38) #[] #[]] w fun e w' => e = .returned (.bool (l.any typeBad)) ∧ Below w.heap.size w w' := by
 have HS := Lib.hid (idxF_sign l typeBad)
 have HR := Lib.hid hr
 have HT := Lib.hid ht
 clear hr ht
 go_enter Tryz.func37, Tryz.ntmps37
 go_wp2_with (go_at_call 54; refine (indexBad_c _ _ _ _ HR.out hc HT.out).mono ?_; rintro e w' ⟨rfl, hb⟩)
 go_ret
 exact ⟨ret_bool HS.out, hb⟩
def mayRB (r : S54) : Bool := whoOk r && ((keyB r.f2).2 && (decide (r.f4.length ≤ 20) && (!(r.f4.any typeBad) && (decide (0 ≤ r.f5) && decide (r.f5 ≤ 2)))))
theorem seven {p : Prop} (b1 b2 b3 b4 b5 : Bool) (h1 : b1 = false → p) (h2 : b1 = true → b2 = false → p) (h3 : b1 = true → b2 = true → b3 = false → p) (h4 : b1 = true → b2 = true → b3 = true → b4 = true → p) (h5 : b1 = true → b2 = true → b3 = true → b4 = false → b5 = false → p) (h6 : b1 = true → b2 = true → b3 = true → b4 = false → b5 = true → p) : p := by
 cases b1 <;> cases b2 <;> cases b3 <;> cases b4 <;> cases b5 <;> simp_all
def RuleFine (r : S54) : Prop := r.f1.size ≤ 100000000 ∧ r.f2.size ≤ 100000000 ∧ ∀ s ∈ r.f4, s.size ≤ 9223372036854775806
set_option maxHeartbeats 4000000 in
theorem mayR_c (r : S54) (A : Option Addr) (c : Nat) (w : World) (hr : Kd.string.C w A r.f4.length r.f4) (hc : r.f4.length ≤ c) (hf : RuleFine r) : Calls Tryz.prog 20 #[.agg (ruleV r A c)] w fun e w' => e = .returned (.bool (mayRB r)) ∧ Below w.heap.size w w' := by
 have HR := Lib.hid hr
 have HF := Lib.hid hf
 have HM : Hid (mayRB r = (whoOk r && ((keyB r.f2).2 && (decide (r.f4.length ≤ 20) && (!(r.f4.any typeBad) && (decide (0 ≤ r.f5) && decide (r.f5 ≤ 2))))))) := Lib.hid rfl
 unfold ruleV
 clear hr hf
 go_enter Tryz.func20, Tryz.ntmps20
 go_wp2_with fail
 refine (key_c _ HF.out.2.1 _).mono ?_
 rintro e w1 ⟨rfl, hb⟩
 have HO : Own w w.heap.size (.cells (ruleV r A c) 40 (0, 0)) w1 := Own.step ⟨heap_alloc_new w _, (Below.refl _ _).alloc (Nat.le_refl _) _⟩ hb
 obtain ⟨s0, s1, s2, s3, s4, s5⟩ := rule_cells HO.1
 clear hb
 go_wp2_with fail
 refine (anyBad_c A c r.f4 _ (Kd.C_below HR.out HO.2) hc HF.out.2.2).mono ?_
 rintro e w2 ⟨rfl, hb⟩
 have HO2 := HO.step hb
 obtain ⟨u0, u1, u2, u3, u4, u5⟩ := rule_cells HO2.1
 clear hb HO s0 s1 s2 s3 s4 s5
 go_wp2_with fail
 refine (mayWho_c r A c _ HF.out.1).mono ?_
 rintro e w3 ⟨rfl, hb⟩
 have HO3 := HO2.step hb
 obtain ⟨s0, s1, s2, s3, s4, s5⟩ := rule_cells HO3.1
 clear hb HO2 u0 u1 u2 u3 u4 u5
 have hl : decide ((r.f4.length : Int) ≤ 20) = decide (r.f4.length ≤ 20) := by simp; omega
 refine seven (whoOk r) (keyB r.f2).2 (decide (r.f4.length ≤ 20)) (r.f4.any typeBad) (decide (0 ≤ r.f5)) ?_ ?_ ?_ ?_ ?_ ?_
 all_goals
  intros
  go_wp2
  go_ret
  exact ⟨ret_bool (by rw [HM.out]; simp [*]), HO3.2⟩
set_option maxHeartbeats 1000000 in
theorem notMay_c (r : S54) (A : Option Addr) (c : Nat) (w : World) (hr : Kd.string.C w A r.f4.length r.f4) (hc : r.f4.length ≤ c) (hf : RuleFine r) : Calls Tryz.prog 19 #[.agg (ruleV r A c)] w fun e w' => e = .returned (.bool (!mayRB r)) ∧ Below w.heap.size w w' := by
 have HR := Lib.hid hr
 have HF := Lib.hid hf
 unfold ruleV
 clear hr hf
 go_enter Tryz.func19, Tryz.ntmps19
 go_wp2_with fail
 refine (mayR_c r A c _ (Kd.C_below HR.out (below_alloc (Below.refl _ _) _)) hc HF.out).mono ?_
 rintro e w1 ⟨rfl, hb⟩
 go_wp2
 go_ret
 exact ⟨rfl, below_step (below_alloc (Below.refl _ _) _) hb⟩
set_option maxHeartbeats 4000000 in
theorem indexMay_c (A : Option Addr) (c : Nat) (l : List S54) (w : World) (hr : Kd.C k54 w A l.length l) (hc : l.length ≤ c) (ht : ∀ r ∈ l, RuleFine r) :
  Calls Tryz.prog 36 #[.slice A l.length c, .func (.func 19) #[] #[]] w fun e w' => e = .returned (.int .i64 (idxF l fun r => !mayRB r)) ∧ Below w.heap.size w w' := by
 have hmax : l.length ≤ 9223372036854775807 := hr.2.1
 have HR := Lib.hid hr
 have HT := Lib.hid ht
 clear hr ht
 go_enter Tryz.func36, Tryz.ntmps36
 go_wp2
 go_loopw [8] (fun i wr => ∃ k : Nat, k ≤ l.length ∧ i = .int .i64 k ∧ Hid (∀ y ∈ l.take k, (!mayRB y) = false) ∧ Hid (Below w.heap.size w wr)) (fun i _ => l.length - (intOf i).toNat)
 case atStart => exact ⟨0, Nat.zero_le _, rfl, Lib.hid (by simp), Lib.hid (Below.refl _ _)⟩
 case round =>
  obtain ⟨k, hk, rfl, HF, HB⟩ := hrel
  by_cases hlt : k < l.length
  ·obtain ⟨y, hy⟩ : ∃ y, l[k]? = some y := ⟨_, List.getElem?_eq_getElem hlt⟩
   obtain ⟨ad, A4, c4, e, x0, x1, x2, x3, x4, x5, hl4, hi4⟩ := rule_at (Kd.C_below HR.out HB.out) hy
   cases e
   have hys := Lib.hid (HT.out y (List.mem_of_getElem? hy))
   have HY := Lib.hid hy
   clear hy
   have hlt' : (k : Int) < (l.length : Int) := by omega
   cases hs : mayRB y
   ·have HS := Lib.hid hs
    go_wp2_with (go_at_call 19; refine (notMay_c y A4 c4 _ hi4 hl4 hys.out).mono ?_; rintro e w2 ⟨rfl, hb2⟩)
    go_ret
    exact ⟨ret_int (idxF_here (p := fun r => !mayRB r) HY.out (by simp [HS.out]) HF.out).symm, below_step HB.out hb2⟩
   ·have HS := Lib.hid hs
    go_wp2_with (go_at_call 19; refine (notMay_c y A4 c4 _ hi4 hl4 hys.out).mono ?_; rintro e w2 ⟨rfl, hb2⟩)
    go_roundw
    case measure => simp [intOf]; omega
    case rel => exact ⟨k + 1, by omega, by go_num, Lib.hid (none_next (p := fun r => !mayRB r) HY.out (by simp [HS.out]) HF.out), Lib.hid (below_step HB.out hb2)⟩
  ·obtain rfl : k = l.length := by omega
   go_wp2
   go_ret
   exact ⟨ret_int (idxF_none (p := fun r => !mayRB r) HF.out).symm, HB.out⟩
set_option maxHeartbeats 1000000 in
theorem anyMay_c (A : Option Addr) (c : Nat) (l : List S54) (w : World) (hr : Kd.C k54 w A l.length l) (hc : l.length ≤ c) (ht : ∀ r ∈ l, RuleFine r) :
  Calls Tryz.prog 18 #[.slice A l.length c, .func (.func 19) #[] #[]] w fun e w' => e = .returned (.bool (l.any fun r => !mayRB r)) ∧ Below w.heap.size w w' := by
 have HS := Lib.hid (idxF_sign l fun r => !mayRB r)
 have HR := Lib.hid hr
 have HT := Lib.hid ht
 clear hr ht
 go_enter Tryz.func18, Tryz.ntmps18
 go_wp2_with (go_at_call 36; refine (indexMay_c _ _ _ _ HR.out hc HT.out).mono ?_; rintro e w' ⟨rfl, hb⟩)
 go_ret
 exact ⟨ret_bool HS.out, hb⟩
def mayB1 (l : List S54) : Bool := decide (l.length ≤ 40) && !(l.any fun r => !mayRB r)
set_option maxHeartbeats 1000000 in
theorem may_c (A : Option Addr) (c : Nat) (l : List S54) (w : World) (hr : Kd.C k54 w A l.length l) (hc : l.length ≤ c) (ht : ∀ r ∈ l, RuleFine r) :
  Calls Tryz.prog 7 #[.slice A l.length c] w fun e w' => e = .returned (.bool (mayB1 l)) ∧ Below w.heap.size w w' := by
 have HM : Hid (mayB1 l = (decide (l.length ≤ 40) && !(l.any fun r => !mayRB r))) := Lib.hid rfl
 have HR := Lib.hid hr
 have HT := Lib.hid ht
 clear hr ht
 by_cases hl : l.length ≤ 40
 ·have hd : decide ((l.length : Int) ≤ 40) = true := by simp; omega
  have HD : Hid (decide (l.length ≤ 40) = true) := Lib.hid (by simpa using hl)
  go_enter Tryz.func7, Tryz.ntmps7
  go_wp2_with (go_at_call 18; refine (anyMay_c _ _ _ _ HR.out hc HT.out).mono ?_; rintro e w' ⟨rfl, hb⟩)
  go_ret
  exact ⟨ret_bool (by rw [HM.out, HD.out]; rfl), hb⟩
 ·have hd : decide ((l.length : Int) ≤ 40) = false := by simp; omega
  have HD : Hid (decide (l.length ≤ 40) = false) := Lib.hid (by simpa using hl)
  go_enter Tryz.func7, Tryz.ntmps7
  go_wp2
  go_ret
  exact ⟨ret_bool (by rw [HM.out, HD.out]; rfl), Below.refl _ _⟩
end Go.Proofs.YtflkghdndffacaaGreatDoor.C
namespace Go.Proofs.YtflkghdndffacaaGreatDoor.C
open Go.RowKit Go.Proofs.YtflkghdndffacaaGreatDoor.Sq Go.Proofs.YtflkghdndffacaaGreatDoor.H Go.Proofs.YtflkghdndffacaaGreatDoor.PA Go.Proofs.YtflkghdndffacaaGreatDoor.Pure Go.Proofs.YtflkghdndffacaaGreatDoorW.PrintWords Go.Proofs.YtflkghdndffacaaGreatDoorW.PrintLast Go.Proofs.YtflkghdndffacaaGreatDoorW.PrintMore
set_option linter.unusedVariables false
theorem field45_0 (a : ByteArray) (b : Bool) (w : World) : (Instr.field 31 (.agg #[.string a, .bool b]) 0).run Tryz.prog w = .ok (.string a) w := by kernel_rfl
theorem rkey_v {s k1 : ByteArray} {k2 : Bool} (h : keyB s = (k1, k2)) (hs : s.size ≤ 1000000) (w : World) : Calls Tryz.prog 9 #[.string s] w fun e w' => e = .returned (.agg #[.string k1, .bool k2]) ∧ Below w.heap.size w w' := by
 have := rkey_c s hs w
 rwa [h] at this
theorem key_pair (s : ByteArray) : ∃ k1 k2, keyB s = (k1, k2) := ⟨_, _, rfl⟩
set_option maxHeartbeats 1000000 in
theorem ekey_c (dn : ByteArray) (at1 : Value) (w : World) (hd : dn.size ≤ 1000000) (h1 : at1.oneCell' = true) :
  Calls Tryz.prog 28 #[.agg #[.string dn, at1]] w fun e w' => e = .returned (.string (keyB dn).1) ∧ Below w.heap.size w w' := by
 obtain ⟨k1, k2, hk⟩ := key_pair dn
 rw [hk]
 have HK := Lib.hid (rkey_v hk hd)
 clear hd hk
 have hf45 := field45_0
 go_enter Tryz.func28, Tryz.ntmps28
 go_wp2_with (go_at_call 9; refine (HK.out _).mono ?_; rintro e w2 ⟨rfl, hb2⟩)
 go_ret
 exact ⟨rfl, below_step (below_alloc (Below.refl _ _) _) hb2⟩
theorem lower_c (s : ByteArray) (hs : s.size ≤ 9223372036854775806) (w : World) : Calls Tryz.prog 22 #[.string s] w fun e w' => e = .returned (.string (lowS s)) ∧ Below w.heap.size w w' := brookref1_Lower.calls s _ w (by unfold brookref1_Lower.f; rw [if_pos hs])
theorem mem_flip (l : List ByteArray) (x : ByteArray) : (l.any fun y => y.toList == x.toList) = memB l x := by
 unfold memB
 congr 1
 funext y
 exact Bool.beq_comm
set_option maxHeartbeats 1000000 in
theorem among_c (A : Option Addr) (c : Nat) (l : List ByteArray) (x : ByteArray) (w : World) (hr : Kd.C Kd.string w A l.length l) (hc : l.length ≤ c) :
  Calls Tryz.prog 30 #[.slice A l.length c, .string x] w fun e w' => e = .returned (.bool (memB l x)) ∧ w = w' := by
 have hmax : l.length ≤ 9223372036854775807 := hr.2.1
 have HR := Lib.hid hr
 have HX := Lib.hid (mem_flip l x)
 clear hr
 go_enter Tryz.func30, Tryz.ntmps30
 go_wp2
 go_loop [5] (fun i => ∃ k : Nat, k ≤ l.length ∧ i = .int .i64 k ∧ Hid ((l.take k).any (fun y => y.toList == x.toList) = false)) (fun i => l.length - (intOf i).toNat)
 case atStart => exact ⟨0, Nat.zero_le _, rfl, Lib.hid (by simp)⟩
 case round =>
  obtain ⟨k, hk, rfl, HF⟩ := hrel
  by_cases hlt : k < l.length
  ·obtain ⟨y, hy⟩ : ∃ y, l[k]? = some y := ⟨_, List.getElem?_eq_getElem hlt⟩
   obtain ⟨ad, e, hcell⟩ := str_at HR.out hy
   cases e
   have HY := Lib.hid hy
   clear hy
   have hlt' : (k : Int) < (l.length : Int) := by omega
   by_cases he : (y.toList == x.toList) = true
   ·go_wp2
    go_ret
    refine ⟨ret_bool ?_, rfl⟩
    rw [← HX.out, List.any_eq_true.2 ⟨y, List.mem_of_getElem? HY.out, he⟩]
   ·replace he := Bool.eq_false_iff.mpr he
    go_wp2
    go_round
    case measure => simp [intOf]; omega
    case rel =>
     refine ⟨k + 1, by omega, by go_num, Lib.hid ?_⟩
     rw [List.take_add_one, HY.out]
     simp [HF.out, he]
  ·obtain rfl : k = l.length := by omega
   go_wp2
   go_ret
   exact ⟨ret_bool (by rw [← HX.out, ← HF.out, List.take_length]), rfl⟩
def RulesMod (rules : List S54) : Prop := ∀ r ∈ rules, r.f1.size ≤ 1000000 ∧ r.f2.size ≤ 1000000
set_option maxHeartbeats 8000000 in
set_option maxRecDepth 100000 in
theorem rright_c (rules : List S54) (A : Option Addr) (c : Nat) (who dn typ : ByteArray) (at1 : Value) (w : World) (hr : Kd.C k54 w A rules.length rules) (hc : rules.length ≤ c) (hm : RulesMod rules) (hd : dn.size ≤ 1000000) (ht : typ.size ≤ 9223372036854775806) (h1 : at1.oneCell' = true) :
  Calls Tryz.prog 11 #[.slice A rules.length c, .string who, .agg #[.string dn, at1], .string typ] w fun e w' => e = .returned (.int .i64 (rightB rules who (keyB dn).1 typ)) ∧ Below w.heap.size w w' := by
 have hmax : rules.length ≤ 9223372036854775807 := hr.2.1
 have HR := Lib.hid hr
 clear hr
 have HM := Lib.hid hm
 clear hm
 have hks := keyB_size dn
 have HD := Lib.hid hd
 have hf45 := field45_0
 clear hd
 go_enter Tryz.func11, Tryz.ntmps11
 go_wp2_with (go_at_call 28; refine (ekey_c dn at1 _ HD.out h1).mono ?_; rintro e w1 ⟨rfl, hb⟩; have HB := Lib.hid (below_step (below_alloc (Below.refl w.heap.size w) _) hb); clear hb)
 go_loopw [10] (fun i wr => ∃ k : Nat, k ≤ rules.length ∧ i = .int .i64 k ∧ Hid (∀ x ∈ rules.take k, speaksB x who (keyB dn).1 typ = false) ∧ Hid (Below w.heap.size w wr)) (fun i _ => rules.length - (intOf i).toNat)
 case atStart => exact ⟨0, Nat.zero_le _, rfl, Lib.hid (by simp), HB⟩
 case round =>
  clear HB
  obtain ⟨k, hk, rfl, HF, HB⟩ := hrel
  by_cases hlt : k < rules.length
  ·obtain ⟨r, hy⟩ : ∃ r, rules[k]? = some r := ⟨_, List.getElem?_eq_getElem hlt⟩
   have HM2 := Lib.hid (HM.out r (List.mem_of_getElem? hy))
   obtain ⟨ad, A4, c4, e, x0, x1, x2, x3, x4, x5, hl4, hi4⟩ := rule_at (Kd.C_below HR.out HB.out) hy
   cases e
   have HY := Lib.hid hy
   clear hy
   have hlt' : (k : Int) < (rules.length : Int) := by omega
   go_wp2_with fail
   refine (rkey_c _ HM2.out.2 _).mono ?_
   rintro e w1 ⟨rfl, hb⟩
   have HO : Own wr wr.heap.size (.cells (ruleV r A4 c4) 40 (0, 0)) w1 := Own.step ⟨heap_alloc_new wr _, (Below.refl _ _).alloc (Nat.le_refl _) _⟩ hb
   have HI := Lib.hid hi4
   clear hb hi4 x0 x1 x2 x3 x4 x5
   go_upto_region 7 with (fail)
   go_cut [55] (fun v wc => v = .bool (notHereB r (keyB dn).1 typ) ∧ Own wr wr.heap.size (.cells (ruleV r A4 c4) 40 (0, 0)) wc)
   case first =>
    refine sq_ (Own wr wr.heap.size (.cells (ruleV r A4 c4) 40 (0, 0))) [] [(0,0,some 29),(0,1,some 30),(0,2,some 31),(0,3,some 32),(0,4,some 33),(1,5,some 34),(0,6,some 35),(0,7,some 36),(0,8,some 37),(2,9,some 38),(0,10,some 39),(0,11,some 40),(0,12,some 41),(0,13,some 42),(0,14,some 43),(1,15,some 44),(0,16,some 45),(0,17,some 46),(0,18,some 47),(0,19,some 48),(1,20,some 49),(0,21,some 50),(2,22,some 51),(2,23,some 52),(0,24,some 53),(0,25,some 54),(0,26,some 55)] (by kernel_rfl) (by kernel_rfl) HO.drew (fun hS => ?_)
    generalize w1.drew = W at hS ⊢
    refine six ((keyB dn).1.toList == (keyB r.f2).1.toList) r.f3 (underB (keyB dn).1 (keyB r.f2).1) (decide (0 < r.f4.length)) ?_ ?_ ?_ ?_ ?_ ?_
    all_goals
     intros
     repeat (first
      | (refine sq0 rfl ?_ (fun _ _ _ _ h => h) ?_; (focus rfl); apply Exists.intro; constructor; (focus (intro w'; go_simp; with_reducible rfl)); (simp only [Act.put, List.setIfInBounds_toArray, List.set_cons_zero, List.set_cons_succ]))
      | (refine sq0_off rfl ?_ (fun _ _ _ _ h => h) ?_; (focus rfl); (simp only [Act.put, List.setIfInBounds_toArray, List.set_cons_zero, List.set_cons_succ]))
      | (refine sq1 rfl ?_ (fun _ _ _ _ h => h) hS ?_; (focus rfl); apply Exists.intro; constructor; (focus (intro w' hS'; obtain ⟨s0, s1, s2, s3, s4, s5⟩ := rule_cells hS'.1; go_simp; with_reducible rfl)); (simp only [Act.put, List.setIfInBounds_toArray, List.set_cons_zero, List.set_cons_succ]))
      | (refine sq1_off rfl ?_ (fun _ _ _ _ h => h) hS ?_; (focus rfl); (simp only [Act.put, List.setIfInBounds_toArray, List.set_cons_zero, List.set_cons_succ]))
      | (refine sq_call rfl Tryz.func29 (by kernel_rfl) rfl #[.string (keyB dn).1, .string (keyB r.f2).1] rfl ?_ rfl ?_ ?_; (focus rfl); (focus ((try simp only [List.map_toArray, List.map_cons, List.map_nil]); first | done | rfl)); refine (runder_c _ _ hks _).mono ?_; rintro e w2 ⟨rfl, hd2⟩; refine ⟨_, rfl, Own.step hS hd2.below, fun hS2 => ?_⟩; clear hd2 hS; have hS := hS2; clear hS2; (simp only [Act.put, List.setIfInBounds_toArray, List.set_cons_zero, List.set_cons_succ]))
      | (refine sq_call rfl Tryz.func22 (by kernel_rfl) rfl #[.string typ] rfl ?_ rfl ?_ ?_; (focus rfl); (focus ((try simp only [List.map_toArray, List.map_cons, List.map_nil]); first | done | rfl)); refine (lower_c _ ht _).mono ?_; rintro e w2 ⟨rfl, hb⟩; refine ⟨_, rfl, Own.step hS hb, fun hS2 => ?_⟩; clear hb hS; have hS := hS2; clear hS2; (simp only [Act.put, List.setIfInBounds_toArray, List.set_cons_zero, List.set_cons_succ]))
      | (refine sq_call rfl Tryz.func30 (by kernel_rfl) rfl #[.slice A4 r.f4.length c4, .string (lowS typ)] rfl ?_ rfl ?_ ?_; (focus rfl); (focus ((try simp only [List.map_toArray, List.map_cons, List.map_nil]); first | done | rfl)); refine (among_c _ _ _ _ _ (Kd.C_below HI.out hS.2) hl4).mono ?_; rintro e w2 ⟨rfl, rfl⟩; refine ⟨_, rfl, hS, fun hS2 => ?_⟩; clear hS2; (simp only [Act.put, List.setIfInBounds_toArray, List.set_cons_zero, List.set_cons_succ]))
      | (refine sq_off rfl ?_ hS ?_; (focus rfl); (simp only [Act.put, List.setIfInBounds_toArray, List.set_cons_zero, List.set_cons_succ])))
     refine sq_end ?_
     go_wp2
     go_meet
     case rel => exact ⟨by simp [notHereB, *], hS⟩
   case rest =>
    obtain ⟨rfl, hO⟩ := hcut
    have HB2 := Lib.hid (below_step HB.out hO.2)
    cases hn : notHereB r (keyB dn).1 typ
    case true =>
     have HS : Hid (speaksB r who (keyB dn).1 typ = false) := Lib.hid (by simp [speaksB, hn])
     go_wp2
     go_roundw
     case measure => simp [intOf]; omega
     case rel => exact ⟨k + 1, by omega, by go_num, Lib.hid (none_next (p := fun x => speaksB x who (keyB dn).1 typ) HY.out HS.out HF.out), HB2⟩
    obtain ⟨s0, s1, s2, s3, s4, s5⟩ := rule_cells hO.1
    have HS : Hid (speaksB r who (keyB dn).1 typ = whoB r who (keyB dn).1) := Lib.hid (by simp [speaksB, hn])
    clear hn
    clear s2 s3 s4
    by_cases e2 : r.f0 = 2
    ·cases he : who.toList.isEmpty
     ·have HW : Hid (whoB r who (keyB dn).1 = true) := Lib.hid (by cases h : who.toList <;> simp_all [whoB])
      go_wp2
      go_ret
      exact ⟨ret_int (right_here HY.out (HS.out.trans HW.out) HF.out).symm, HB2.out⟩
     ·have HW : Hid (whoB r who (keyB dn).1 = false) := Lib.hid (by cases h : who.toList <;> simp_all [whoB])
      go_wp2
      go_roundw
      case measure => simp [intOf]; omega
      case rel => exact ⟨k + 1, by omega, by go_num, Lib.hid (none_next (p := fun x => speaksB x who (keyB dn).1 typ) HY.out (HS.out.trans HW.out) HF.out), HB2⟩
    have b2 : (r.f0 == 2) = false := by simp [e2]
    by_cases e3 : r.f0 = 3
    ·clear b2
     cases he : who.toList == (keyB dn).1.toList
     ·have HW : Hid (whoB r who (keyB dn).1 = false) := Lib.hid (by simp [whoB, e3, he])
      clear e2
      go_wp2
      go_roundw
      case measure => simp [intOf]; omega
      case rel => exact ⟨k + 1, by omega, by go_num, Lib.hid (none_next (p := fun x => speaksB x who (keyB dn).1 typ) HY.out (HS.out.trans HW.out) HF.out), HB2⟩
     ·have HW : Hid (whoB r who (keyB dn).1 = true) := Lib.hid (by simp [whoB, e3, he])
      clear e2
      go_wp2
      go_ret
      exact ⟨ret_int (right_here HY.out (HS.out.trans HW.out) HF.out).symm, HB2.out⟩
    have b3 : (r.f0 == 3) = false := by simp [e3]
    by_cases e4 : r.f0 = 4
    ·clear b2 b3
     cases he : who.toList == (keyB r.f1).1.toList
     ·have HW : Hid (whoB r who (keyB dn).1 = false) := Lib.hid (by simp [whoB, e4, he])
      clear e2 e3
      go_wp2_with (go_at_call 9; refine (rkey_c _ HM2.out.1 _).mono ?_; rintro e w3 ⟨rfl, hb⟩; have hO3 := hO.step hb; have HB3 := Lib.hid (below_step HB2.out hb); obtain ⟨u0, u1, u2, u3, u4, u5⟩ := rule_cells hO3.1; clear hb u1 u2 u3 u4)
      go_roundw
      case measure => simp [intOf]; omega
      case rel => exact ⟨k + 1, by omega, by go_num, Lib.hid (none_next (p := fun x => speaksB x who (keyB dn).1 typ) HY.out (HS.out.trans HW.out) HF.out), HB3⟩
     ·have HW : Hid (whoB r who (keyB dn).1 = true) := Lib.hid (by simp [whoB, e4, he])
      clear e2 e3
      go_wp2_with (go_at_call 9; refine (rkey_c _ HM2.out.1 _).mono ?_; rintro e w3 ⟨rfl, hb⟩; have hO3 := hO.step hb; have HB3 := Lib.hid (below_step HB2.out hb); obtain ⟨u0, u1, u2, u3, u4, u5⟩ := rule_cells hO3.1; clear hb u1 u2 u3 u4)
      go_ret
      exact ⟨ret_int (right_here HY.out (HS.out.trans HW.out) HF.out).symm, HB3.out⟩
    ·have b4 : (r.f0 == 4) = false := by simp [e4]
     have HW : Hid (whoB r who (keyB dn).1 = true) := Lib.hid (by simp [whoB, e2, e3, e4])
     clear e2 e3 e4
     go_wp2
     go_ret
     exact ⟨ret_int (right_here HY.out (HS.out.trans HW.out) HF.out).symm, HB2.out⟩
  ·obtain rfl : k = rules.length := by omega
   go_wp2
   go_ret
   exact ⟨ret_int (right_none HF.out).symm, HB.out⟩
end Go.Proofs.YtflkghdndffacaaGreatDoor.C
namespace Go.Proofs.YtflkghdndffacaaGreatDoor.C
open Go.RowKit Go.Proofs.YtflkghdndffacaaGreatDoor.H Go.Proofs.YtflkghdndffacaaGreatDoor.PD Go.Proofs.YtflkghdndffacaaGreatDoor.Pure Go.Proofs.YtflkghdndffacaaGreatDoorW.PrintWords Go.Proofs.YtflkghdndffacaaGreatDoorW.PrintLast Go.Proofs.YtflkghdndffacaaGreatDoorW.PrintMore
set_option linter.unusedVariables false
def RowOut (w : World) (l : List ByteArray) (e : Ending) (w' : World) : Prop := ∃ v, e = .returned v ∧ Kd.R Kd.string 9 w' w.heap.size (fun _ => True) v l ∧ Below w.heap.size w w'
set_option maxHeartbeats 1000000 in
set_option maxRecDepth 100000 in
theorem clone_c (A : Option Addr) (c : Nat) (l : List ByteArray) (w : World) (hr : Kd.C Kd.string w A l.length l) (hc : l.length ≤ c) (hb : l.length * 16 ≤ 140737488355328) :
  Calls Tryz.prog 32 #[.slice A l.length c] w (RowOut w l) := by
 have HR := Lib.hid hr
 have HL := Lib.hid hb
 clear hr hb
 cases A with
 | none =>
  obtain rfl : l = [] := by
   cases l with
   | nil => rfl
   | cons x l => obtain ⟨ad, e, _⟩ := HR.out.2.2 (by simp); cases e
  have heq := fun W : World => Lib.run_eql_slice_nil (P := Tryz.prog) W 26 9 none 0 c 0 0 Tryz.underlying26
  go_enter Tryz.func32, Tryz.ntmps32
  go_wp2
  go_ret
  exact ⟨_, rfl, Kd.R_nil _ _ _ _ _, Below.refl _ _⟩
 | some ad =>
  have heq := fun W : World => Lib.run_eql_slice_nil (P := Tryz.prog) W 26 9 (some ad) l.length c 0 0 Tryz.underlying26
  go_enter Tryz.func32, Tryz.ntmps32
  go_wp2_with (at_builtin; refine Kd.R_append_row (w0 := w) (h1 := fun _ => rfl) (W := w.alloc (.cells #[] 9)) Value.string ByteArray.empty w.heap.size rfl (.tmp 5) (.tmp 6) 26 9 (.string ⟨#[]⟩) 16 rfl Tryz.underlying26 PA.info9 rfl (by decide) _ [] l (some ad) l.length c (fun _ => True) rfl rfl (fun _ _ => trivial) (Kd.R_of_own (own_lit_of (enc := Value.string) w w.heap.size 9 [] (Nat.le_refl _) (by decide)) (fun _ _ => trivial)) (Kd.C_below HR.out (below_alloc (Below.refl _ _) _)) (below_alloc (Below.refl _ _) _) (by simp) (by have := HL.out; simpa using this) ?_; intro v1 w1 hR hB _ _)
  go_ret
  exact ⟨_, rfl, hR, hB⟩
end Go.Proofs.YtflkghdndffacaaGreatDoor.C
namespace Go.Proofs.YtflkghdndffacaaGreatDoor.C
open Go.RowKit Go.Proofs.YtflkghdndffacaaGreatDoor.Sq Go.Proofs.YtflkghdndffacaaGreatDoor.H Go.Proofs.YtflkghdndffacaaGreatDoor.PA Go.Proofs.YtflkghdndffacaaGreatDoor.PM Go.Proofs.YtflkghdndffacaaGreatDoor.Pure Go.Proofs.YtflkghdndffacaaGreatDoorW.PrintWords Go.Proofs.YtflkghdndffacaaGreatDoorW.PrintLast Go.Proofs.YtflkghdndffacaaGreatDoorW.PrintMore
set_option linter.unusedVariables false
theorem low_low (s : ByteArray) : lowS (lowS s) = lowS s := by
 unfold lowS
 simp only [lowL_lowL]
theorem low_size (s : ByteArray) : (lowS s).size = s.size := by
 have : (lowS s).size = (lowL (bl s)).length := by
  unfold lowS
  exact B_size _
 rw [this, lowL_length, bl_len]
set_option maxHeartbeats 4000000 in
theorem rrule_c (s : ByteArray) (hs : s.size ≤ 9223372036854775806) (w : World) : Calls Tryz.prog 21 #[.string s] w fun e w' => e = .returned (.int .i64 (typeN (lowS s))) ∧ Below w.heap.size w w' := by
 have HN : ∀ t : ByteArray, Hid (typeN t = (match_rules.f t).getD 0) := fun t => Lib.hid rfl
 generalize hg : lowS s = t
 have HL := Lib.hid (fun W => lower_c s hs W)
 rw [hg] at HL
 clear hg
 by_cases h0 : t.toList = [111, 98, 106, 101, 99, 116, 99, 108, 97, 115, 115]
 ·have HT : Hid (typeN t = 1) := Lib.hid (by rw [(HN t).out]; simp [match_rules.f, h0])
  go_enter Tryz.func21, Tryz.ntmps21
  go_wp2_with (go_at_call 22; refine (HL.out _).mono ?_; rintro e w' ⟨rfl, hb⟩)
  go_ret
  exact ⟨ret_int HT.out.symm, hb⟩
 have g0 : (t.toList == [111, 98, 106, 101, 99, 116, 99, 108, 97, 115, 115]) = false := by simpa using h0
 by_cases h1 : t.toList = [99, 110]
 ·have HT : Hid (typeN t = 1) := Lib.hid (by rw [(HN t).out]; simp [match_rules.f, h1])
  clear g0
  go_enter Tryz.func21, Tryz.ntmps21
  go_wp2_with (go_at_call 22; refine (HL.out _).mono ?_; rintro e w' ⟨rfl, hb⟩)
  go_ret
  exact ⟨ret_int HT.out.symm, hb⟩
 have g1 : (t.toList == [99, 110]) = false := by simpa using h1
 by_cases h2 : t.toList = [115, 110]
 ·have HT : Hid (typeN t = 1) := Lib.hid (by rw [(HN t).out]; simp [match_rules.f, h2])
  clear g0 g1
  go_enter Tryz.func21, Tryz.ntmps21
  go_wp2_with (go_at_call 22; refine (HL.out _).mono ?_; rintro e w' ⟨rfl, hb⟩)
  go_ret
  exact ⟨ret_int HT.out.symm, hb⟩
 have g2 : (t.toList == [115, 110]) = false := by simpa using h2
 by_cases h3 : t.toList = [111]
 ·have HT : Hid (typeN t = 1) := Lib.hid (by rw [(HN t).out]; simp [match_rules.f, h3])
  clear g0 g1 g2
  go_enter Tryz.func21, Tryz.ntmps21
  go_wp2_with (go_at_call 22; refine (HL.out _).mono ?_; rintro e w' ⟨rfl, hb⟩)
  go_ret
  exact ⟨ret_int HT.out.symm, hb⟩
 have g3 : (t.toList == [111]) = false := by simpa using h3
 by_cases h4 : t.toList = [111, 117]
 ·have HT : Hid (typeN t = 1) := Lib.hid (by rw [(HN t).out]; simp [match_rules.f, h4])
  clear g0 g1 g2 g3
  go_enter Tryz.func21, Tryz.ntmps21
  go_wp2_with (go_at_call 22; refine (HL.out _).mono ?_; rintro e w' ⟨rfl, hb⟩)
  go_ret
  exact ⟨ret_int HT.out.symm, hb⟩
 have g4 : (t.toList == [111, 117]) = false := by simpa using h4
 by_cases h5 : t.toList = [117, 105, 100]
 ·have HT : Hid (typeN t = 1) := Lib.hid (by rw [(HN t).out]; simp [match_rules.f, h5])
  clear g0 g1 g2 g3 g4
  go_enter Tryz.func21, Tryz.ntmps21
  go_wp2_with (go_at_call 22; refine (HL.out _).mono ?_; rintro e w' ⟨rfl, hb⟩)
  go_ret
  exact ⟨ret_int HT.out.symm, hb⟩
 have g5 : (t.toList == [117, 105, 100]) = false := by simpa using h5
 by_cases h6 : t.toList = [109, 97, 105, 108]
 ·have HT : Hid (typeN t = 1) := Lib.hid (by rw [(HN t).out]; simp [match_rules.f, h6])
  clear g0 g1 g2 g3 g4 g5
  go_enter Tryz.func21, Tryz.ntmps21
  go_wp2_with (go_at_call 22; refine (HL.out _).mono ?_; rintro e w' ⟨rfl, hb⟩)
  go_ret
  exact ⟨ret_int HT.out.symm, hb⟩
 have g6 : (t.toList == [109, 97, 105, 108]) = false := by simpa using h6
 by_cases h7 : t.toList = [100, 101, 115, 99, 114, 105, 112, 116, 105, 111, 110]
 ·have HT : Hid (typeN t = 1) := Lib.hid (by rw [(HN t).out]; simp [match_rules.f, h7])
  clear g0 g1 g2 g3 g4 g5 g6
  go_enter Tryz.func21, Tryz.ntmps21
  go_wp2_with (go_at_call 22; refine (HL.out _).mono ?_; rintro e w' ⟨rfl, hb⟩)
  go_ret
  exact ⟨ret_int HT.out.symm, hb⟩
 have g7 : (t.toList == [100, 101, 115, 99, 114, 105, 112, 116, 105, 111, 110]) = false := by simpa using h7
 by_cases h8 : t.toList = [117, 105, 100, 110, 117, 109, 98, 101, 114]
 ·have HT : Hid (typeN t = 2) := Lib.hid (by rw [(HN t).out]; simp [match_rules.f, h8])
  clear g0 g1 g2 g3 g4 g5 g6 g7
  go_enter Tryz.func21, Tryz.ntmps21
  go_wp2_with (go_at_call 22; refine (HL.out _).mono ?_; rintro e w' ⟨rfl, hb⟩)
  go_ret
  exact ⟨ret_int HT.out.symm, hb⟩
 have g8 : (t.toList == [117, 105, 100, 110, 117, 109, 98, 101, 114]) = false := by simpa using h8
 by_cases h9 : t.toList = [109, 101, 109, 98, 101, 114]
 ·have HT : Hid (typeN t = 3) := Lib.hid (by rw [(HN t).out]; simp [match_rules.f, h9])
  clear g0 g1 g2 g3 g4 g5 g6 g7 g8
  go_enter Tryz.func21, Tryz.ntmps21
  go_wp2_with (go_at_call 22; refine (HL.out _).mono ?_; rintro e w' ⟨rfl, hb⟩)
  go_ret
  exact ⟨ret_int HT.out.symm, hb⟩
 have g9 : (t.toList == [109, 101, 109, 98, 101, 114]) = false := by simpa using h9
 by_cases h10 : t.toList = [117, 115, 101, 114, 112, 97, 115, 115, 119, 111, 114, 100]
 ·have HT : Hid (typeN t = 4) := Lib.hid (by rw [(HN t).out]; simp [match_rules.f, h10])
  clear g0 g1 g2 g3 g4 g5 g6 g7 g8 g9
  go_enter Tryz.func21, Tryz.ntmps21
  go_wp2_with (go_at_call 22; refine (HL.out _).mono ?_; rintro e w' ⟨rfl, hb⟩)
  go_ret
  exact ⟨ret_int HT.out.symm, hb⟩
 have g10 : (t.toList == [117, 115, 101, 114, 112, 97, 115, 115, 119, 111, 114, 100]) = false := by simpa using h10
 have HT : Hid (typeN t = 0) := Lib.hid (by rw [(HN t).out]; simp [match_rules.f, h0, h1, h2, h3, h4, h5, h6, h7, h8, h9, h10])
 clear h0 h1 h2 h3 h4 h5 h6 h7 h8 h9 h10
 go_enter Tryz.func21, Tryz.ntmps21
 go_wp2_with (go_at_call 22; refine (HL.out _).mono ?_; rintro e w' ⟨rfl, hb⟩)
 go_ret
 exact ⟨ret_int HT.out.symm, hb⟩
set_option maxHeartbeats 2000000 in
theorem rcanon_c (s : ByteArray) (hs : s.size ≤ 9223372036854775806) (w : World) : Calls Tryz.prog 53 #[.string s] w fun e w' => e = .returned (.agg #[.string (canonB s).1, .bool (canonB s).2]) ∧ Below w.heap.size w w' := by
 have hs2 : (lowS s).size ≤ 9223372036854775806 := by rw [low_size]; exact hs
 have HC : Hid (canonB s = if typeN (lowS s) = 0 then (⟨#[]⟩, false) else (lowS s, true)) := Lib.hid rfl
 have HL := Lib.hid (fun W => lower_c s hs W)
 have HR := Lib.hid (fun W => rrule_c (lowS s) hs2 W)
 rw [low_low] at HR
 generalize lowS s = t at *
 generalize typeN t = n at *
 generalize canonB s = r at *
 clear hs hs2
 go_enter Tryz.func53, Tryz.ntmps53
 go_wp2_with fail
 refine (HL.out _).mono ?_
 rintro e w1 ⟨rfl, hb⟩
 have HO : Own w w.heap.size (.cells #[.string ⟨#[]⟩, .bool false] 31 (0, 0)) w1 := Own.step ⟨heap_alloc_new w _, (Below.refl _ _).alloc (Nat.le_refl _) _⟩ hb
 clear hb
 go_wp2_with fail
 refine (HR.out _).mono ?_
 rintro e w2 ⟨rfl, hb⟩
 have HO2 := HO.step hb
 clear hb HO
 have s0 : w2.cell? ⟨w.heap.size, 0, none⟩ = some (.string ⟨#[]⟩) := blk_cell HO2.1 0
 have s1 : w2.cell? ⟨w.heap.size, 1, none⟩ = some (.bool false) := blk_cell HO2.1 1
 have f0 := blk_frozen HO2.1 0
 have f1 := blk_frozen HO2.1 1
 by_cases h0 : n = 0
 ·have HX : Hid (r = (⟨#[]⟩, false)) := Lib.hid (by rw [HC.out, if_pos h0])
  subst h0
  go_wp2
  refine bodyPost_ret (results_cell_row rfl _ _ w.heap.size 31 #[.string ⟨#[]⟩, .bool false] (0, 0) _ rfl (blk_put (blk_put HO2.1 0 (.string ⟨#[]⟩) rfl) 1 (.bool false) rfl) Tryz.underlying31 rfl (by kernel_rfl)) rfl ?_
  rw [HX.out]
  exact ⟨rfl, below_set (below_set HO2.2 (Nat.le_refl _)) (Nat.le_refl _)⟩
 ·have h0b : (n == 0) = false := by simpa using h0
  have HX : Hid (r = (t, true)) := Lib.hid (by rw [HC.out, if_neg h0])
  clear h0
  go_wp2
  refine bodyPost_ret (results_cell_row rfl _ _ w.heap.size 31 #[.string t, .bool true] (0, 0) _ rfl (blk_put (blk_put HO2.1 0 (.string t) rfl) 1 (.bool true) rfl) Tryz.underlying31 rfl (by kernel_rfl)) rfl ?_
  rw [HX.out]
  exact ⟨rfl, below_set (below_set HO2.2 (Nat.le_refl _)) (Nat.le_refl _)⟩
def namesL : List ByteArray := [⟨#[111, 61, 120]⟩, ⟨#[111, 117, 61, 97, 44, 111, 61, 120]⟩, ⟨#[111, 117, 61, 98, 44, 111, 61, 120]⟩, ⟨#[99, 110, 61, 110, 48, 44, 111, 117, 61, 97, 44, 111, 61, 120]⟩, ⟨#[99, 110, 61, 110, 49, 44, 111, 117, 61, 97, 44, 111, 61, 120]⟩, ⟨#[99, 110, 61, 110, 50, 44, 111, 117, 61, 98, 44, 111, 61, 120]⟩, ⟨#[99, 110, 61, 110, 51, 44, 111, 61, 120]⟩, ⟨#[99, 110, 61, 110, 52]⟩, ⟨#[111, 117, 61, 99, 44, 111, 117, 61, 97, 44, 111, 61, 120]⟩, ⟨#[99, 110, 61, 110, 53, 44, 111, 117, 61, 99, 44, 111, 117, 61, 97, 44, 111, 61, 120]⟩, ⟨#[111, 61, 121]⟩, ⟨#[99, 110, 61, 110, 48, 44, 111, 61, 121]⟩]
set_option maxHeartbeats 1000000 in
set_option maxRecDepth 100000 in
theorem names_c (w : World) : Calls Tryz.prog 33 #[] w (RowOut w namesL) := by
 go_enter Tryz.func33, Tryz.ntmps33
 go_wp2
 go_ret
 exact ⟨_, rfl, Kd.R_of_own (own_lit_of (enc := Value.string) w w.heap.size 9 namesL (Nat.le_refl _) (by decide)) (fun _ _ => trivial), below_alloc (Below.refl _ _) _⟩
end Go.Proofs.YtflkghdndffacaaGreatDoor.C
namespace Go.Proofs.YtflkghdndffacaaGreatDoor.C
open Go.RowKit Go.Proofs.YtflkghdndffacaaGreatDoor.Sq Go.Proofs.YtflkghdndffacaaGreatDoor.H Go.Proofs.YtflkghdndffacaaGreatDoor.PA Go.Proofs.YtflkghdndffacaaGreatDoor.Pure Go.Proofs.YtflkghdndffacaaGreatDoorW.PrintWords Go.Proofs.YtflkghdndffacaaGreatDoorW.PrintLast Go.Proofs.YtflkghdndffacaaGreatDoorW.PrintMore
set_option linter.unusedVariables false
def ShortOut (w : World) (e : Ending) (w' : World) : Prop := ∃ s : ByteArray, s.size ≤ 3 ∧ e = .returned (.string s) ∧ Below w.heap.size w w'
def Fits (u : Int) (s : ByteArray) : Prop := (s.size = 0 ∧ u ≤ 255) ∨ (s.size = 1 ∧ u ≤ 25) ∨ (s.size = 2 ∧ u ≤ 2)
theorem Fits.next {u : Int} {s : ByteArray} {d : Int} (h : Fits u s) (h0 : 10 ≤ u) : Fits (u / 10) (strOfNums [d] ++ s) := by
 unfold Fits at *
 rw [ByteArray.size_append]
 have : (strOfNums [d]).size = 1 := rfl
 omega
set_option maxHeartbeats 2000000 in
set_option maxRecDepth 100000 in
theorem digits_c (n : Int) (h0 : 0 ≤ n) (h1 : n ≤ 255) (w : World) : Calls Tryz.prog 34 #[.int .i64 n] w (ShortOut w) := by
 have hn0 : decide (n < 0) = false := by simp; omega
 go_enter Tryz.func34, Tryz.ntmps34
 go_wp2
 go_loopw [3, 4] (fun x y wr => ∃ (u : Int) (s : ByteArray), 0 ≤ u ∧ u ≤ 255 ∧ x = .int .u64 u ∧ y = .string s ∧ Hid (Fits u s) ∧ Hid (Below w.heap.size w wr)) (fun x _ _ => (intOf x).toNat)
 case atStart => exact ⟨n, ⟨#[]⟩, h0, h1, rfl, rfl, Lib.hid (Or.inl ⟨rfl, h1⟩), Lib.hid (Below.refl _ _)⟩
 case round =>
  obtain ⟨u, s, hu0, hu1, rfl, rfl, HF, HB⟩ := hrel
  by_cases hlt : 10 ≤ u
  ·have hd : decide ((10 : Int) ≤ u) = true := by simp; omega
   have hcv : (convert 69 9 (.slice (some ⟨wr.heap.size, 0, none⟩) 1 1)).run Tryz.prog (wr.alloc (.cells #[.int .u8 (48 + u % 10)] 5)) = .ok (.string (strOfNums [48 + u % 10])) (wr.alloc (.cells #[.int .u8 (48 + u % 10)] 5)) := own_string Tryz.underlying69 Tryz.underlying5 Tryz.underlying9 (own_lit wr wr.heap.size 5 .u8 [48 + u % 10] (Nat.le_refl _) (by simp))
   have hz : (strOfNums [48 + u % 10]).size = 1 := rfl
   have hs : s.size ≤ 2 := by rcases HF.out with h | h | h <;> omega
   have HB2 := Lib.hid (below_step HB.out (below_alloc (Below.refl wr.heap.size wr) (.cells #[.int .u8 (48 + u % 10)] 5)))
   have HF2 := Lib.hid (HF.out.next (d := 48 + u % 10) hlt)
   clear HF HB
   go_wp2
   go_roundw
   case measure => simp [intOf]; omega
   case rel => exact ⟨u / 10, _, by omega, by omega, rfl, rfl, HF2, HB2⟩
  ·have hd : decide ((10 : Int) ≤ u) = false := by simp; omega
   have hcv : (convert 69 9 (.slice (some ⟨wr.heap.size, 0, none⟩) 1 1)).run Tryz.prog (wr.alloc (.cells #[.int .u8 (48 + u)] 5)) = .ok (.string (strOfNums [48 + u])) (wr.alloc (.cells #[.int .u8 (48 + u)] 5)) := own_string Tryz.underlying69 Tryz.underlying5 Tryz.underlying9 (own_lit wr wr.heap.size 5 .u8 [48 + u] (Nat.le_refl _) (by simp))
   have hz : (strOfNums [48 + u]).size = 1 := rfl
   have hs : s.size ≤ 2 := by rcases HF.out with h | h | h <;> omega
   have HB2 := Lib.hid (below_step HB.out (below_alloc (Below.refl wr.heap.size wr) (.cells #[.int .u8 (48 + u)] 5)))
   clear HF HB
   go_wp2
   go_ret
   refine ⟨_, ?_, rfl, HB2.out⟩
   show (strOfNums [48 + u] ++ s).size ≤ 3
   rw [ByteArray.size_append]
   omega
end Go.Proofs.YtflkghdndffacaaGreatDoor.C
namespace Go.Proofs.YtflkghdndffacaaGreatDoor.C
open Go.RowKit Go.Proofs.YtflkghdndffacaaGreatDoor.Sq Go.Proofs.YtflkghdndffacaaGreatDoor.H Go.Proofs.YtflkghdndffacaaGreatDoor.PA Go.Proofs.YtflkghdndffacaaGreatDoor.Pure Go.Proofs.YtflkghdndffacaaGreatDoorW.PrintWords Go.Proofs.YtflkghdndffacaaGreatDoorW.PrintLast Go.Proofs.YtflkghdndffacaaGreatDoorW.PrintMore
set_option linter.unusedVariables false
theorem attr_at {w : World} {A : Option Addr} {n : Nat} {xs : List S69} (h : Kd.C k69 w A n xs) {k : Nat} {r : S69} (hr : xs[k]? = some r) : ∃ ad A1 c1, A = some ad ∧ w.cell? (ad.add (k * 2)) = some (.string r.f0) ∧ w.cell? ⟨(ad.add (k * 2)).block, (ad.add (k * 2)).off + 1, none⟩ = some (.slice A1 r.f1.length c1) ∧ r.f1.length ≤ c1 ∧ Kd.string.C w A1 r.f1.length r.f1 := by
 have hk : k < xs.length := (List.getElem?_eq_some_iff.1 hr).1
 have hn : xs.length = n := h.1
 have e : rd_T69 xs (k : Int) = r := by simp [rd_T69, List.getD_eq_getElem?_getD, hr]
 have := at_T69 h (k : Int) (by omega) (by omega)
 rw [e] at this
 exact this
theorem cell_alloc {w : World} {a : Addr} {v : Value} (h : w.cell? a = some v) (o : Obj) : (w.alloc o).cell? a = some v := (World.cell?_alloc_lt w o a (World.block_lt_of_cell? w a h)).trans h
def AttrsOk (l : List S69) : Prop := l.length ≤ 1000000 ∧ ∀ a ∈ l, a.f0.size ≤ 1000000000 ∧ a.f1.length ≤ 1000000
def seesB (rules : List S54) (who key : ByteArray) (a : S69) : Bool := decide (1 ≤ rightB rules who key a.f0)
def viewB (rules : List S54) (who key : ByteArray) (l : List S69) : List S69 := l.filter (seesB rules who key)
def EntryOut (w : World) (dn : ByteArray) (l : List S69) (e : Ending) (w' : World) : Prop := ∃ A c, e = .returned (.agg #[.string dn, .slice A l.length c]) ∧ l.length ≤ c ∧ Kd.C k69 w' A l.length l ∧ Below w.heap.size w w'
def Vw (w : World) (dn : ByteArray) (a1 v : Value) (W : World) : Prop := W.heap[w.heap.size]? = some (.cells #[.string dn, a1] 25 (0, 0)) ∧ W.heap[w.heap.size + 1]? = some (.cells #[.string ⟨#[]⟩, .slice none 0 0] 25 (0, 0)) ∧ W.heap[w.heap.size + 1 + 1]? = some (.cells #[.string dn, v] 25 (0, 0)) ∧ Below w.heap.size w W
theorem Vw.step {w W W1 : World} {dn : ByteArray} {a1 v : Value} (h : Vw w dn a1 v W) (hb : Below W.heap.size W W1) : Vw w dn a1 v W1 := ⟨blk_below h.1 hb, blk_below h.2.1 hb, blk_below h.2.2.1 hb, below_step h.2.2.2 hb⟩
theorem Vw.put {w W : World} {dn : ByteArray} {a1 v : Value} (h : Vw w dn a1 v W) (u : Value) : Vw w dn a1 u (W.setCell ⟨w.heap.size + 1 + 1, 1, none⟩ u) := ⟨blk_far h.1 (Nat.ne_of_lt (Nat.lt_add_of_pos_right (by decide : 0 < 2))) u, blk_far h.2.1 (Nat.ne_of_lt (Nat.lt_succ_self _)) u, blk_set h.2.2.1 1 u, below_set h.2.2.2 (Nat.le_add_right _ 2)⟩
theorem Vw.grown {w W W1 : World} {dn : ByteArray} {a1 v : Value} {base : Nat} {ok : Nat → Prop} {xs : List S69} (h : Vw w dn a1 v W) (hV : Kd.R k69 42 W base ok v xs) (hg : W.grownBy W1 v.ownBlock) (hb : Below w.heap.size w W1) : Vw w dn a1 v W1 := ⟨blk_grown h.1 hg (Kd.R_ne hV h.1 (by decide)), blk_grown h.2.1 hg (Kd.R_ne hV h.2.1 (by decide)), blk_grown h.2.2.1 hg (Kd.R_ne hV h.2.2.1 (by decide)), hb⟩
set_option maxHeartbeats 4000000 in
set_option maxRecDepth 100000 in
theorem view_c (rules : List S54) (A : Option Addr) (c : Nat) (who dn : ByteArray) (attrs : List S69) (A1 : Option Addr) (c1 : Nat) (w : World) (hr : Kd.C k54 w A rules.length rules) (hc : rules.length ≤ c) (hm : RulesOk rules) (hd : dn.size ≤ 100000000) (hr1 : Kd.C k69 w A1 attrs.length attrs) (hc1 : attrs.length ≤ c1) (ha : AttrsOk attrs) :
  Calls Tryz.prog 13 #[.slice A rules.length c, .string who, .agg #[.string dn, .slice A1 attrs.length c1]] w (EntryOut w dn (viewB rules who (keyB dn).1 attrs)) := by
 have hmax : attrs.length ≤ 9223372036854775807 := hr1.2.1
 have HR := Lib.hid hr
 have HM := Lib.hid hm
 have HR1 := Lib.hid hr1
 have HA := Lib.hid ha
 clear hr hm hr1 ha
 go_enter Tryz.func13, Tryz.ntmps13
 go_wp2
 go_loopw [16] (fun i wr => ∃ k : Nat, ∃ v : Value, k ≤ attrs.length ∧ i = .int .i64 k ∧ Hid (Kd.R k69 42 wr w.heap.size (fun _ => True) v ((attrs.take k).filter (seesB rules who (keyB dn).1))) ∧ Vw w dn (.slice A1 attrs.length c1) v wr) (fun i _ => attrs.length - (intOf i).toNat)
 case atStart => exact ⟨0, .slice none 0 0, Nat.zero_le _, rfl, Lib.hid (Kd.R_nil _ _ _ _ _), blk_alloc (blk_alloc (heap_alloc_new w _) _) _, blk_alloc (by have := heap_alloc_new (w.alloc (.cells #[.string dn, .slice A1 attrs.length c1] 25)) (.cells #[.string ⟨#[]⟩, .slice none 0 0] 25); simpa using this) _, by have := heap_alloc_new ((w.alloc (.cells #[.string dn, .slice A1 attrs.length c1] 25)).alloc (.cells #[.string ⟨#[]⟩, .slice none 0 0] 25)) (.cells #[.string dn, .slice none 0 0] 25); simpa using this, below_alloc (below_alloc (below_alloc (Below.refl _ _) _) _) _⟩
 case round =>
  obtain ⟨k, v, hk, rfl, HV, HW⟩ := hrel
  have e0 : wr.cell? ⟨w.heap.size, 0, none⟩ = some (.string dn) := blk_cell HW.1 0
  have e1 : wr.cell? ⟨w.heap.size, 1, none⟩ = some (.slice A1 attrs.length c1) := blk_cell HW.1 1
  by_cases hlt : k < attrs.length
  ·obtain ⟨a, hy⟩ : ∃ r, attrs[k]? = some r := ⟨_, List.getElem?_eq_getElem hlt⟩
   obtain ⟨m1, m2⟩ := HA.out.2 a (List.mem_of_getElem? hy)
   have m1' : a.f0.size ≤ 9223372036854775806 := by omega
   obtain ⟨ad, Aa, ca, e, x0, x1, hl4, hi4⟩ := attr_at (Kd.C_below HR1.out HW.2.2.2) hy
   cases e
   have HY := Lib.hid hy
   clear hy
   have n0 := cell_alloc e0
   have n1 := cell_alloc e1
   have hlt' : (k : Int) < (attrs.length : Int) := by omega
   go_wp2_with fail
   refine (right_c rules A c who dn a.f0 (.slice (some ad) attrs.length c1) _ (Kd.C_below HR.out (below_alloc HW.2.2.2 _)) hc HM.out hd m1' (by rfl)).mono ?_
   rintro e w2 ⟨rfl, hb2⟩
   have HO : Own wr wr.heap.size (.cells #[.string a.f0, .slice Aa a.f1.length ca] 42 (0, 0)) w2 := Own.step ⟨heap_alloc_new wr _, (Below.refl _ _).alloc (Nat.le_refl _) _⟩ hb2
   have HW2 := HW.step HO.2
   have HV0 := Kd.R_mono (Kd.R_bound HV.out) (ok' := fun k => k < wr.heap.size) (fun _ h => h.2.2.1)
   have HV2 := Lib.hid (Kd.R_below HV0 HO.2)
   have HI := Lib.hid (Kd.C_below hi4 HO.2)
   have hgw := blk_lt HW.2.2.1
   clear hb2 x0 x1 hi4 HW HV HV0 n0 n1 e0 e1
   have s0 : w2.cell? ⟨wr.heap.size, 0, none⟩ = some (.string a.f0) := blk_cell HO.1 0
   have s1 : w2.cell? ⟨wr.heap.size, 1, none⟩ = some (.slice Aa a.f1.length ca) := blk_cell HO.1 1
   have HT := Lib.hid (List.take_add_one (l := attrs) (i := k))
   cases hs : decide (1 ≤ rightB rules who (keyB dn).1 a.f0)
   ·have hs1 : decide (rightB rules who (keyB dn).1 a.f0 < 1) = true := by simp at hs ⊢; omega
    have HS := Lib.hid hs
    clear hs
    go_wp2
    go_roundw
    case measure => simp [intOf]; omega
    case rel =>
     refine ⟨k + 1, v, by omega, by go_num, Lib.hid ?_, HW2⟩
     rw [HT.out, HY.out, List.filter_append]
     simpa [seesB, HS.out] using Kd.R_mono HV2.out (fun _ _ => trivial)
   ·have hs1 : decide (rightB rules who (keyB dn).1 a.f0 < 1) = false := by simp at hs ⊢; omega
    have HS := Lib.hid hs
    clear hs
    go_wp2_with fail
    refine (clone_c Aa ca a.f1 _ HI.out hl4 (by omega)).mono ?_
    rintro e w3 ⟨v', rfl, hR3, hb3⟩
    obtain ⟨Av, cv, rfl⟩ := Kd.R_slice hR3
    have HW3 := HW2.step hb3
    have hO3 := blk_below HO.1 hb3
    have t0 : w3.cell? ⟨wr.heap.size, 1, none⟩ = some (.slice Aa a.f1.length ca) := blk_cell hO3 1
    have f0 := blk_frozen hO3 1
    have hO4 : (w3.setCell ⟨wr.heap.size, 1, none⟩ (.slice Av a.f1.length cv)).heap[wr.heap.size]? = some (.cells #[.string a.f0, .slice Av a.f1.length cv] 42 (0, 0)) := blk_set hO3 1 _
    have hW4 : Vw w dn (.slice (some ad) attrs.length c1) v (w3.setCell ⟨wr.heap.size, 1, none⟩ (.slice Av a.f1.length cv)) := ⟨blk_far HW3.1 (by simp only; omega) _, blk_far HW3.2.1 (by simp only; omega) _, blk_far HW3.2.2.1 (by simp only; omega) _, below_set HW3.2.2.2 (by show _ ≤ _; omega)⟩
    have HV4 := Lib.hid (Kd.R_far (p := ⟨wr.heap.size, 1, none⟩) (Kd.R_below HV2.out hb3) (fun k (h : k < wr.heap.size) => Nat.ne_of_lt h) (.slice Av a.f1.length cv))
    obtain ⟨inner, hin⟩ := Kd.R_own HV2.out
    have HR4 := Lib.hid (Kd.R_set (Kd.R_lower (Kd.R_mono (Kd.R_new hR3 hin) (fun _ h => h.2)) (below_size HW2.2.2.2)) hO3 (by decide) 1 (.slice Av a.f1.length cv))
    have q0 : (w3.setCell ⟨wr.heap.size, 1, none⟩ (.slice Av a.f1.length cv)).cell? ⟨wr.heap.size, 0, none⟩ = some (.string a.f0) := blk_cell hO4 0
    have q1 : (w3.setCell ⟨wr.heap.size, 1, none⟩ (.slice Av a.f1.length cv)).cell? ⟨wr.heap.size, 1, none⟩ = some (.slice Av a.f1.length cv) := blk_cell hO4 1
    have q2 : (w3.setCell ⟨wr.heap.size, 1, none⟩ (.slice Av a.f1.length cv)).cell? ⟨w.heap.size + 1 + 1, 1, none⟩ = some v := blk_cell hW4.2.2.1 1
    have HZ : Hid ((w3.setCell ⟨wr.heap.size, 1, none⟩ (.slice Av a.f1.length cv)).heap.size = w3.heap.size) := Lib.hid (by simp)
    have HL : Hid ((((attrs.take k).filter (seesB rules who (keyB dn).1)).length + 1) * 40 ≤ 140737488355328) := Lib.hid (by have := List.length_filter_le (seesB rules who (keyB dn).1) (attrs.take k); have := List.length_take_le k attrs; have := HA.out.1; omega)
    clear hO3 hO4 HO HW2 HV2 hR3 hin hb3 s0 s1 HW3 HI
    go_wp2_with (at_builtin; refine Kd.R_append k69 (w0 := w) (W := w3.setCell ⟨wr.heap.size, 1, none⟩ (.slice Av a.f1.length cv)) w.heap.size rfl (.tmp 32) (.tmp 34) 23 42 (.agg #[.string ⟨#[]⟩, .slice none 0 0]) 40 rfl Tryz.underlying23 PA.info69 rfl (by decide) (by decide) v _ a [.string a.f0, .slice Av a.f1.length cv] (fun _ => True) (fun k => some k ≠ v.ownBlock) rfl ?hx (k69_mkM _ _ _ _ HR4.out) (fun _ h => ⟨trivial, h⟩) (fun _ _ => trivial) (Kd.R_mono HV4.out (fun _ _ => trivial)) hW4.2.2.2 (below_size hW4.2.2.2) HL.out ?_; (case hx => rw [HZ.out]; rfl); intro v1 w5 hR5 hB5 hg5 _; obtain ⟨Aw, cw, rfl⟩ := Kd.R_slice hR5; rw [List.length_append, List.length_singleton] at hR5; have hV5 := hW4.grown HV4.out hg5 hB5; have u0 : w5.cell? ⟨w.heap.size + 1 + 1, 1, none⟩ = some v := blk_cell hV5.2.2.1 1; have u1 := blk_frozen hV5.2.2.1 1; have HR5 := Lib.hid (Kd.R_set hR5 hV5.2.2.1 (by decide) 1 (.slice Aw (((attrs.take k).filter (seesB rules who (keyB dn).1)).length + 1) cw)); have HW5 := Lib.hid (hV5.put (.slice Aw (((attrs.take k).filter (seesB rules who (keyB dn).1)).length + 1) cw)); clear hR5 hV5 hg5 hB5)
    go_roundw
    case measure => simp [intOf]; omega
    case rel =>
     refine ⟨k + 1, _, by omega, by go_num, Lib.hid ?_, HW5.out⟩
     rw [HT.out, HY.out, List.filter_append]
     simpa [seesB, HS.out] using HR5.out
  ·obtain rfl : k = attrs.length := by omega
   obtain ⟨Av, cv, rfl⟩ := Kd.R_slice HV.out
   have z0 : wr.cell? ⟨w.heap.size + 1, 0, none⟩ = some (.string ⟨#[]⟩) := blk_cell HW.2.1 0
   have z1 : wr.cell? ⟨w.heap.size + 1, 1, none⟩ = some (.slice none 0 0) := blk_cell HW.2.1 1
   have y0 := blk_frozen HW.2.1 0
   have y1 := blk_frozen HW.2.1 1
   have c0 : wr.cell? ⟨w.heap.size + 1 + 1, 0, none⟩ = some (.string dn) := blk_cell HW.2.2.1 0
   have c1' : wr.cell? ⟨w.heap.size + 1 + 1, 1, none⟩ = some (.slice Av ((attrs.take attrs.length).filter (seesB rules who (keyB dn).1)).length cv) := blk_cell HW.2.2.1 1
   have hr1' := blk_set (blk_set HW.2.1 0 (.string dn)) 1 (.slice Av ((attrs.take attrs.length).filter (seesB rules who (keyB dn).1)).length cv)
   have HR9 := Lib.hid (Kd.R_set (Kd.R_set HV.out HW.2.1 (by decide) 0 (.string dn)) (blk_set HW.2.1 0 (.string dn)) (by decide) 1 (.slice Av ((attrs.take attrs.length).filter (seesB rules who (keyB dn).1)).length cv))
   have hB9 := below_set (j := 1) (v := .slice Av ((attrs.take attrs.length).filter (seesB rules who (keyB dn).1)).length cv) (below_set (g := w.heap.size + 1) (j := 0) (v := .string dn) HW.2.2.2 (by omega)) (g := w.heap.size + 1) (by omega)
   rw [List.take_length] at hr1' HR9 hB9
   go_wp2
   refine bodyPost_ret (results_cell_row rfl _ _ (w.heap.size + 1) 25 #[.string dn, .slice Av (viewB rules who (keyB dn).1 attrs).length cv] (0, 0) _ rfl hr1' Tryz.underlying25 rfl (by kernel_rfl)) rfl ?_
   obtain ⟨A', c', e, hl, hC⟩ := Kd.R_reads HR9.out
   cases e
   exact ⟨_, _, rfl, hl, hC, hB9⟩
end Go.Proofs.YtflkghdndffacaaGreatDoor.C
namespace Go.Proofs.YtflkghdndffacaaGreatDoor.C
open Go.RowKit Go.Proofs.YtflkghdndffacaaGreatDoor.Sq Go.Proofs.YtflkghdndffacaaGreatDoor.H Go.Proofs.YtflkghdndffacaaGreatDoor.PA Go.Proofs.YtflkghdndffacaaGreatDoor.Pure Go.Proofs.YtflkghdndffacaaGreatDoorW.PrintWords Go.Proofs.YtflkghdndffacaaGreatDoorW.PrintLast Go.Proofs.YtflkghdndffacaaGreatDoorW.PrintMore
set_option linter.unusedVariables false
def normDn (dn : ByteArray) : ByteArray := if (parseL (bl dn)).2 = true then B (text (parseL (bl dn)).1) else dn
def NormOut (w : World) (dn : ByteArray) (n : Nat) (e : Ending) (w' : World) : Prop := ∃ l : List S69, l.length = n ∧ AttrsOk l ∧ ∃ v, e = .returned (.agg #[.string dn, v]) ∧ Kd.R k69 42 w' w.heap.size (fun _ => True) v l ∧ Below w.heap.size w w'
def Nw (w : World) (dn dn' : ByteArray) (a1 v : Value) (W : World) : Prop := W.heap[w.heap.size]? = some (.cells #[.string dn, a1] 25 (0, 0)) ∧ W.heap[w.heap.size + 1]? = some (.cells #[.string ⟨#[]⟩, .slice none 0 0] 25 (0, 0)) ∧ W.heap[w.heap.size + 1 + 1]? = some (.cells #[.string dn', v] 25 (0, 0)) ∧ Below w.heap.size w W
theorem Nw.step {w W W1 : World} {dn dn' : ByteArray} {a1 v : Value} (h : Nw w dn dn' a1 v W) (hb : Below W.heap.size W W1) : Nw w dn dn' a1 v W1 := ⟨blk_below h.1 hb, blk_below h.2.1 hb, blk_below h.2.2.1 hb, below_step h.2.2.2 hb⟩
theorem Nw.put {w W : World} {dn dn' : ByteArray} {a1 v : Value} (h : Nw w dn dn' a1 v W) (u : Value) : Nw w dn dn' a1 u (W.setCell ⟨w.heap.size + 1 + 1, 1, none⟩ u) := ⟨blk_far h.1 (Nat.ne_of_lt (Nat.lt_add_of_pos_right (by decide : 0 < 2))) u, blk_far h.2.1 (Nat.ne_of_lt (Nat.lt_succ_self _)) u, blk_set h.2.2.1 1 u, below_set h.2.2.2 (Nat.le_add_right _ 2)⟩
theorem Nw.name {w W : World} {dn dn' : ByteArray} {a1 v : Value} (h : Nw w dn dn' a1 v W) (s : ByteArray) : Nw w dn s a1 v (W.setCell ⟨w.heap.size + 1 + 1, 0, none⟩ (.string s)) := ⟨blk_far h.1 (Nat.ne_of_lt (Nat.lt_add_of_pos_right (by decide : 0 < 2))) _, blk_far h.2.1 (Nat.ne_of_lt (Nat.lt_succ_self _)) _, blk_set h.2.2.1 0 _, below_set h.2.2.2 (Nat.le_add_right _ 2)⟩
def FitL (l : List S69) : Prop := ∀ a ∈ l, a.f0.size ≤ 1000000000 ∧ a.f1.length ≤ 1000000
def R8 (w wr : World) (dn : ByteArray) (a1 v : Value) (xs : List S69) (W : World) : Prop := Nw w dn (normDn dn) a1 v W ∧ Kd.R k69 42 W w.heap.size (fun k => k < wr.heap.size) v xs ∧ w.heap.size + 1 + 1 < wr.heap.size ∧ wr.heap.size ≤ W.heap.size
theorem R8.far {w wr W W1 : World} {dn : ByteArray} {a1 v : Value} {xs : List S69} (h : R8 w wr dn a1 v xs W) (hb : Below wr.heap.size W W1) : R8 w wr dn a1 v xs W1 := by
 obtain ⟨⟨h1, h2, h3, h4⟩, h5, h6, h7⟩ := h
 exact ⟨⟨(hb.block _ (by omega)).trans h1, (hb.block _ (by omega)).trans h2, (hb.block _ (by omega)).trans h3, h4.trans (hb.mono (by omega))⟩, Kd.R_step h5 (fun k hk _ => hb.block k hk), h6, Nat.le_trans h7 hb.size⟩
theorem R8.step {w wr W W1 : World} {dn : ByteArray} {a1 v : Value} {xs : List S69} (h : R8 w wr dn a1 v xs W) (hb : Below W.heap.size W W1) : R8 w wr dn a1 v xs W1 := h.far (hb.mono h.2.2.2)
def T8 : Bool × List (List Nat × List Nat) := (true, [([], []), ([0], [0]), ([], []), ([1, 2], [1, 2]), ([3], [3]), ([4], [4]), ([], []), ([], []), ([7], [7]), ([], []), ([8, 9], [8, 9]), ([10], [10]), ([11], [11]), ([6, 12], [6, 12]), ([5, 13], [5, 13]), ([], []), ([15, 14, 13, 0, 1, 2, 3, 4, 5, 6, 7, 8, 9, 10, 11, 12, 13, 14, 15], [14, 15])])
theorem ready8 : ∀ b1 b2 b3 b4 : Bool, ∀ i : Fin 17, readyAt T8.2 [true, true, true, true, true, true, b1, true, true, true, true, true, true, b2, b2, b3, b4] i.val = true → (i.val = 6 ∧ b1 = false) ∨ (i.val = 13 ∧ b1 = true ∧ b2 = false) ∨ (i.val = 15 ∧ b3 = false) ∨ (i.val = 16 ∧ b2 = true ∧ b3 = true ∧ b4 = false) := by decide +kernel
theorem done8 : ∀ b1 b2 b3 b4 : Bool, readyT T8.2 [true, true, true, true, true, true, b1, true, true, true, true, true, true, b2, b2, b3, b4] = [] → b2 = true ∧ b3 = true ∧ b4 = true := by decide +kernel
def F8 (w wr : World) (dn : ByteArray) (a1 v : Value) (xs : List S69) (a : S69) (b1 b2 b3 b4 : Bool) (v35 v43 v6 : Value) (W : World) : Prop :=
 R8 w wr dn a1 v xs W ∧ (b1 = true → b2 = false → Kd.R Kd.string 9 W wr.heap.size (fun _ => True) v35 []) ∧
  (b2 = true → ∃ A c, v43 = .agg #[.string a.f0, .slice A a.f1.length c] ∧ Kd.R Kd.string 9 W wr.heap.size (fun _ => True) (.slice A a.f1.length c) a.f1) ∧
  (b3 = true → ∃ g, v6 = .pointer (some ⟨g, 0, none⟩) ∧ wr.heap.size ≤ g ∧ (b4 = false → W.heap[g]? = some (.cells #[.string ⟨#[]⟩, .slice none 0 0] 42 (0, 0))) ∧ (b4 = true → ∃ A c, W.heap[g]? = some (.cells #[.string a.f0, .slice A a.f1.length c] 42 (0, 0)) ∧ Kd.R Kd.string 9 W wr.heap.size (fun _ => True) (.slice A a.f1.length c) a.f1)) ∧ (b4 = true → b2 = true ∧ b3 = true)
theorem F8.step {w wr W W1 : World} {dn : ByteArray} {a1 v : Value} {xs : List S69} {a : S69} {b1 b2 b3 b4 : Bool} {v35 v43 v6 : Value} (h : F8 w wr dn a1 v xs a b1 b2 b3 b4 v35 v43 v6 W) (hb : Below W.heap.size W W1) : F8 w wr dn a1 v xs a b1 b2 b3 b4 v35 v43 v6 W1 := by
 obtain ⟨hR, hA, hB, hC, hD⟩ := h
 refine ⟨hR.step hb, fun h1 h2 => Kd.R_below (hA h1 h2) hb, fun h => ?_, fun h => ?_, hD⟩
 ·obtain ⟨A, c, e, r⟩ := hB h
  exact ⟨A, c, e, Kd.R_below r hb⟩
 ·obtain ⟨g, e, hg, h3, h4⟩ := hC h
  refine ⟨g, e, hg, fun h' => blk_below (h3 h') hb, fun h' => ?_⟩
  obtain ⟨A, c, e, r⟩ := h4 h'
  exact ⟨A, c, blk_below e hb, Kd.R_below r hb⟩
def I8 (w wr : World) (dn : ByteArray) (a1 v : Value) (xs : List S69) (a : S69) (a0 : Act) (l : List Bool) (act : Act) (W : World) : Prop :=
 ∃ (b1 b2 b3 b4 : Bool) (v35 v42 v43 v6 : Value), l = [true, true, true, true, true, true, b1, true, true, true, true, true, true, b2, b2, b3, b4] ∧ act = (((a0.put (some 35) v35).put (some 42) v42).put (some 43) v43).put (some 6) v6 ∧ F8 w wr dn a1 v xs a b1 b2 b3 b4 v35 v43 v6 W
theorem I8.start {w wr W : World} {dn : ByteArray} {a1 v : Value} {xs : List S69} {a : S69} (a0 : Act) (h : R8 w wr dn a1 v xs W) : I8 w wr dn a1 v xs a a0 [true, true, true, true, true, true, false, true, true, true, true, true, true, false, false, false, false] a0 W :=
 ⟨false, false, false, false, a0.tmps.getD 35 undef, a0.tmps.getD 42 undef, a0.tmps.getD 43 undef, a0.tmps.getD 6 undef, rfl, by rw [put_self, put_self, put_self, put_self], h, fun h => Bool.noConfusion h, fun h => Bool.noConfusion h, fun h => Bool.noConfusion h, fun h => Bool.noConfusion h⟩
def R9 (w wr : World) (dn : ByteArray) (a1 v : Value) (xs : List S69) (a : S69) (g : Nat) (u : Value) (s : ByteArray) (W : World) : Prop := R8 w wr dn a1 v xs W ∧ wr.heap.size ≤ g ∧ W.heap[g]? = some (.cells #[.string s, u] 42 (0, 0)) ∧ Kd.R Kd.string 9 W wr.heap.size (fun _ => True) u a.f1 ∧ s.size ≤ 1000000000
theorem R9.step {w wr W W1 : World} {dn : ByteArray} {a1 v : Value} {xs : List S69} {a : S69} {g : Nat} {u : Value} {s : ByteArray} (h : R9 w wr dn a1 v xs a g u s W) (hb : Below W.heap.size W W1) : R9 w wr dn a1 v xs a g u s W1 := ⟨h.1.step hb, h.2.1, blk_below h.2.2.1 hb, Kd.R_below h.2.2.2.1 hb, h.2.2.2.2⟩
theorem R9.put {w wr W : World} {dn : ByteArray} {a1 v : Value} {xs : List S69} {a : S69} {g : Nat} {u : Value} {s : ByteArray} (h : R9 w wr dn a1 v xs a g u s W) (s' : ByteArray) (hs : s'.size ≤ 1000000000) : R9 w wr dn a1 v xs a g u s' (W.setCell ⟨g, 0, none⟩ (.string s')) := ⟨h.1.far ((Below.refl _ _).setCell h.2.1 _), h.2.1, blk_set h.2.2.1 0 _, Kd.R_set h.2.2.2.1 h.2.2.1 (by decide) 0 _, hs⟩
def mK {α : Type} (d : Kd α) (w0 : World) (base : Nat) (ok : Nat → Prop) : Kd α where
 sz := d.sz
 E := []
 K := fun _ x cs => d.M w0 base ok x cs
 M := fun _ _ _ x cs => d.M w0 base ok x cs
 K_len := fun h => d.K_len (d.K_of_M h)
 K_one := fun h => d.K_one (d.K_of_M h)
 K_below := fun _ h => h
 K_of_M := fun h => h
 M_mono := fun _ h => h
 M_bound := fun h => h
 M_move := fun _ h => h
 M_lower := fun _ h => h
theorem rows_of_R {α : Type} {d : Kd α} {e base : Nat} {ok : Nat → Prop} {W : World} {A : Option Addr} {n c : Nat} {xs : List α} (h : Kd.R d e W base ok (.slice A n c) xs) : (mK d W base ok).C W A xs.length xs ∧ xs.length ≤ c ∧ n = xs.length := by
 obtain ⟨A', c', e', hl, hr⟩ := OwnRow.reads h.2
 cases e'
 exact ⟨hr.imp_ (Below.refl _ _) (fun _ _ hp => d.M_mono (fun _ hk => hk.1) hp), hl, rfl⟩
theorem own_shape {α : Type} {d : Kd α} {e base : Nat} {ok : Nat → Prop} {W : World} {A : Option Addr} {n c : Nat} {xs : List α} (h : Kd.R d e W base ok (.slice A n c) xs) : (A = none ∧ xs = [] ∧ c = 0) ∨ ∃ g, A = some ⟨g, 0, none⟩ := by
 obtain ⟨inner, hown⟩ := Kd.R_own h
 have hn := (rows_of_R h).2.2
 rcases hown.2 with ⟨hv, _⟩ | ⟨gq, cap, cur, hv, _⟩
 ·cases hv
  exact .inl ⟨rfl, List.eq_nil_of_length_eq_zero hn.symm, rfl⟩
 ·cases hv
  exact .inr ⟨gq, rfl⟩
theorem own_empty (W : World) (base : Nat) (hb : base ≤ W.heap.size) : Kd.R k69 42 (W.alloc (.cells #[] 42)) base (fun _ => True) (.slice (some ⟨W.heap.size, 0, none⟩) 0 0) [] :=
 ⟨fun _ _ => trivial, [], World.ownsRow_lit (base := base) (e := 42) (size := 2) W #[] 0 hb (by decide) rfl, Reps.none _ _⟩
def R9b (w wo : World) (dn : ByteArray) (a1 v : Value) (xs : List S69) (a : S69) (g : Nat) (u : Value) (s : ByteArray) (B : Nat) (W : World) : Prop := R8 w wo dn a1 v xs W ∧ g < B ∧ W.heap[g]? = some (.cells #[.string s, u] 42 (0, 0)) ∧ Kd.R Kd.string 9 W w.heap.size (fun k => k < B) u a.f1 ∧ wo.heap.size ≤ B ∧ B ≤ W.heap.size
theorem R9.bound {w wo W : World} {dn : ByteArray} {a1 v : Value} {xs : List S69} {a : S69} {g : Nat} {u : Value} {s : ByteArray} (h : R9 w wo dn a1 v xs a g u s W) : R9b w wo dn a1 v xs a g u s W.heap.size W := ⟨h.1, blk_lt h.2.2.1, h.2.2.1, Kd.R_lower (Kd.R_mono (Kd.R_bound h.2.2.2.1) (fun _ hk => hk.2.2.1)) (by have := h.1.2.2.1; omega), h.1.2.2.2, Nat.le_refl _⟩
theorem R9b.far {w wo W W1 : World} {dn : ByteArray} {a1 v : Value} {xs : List S69} {a : S69} {g : Nat} {u : Value} {s : ByteArray} {B : Nat} (h : R9b w wo dn a1 v xs a g u s B W) (hb : Below B W W1) : R9b w wo dn a1 v xs a g u s B W1 := ⟨h.1.far (hb.mono h.2.2.2.2.1), h.2.1, (hb.block _ h.2.1).trans h.2.2.1, Kd.R_step h.2.2.2.1 (fun k hk _ => hb.block k hk), h.2.2.2.2.1, Nat.le_trans h.2.2.2.2.2 hb.size⟩
theorem rows_take {d : Kd S69} {W : World} {base : Nat} {ok : Nat → Prop} {A : Option Addr} {n c j : Nat} {xs : List S69} (h : Kd.R d 42 W base ok (.slice A n c) xs) (hj : j ≤ xs.length) : ReadsRow (d.M W base ok) d.sz W A j (xs.take j) := by
 have h1 := Kd.C_take (k := mK d W base ok) (rows_of_R h).1 hj
 rw [List.length_take, Nat.min_eq_left hj] at h1
 exact h1
theorem rows_drop {d : Kd S69} {W : World} {base : Nat} {ok : Nat → Prop} {A : Option Addr} {n c j : Nat} {xs : List S69} (h : Kd.R d 42 W base ok (.slice A n c) xs) (hj : j ≤ xs.length) : ReadsRow (d.M W base ok) d.sz W (if c = j then A else A.map (·.add (j * d.sz))) (xs.length - j) (xs.drop j) := by
 have h1 := Kd.C_drop (k := mK d W base ok) (rows_of_R h).1 hj (rows_of_R h).2.1
 rw [List.length_drop] at h1
 exact h1
theorem fitL_ins {xs : List S69} {a : S69} {s : ByteArray} {j : Nat} (h : FitL xs) (hs : s.size ≤ 1000000000) (ha : a.f1.length ≤ 1000000) : FitL (xs.take j ++ [(⟨s, a.f1⟩ : S69)] ++ xs.drop j) := by
 intro b hb
 simp only [List.mem_append, List.mem_singleton] at hb
 rcases hb with (hb | rfl) | hb
 ·exact h b (List.mem_of_mem_take hb)
 ·exact ⟨hs, ha⟩
 ·exact h b (List.mem_of_mem_drop hb)
theorem drop_none {R : S69 → List Value → Prop} {W : World} {j c m n : Nat} {xs : List S69} (hx : xs = []) (h : ReadsRow R m W (if c = j then none else (none : Option Addr).map (·.add (j * m))) n (xs.drop j)) : ReadsRow R m W none 0 (xs.drop j) := by
 subst hx
 exact ⟨by simp, by omega, fun h => absurd h (Nat.lt_irrefl 0)⟩
theorem drop_near {R : S69 → List Value → Prop} {W : World} {A : Option Addr} {j c m n : Nat} {xs : List S69} (hc : c = j) (h : ReadsRow R m W (if c = j then A else A.map (·.add (j * m))) n xs) : ReadsRow R m W A n xs := by rwa [if_pos hc] at h
theorem drop_far {R : S69 → List Value → Prop} {W : World} {gq j c m n : Nat} {xs : List S69} (hc : ¬ c = j) (h : ReadsRow R m W (if c = j then some ⟨gq, 0, none⟩ else (some (⟨gq, 0, none⟩ : Addr)).map (·.add (j * m))) n xs) : ReadsRow R m W (some ⟨gq, j * m, none⟩) n xs := by
 rw [if_neg hc] at h
 simp only [Option.map_some, Addr.add, Nat.zero_add] at h
 by_cases e : j * m = 0
 ·rw [if_pos e] at h; rwa [e]
 ·rwa [if_neg e] at h
theorem own_ge {v v1 : Value} {B : Nat} {W : World} (h : ∀ k, v.ownBlock = some k → B ≤ k) (hat : v1.ownBlock = v.ownBlock ∨ ∃ b, v1.ownBlock = some b ∧ W.heap.size ≤ b) (hW : B ≤ W.heap.size) : ∀ k, v1.ownBlock = some k → B ≤ k := by
 intro k hk
 rcases hat with e | ⟨b, e, hb⟩
 ·exact h k (e ▸ hk)
 ·rw [e] at hk
  injection hk with hk
  omega
theorem own_apart {v : Value} {B k : Nat} (h : ∀ k, v.ownBlock = some k → B ≤ k) (hk : k < B) : some k ≠ v.ownBlock := fun e => by have := h k e.symm; omega
theorem attr_in {w W : World} {ad : Addr} {Aa : Option Addr} {k ca : Nat} {a : S69} (h : w.cell? (ad.add (k * 2)) = some (.string a.f0) ∧ w.cell? ⟨(ad.add (k * 2)).block, (ad.add (k * 2)).off + 1, none⟩ = some (.slice Aa a.f1.length ca)) (hb : Below w.heap.size w W) : W.cell? (ad.add (k * 2)) = some (.string a.f0) ∧ W.cell? ⟨(ad.add (k * 2)).block, (ad.add (k * 2)).off + 1, none⟩ = some (.slice Aa a.f1.length ca) := ⟨pw_cell_below hb h.1, pw_cell_below hb h.2⟩
set_option maxHeartbeats 8000000 in
set_option maxRecDepth 100000 in
theorem norm_c (dn : ByteArray) (attrs : List S69) (A1 : Option Addr) (c1 : Nat) (w : World) (hd : dn.size ≤ 1000000) (hr1 : Kd.C k69 w A1 attrs.length attrs) (hc1 : attrs.length ≤ c1) (ha : AttrsOk attrs) :
  Calls Tryz.prog 35 #[.agg #[.string dn, .slice A1 attrs.length c1]] w (NormOut w (normDn dn) attrs.length) := by
 have hmax : attrs.length ≤ 9223372036854775807 := hr1.2.1
 have HR1 := Lib.hid hr1
 have HA := Lib.hid ha
 have HD := Lib.hid hd
 clear hr1 ha hd
 go_enter Tryz.func35, Tryz.ntmps35
 go_wp2_with fail
 refine (parseDn_c dn HD.out _).mono ?_
 rintro e w1 ⟨v0, rfl, hp, hb⟩
 obtain ⟨Av, cv, rfl, hlv, hCv⟩ := Kd.R_reads hp
 have HN0 : Nw w dn dn (.slice A1 attrs.length c1) (.slice none 0 0) (((w.alloc (.cells #[.string dn, .slice A1 attrs.length c1] 25)).alloc (.cells #[.string ⟨#[]⟩, .slice none 0 0] 25)).alloc (.cells #[.string dn, .slice none 0 0] 25)) := ⟨blk_alloc (blk_alloc (heap_alloc_new w _) _) _, blk_alloc (by have := heap_alloc_new (w.alloc (.cells #[.string dn, .slice A1 attrs.length c1] 25)) (.cells #[.string ⟨#[]⟩, .slice none 0 0] 25); simpa using this) _, by have := heap_alloc_new ((w.alloc (.cells #[.string dn, .slice A1 attrs.length c1] 25)).alloc (.cells #[.string ⟨#[]⟩, .slice none 0 0] 25)) (.cells #[.string dn, .slice none 0 0] 25); simpa using this, below_alloc (below_alloc (below_alloc (Below.refl _ _) _) _) _⟩
 have HN1 := Lib.hid (HN0.step hb)
 have HC := Lib.hid hCv
 have HS : Hid (((((w.alloc (.cells #[.string dn, .slice A1 attrs.length c1] 25)).alloc (.cells #[.string ⟨#[]⟩, .slice none 0 0] 25)).alloc (.cells #[.string dn, .slice none 0 0] 25)).heap.size ≤ w1.heap.size)) := Lib.hid hb.size
 clear hp hb hCv HN0
 go_upto_if 17 with (fail)
 go_cut [] (fun wc => Hid (Nw w dn (normDn dn) (.slice A1 attrs.length c1) (.slice none 0 0) wc))
 case first =>
  cases hb : (parseL (bl dn)).2
  ·have HX : Hid (normDn dn = dn) := Lib.hid (by unfold normDn; rw [hb]; rfl)
   go_wp2
   go_meet
   case rel =>
    rw [HX.out]
    exact Lib.hid (HN1.out.step (below_alloc (Below.refl _ _) _))
  ·have HX : Hid (normDn dn = B (text (parseL (bl dn)).1)) := Lib.hid (by unfold normDn; rw [hb]; rfl)
   have hm : mayB (parseL (bl dn)).1 = true := parseS_may 8 (bl dn) [] (bl dn != []) (parseL (bl dn)).1 (by rw [← hb]; rfl)
   go_wp2_with fail
   refine (textDn_c Av cv _ _ (Kd.C_below HC.out (below_alloc (Below.refl _ _) _)) hlv (may_modest hm)).mono ?_
   rintro e w2 ⟨rfl, hd⟩
   have hN2 := (HN1.out.step (below_alloc (Below.refl _ _) _)).step hd.below
   have HN2 := Lib.hid (hN2.name (B (text (parseL (bl dn)).1)))
   have s0 : w2.cell? ⟨w.heap.size + 1 + 1, 0, none⟩ = some (.string dn) := blk_cell hN2.2.2.1 0
   have f0 := blk_frozen hN2.2.2.1 0
   clear hd hN2 hm
   go_wp2
   go_meet
   case rel =>
    rw [HX.out]
    exact HN2
 case rest =>
  have HN := hcut
  clear HN1 HC HS hcut
  go_wp2
  go_loopw [5] (fun i wr => ∃ (k : Nat) (v : Value) (xs : List S69), k ≤ attrs.length ∧ i = .int .i64 k ∧ Hid (xs.length = k ∧ FitL xs) ∧ Hid (Kd.R k69 42 wr w.heap.size (fun _ => True) v xs ∧ Nw w dn (normDn dn) (.slice A1 attrs.length c1) v wr)) (fun i _ => attrs.length - (intOf i).toNat)
  case atStart => exact ⟨0, .slice none 0 0, [], Nat.zero_le _, rfl, Lib.hid ⟨rfl, fun _ h => by cases h⟩, Lib.hid ⟨Kd.R_nil _ _ _ _ _, HN.out⟩⟩
  case round =>
   clear HN
   obtain ⟨k, v, xs, hk, rfl, HX, HW⟩ := hrel
   obtain ⟨wo, rfl⟩ : ∃ wo : World, wo = wr := ⟨_, rfl⟩
   have e1 : wo.cell? ⟨w.heap.size, 1, none⟩ = some (.slice A1 attrs.length c1) := blk_cell HW.out.2.1 1
   by_cases hlt : k < attrs.length
   ·obtain ⟨a, hy⟩ : ∃ r, attrs[k]? = some r := ⟨_, List.getElem?_eq_getElem hlt⟩
    have HM := Lib.hid (HA.out.2 a (List.mem_of_getElem? hy))
    obtain ⟨ad, Aa, ca, e, x0, x1, hl4, hi4⟩ := attr_at HR1.out hy
    cases e
    have HC := Lib.hid (And.intro x0 x1)
    have HI := Lib.hid hi4
    have hlt' : (k : Int) < (attrs.length : Int) := by omega
    have h0 : (0 : Int) ≤ (k : Int) := by omega
    clear hy x0 x1 hi4
    have HV := Lib.hid (Kd.R_mono (Kd.R_bound HW.out.1) (ok' := fun k => k < wo.heap.size) (fun _ h => h.2.2.1))
    go_upto_region 8 with (fail)
    go_cut [6] (fun v6 wc => ∃ g u, v6 = .pointer (some ⟨g, 0, none⟩) ∧ Hid (R8 w wo dn (.slice (some ad) attrs.length c1) v xs wc ∧ wo.heap.size ≤ g ∧ wc.heap[g]? = some (.cells #[.string a.f0, u] 42 (0, 0)) ∧ Kd.R Kd.string 9 wc wo.heap.size (fun _ => True) u a.f1))
    case first =>
     refine iv_ (R8 w wo dn (.slice (some ad) attrs.length c1) v xs) [16] T8 [(0,0,some 29),(1,1,some 30),(0,2,some 31),(0,3,some 32),(0,4,some 33),(1,5,some 34),(0,7,some 36),(1,8,some 37),(0,9,some 38),(0,10,some 39),(0,11,some 40),(1,12,some 41)] [true, true, true, true, true, true, false, true, true, true, true, true, true, false, false, false, false] (by kernel_rfl) (by kernel_rfl) (by kernel_rfl) rfl (R8.step ⟨HW.out.2, HV.out, blk_lt HW.out.2.2.2.1, Nat.le_refl _⟩ (below_drew (Below.refl _ _))) (fun hS => ?_)
     clear HW HV e1
     generalize wo.drew = W at hS ⊢
     repeat (first
      | (refine sqi0 rfl ?_ (fun _ _ _ _ h => h) ?_; (focus rfl); apply Exists.intro; constructor; (focus (intro w'; go_simp; with_reducible rfl)); (simp only [Act.put, List.setIfInBounds_toArray, List.set_cons_zero, List.set_cons_succ]))
      | (refine sqi1 rfl ?_ (fun _ _ _ _ h => h) hS ?_; (focus rfl); apply Exists.intro; constructor; (focus (intro w' hS'; have s1 : w'.cell? ⟨w.heap.size, 1, none⟩ = some (.slice (some ad) attrs.length c1) := blk_cell hS'.1.1 1; obtain ⟨x0, x1⟩ := attr_in HC.out hS'.1.2.2.2; go_simp; with_reducible rfl)); (simp only [Act.put, List.setIfInBounds_toArray, List.set_cons_zero, List.set_cons_succ])))
     generalize hA : (Act.mk _ _) = a0
     refine iv_go (I8 w wo dn (.slice (some ad) attrs.length c1) v xs a a0) (I8.start a0 hS) ?_ ?_
     ·rintro l act W' ⟨b1, b2, b3, b4, v35, v42, v43, v6, rfl, rfl, hF⟩ hr
      obtain ⟨rfl, rfl, rfl⟩ := done8 b1 b2 b3 b4 hr
      obtain ⟨g, rfl, hg, _, h4⟩ := hF.2.2.2.1 rfl
      obtain ⟨A, c, hgb, hRu⟩ := h4 rfl
      subst hA
      (simp only [Act.put, List.setIfInBounds_toArray, List.set_cons_zero, List.set_cons_succ])
      go_wp2
      go_meet
      case rel => exact ⟨g, _, rfl, Lib.hid ⟨hF.1, hg, hgb, hRu⟩⟩
     ·rintro l act W' i ⟨b1, b2, b3, b4, v35, v42, v43, v6, rfl, rfl, hF⟩ hi hra
      have hx := ready8 b1 b2 b3 b4 ⟨i, hi⟩ hra
      simp only at hx
      subst hA
      obtain ⟨rfl, rfl⟩ | ⟨rfl, rfl, rfl⟩ | ⟨rfl, rfl⟩ | ⟨rfl, rfl, rfl, rfl⟩ := hx
      ·have hb := below_alloc (Below.refl W'.heap.size W') (.cells #[] 9)
       refine iv_value (n := some 35) [] (w1 := W'.alloc (.cells #[] 9)) (v := .slice (some ⟨W'.heap.size, 0, none⟩) 0 0) rfl rfl rfl rfl rfl ?_ (fun h => h.step hb) ?_
       ·go_simp
       ·have hF2 := hF.step hb
        refine ⟨true, b2, b3, b4, .slice (some ⟨W'.heap.size, 0, none⟩) 0 0, v42, v43, v6, rfl, ?_, hF2.1, fun _ _ => Kd.R_of_own (own_lit_of (enc := Value.string) W' wo.heap.size 9 [] hF.1.2.2.2 (by decide)) (fun _ _ => trivial), hF2.2.2⟩
        (simp only [Act.put, List.setIfInBounds_toArray, List.set_cons_zero, List.set_cons_succ])
      ·have hRow := hF.2.1 rfl rfl
       refine iv_law (n := some 42) [(0, 14, some 43)] rfl rfl (by cases b3 <;> cases b4 <;> rfl) (by kernel_rfl) (fun K hK => ?_)
       refine Kd.R_append_rows_step Kd.string (Rr := Kd.string.K W') (w0 := W') (W := W') wo.heap.size (by rfl) (.tmp 35) (.tmp 41) 26 9 (.string ⟨#[]⟩) 16 rfl Tryz.underlying26 PA.info9 rfl (by decide) (by decide) v35 [] a.f1 Aa a.f1.length ca (fun _ => True) (fun _ => False) rfl rfl hRow (Kd.C_below HI.out hF.1.1.2.2.2) (fun _ _ h => h) (fun _ h => h.elim) (fun _ _ => trivial) (Below.refl _ _) hF.1.2.2.2 (by have := HM.out.2; simp only [List.length_nil]; omega) ?_
       intro v1 w5 hR5 hB5 hg5 _
       rw [List.nil_append] at hR5
       obtain ⟨Aw, cw, rfl⟩ := Kd.R_slice hR5
       refine hK _ _ (fun h => h.far hB5) ?_
       refine sqk rfl ?_ (fun _ _ _ _ h => h) ?_
       ·rfl
       ·apply Exists.intro
        constructor
        ·intro w'
         go_simp
         with_reducible rfl
        ·have hf : F8 w wo dn (.slice (some ad) attrs.length c1) v xs a true true b3 b4 v35 (.agg #[.string a.f0, .slice Aw a.f1.length cw]) v6 w5 := by
          have h4f : b4 = false := by
           cases b4
           ·rfl
           ·exact Bool.noConfusion (hF.2.2.2.2 rfl).1
          subst h4f
          refine ⟨hF.1.far hB5, fun _ h => Bool.noConfusion h, fun _ => ⟨Aw, cw, rfl, hR5⟩, fun h => ?_, fun h => Bool.noConfusion h⟩
          obtain ⟨g, e, hg, h3, h4⟩ := hF.2.2.2.1 h
          exact ⟨g, e, hg, fun _ => blk_grown (h3 rfl) hg5 (Kd.R_ne hRow (h3 rfl) (by decide)), fun h => Bool.noConfusion h⟩
         refine ⟨true, true, b3, b4, v35, .slice Aw a.f1.length cw, .agg #[.string a.f0, .slice Aw a.f1.length cw], v6, rfl, ?_, hf⟩
         (simp only [Act.put, List.setIfInBounds_toArray, List.set_cons_zero, List.set_cons_succ])
      ·have hb := below_alloc (Below.refl W'.heap.size W') (.cells #[.string ⟨#[]⟩, .slice none 0 0] 42)
       refine iv_value (n := some 6) [] (w1 := W'.alloc (.cells #[.string ⟨#[]⟩, .slice none 0 0] 42)) (v := .pointer (some ⟨W'.heap.size, 0, none⟩)) rfl rfl rfl rfl rfl ?_ (fun h => h.step hb) ?_
       ·go_simp
       ·have hF2 := hF.step hb
        refine ⟨b1, b2, true, b4, v35, v42, v43, .pointer (some ⟨W'.heap.size, 0, none⟩), rfl, ?_, hF2.1, hF2.2.1, hF2.2.2.1, fun _ => ⟨W'.heap.size, rfl, hF.1.2.2.2, fun _ => heap_alloc_new W' _, fun h => Bool.noConfusion (hF.2.2.2.2 h).2⟩, fun h => Bool.noConfusion (hF.2.2.2.2 h).2⟩
        (simp only [Act.put, List.setIfInBounds_toArray, List.set_cons_zero, List.set_cons_succ])
      ·obtain ⟨A, c, rfl, hRu⟩ := hF.2.2.1 rfl
       obtain ⟨g, rfl, hg, h3, _⟩ := hF.2.2.2.1 rfl
       have h3 := h3 rfl
       have s0 : W'.cell? ⟨g, 0, none⟩ = some (.string ⟨#[]⟩) := blk_cell h3 0
       have s1 : W'.cell? ⟨g, 1, none⟩ = some (.slice none 0 0) := blk_cell h3 1
       have f0 := blk_frozen h3 0
       have f1 := blk_frozen h3 1
       have hB5 : Below wo.heap.size W' ((W'.setCell ⟨g, 0, none⟩ (.string a.f0)).setCell ⟨g, 1, none⟩ (.slice A a.f1.length c)) := ((Below.refl _ _).setCell hg _).setCell hg _
       refine iv_store (w1 := (W'.setCell ⟨g, 0, none⟩ (.string a.f0)).setCell ⟨g, 1, none⟩ (.slice A a.f1.length c)) rfl rfl (by decide) rfl ?_ ?_
       ·go_simp
       ·have hR5 := Kd.R_set (Kd.R_set hRu h3 (by decide) 0 (.string a.f0)) (blk_set h3 0 (.string a.f0)) (by decide) 1 (.slice A a.f1.length c)
        refine ⟨b1, true, true, true, v35, v42, _, _, rfl, rfl, hF.1.far hB5, fun _ h => Bool.noConfusion h, fun _ => ⟨A, c, rfl, hR5⟩, fun _ => ⟨g, rfl, hg, fun h => Bool.noConfusion h, fun _ => ⟨A, c, blk_set (blk_set h3 0 _) 1 _, hR5⟩⟩, fun _ => ⟨rfl, rfl⟩⟩
    case rest =>
     obtain ⟨g, u, rfl, H8⟩ := hcut
     clear HW HV e1 HC HI
     have s0 : wc.cell? ⟨g, 0, none⟩ = some (.string a.f0) := blk_cell H8.out.2.2.1 0
     have hm : a.f0.size ≤ 9223372036854775806 := by have := HM.out.1; omega
     go_wp2_with fail
     refine (rcanon_c a.f0 hm _).mono ?_
     rintro e w2 ⟨rfl, hb⟩
     have H9 : Hid (R9 w wo dn (.slice (some ad) attrs.length c1) v xs a g u a.f0 w2) := Lib.hid (R9.step ⟨H8.out.1, H8.out.2.1, H8.out.2.2.1, H8.out.2.2.2, HM.out.1⟩ hb)
     clear hb H8 s0
     go_upto_if 48 with (fail)
     go_cut [] (fun wc => ∃ s, Hid (R9 w wo dn (.slice (some ad) attrs.length c1) v xs a g u s wc))
     case first =>
      have hsz : (canonB a.f0).1.size ≤ 1000000000 := by
       have := HM.out.1
       unfold canonB
       split
       ·show (0 : Nat) ≤ _
        omega
       ·rw [low_size]; exact this
      have HS := Lib.hid hsz
      clear hsz
      have H10 := Lib.hid (H9.out.step (below_alloc (Below.refl _ _) (.cells #[.string (canonB a.f0).1, .bool (canonB a.f0).2] 31)))
      have t0 : (w2.alloc (.cells #[.string (canonB a.f0).1, .bool (canonB a.f0).2] 31)).cell? ⟨g, 0, none⟩ = some (.string a.f0) := blk_cell H10.out.2.2.1 0
      have f0 := blk_frozen H10.out.2.2.1 0
      cases hc : (canonB a.f0).2
      ·rw [hc] at H10
       go_wp2
       go_meet
       case rel => exact ⟨_, H10⟩
      ·rw [hc] at H10 t0 f0
       go_wp2
       go_meet
       case rel => exact ⟨_, Lib.hid (H10.out.put (canonB a.f0).1 HS.out)⟩
     case rest =>
      obtain ⟨s, H9b⟩ := hcut
      clear H9
      obtain ⟨Aq, cq, rfl⟩ := Kd.R_slice H9b.out.1.2.1
      have s1 : wc.cell? ⟨w.heap.size + 1 + 1, 1, none⟩ = some (.slice Aq xs.length cq) := blk_cell H9b.out.1.1.2.2.1 1
      go_upto_block 2 with (fail)
      go_cut [8] (fun v8 wc => ∃ j : Nat, j ≤ xs.length ∧ v8 = .int .i64 j ∧ Hid (R9 w wo dn (.slice (some ad) attrs.length c1) (.slice Aq xs.length cq) xs a g u s wc))
      case first =>
       clear s1
       go_wp2
       go_loopw [8] (fun v8 wl => ∃ j : Nat, j ≤ xs.length ∧ v8 = .int .i64 j ∧ Hid (R9 w wo dn (.slice (some ad) attrs.length c1) (.slice Aq xs.length cq) xs a g u s wl)) (fun v8 _ => (intOf v8).toNat)
       case atStart => exact ⟨xs.length, Nat.le_refl _, rfl, H9b⟩
       case round =>
        clear H9b
        obtain ⟨j, hj, rfl, HL⟩ := hrel
        have s1 : wr.cell? ⟨w.heap.size + 1 + 1, 1, none⟩ = some (.slice Aq xs.length cq) := blk_cell HL.out.1.1.2.2.1 1
        have s2 : wr.cell? ⟨g, 0, none⟩ = some (.string s) := blk_cell HL.out.2.2.1 0
        cases j with
        | zero =>
         go_upto_region 13 with (fail)
         go_quiet (fail)
         go_wp2
         go_meet
         case rel => exact ⟨0, Nat.zero_le _, rfl, Lib.hid (HL.out.step (pw_below_drewN (Below.refl _ _) _))⟩
        | succ m =>
         obtain ⟨b, hb⟩ : ∃ r, xs[m]? = some r := ⟨_, List.getElem?_eq_getElem (by omega)⟩
         obtain ⟨Aq', cq', e, hlq, hCq⟩ := Kd.R_reads HL.out.1.2.1
         cases e
         obtain ⟨ad2, Ab, cb, e, y0, y1, hl2, hi2⟩ := attr_at hCq hb
         cases e
         have hj' : (m : Int) < (xs.length : Int) := by omega
         have hm0 : (0 : Int) ≤ (m : Int) := by omega
         have hj2 : (m : Int) + 1 ≤ (xs.length : Int) := by omega
         have hg1 : decide ((0 : Int) < (m : Int) + 1) = true := decide_eq_true (by omega)
         have hxl : xs.length ≤ attrs.length := by have := HX.out.1; omega
         have hg2 : (0 : Int) < (m : Int) + 1 := by omega
         have hw : IntKind.i64.wrap ((m : Int) + 1 - 1) = (m : Int) := by rw [i64_w]; unfold wrap64; omega
         clear hCq hb y1 hi2
         go_upto_region 13 with (fail)
         go_quiet (fail)
         go_wp2
         ·go_roundw
          case measure => simp [intOf]
          case rel => exact ⟨m, by omega, rfl, Lib.hid (HL.out.step (pw_below_drewN (Below.refl _ _) _))⟩
         ·go_meet
          case rel => exact ⟨m + 1, by omega, by go_num, Lib.hid (HL.out.step (pw_below_drewN (Below.refl _ _) _))⟩
      case rest =>
       obtain ⟨j, hj, rfl, H9⟩ := hcut
       clear H9b s1
       have s1 : wc.cell? ⟨w.heap.size + 1 + 1, 1, none⟩ = some (.slice Aq xs.length cq) := blk_cell H9.out.1.1.2.2.1 1
       have n1 := cell_alloc s1
       have hgl : g < wc.heap.size := blk_lt H9.out.2.2.1
       have HSZ := Lib.hid H9.out.2.2.2.2
       have HWa := Lib.hid (H9.out.bound.far ((below_alloc (Below.refl wc.heap.size wc) (.cells #[] 42))))
       obtain ⟨Au, cu, rfl⟩ := Kd.R_slice HWa.out.2.2.2.1
       have HL0 := Lib.hid (own_empty wc w.heap.size H9.out.1.1.2.2.2.size)
       have hw : wo.heap.size ≤ wc.heap.size := H9.out.1.2.2.2
       have HT1 := Lib.hid (rows_take HWa.out.1.2.1 hj)
       have HO0 : Hid (∀ k, (Value.slice (some ⟨wc.heap.size, 0, none⟩) 0 0).ownBlock = some k → wc.heap.size ≤ k) := Lib.hid (fun k h => by simp [Value.ownBlock] at h; omega)
       have HK1 : Hid (∀ k, k < wo.heap.size → (fun _ => True) k ∧ some k ≠ (Value.slice (some ⟨wc.heap.size, 0, none⟩) 0 0).ownBlock) := Lib.hid (fun k hk => ⟨trivial, own_apart HO0.out (Nat.lt_of_lt_of_le hk hw)⟩)
       have HZ1 : Hid (w.heap.size ≤ (wc.alloc (.cells #[] 42)).heap.size) := Lib.hid HWa.out.1.1.2.2.2.size
       have HZ3 : Hid (wc.heap.size ≤ (wc.alloc (.cells #[] 42)).heap.size) := Lib.hid (by simp)
       have hxl : xs.length ≤ 1000000 := by have := HX.out.1; have := HA.out.1; omega
       have ejl : (xs.take j).length = j := by rw [List.length_take]; omega
       have ejl2 : (xs.take j ++ [(⟨s, a.f1⟩ : S69)]).length = j + 1 := by rw [List.length_append, ejl]; rfl
       have ejl3 : (xs.take j ++ [(⟨s, a.f1⟩ : S69)] ++ xs.drop j).length = xs.length + 1 := by rw [List.length_append, ejl2, List.length_drop]; omega
       have HZ2 : Hid ((([] : List S69).length + j) * 40 ≤ 140737488355328) := Lib.hid (by simp only [List.length_nil]; omega)
       have HZ4 : Hid (((xs.take j).length + 1) * 40 ≤ 140737488355328) := Lib.hid (by rw [ejl]; omega)
       have HZ5 : Hid (((xs.take j ++ [(⟨s, a.f1⟩ : S69)]).length + (xs.length - j)) * 40 ≤ 140737488355328) := Lib.hid (by rw [ejl2]; omega)
       clear s1 H9
       have HFX : Hid (FitL (xs.take j ++ [(⟨s, a.f1⟩ : S69)] ++ xs.drop j)) := Lib.hid (fitL_ins HX.out.2 HSZ.out HM.out.2)
       rcases own_shape HWa.out.1.2.1 with ⟨rfl, hx0, rfl⟩ | ⟨gq, rfl⟩
       ·have hx0 := Lib.hid hx0
        have hxl0 : Hid (xs.length = 0) := Lib.hid (by rw [hx0.out]; rfl)
        have hj0 : (j : Int) ≤ ((0 : Nat) : Int) := by have := hxl0.out; omega
        have HZ6 : Hid (((xs.take j ++ [(⟨s, a.f1⟩ : S69)]).length + 0) * 40 ≤ 140737488355328) := Lib.hid (by rw [ejl2]; omega)
        have hj1 : (j : Int) ≤ 0 := by have := hxl0.out; omega
        have hj2 : (0 : Int) ≤ (j : Int) := by omega
        have hj' : (j : Int) ≤ (xs.length : Int) := by omega
        go_wp2_with (first
        | (at_builtin; refine Kd.R_append_rows k69 (Rr := k69.M (wc.alloc (.cells #[] 42)) w.heap.size (fun k => k < wo.heap.size)) (w0 := w) (W := wc.alloc (.cells #[] 42)) w.heap.size rfl (.tmp 71) (.tmp 75) 23 42 (.agg #[.string ⟨#[]⟩, .slice none 0 0]) 40 rfl Tryz.underlying23 PA.info69 rfl (by decide) (by decide) (.slice (some ⟨wc.heap.size, 0, none⟩) 0 0) [] (xs.take j) _ _ _ (fun _ => True) (fun k => k < wo.heap.size) rfl rfl HL0.out HT1.out (fun _ _ h => h) HK1.out (fun _ _ => trivial) HWa.out.1.1.2.2.2 HZ1.out HZ2.out ?_; intro v1 w5 hR5 hB5 hg5 hat5; have HO5 := Lib.hid (own_ge HO0.out hat5 HZ3.out); have H95 := Lib.hid (HWa.out.far (pw_below_grown (Below.refl wc.heap.size _) _ HZ3.out hg5 HO0.out)); rw [List.nil_append] at hR5; obtain ⟨A5, c5, hv5⟩ := Kd.R_slice hR5; rw [ejl] at hv5; subst hv5; have HR5 := Lib.hid hR5; have HB5 := Lib.hid hB5; have u0 : w5.cell? ⟨g, 0, none⟩ = some (.string s) := blk_cell H95.out.2.2.1 0; have u1 : w5.cell? ⟨g, 1, none⟩ = some (.slice Au a.f1.length cu) := blk_cell H95.out.2.2.1 1; clear hR5 hB5 hg5 hat5)
        | (at_builtin; refine Kd.R_append k69 (w0 := w) (W := w5) w.heap.size rfl (.tmp 77) (.tmp 79) 23 42 (.agg #[.string ⟨#[]⟩, .slice none 0 0]) 40 rfl Tryz.underlying23 PA.info69 rfl (by decide) (by decide) _ (xs.take j) ⟨s, a.f1⟩ [.string s, .slice Au a.f1.length cu] (fun _ => True) (fun k => k < wc.heap.size) rfl rfl (k69_mkM _ _ _ _ H95.out.2.2.2.1) (fun _ hk => ⟨trivial, own_apart HO5.out hk⟩) (fun _ _ => trivial) HR5.out HB5.out HB5.out.size HZ4.out ?_; intro v1 w6 hR6 hB6 hg6 hat6; have HO6 := Lib.hid (own_ge HO5.out hat6 H95.out.2.2.2.2.2); have H96 := Lib.hid (H95.out.far (pw_below_grown (Below.refl wc.heap.size _) _ H95.out.2.2.2.2.2 hg6 HO5.out)); obtain ⟨A6, c6, hv6⟩ := Kd.R_slice hR6; rw [ejl2] at hv6; subst hv6; have HR6 := Lib.hid hR6; have HB6 := Lib.hid hB6; have HT2 := Lib.hid (drop_none hx0.out (rows_drop H96.out.1.2.1 hj)); have t1 : w6.cell? ⟨w.heap.size + 1 + 1, 1, none⟩ = some (.slice none xs.length 0) := blk_cell H96.out.1.1.2.2.1 1; clear hR6 hB6 hg6 hat6 u0 u1)
        | (at_builtin; refine Kd.R_append_rows k69 (Rr := k69.M w6 w.heap.size (fun k => k < wo.heap.size)) (w0 := w) (W := w6) w.heap.size rfl (.tmp 81) (.tmp 85) 23 42 (.agg #[.string ⟨#[]⟩, .slice none 0 0]) 40 rfl Tryz.underlying23 PA.info69 rfl (by decide) (by decide) (.slice A6 (j + 1) c6) (xs.take j ++ [(⟨s, a.f1⟩ : S69)]) (xs.drop j) _ _ _ (fun _ => True) (fun k => k < wo.heap.size) rfl rfl HR6.out HT2.out (fun _ _ h => h) (fun k hk => ⟨trivial, own_apart HO6.out (Nat.lt_of_lt_of_le hk hw)⟩) (fun _ _ => trivial) HB6.out HB6.out.size HZ6.out ?_; intro v1 w7 hR7 hB7 hg7 hat7; have H97 := Lib.hid (H96.out.far (pw_below_grown (Below.refl wc.heap.size _) _ H96.out.2.2.2.2.2 hg7 HO6.out)); obtain ⟨A7, c7, hv7⟩ := Kd.R_slice hR7; rw [ejl3] at hv7; subst hv7; have HR7 := Lib.hid hR7; have y0 : w7.cell? ⟨w.heap.size + 1 + 1, 1, none⟩ = some (.slice none xs.length 0) := blk_cell H97.out.1.1.2.2.1 1; have y1 := blk_frozen H97.out.1.1.2.2.1 1; clear hR7 hB7 hg7 hat7 t1))
        case roundEnd =>
         refine ⟨⟨k + 1, .slice A7 1 c7, xs.take j ++ [⟨s, a.f1⟩] ++ xs.drop j, by omega, by go_num, Lib.hid ⟨by rw [ejl3, HX.out.1], HFX.out⟩, Lib.hid ⟨Kd.R_set (by have h := HR7.out; rw [hxl0.out] at h; exact h) H97.out.1.1.2.2.1 (by decide) 1 _, H97.out.1.1.put _⟩⟩, ?_⟩
         simp [intOf]; omega
       ·have hlq := (rows_of_R HWa.out.1.2.1).2.1
        have hlq' : (j : Int) ≤ (cq : Int) := by omega
        have hj' : (j : Int) ≤ (xs.length : Int) := by omega
        have hj0 : (0 : Int) ≤ (j : Int) := by omega
        by_cases hcj : cq = j
        ·have hcj' : (cq : Int) = (j : Int) := by omega
         go_wp2_with (first
        | (at_builtin; refine Kd.R_append_rows k69 (Rr := k69.M (wc.alloc (.cells #[] 42)) w.heap.size (fun k => k < wo.heap.size)) (w0 := w) (W := wc.alloc (.cells #[] 42)) w.heap.size rfl (.tmp 71) (.tmp 75) 23 42 (.agg #[.string ⟨#[]⟩, .slice none 0 0]) 40 rfl Tryz.underlying23 PA.info69 rfl (by decide) (by decide) (.slice (some ⟨wc.heap.size, 0, none⟩) 0 0) [] (xs.take j) _ _ _ (fun _ => True) (fun k => k < wo.heap.size) rfl rfl HL0.out HT1.out (fun _ _ h => h) HK1.out (fun _ _ => trivial) HWa.out.1.1.2.2.2 HZ1.out HZ2.out ?_; intro v1 w5 hR5 hB5 hg5 hat5; have HO5 := Lib.hid (own_ge HO0.out hat5 HZ3.out); have H95 := Lib.hid (HWa.out.far (pw_below_grown (Below.refl wc.heap.size _) _ HZ3.out hg5 HO0.out)); rw [List.nil_append] at hR5; obtain ⟨A5, c5, hv5⟩ := Kd.R_slice hR5; rw [ejl] at hv5; subst hv5; have HR5 := Lib.hid hR5; have HB5 := Lib.hid hB5; have u0 : w5.cell? ⟨g, 0, none⟩ = some (.string s) := blk_cell H95.out.2.2.1 0; have u1 : w5.cell? ⟨g, 1, none⟩ = some (.slice Au a.f1.length cu) := blk_cell H95.out.2.2.1 1; clear hR5 hB5 hg5 hat5)
        | (at_builtin; refine Kd.R_append k69 (w0 := w) (W := w5) w.heap.size rfl (.tmp 77) (.tmp 79) 23 42 (.agg #[.string ⟨#[]⟩, .slice none 0 0]) 40 rfl Tryz.underlying23 PA.info69 rfl (by decide) (by decide) _ (xs.take j) ⟨s, a.f1⟩ [.string s, .slice Au a.f1.length cu] (fun _ => True) (fun k => k < wc.heap.size) rfl rfl (k69_mkM _ _ _ _ H95.out.2.2.2.1) (fun _ hk => ⟨trivial, own_apart HO5.out hk⟩) (fun _ _ => trivial) HR5.out HB5.out HB5.out.size HZ4.out ?_; intro v1 w6 hR6 hB6 hg6 hat6; have HO6 := Lib.hid (own_ge HO5.out hat6 H95.out.2.2.2.2.2); have H96 := Lib.hid (H95.out.far (pw_below_grown (Below.refl wc.heap.size _) _ H95.out.2.2.2.2.2 hg6 HO5.out)); obtain ⟨A6, c6, hv6⟩ := Kd.R_slice hR6; rw [ejl2] at hv6; subst hv6; have HR6 := Lib.hid hR6; have HB6 := Lib.hid hB6; have HT2 := Lib.hid (drop_near hcj (rows_drop H96.out.1.2.1 hj)); have t1 : w6.cell? ⟨w.heap.size + 1 + 1, 1, none⟩ = some (.slice (some ⟨gq, 0, none⟩) xs.length cq) := blk_cell H96.out.1.1.2.2.1 1; clear hR6 hB6 hg6 hat6 u0 u1)
        | (at_builtin; refine Kd.R_append_rows k69 (Rr := k69.M w6 w.heap.size (fun k => k < wo.heap.size)) (w0 := w) (W := w6) w.heap.size rfl (.tmp 81) (.tmp 85) 23 42 (.agg #[.string ⟨#[]⟩, .slice none 0 0]) 40 rfl Tryz.underlying23 PA.info69 rfl (by decide) (by decide) (.slice A6 (j + 1) c6) (xs.take j ++ [(⟨s, a.f1⟩ : S69)]) (xs.drop j) _ _ _ (fun _ => True) (fun k => k < wo.heap.size) rfl rfl HR6.out HT2.out (fun _ _ h => h) (fun k hk => ⟨trivial, own_apart HO6.out (Nat.lt_of_lt_of_le hk hw)⟩) (fun _ _ => trivial) HB6.out HB6.out.size HZ5.out ?_; intro v1 w7 hR7 hB7 hg7 hat7; have H97 := Lib.hid (H96.out.far (pw_below_grown (Below.refl wc.heap.size _) _ H96.out.2.2.2.2.2 hg7 HO6.out)); obtain ⟨A7, c7, hv7⟩ := Kd.R_slice hR7; rw [ejl3] at hv7; subst hv7; have HR7 := Lib.hid hR7; have y0 : w7.cell? ⟨w.heap.size + 1 + 1, 1, none⟩ = some (.slice (some ⟨gq, 0, none⟩) xs.length cq) := blk_cell H97.out.1.1.2.2.1 1; have y1 := blk_frozen H97.out.1.1.2.2.1 1; clear hR7 hB7 hg7 hat7 t1))
         case roundEnd =>
          refine ⟨⟨k + 1, .slice A7 (xs.length + 1) c7, xs.take j ++ [⟨s, a.f1⟩] ++ xs.drop j, by omega, by go_num, Lib.hid ⟨by rw [ejl3, HX.out.1], HFX.out⟩, Lib.hid ⟨Kd.R_set HR7.out H97.out.1.1.2.2.1 (by decide) 1 _, H97.out.1.1.put _⟩⟩, ?_⟩
          simp [intOf]; omega
        ·have hcj' : ¬ (cq : Int) = (j : Int) := by omega
         go_wp2_with (first
        | (at_builtin; refine Kd.R_append_rows k69 (Rr := k69.M (wc.alloc (.cells #[] 42)) w.heap.size (fun k => k < wo.heap.size)) (w0 := w) (W := wc.alloc (.cells #[] 42)) w.heap.size rfl (.tmp 71) (.tmp 75) 23 42 (.agg #[.string ⟨#[]⟩, .slice none 0 0]) 40 rfl Tryz.underlying23 PA.info69 rfl (by decide) (by decide) (.slice (some ⟨wc.heap.size, 0, none⟩) 0 0) [] (xs.take j) _ _ _ (fun _ => True) (fun k => k < wo.heap.size) rfl rfl HL0.out HT1.out (fun _ _ h => h) HK1.out (fun _ _ => trivial) HWa.out.1.1.2.2.2 HZ1.out HZ2.out ?_; intro v1 w5 hR5 hB5 hg5 hat5; have HO5 := Lib.hid (own_ge HO0.out hat5 HZ3.out); have H95 := Lib.hid (HWa.out.far (pw_below_grown (Below.refl wc.heap.size _) _ HZ3.out hg5 HO0.out)); rw [List.nil_append] at hR5; obtain ⟨A5, c5, hv5⟩ := Kd.R_slice hR5; rw [ejl] at hv5; subst hv5; have HR5 := Lib.hid hR5; have HB5 := Lib.hid hB5; have u0 : w5.cell? ⟨g, 0, none⟩ = some (.string s) := blk_cell H95.out.2.2.1 0; have u1 : w5.cell? ⟨g, 1, none⟩ = some (.slice Au a.f1.length cu) := blk_cell H95.out.2.2.1 1; clear hR5 hB5 hg5 hat5)
        | (at_builtin; refine Kd.R_append k69 (w0 := w) (W := w5) w.heap.size rfl (.tmp 77) (.tmp 79) 23 42 (.agg #[.string ⟨#[]⟩, .slice none 0 0]) 40 rfl Tryz.underlying23 PA.info69 rfl (by decide) (by decide) _ (xs.take j) ⟨s, a.f1⟩ [.string s, .slice Au a.f1.length cu] (fun _ => True) (fun k => k < wc.heap.size) rfl rfl (k69_mkM _ _ _ _ H95.out.2.2.2.1) (fun _ hk => ⟨trivial, own_apart HO5.out hk⟩) (fun _ _ => trivial) HR5.out HB5.out HB5.out.size HZ4.out ?_; intro v1 w6 hR6 hB6 hg6 hat6; have HO6 := Lib.hid (own_ge HO5.out hat6 H95.out.2.2.2.2.2); have H96 := Lib.hid (H95.out.far (pw_below_grown (Below.refl wc.heap.size _) _ H95.out.2.2.2.2.2 hg6 HO5.out)); obtain ⟨A6, c6, hv6⟩ := Kd.R_slice hR6; rw [ejl2] at hv6; subst hv6; have HR6 := Lib.hid hR6; have HB6 := Lib.hid hB6; have HT2 := Lib.hid (drop_far hcj (rows_drop H96.out.1.2.1 hj)); have t1 : w6.cell? ⟨w.heap.size + 1 + 1, 1, none⟩ = some (.slice (some ⟨gq, 0, none⟩) xs.length cq) := blk_cell H96.out.1.1.2.2.1 1; clear hR6 hB6 hg6 hat6 u0 u1)
        | (at_builtin; refine Kd.R_append_rows k69 (Rr := k69.M w6 w.heap.size (fun k => k < wo.heap.size)) (w0 := w) (W := w6) w.heap.size rfl (.tmp 81) (.tmp 85) 23 42 (.agg #[.string ⟨#[]⟩, .slice none 0 0]) 40 rfl Tryz.underlying23 PA.info69 rfl (by decide) (by decide) (.slice A6 (j + 1) c6) (xs.take j ++ [(⟨s, a.f1⟩ : S69)]) (xs.drop j) _ _ _ (fun _ => True) (fun k => k < wo.heap.size) rfl rfl HR6.out HT2.out (fun _ _ h => h) (fun k hk => ⟨trivial, own_apart HO6.out (Nat.lt_of_lt_of_le hk hw)⟩) (fun _ _ => trivial) HB6.out HB6.out.size HZ5.out ?_; intro v1 w7 hR7 hB7 hg7 hat7; have H97 := Lib.hid (H96.out.far (pw_below_grown (Below.refl wc.heap.size _) _ H96.out.2.2.2.2.2 hg7 HO6.out)); obtain ⟨A7, c7, hv7⟩ := Kd.R_slice hR7; rw [ejl3] at hv7; subst hv7; have HR7 := Lib.hid hR7; have y0 : w7.cell? ⟨w.heap.size + 1 + 1, 1, none⟩ = some (.slice (some ⟨gq, 0, none⟩) xs.length cq) := blk_cell H97.out.1.1.2.2.1 1; have y1 := blk_frozen H97.out.1.1.2.2.1 1; clear hR7 hB7 hg7 hat7 t1))
         case roundEnd =>
          refine ⟨⟨k + 1, .slice A7 (xs.length + 1) c7, xs.take j ++ [⟨s, a.f1⟩] ++ xs.drop j, by omega, by go_num, Lib.hid ⟨by rw [ejl3, HX.out.1], HFX.out⟩, Lib.hid ⟨Kd.R_set HR7.out H97.out.1.1.2.2.1 (by decide) 1 _, H97.out.1.1.put _⟩⟩, ?_⟩
          simp [intOf]; omega
   ·obtain rfl : k = attrs.length := by omega
    obtain ⟨Aq, cq, rfl⟩ := Kd.R_slice HW.out.1
    have hW := HW.out.2
    have z0 : wo.cell? ⟨w.heap.size + 1, 0, none⟩ = some (.string ⟨#[]⟩) := blk_cell hW.2.1 0
    have z1 : wo.cell? ⟨w.heap.size + 1, 1, none⟩ = some (.slice none 0 0) := blk_cell hW.2.1 1
    have y0 := blk_frozen hW.2.1 0
    have y1 := blk_frozen hW.2.1 1
    have c0 : wo.cell? ⟨w.heap.size + 1 + 1, 0, none⟩ = some (.string (normDn dn)) := blk_cell hW.2.2.1 0
    have c1' : wo.cell? ⟨w.heap.size + 1 + 1, 1, none⟩ = some (.slice Aq xs.length cq) := blk_cell hW.2.2.1 1
    have hr1' := blk_set (blk_set hW.2.1 0 (.string (normDn dn))) 1 (.slice Aq xs.length cq)
    have HR9 := Lib.hid (Kd.R_set (Kd.R_set HW.out.1 hW.2.1 (by decide) 0 (.string (normDn dn))) (blk_set hW.2.1 0 (.string (normDn dn))) (by decide) 1 (.slice Aq xs.length cq))
    have hB9 := below_set (j := 1) (v := .slice Aq xs.length cq) (below_set (g := w.heap.size + 1) (j := 0) (v := .string (normDn dn)) hW.2.2.2 (by omega)) (g := w.heap.size + 1) (by omega)
    go_wp2
    refine bodyPost_ret (results_cell_row rfl _ _ (w.heap.size + 1) 25 #[.string (normDn dn), .slice Aq xs.length cq] (0, 0) _ rfl hr1' Tryz.underlying25 rfl (by kernel_rfl)) rfl ?_
    exact ⟨xs, HX.out.1, ⟨by have := HX.out.1; have := HA.out.1; omega, HX.out.2⟩, _, rfl, HR9.out, hB9⟩
end Go.Proofs.YtflkghdndffacaaGreatDoor.C
namespace Go.Proofs.YtflkghdndffacaaGreatDoor.C
open Go.RowKit Go.Proofs.YtflkghdndffacaaGreatDoor.Sq Go.Proofs.YtflkghdndffacaaGreatDoor.H Go.Proofs.YtflkghdndffacaaGreatDoor.PA Go.Proofs.YtflkghdndffacaaGreatDoor.Pure Go.Proofs.YtflkghdndffacaaGreatDoorW.PrintWords Go.Proofs.YtflkghdndffacaaGreatDoorW.PrintLast Go.Proofs.YtflkghdndffacaaGreatDoorW.PrintMore
set_option linter.unusedVariables false
set_option linter.unusedSimpArgs false
theorem names_norm {d : ByteArray} (hd : d ∈ namesL) : normDn d = d := by
 have h : namesL.all (fun d => decide (normDn d = d)) = true := by decide +kernel
 simpa using List.all_eq_true.1 h d hd
def nameOk (d : ByteArray) : Bool := decide (0 < (parseL (bl d)).1.length) && decide (d.size ≤ 30) && (parseL (bl d)).1.all fun p => decide (p.f0.size ≤ 3) && decide (p.f1.size ≤ 3)
theorem names_part {d : ByteArray} (hd : d ∈ namesL) : ∃ p q, (parseL (bl d)).1 = p :: q ∧ d.size ≤ 30 ∧ p.f0.size ≤ 3 ∧ p.f1.size ≤ 3 := by
 have h : namesL.all nameOk = true := by decide +kernel
 have h1 := List.all_eq_true.1 h d hd
 unfold nameOk at h1
 rw [Bool.and_eq_true, Bool.and_eq_true, decide_eq_true_eq, decide_eq_true_eq, List.all_eq_true] at h1
 cases e : (parseL (bl d)).1 with
 | nil => rw [e] at h1; exact absurd h1.1.1 (by decide)
 | cons p q =>
  have h2 := h1.2 p (by rw [e]; exact List.mem_cons_self)
  rw [Bool.and_eq_true, decide_eq_true_eq, decide_eq_true_eq] at h2
  exact ⟨p, q, rfl, h1.1.2, h2.1, h2.2⟩
def nm (i : Int) : ByteArray := namesL.getD (i.tmod 12).toNat ⟨#[]⟩
theorem nm_some {i : Int} (h : 0 ≤ i) : ∃ j : Nat, j < 12 ∧ i.tmod 12 = (j : Int) ∧ namesL[j]? = some (nm i) := by
 have h1 : 0 ≤ i.tmod 12 := Int.tmod_nonneg 12 h
 have h2 : i.tmod 12 < 12 := Int.tmod_lt_of_pos i (by decide)
 have hl : namesL.length = 12 := rfl
 refine ⟨(i.tmod 12).toNat, by omega, by omega, ?_⟩
 unfold nm
 rw [List.getD_eq_getElem?_getD, List.getElem?_eq_getElem (by omega)]
 rfl
theorem nm_mem {i : Int} (h : 0 ≤ i) : nm i ∈ namesL := by
 obtain ⟨j, _, _, e⟩ := nm_some h
 exact List.mem_of_getElem? e
def personB (d : ByteArray) : Bool := match (parseL (bl d)).1 with
 | [] => false
 | p :: _ => !(p.f0.toList == [111]) && !(p.f0.toList == [111, 117])
abbrev perL : List UInt8 := [112, 101, 114, 115, 111, 110]
def EntOut (w : World) (d : ByteArray) (e : Ending) (w' : World) : Prop := ∃ l : List S69, 3 ≤ l.length ∧ (personB d = false → l.length = 3) ∧ AttrsOk l ∧ EntryOut w d l e w'
def TE : Bool × List (List Nat × List Nat) := (true, [([], []), ([], []), ([1], [1]), ([], []), ([3], [3]), ([4], [4]), ([2, 5], [2, 5]), ([], []), ([7], [7]), ([8], [8]), ([], []), ([10], [10]), ([11], [11]), ([12], [12]), ([13], [13]), ([14], [14]), ([6, 9, 15], [6, 9, 15]), ([0, 16], [0, 16]), ([], []), ([18, 17, 12, 0, 1, 2, 3, 4, 5, 6, 7, 8, 9, 10, 11, 12, 13, 14, 15, 16, 17, 18], [17, 18])])
abbrev LE (b5 b8 bc be bg bi bj : Bool) : List Bool := [true, true, true, true, true, b5, b5, true, b8, b8, true, true, bc, bc, be, be, bg, bg, bi, bj]
set_option synthInstance.maxHeartbeats 2000000 in
set_option synthInstance.maxSize 100000 in
theorem readyE : ∀ b5 b8 bc be bg bi bj : Bool, ∀ i : Fin 20, readyAt TE.2 (LE b5 b8 bc be bg bi bj) i.val = true → (i.val = 5 ∧ b5 = false) ∨ (i.val = 8 ∧ b8 = false) ∨ (i.val = 12 ∧ bc = false) ∨ (i.val = 14 ∧ bc = true ∧ be = false) ∨ (i.val = 16 ∧ b5 = true ∧ b8 = true ∧ be = true ∧ bg = false) ∨ (i.val = 18 ∧ bi = false) ∨ (i.val = 19 ∧ bg = true ∧ bi = true ∧ bj = false) := by decide +kernel
theorem doneE : ∀ b5 b8 bc be bg bi bj : Bool, readyT TE.2 (LE b5 b8 bc be bg bi bj) = [] → bg = true ∧ bi = true ∧ bj = true := by decide +kernel
theorem ok5 : ∀ b8 bc be bg bi bj : Bool, okK TE [(0,6,some 31)] ((LE false b8 bc be bg bi bj).set 5 true) = true := by decide +kernel
theorem ok8 : ∀ b5 bc be bg bi bj : Bool, okK TE [(0,9,some 34)] ((LE b5 false bc be bg bi bj).set 8 true) = true := by decide +kernel
theorem ok12 : ∀ b5 b8 be bg bi bj : Bool, okK TE [(0,13,some 38)] ((LE b5 b8 false be bg bi bj).set 12 true) = true := by decide +kernel
theorem ok14 : ∀ b5 b8 bc bg bi bj : Bool, okK TE [(0,15,some 40)] ((LE b5 b8 bc false bg bi bj).set 14 true) = true := by decide +kernel
theorem ok16 : ∀ b5 b8 bc be bi bj : Bool, okK TE [(0,17,some 42)] ((LE b5 b8 bc be false bi bj).set 16 true) = true := by decide +kernel
def V1 (B : Nat) (W : World) (v : Value) : Prop := ∃ (s x : ByteArray) (c : Nat) (A : Option Addr), v = .agg #[.string s, .slice A 1 c] ∧ s.size ≤ 30 ∧ Kd.R Kd.string 9 W B (fun _ => True) (.slice A 1 c) [x]
theorem V1.step {B : Nat} {W W1 : World} {v : Value} (h : V1 B W v) (hb : Below W.heap.size W W1) : V1 B W1 v := by
 obtain ⟨s, x, c, A, e, hs, hR⟩ := h
 exact ⟨s, x, c, A, e, hs, Kd.R_below hR hb⟩
theorem v1_lit (B : Nat) (W : World) (s x : ByteArray) (hb : B ≤ W.heap.size) (hs : s.size ≤ 30) : V1 B (W.alloc (.cells #[.string x] 9)) (.agg #[.string s, .slice (some ⟨W.heap.size, 0, none⟩) 1 1]) := ⟨s, x, 1, _, rfl, hs, Kd.R_of_own (own_lit_of (enc := Value.string) W B 9 [x] hb (by simp)) (fun _ _ => trivial)⟩
def V2 (B : Nat) (W : World) (v : Value) (xs : List S69) : Prop := 3 ≤ xs.length ∧ xs.length ≤ 5 ∧ FitL xs ∧ Kd.R k69 42 W B (fun _ => True) v xs
theorem V2.step {B : Nat} {W W1 : World} {v : Value} {xs : List S69} (h : V2 B W v xs) (hb : Below W.heap.size W W1) : V2 B W1 v xs := ⟨h.1, h.2.1, h.2.2.1, Kd.R_below h.2.2.2 hb⟩
theorem reps3 {W : World} {B : Nat} {ok : Nat → Prop} {s1 s2 s3 : ByteArray} {l1 l2 l3 : List ByteArray} {v1 v2 v3 : Value} (R1 : Kd.R Kd.string 9 W B ok v1 l1) (R2 : Kd.R Kd.string 9 W B ok v2 l2) (R3 : Kd.R Kd.string 9 W B ok v3 l3) : Reps (k69.M W B ok) k69.sz [⟨s1, l1⟩, ⟨s2, l2⟩, ⟨s3, l3⟩] [.string s1, v1, .string s2, v2, .string s3, v3] :=
 by
 have h1 := Reps.snoc (Reps.none (k69.M W B ok) k69.sz) (k69_mkM W B ok ⟨s1, l1⟩ R1) rfl
 have h2 := Reps.snoc h1 (k69_mkM W B ok ⟨s2, l2⟩ R2) rfl
 exact Reps.snoc h2 (k69_mkM W B ok ⟨s3, l3⟩ R3) rfl
theorem fit3 {s1 s2 s3 x1 x2 x3 : ByteArray} (h1 : s1.size ≤ 30) (h2 : s2.size ≤ 30) (h3 : s3.size ≤ 30) : FitL [⟨s1, [x1]⟩, ⟨s2, [x2]⟩, ⟨s3, [x3]⟩] := by
 intro a ha
 rcases List.mem_cons.1 ha with rfl | ha
 ·exact ⟨by show s1.size ≤ _; omega, by simp⟩
 ·rcases List.mem_cons.1 ha with rfl | ha
  ·exact ⟨by show s2.size ≤ _; omega, by simp⟩
  ·rcases List.mem_cons.1 ha with rfl | ha
   ·exact ⟨by show s3.size ≤ _; omega, by simp⟩
   ·cases ha
theorem fit_snoc {xs : List S69} {s st : ByteArray} (h : FitL xs) (hs : s.size ≤ 30) : FitL (xs ++ [⟨s, [st]⟩]) := by
 intro a ha
 rcases List.mem_append.1 ha with ha | ha
 ·exact h a ha
 ·rw [List.mem_singleton] at ha
  subst ha
  exact ⟨by show s.size ≤ _; omega, by simp⟩
def RE (w0 : World) (d : ByteArray) (per : Bool) (g : Nat) (u : Value) (xs : List S69) (W : World) : Prop := Below w0.heap.size w0 W ∧ w0.heap.size ≤ g ∧ W.heap[g]? = some (.cells #[.string d, u] 25 (0, 0)) ∧ (per = false → xs.length = 3) ∧ V2 w0.heap.size W u xs
theorem RE.step {w0 W W1 : World} {d : ByteArray} {per : Bool} {g : Nat} {u : Value} {xs : List S69} (h : RE w0 d per g u xs W) (hb : Below W.heap.size W W1) : RE w0 d per g u xs W1 := ⟨below_step h.1 hb, h.2.1, blk_below h.2.2.1 hb, h.2.2.2.1, h.2.2.2.2.step hb⟩
def FE (w0 : World) (d : ByteArray) (b5 b8 bc be bg bi bj : Bool) (v31 v34 v38 v40 v42 v8 : Value) (W : World) : Prop :=
 Below w0.heap.size w0 W ∧ (b5 = true → bg = false → V1 w0.heap.size W v31) ∧ (b8 = true → bg = false → V1 w0.heap.size W v34) ∧ (bc = true → be = false → ∃ s : ByteArray, v38 = .string s) ∧ (be = true → bg = false → V1 w0.heap.size W v40) ∧
  (bg = true → bj = false → ∃ u xs, v42 = .agg #[.string d, u] ∧ xs.length = 3 ∧ V2 w0.heap.size W u xs) ∧
  (bi = true → ∃ g, v8 = .pointer (some ⟨g, 0, none⟩) ∧ w0.heap.size ≤ g ∧ (bj = false → W.heap[g]? = some (.cells #[.string ⟨#[]⟩, .slice none 0 0] 25 (0, 0))) ∧ (bj = true → ∃ u xs, W.heap[g]? = some (.cells #[.string d, u] 25 (0, 0)) ∧ xs.length = 3 ∧ V2 w0.heap.size W u xs)) ∧ (bj = true → bg = true ∧ bi = true)
theorem FE.step {w0 W W1 : World} {d : ByteArray} {b5 b8 bc be bg bi bj : Bool} {v31 v34 v38 v40 v42 v8 : Value} (h : FE w0 d b5 b8 bc be bg bi bj v31 v34 v38 v40 v42 v8 W) (hb : Below W.heap.size W W1) : FE w0 d b5 b8 bc be bg bi bj v31 v34 v38 v40 v42 v8 W1 := by
 obtain ⟨h1, h2, h3, h4, h5, h6, h7, h8⟩ := h
 refine ⟨below_step h1 hb, fun a b => (h2 a b).step hb, fun a b => (h3 a b).step hb, h4, fun a b => (h5 a b).step hb, fun a b => ?_, fun a => ?_, h8⟩
 ·obtain ⟨u, xs, e, hl, hv⟩ := h6 a b
  exact ⟨u, xs, e, hl, hv.step hb⟩
 ·obtain ⟨g, e, hg, k1, k2⟩ := h7 a
  refine ⟨g, e, hg, fun b => blk_below (k1 b) hb, fun b => ?_⟩
  obtain ⟨u, xs, e2, hl, hv⟩ := k2 b
  exact ⟨u, xs, blk_below e2 hb, hl, hv.step hb⟩
def IE (w0 : World) (d : ByteArray) (a0 : Act) (l : List Bool) (act : Act) (W : World) : Prop :=
 ∃ (b5 b8 bc be bg bi bj : Bool) (v30 v31 v33 v34 v37 v38 v39 v40 v41 v42 v8 : Value), l = LE b5 b8 bc be bg bi bj ∧ act = ((((((((((a0.put (some 30) v30).put (some 31) v31).put (some 33) v33).put (some 34) v34).put (some 37) v37).put (some 38) v38).put (some 39) v39).put (some 40) v40).put (some 41) v41).put (some 42) v42).put (some 8) v8 ∧ FE w0 d b5 b8 bc be bg bi bj v31 v34 v38 v40 v42 v8 W
theorem IE.start {w0 W : World} {d : ByteArray} (a0 : Act) (h : Below w0.heap.size w0 W) : IE w0 d a0 (LE false false false false false false false) a0 W :=
 ⟨false, false, false, false, false, false, false, a0.tmps.getD 30 undef, a0.tmps.getD 31 undef, a0.tmps.getD 33 undef, a0.tmps.getD 34 undef, a0.tmps.getD 37 undef, a0.tmps.getD 38 undef, a0.tmps.getD 39 undef, a0.tmps.getD 40 undef, a0.tmps.getD 41 undef, a0.tmps.getD 42 undef, a0.tmps.getD 8 undef, rfl, by rw [put_self, put_self, put_self, put_self, put_self, put_self, put_self, put_self, put_self, put_self, put_self], h, fun h => Bool.noConfusion h, fun h => Bool.noConfusion h, fun h => Bool.noConfusion h, fun h => Bool.noConfusion h, fun h => Bool.noConfusion h, fun h => Bool.noConfusion h, fun h => Bool.noConfusion h⟩
theorem field42_0 (A : Option Addr) (n c : Nat) (b : Bool) (w : World) : (Instr.field 50 (.agg #[.slice A n c, .bool b]) 0).run Tryz.prog w = .ok (.slice A n c) w := by kernel_rfl
set_option maxHeartbeats 4000000 in
set_option maxRecDepth 100000 in
theorem entry_c (i n : Int) (h0 : 0 ≤ i) (h1 : i ≤ 255) (hn0 : 0 ≤ n) (hn1 : n ≤ 255) (w : World) :
  Calls Tryz.prog 17 #[.int .i64 i, .int .u8 n] w (EntOut w (nm i)) := by
 obtain ⟨j, hj, hij, hnj⟩ := nm_some h0
 obtain ⟨p, q, hpq, hds, hp0, hp1⟩ := names_part (nm_mem h0)
 have HN := Lib.hid (names_norm (nm_mem h0))
 have HNJ := Lib.hid hnj
 clear hnj
 have HP := Lib.hid hpq
 clear hpq
 generalize hd : nm i = d at *
 have hf42 := field42_0
 go_enter Tryz.func17, Tryz.ntmps17
 go_wp2_with fail
 refine (names_c _).mono ?_
 rintro e w1 ⟨v, rfl, hR, hb⟩
 obtain ⟨A, c, rfl, hc, hC⟩ := Kd.R_reads hR
 obtain ⟨ad, e1, hcell⟩ := str_at hC HNJ.out
 cases e1
 have hl : namesL.length = 12 := rfl
 have hj1 : (j : Int) < 12 := by omega
 have hj2 : (0 : Int) ≤ (j : Int) := by omega
 clear hR hC
 rw [hl] at hc ⊢
 have HB := Lib.hid hb
 clear hb
 go_wp2_with fail
 refine (parseDn_c d (by omega) _).mono ?_
 rintro e w2 ⟨v, rfl, hR, hb⟩
 obtain ⟨A2, c2, rfl, hc2, hC⟩ := Kd.R_reads hR
 rw [HP.out] at hc2 hC ⊢
 obtain ⟨ad2, rfl, hc0, hc1⟩ := PD.at_T25 hC 0 (by decide) (by simp)
 have hpq0 : PD.rd_T25 (p :: q) 0 = p := rfl
 rw [hpq0] at hc0 hc1
 have ha2 : ad2.add ((0 : Int).toNat * 2) = ad2 := rfl
 rw [ha2] at hc0 hc1
 have hql : (0 : Int) < ((p :: q).length : Int) := by simp
 clear hR hC hcell
 have HB2 := Lib.hid hb
 clear hb
 go_upto_if 21 with (fail)
 generalize hw3 : w2.alloc (.cells #[.string p.f0, .string p.f1] 53) = w3
 go_cut [7] (fun v7 wc => ∃ s : ByteArray, v7 = .string s ∧ Hid (s.size ≤ 30 ∧ (s.toList == perL) = !(p.f0.toList == [111])) ∧ Hid (wc = w3))
 case first =>
  cases hx : (p.f0.toList == [111])
  ·go_wp2
   go_meet
   case rel => exact ⟨_, rfl, Lib.hid ⟨by decide, by rw [hx]; decide +kernel⟩, Lib.hid rfl⟩
  ·go_wp2
   go_meet
   case rel => exact ⟨_, rfl, Lib.hid ⟨by decide, by rw [hx]; decide +kernel⟩, Lib.hid rfl⟩
 case rest =>
  obtain ⟨s, rfl, HS, HW⟩ := hcut
  obtain rfl := HW.out
  subst hw3
  have hg0 : (w2.alloc (.cells #[.string p.f0, .string p.f1] 53)).heap[w2.heap.size]? = some (.cells #[.string p.f0, .string p.f1] 53 (0, 0)) := heap_alloc_new w2 _
  generalize hw3 : w2.alloc (.cells #[.string p.f0, .string p.f1] 53) = w3 at hg0 ⊢
  have g0 : w3.cell? ⟨w2.heap.size, 0, none⟩ = some (.string p.f0) := blk_cell hg0 0
  have g1 : w3.cell? ⟨w2.heap.size, 1, none⟩ = some (.string p.f1) := blk_cell hg0 1
  have HG := Lib.hid hg0
  clear hg0
  go_upto_if 24 with (fail)
  go_cut [7] (fun v7 wc => ∃ s : ByteArray, v7 = .string s ∧ Hid (s.size ≤ 30 ∧ (s.toList == perL) = personB d) ∧ Hid (wc = w3))
  case first =>
   have hPB : personB d = (!(p.f0.toList == [111]) && !(p.f0.toList == [111, 117])) := by unfold personB; rw [HP.out]
   have HPB := Lib.hid hPB
   clear hPB
   cases hx : (p.f0.toList == [111, 117])
   ·go_wp2
    go_meet
    case rel => exact ⟨_, rfl, Lib.hid ⟨HS.out.1, by rw [HS.out.2, HPB.out, hx]; simp⟩, Lib.hid rfl⟩
   ·go_wp2
    go_meet
    case rel => exact ⟨_, rfl, Lib.hid ⟨by decide, by rw [HPB.out, hx]; simp⟩, Lib.hid rfl⟩
  case rest =>
   obtain ⟨s, rfl, HS, HW⟩ := hcut
   obtain rfl := HW.out
   obtain ⟨wb, rfl⟩ : ∃ wb, wb = wc := ⟨wc, rfl⟩
   go_upto_region 8 with (fail)
   have HBW : Hid (Below w.heap.size w wb ∧ wb.heap[w.heap.size]? = some (.cells #[.string ⟨#[]⟩, .slice none 0 0] 25 (0, 0))) := Lib.hid (by
    have hb1 := HB.out
    have hb2 := HB2.out
    have e0 := blk_below (heap_alloc_new w (.cells #[.string ⟨#[]⟩, .slice none 0 0] 25)) hb1
    rw [← hw3]
    exact ⟨below_step (below_step (below_step (below_alloc (Below.refl _ _) _) hb1) hb2) (below_alloc (Below.refl _ _) _), blk_below (blk_below e0 hb2) (below_alloc (Below.refl _ _) _)⟩)
   go_cut [8] (fun v8 wd => ∃ g u xs, v8 = .pointer (some ⟨g, 0, none⟩) ∧ 3 ≤ xs.length ∧ Hid (Below wb.heap.size wb wd ∧ wb.heap.size ≤ g ∧ wd.heap[g]? = some (.cells #[.string d, u] 25 (0, 0)) ∧ xs.length = 3 ∧ V2 wb.heap.size wd u xs))
   case first =>
    have hg : w2.heap.size < wb.heap.size := blk_lt HG.out
    have hwn : IntKind.i64.wrap n = n := by rw [i64_w]; unfold wrap64; omega
    refine iv_ (fun W => Below wb.heap.size wb W) [19] TE [(0,0,some 25),(0,1,some 26),(1,2,some 27),(0,3,some 28),(1,4,some 29),(0,7,some 32),(0,10,some 35),(0,11,some 36)] (LE false false false false false false false) (by kernel_rfl) (by kernel_rfl) (by kernel_rfl) rfl (below_drew (Below.refl _ _)) (fun hS => ?_)
    generalize wb.drew = W at hS ⊢
    repeat (first
     | (refine sqi0 rfl ?_ (fun _ _ _ _ h => h) ?_; (focus rfl); apply Exists.intro; constructor; (focus (intro w'; go_simp; with_reducible rfl)); (simp only [Act.put, List.setIfInBounds_toArray, List.set_cons_zero, List.set_cons_succ]))
     | (refine sqi1 rfl ?_ (fun _ _ _ _ h => h) hS ?_; (focus rfl); apply Exists.intro; constructor; (focus (intro w' hS'; have x0 : w'.cell? ⟨w2.heap.size, 0, none⟩ = some (.string p.f0) := blk_cell ((hS'.block _ hg).trans HG.out) 0; have x1 : w'.cell? ⟨w2.heap.size, 1, none⟩ = some (.string p.f1) := blk_cell ((hS'.block _ hg).trans HG.out) 1; go_simp; with_reducible rfl)); (simp only [Act.put, List.setIfInBounds_toArray, List.set_cons_zero, List.set_cons_succ])))
    generalize hA : (Act.mk _ _) = a0
    refine iv_go (IE wb d a0) (IE.start a0 hS) ?_ ?_
    ·rintro l act W' ⟨b5, b8, bc, be, bg, bi, bj, v30, v31, v33, v34, v37, v38, v39, v40, v41, v42, v8, rfl, rfl, hF⟩ hr
     obtain ⟨rfl, rfl, rfl⟩ := doneE _ _ _ _ _ _ _ hr
     obtain ⟨g, rfl, hgg, _, h4⟩ := hF.2.2.2.2.2.2.1 rfl
     obtain ⟨u, xs, hgb, hl3, hv⟩ := h4 rfl
     subst hA
     (simp only [Act.put, List.setIfInBounds_toArray, List.set_cons_zero, List.set_cons_succ])
     go_wp2
     go_meet
     case rel => exact ⟨g, u, xs, rfl, by omega, Lib.hid ⟨hF.1, hgg, hgb, hl3, hv⟩⟩
    ·rintro l act W' ix ⟨b5, b8, bc, be, bg, bi, bj, v30, v31, v33, v34, v37, v38, v39, v40, v41, v42, v8, rfl, rfl, hF⟩ hi hra
     have hx := readyE _ _ _ _ _ _ _ ⟨ix, hi⟩ hra
     simp only at hx
     subst hA
     obtain ⟨rfl, rfl⟩ | ⟨rfl, rfl⟩ | ⟨rfl, rfl⟩ | ⟨rfl, rfl, rfl⟩ | ⟨rfl, rfl, rfl, rfl, rfl⟩ | ⟨rfl, rfl⟩ | ⟨rfl, rfl, rfl, rfl⟩ := hx
     ·have hb := below_alloc (Below.refl W'.heap.size W') (.cells #[.string p.f1] 9)
      have hv := v1_lit wb.heap.size W' p.f0 p.f1 hF.1.size (by omega)
      refine iv_value (n := some 30) [(0,6,some 31)] (w1 := W'.alloc (.cells #[.string p.f1] 9)) (v := .slice (some ⟨W'.heap.size, 0, none⟩) 1 1) rfl rfl (ok5 _ _ _ _ _ _) (by kernel_rfl) rfl ?_ (fun h => below_step h hb) ?_
      ·go_simp
      ·obtain ⟨h1, h2, h3, h4, h5, h6, h7, h8⟩ := hF.step hb
       refine sqk rfl ?_ (fun _ _ _ _ h => h) ?_
       ·rfl
       ·apply Exists.intro
        constructor
        ·intro w'
         go_simp
         with_reducible rfl
        ·refine ⟨true, b8, bc, be, bg, bi, bj, .slice (some ⟨W'.heap.size, 0, none⟩) 1 1, .agg #[.string p.f0, .slice (some ⟨W'.heap.size, 0, none⟩) 1 1], v33, v34, v37, v38, v39, v40, v41, v42, v8, rfl, ?_, h1, fun _ _ => hv, h3, h4, h5, h6, h7, h8⟩
         (simp only [Act.put, List.setIfInBounds_toArray, List.set_cons_zero, List.set_cons_succ])
     ·have hb := below_alloc (Below.refl W'.heap.size W') (.cells #[.string s] 9)
      have hv := v1_lit wb.heap.size W' ⟨#[111, 98, 106, 101, 99, 116, 99, 108, 97, 115, 115]⟩ s hF.1.size (by decide)
      refine iv_value (n := some 33) [(0,9,some 34)] (w1 := W'.alloc (.cells #[.string s] 9)) (v := .slice (some ⟨W'.heap.size, 0, none⟩) 1 1) rfl rfl (ok8 _ _ _ _ _ _) (by kernel_rfl) rfl ?_ (fun h => below_step h hb) ?_
      ·go_simp
      ·obtain ⟨h1, h2, h3, h4, h5, h6, h7, h8⟩ := hF.step hb
       refine sqk rfl ?_ (fun _ _ _ _ h => h) ?_
       ·rfl
       ·apply Exists.intro
        constructor
        ·intro w'
         go_simp
         with_reducible rfl
        ·refine ⟨b5, true, bc, be, bg, bi, bj, v30, v31, .slice (some ⟨W'.heap.size, 0, none⟩) 1 1, .agg #[.string ⟨#[111, 98, 106, 101, 99, 116, 99, 108, 97, 115, 115]⟩, .slice (some ⟨W'.heap.size, 0, none⟩) 1 1], v37, v38, v39, v40, v41, v42, v8, rfl, ?_, h1, h2, fun _ _ => hv, h4, h5, h6, h7, h8⟩
         (simp only [Act.put, List.setIfInBounds_toArray, List.set_cons_zero, List.set_cons_succ])
     ·refine iv_call (n := some 37) [(0,13,some 38)] rfl rfl (ok12 _ _ _ _ _ _) (by kernel_rfl) Tryz.func34 (by kernel_rfl) rfl #[.int .i64 n] rfl rfl ?_ ?_
      ·(simp only [List.map_toArray, List.map_cons, List.map_nil, Act.put, List.setIfInBounds_toArray, List.set_cons_zero, List.set_cons_succ])
       first | done | rfl
      ·refine (digits_c n hn0 hn1 _).mono ?_
       rintro e w5 ⟨s5, hz5, rfl, hb⟩
       have hz6 : ¬ 9223372036854775807 < 1 + s5.size := by omega
       refine ⟨_, rfl, fun h => below_step h hb, ?_⟩
       obtain ⟨h1, h2, h3, h4, h5, h6, h7, h8⟩ := hF.step hb
       refine sqk rfl ?_ (fun _ _ _ _ h => h) ?_
       ·rfl
       ·apply Exists.intro
        constructor
        ·intro w'
         go_simp
         with_reducible rfl
        ·refine ⟨b5, b8, true, be, bg, bi, bj, v30, v31, v33, v34, .string s5, .string (⟨#[100]⟩ ++ s5), v39, v40, v41, v42, v8, rfl, ?_, h1, h2, h3, fun _ _ => ⟨_, rfl⟩, h5, h6, h7, h8⟩
         (simp only [Act.put, List.setIfInBounds_toArray, List.set_cons_zero, List.set_cons_succ])
     ·obtain ⟨s5, rfl⟩ := hF.2.2.2.1 rfl rfl
      have hb := below_alloc (Below.refl W'.heap.size W') (.cells #[.string s5] 9)
      have hv := v1_lit wb.heap.size W' ⟨#[100, 101, 115, 99, 114, 105, 112, 116, 105, 111, 110]⟩ s5 hF.1.size (by decide)
      refine iv_value (n := some 39) [(0,15,some 40)] (w1 := W'.alloc (.cells #[.string s5] 9)) (v := .slice (some ⟨W'.heap.size, 0, none⟩) 1 1) rfl rfl (ok14 _ _ _ _ _ _) (by kernel_rfl) rfl ?_ (fun h => below_step h hb) ?_
      ·go_simp
      ·obtain ⟨h1, h2, h3, h4, h5, h6, h7, h8⟩ := hF.step hb
       refine sqk rfl ?_ (fun _ _ _ _ h => h) ?_
       ·rfl
       ·apply Exists.intro
        constructor
        ·intro w'
         go_simp
         with_reducible rfl
        ·refine ⟨b5, b8, true, true, bg, bi, bj, v30, v31, v33, v34, v37, .string s5, .slice (some ⟨W'.heap.size, 0, none⟩) 1 1, .agg #[.string ⟨#[100, 101, 115, 99, 114, 105, 112, 116, 105, 111, 110]⟩, .slice (some ⟨W'.heap.size, 0, none⟩) 1 1], v41, v42, v8, rfl, ?_, h1, h2, h3, fun _ h => Bool.noConfusion h, fun _ _ => hv, h6, h7, h8⟩
         (simp only [Act.put, List.setIfInBounds_toArray, List.set_cons_zero, List.set_cons_succ])
     ·obtain ⟨s1, x1, k1, A1, rfl, z1, R1⟩ := hF.2.1 rfl rfl
      obtain ⟨s2, x2, k2, A2', rfl, z2, R2⟩ := hF.2.2.1 rfl rfl
      obtain ⟨s3, x3, k3, A3, rfl, z3, R3⟩ := hF.2.2.2.2.1 rfl rfl
      refine iv_law (n := some 41) [(0,17,some 42)] rfl rfl (ok16 _ _ _ _ _ _) (by kernel_rfl) (fun K hK => ?_)
      refine Kd.R_lit_step k69 (w0 := wb) (W := W') wb.heap.size 42 (by rfl) (N := 41) rfl (xs := [⟨s1, [x1]⟩, ⟨s2, [x2]⟩, ⟨s3, [x3]⟩]) (inner := [.string s1, .slice A1 1 k1, .string s2, .slice A2' 1 k2, .string s3, .slice A3 1 k3]) (ok := fun _ => True) (okp := fun _ => True) (by go_simp) (reps3 R1 R2 R3) (fun _ _ => trivial) trivial hF.1 hF.1.size (by simp) ?_
      intro v1 w5 hR5 hB5 hg5 _
      obtain ⟨A5, k5, hv5⟩ := Kd.R_slice hR5
      have hv6 : v1 = .slice A5 3 k5 := hv5
      subst hv6
      refine hK _ _ (fun _ => hB5) ?_
      obtain ⟨h1, h2, h3, h4, h5, h6, h7, h8⟩ := hF
      refine sqk rfl ?_ (fun _ _ _ _ h => h) ?_
      ·rfl
      ·apply Exists.intro
       constructor
       ·intro w'
        go_simp
        with_reducible rfl
       ·refine ⟨true, true, bc, true, true, bi, bj, v30, .agg #[.string s1, .slice A1 1 k1], v33, .agg #[.string s2, .slice A2' 1 k2], v37, v38, v39, .agg #[.string s3, .slice A3 1 k3], .slice A5 3 k5, .agg #[.string d, .slice A5 3 k5], v8, rfl, ?_, hB5, fun _ h => Bool.noConfusion h, fun _ h => Bool.noConfusion h, h4, fun _ h => Bool.noConfusion h, fun _ _ => ⟨_, _, rfl, rfl, by simp, by simp, fit3 z1 z2 z3, hR5⟩, fun h => ?_, fun h => Bool.noConfusion (h8 h).1⟩
        ·(simp only [Act.put, List.setIfInBounds_toArray, List.set_cons_zero, List.set_cons_succ])
         rfl
        ·obtain ⟨g, e, hgg, k1', k2'⟩ := h7 h
         exact ⟨g, e, hgg, fun hj => blk_grown (k1' hj) hg5 (fun h => by cases h), fun h => Bool.noConfusion (h8 h).1⟩
     ·have hb := below_alloc (Below.refl W'.heap.size W') (.cells #[.string ⟨#[]⟩, .slice none 0 0] 25)
      refine iv_value (n := some 8) [] (w1 := W'.alloc (.cells #[.string ⟨#[]⟩, .slice none 0 0] 25)) (v := .pointer (some ⟨W'.heap.size, 0, none⟩)) rfl rfl rfl rfl rfl ?_ (fun h => below_step h hb) ?_
      ·go_simp
      ·have hs := hF.1.size
       obtain ⟨h1, h2, h3, h4, h5, h6, h7, h8⟩ := hF.step hb
       refine ⟨b5, b8, bc, be, bg, true, bj, v30, v31, v33, v34, v37, v38, v39, v40, v41, v42, .pointer (some ⟨W'.heap.size, 0, none⟩), rfl, ?_, h1, h2, h3, h4, h5, h6, fun _ => ⟨W'.heap.size, rfl, hs, fun _ => heap_alloc_new W' _, fun h => Bool.noConfusion (h8 h).2⟩, fun h => Bool.noConfusion (h8 h).2⟩
       (simp only [Act.put, List.setIfInBounds_toArray, List.set_cons_zero, List.set_cons_succ])
     ·obtain ⟨h1, h2, h3, h4, h5, h6, h7, h8⟩ := hF
      obtain ⟨u, xs, rfl, hl3, hv⟩ := h6 rfl rfl
      obtain ⟨g, rfl, hgg, k1, _⟩ := h7 rfl
      have k1 := k1 rfl
      obtain ⟨A5, k5, rfl⟩ := Kd.R_slice hv.2.2.2
      have y0 : W'.cell? ⟨g, 0, none⟩ = some (.string ⟨#[]⟩) := blk_cell k1 0
      have y1 : W'.cell? ⟨g, 1, none⟩ = some (.slice none 0 0) := blk_cell k1 1
      have f0 := blk_frozen k1 0
      have f1 := blk_frozen k1 1
      refine iv_store (w1 := (W'.setCell ⟨g, 0, none⟩ (.string d)).setCell ⟨g, 1, none⟩ (.slice A5 xs.length k5)) rfl rfl (by decide) rfl ?_ ?_
      ·go_simp
      ·have hR5 := Kd.R_set (Kd.R_set hv.2.2.2 k1 (by decide) 0 (.string d)) (blk_set k1 0 (.string d)) (by decide) 1 (.slice A5 xs.length k5)
       exact ⟨b5, b8, bc, be, true, true, true, v30, v31, v33, v34, v37, v38, v39, v40, v41, _, _, rfl, rfl, (h1.setCell hgg _).setCell hgg _, fun _ h => Bool.noConfusion h, fun _ h => Bool.noConfusion h, h4, fun _ h => Bool.noConfusion h, fun _ h => Bool.noConfusion h, fun _ => ⟨g, rfl, hgg, fun h => Bool.noConfusion h, fun _ => ⟨_, xs, blk_set (blk_set k1 0 _) 1 _, hl3, hv.1, hv.2.1, hv.2.2.1, hR5⟩⟩, fun _ => ⟨rfl, rfl⟩⟩
   case rest =>
    obtain ⟨g, u, xs, rfl, hl0, H8⟩ := hcut
    obtain ⟨A8, k8, rfl⟩ := Kd.R_slice H8.out.2.2.2.2.2.2.2
    clear HG g0 g1 hw3 HW
    have hwn : IntKind.i64.wrap n = n := by rw [i64_w]; unfold wrap64; omega
    have hm0 : 0 ≤ n.tmod 4 := Int.tmod_nonneg 4 hn0
    have hm1 : n.tmod 4 < 4 := Int.tmod_lt_of_pos n (by decide)
    go_upto_if 44 with (fail)
    go_cut [] (fun wd => ∃ u xs, Hid (RE wb d (personB d) g u xs wd))
    case first =>
     cases hp : personB d
     ·have hcls : (s.toList == [112, 101, 114, 115, 111, 110]) = false := by have h := HS.out.2; rw [hp] at h; exact h
      rw [hcls]
      go_wp2
      go_meet
      case rel => exact ⟨_, xs, Lib.hid ⟨H8.out.1, H8.out.2.1, H8.out.2.2.1, fun _ => H8.out.2.2.2.1, H8.out.2.2.2.2⟩⟩
     ·have hcls : (s.toList == [112, 101, 114, 115, 111, 110]) = true := by have h := HS.out.2; rw [hp] at h; exact h
      rw [hcls]
      go_upto_region 10 with (fail)
      go_cut [] (fun wd => ∃ u xs, Hid (RE wb d true g u xs wd ∧ xs.length = 4))
      case first =>
       have hR8 : RE wb d true g (.slice A8 xs.length k8) xs wc := ⟨H8.out.1, H8.out.2.1, H8.out.2.2.1, fun h => Bool.noConfusion h, H8.out.2.2.2.2⟩
       have hxl : xs.length = 3 := H8.out.2.2.2.1
       refine sq_ (RE wb d true g (.slice A8 xs.length k8) xs) [10, 12] [(0,0,some 45),(1,1,some 46),(0,2,some 47),(0,3,some 48),(0,4,some 49),(2,5,some 50),(0,6,some 51),(2,7,some 52),(0,8,some 53),(2,9,some 54),(3,10,some 55),(0,11,some 56),(3,12,none)] (by kernel_rfl) (by kernel_rfl) (hR8.step (below_drew (Below.refl _ _))) (fun hS => ?_)
       have HXL := Lib.hid hxl
       clear hR8 hxl
       generalize wc.drew = W at hS ⊢
       repeat (first
        | (refine sq0 rfl ?_ (fun _ _ _ _ h => h) ?_; (focus rfl); apply Exists.intro; constructor; (focus (intro w'; go_simp; with_reducible rfl)); (simp only [Act.put, List.setIfInBounds_toArray, List.set_cons_zero, List.set_cons_succ]))
        | (refine sq1 rfl ?_ (fun _ _ _ _ h => h) hS ?_; (focus rfl); apply Exists.intro; constructor; (focus (intro w' hS'; have x1 : w'.cell? ⟨g, 1, none⟩ = some (.slice A8 xs.length k8) := blk_cell hS'.2.2.1 1; go_simp; with_reducible rfl)); (simp only [Act.put, List.setIfInBounds_toArray, List.set_cons_zero, List.set_cons_succ]))
        | (refine sq_call rfl Tryz.func34 (by kernel_rfl) rfl #[.int .i64 (n.tmod 4)] rfl ?_ rfl ?_ ?_; (focus rfl); (focus ((try simp only [List.map_toArray, List.map_cons, List.map_nil]); first | done | rfl)); refine (digits_c _ hm0 (by omega) _).mono ?_; rintro e w5 ⟨s5, hz5, rfl, hb⟩; have hz6 : ¬ 9223372036854775807 < 1 + s5.size := (by omega); refine ⟨_, rfl, hS.step hb, fun hS2 => ?_⟩; clear hS hb; have hS := hS2; clear hS2; (simp only [Act.put, List.setIfInBounds_toArray, List.set_cons_zero, List.set_cons_succ])))
       generalize hst : (⟨#[115]⟩ ++ s5 : ByteArray) = st
       clear W
       obtain ⟨W, rfl⟩ : ∃ x, x = w5 := ⟨w5, rfl⟩
       have hwb : wb.heap.size ≤ W.heap.size := hS.1.size
       have hown : Hid (∀ k, (Value.slice A8 xs.length k8).ownBlock = some k → k < W.heap.size) := Lib.hid (Kd.R_mono (Kd.R_bound hS.2.2.2.2.2.2.2) (ok' := fun k => k < W.heap.size) (fun _ h => h.2.2.1)).1
       refine sq_value (w1 := W.alloc (.cells #[.string st] 9)) (v := .slice (some ⟨W.heap.size, 0, none⟩) 1 1) rfl rfl rfl (by go_simp) (hS.step (below_alloc (Below.refl _ _) _)) (fun hS2 => ?_)
       (simp only [Act.put, List.setIfInBounds_toArray, List.set_cons_zero, List.set_cons_succ])
       (refine sq0 rfl ?_ (fun _ _ _ _ h => h) ?_; (focus rfl); apply Exists.intro; constructor; (focus (intro w'; go_simp; with_reducible rfl)); (simp only [Act.put, List.setIfInBounds_toArray, List.set_cons_zero, List.set_cons_succ]))
       have hR1 : Kd.R Kd.string 9 (W.alloc (.cells #[.string st] 9)) wb.heap.size (fun k => k = W.heap.size) (.slice (some ⟨W.heap.size, 0, none⟩) 1 1) [st] := Kd.R_of_own (own_lit_of (enc := Value.string) W wb.heap.size 9 [st] hwb (by simp)) (fun k hk => by simpa [Value.ownBlock] using hk.symm)
       generalize hW1 : W.alloc (.cells #[.string st] 9) = W1 at hS2 hR1 ⊢
       refine sq_value (w1 := W1.alloc (.cells #[.string ⟨#[115, 110]⟩, .slice (some ⟨W.heap.size, 0, none⟩) 1 1] 42)) (v := .slice (some ⟨W1.heap.size, 0, none⟩) 1 1) rfl rfl rfl (by go_simp) (hS2.step (below_alloc (Below.refl _ _) _)) (fun _ => ?_)
       (simp only [Act.put, List.setIfInBounds_toArray, List.set_cons_zero, List.set_cons_succ])
       refine sq3 rfl (fun K hK => ?_)
       refine Kd.R_append_step k69 (w0 := wb) (W := W1) wb.heap.size (by rfl) (.tmp 46) (.tmp 54) 23 42 (.agg #[.string ⟨#[]⟩, .slice none 0 0]) 40 rfl Tryz.underlying23 PA.info69 rfl (by decide) (by decide) (.slice A8 xs.length k8) xs ⟨⟨#[115, 110]⟩, [st]⟩ [.string ⟨#[115, 110]⟩, .slice (some ⟨W.heap.size, 0, none⟩) 1 1] (fun _ => True) (fun k => k = W.heap.size) rfl rfl (k69_mkM _ _ _ _ hR1) (fun k hk => ⟨trivial, fun e => by have := hown.out k e.symm; omega⟩) (fun _ _ => trivial) hS2.2.2.2.2.2.2.2 hS2.1 hS2.1.size (by have := hS2.2.2.2.2.2.1; omega) ?_
       intro v1 w6 hR6 hB6 hg6 _
       obtain ⟨A9, k9, hv9⟩ := Kd.R_slice hR6
       rw [List.length_append, List.length_singleton] at hv9
       subst hv9
       have hb6 := blk_grown hS2.2.2.1 hg6 (Kd.R_ne hS2.2.2.2.2.2.2.2 hS2.2.2.1 (by decide))
       have HV := Lib.hid hS2.2.2.2.2
       refine hK _ _ ?_
       (simp only [Act.put, List.setIfInBounds_toArray, List.set_cons_zero, List.set_cons_succ])
       (refine sq0 rfl ?_ (fun _ _ _ _ h => h) ?_; (focus rfl); apply Exists.intro; constructor; (focus (intro w'; go_simp; with_reducible rfl)); (simp only [Act.put, List.setIfInBounds_toArray, List.set_cons_zero, List.set_cons_succ]))
       have y1 : w6.cell? ⟨g, 1, none⟩ = some (.slice A8 xs.length k8) := blk_cell hb6 1
       have f1 := blk_frozen hb6 1
       refine sq_store (w1 := w6.setCell ⟨g, 1, none⟩ (.slice A9 (xs.length + 1) k9)) rfl rfl rfl (by go_simp) ?_
       refine sq_end ?_
       have hgg := hS2.2.1
       clear y1 f1
       go_wp2
       go_meet
       case rel => exact ⟨_, xs ++ [⟨⟨#[115, 110]⟩, [st]⟩], Lib.hid ⟨⟨hB6.setCell hgg _, hgg, blk_set hb6 1 _, fun h => Bool.noConfusion h, by rw [List.length_append, List.length_singleton]; have := HXL.out; omega, by rw [List.length_append, List.length_singleton]; have := HXL.out; omega, fit_snoc HV.out.2.2.1 (by decide), Kd.R_set hR6 hb6 (by decide) 1 _⟩, by rw [List.length_append, List.length_singleton, HXL.out]⟩⟩
      case rest =>
       obtain ⟨u, xs, H9⟩ := hcut
       obtain ⟨A8, k8, rfl⟩ := Kd.R_slice H9.out.1.2.2.2.2.2.2.2
       go_upto_if 59 with (fail)
       cases hn3 : (n % 3 == 0)
       ·go_wp2
        go_meet
        case rel => exact ⟨_, xs, Lib.hid (by rw [hp]; exact H9.out.1)⟩
       ·go_upto_region 12 with (fail)
        have hR8 : RE wb d true g (.slice A8 xs.length k8) xs wc := H9.out.1
        have hxl : xs.length = 4 := H9.out.2
        refine sq_ (RE wb d true g (.slice A8 xs.length k8) xs) [8, 10] [(0,0,some 60),(1,1,some 61),(0,2,some 62),(2,3,some 63),(0,4,some 64),(2,5,some 65),(0,6,some 66),(2,7,some 67),(3,8,some 68),(0,9,some 69),(3,10,none)] (by kernel_rfl) (by kernel_rfl) (hR8.step (below_drew (Below.refl _ _))) (fun hS => ?_)
        have HXL := Lib.hid hxl
        clear hR8 hxl
        generalize wc.drew = W at hS ⊢
        repeat (first
         | (refine sq0 rfl ?_ (fun _ _ _ _ h => h) ?_; (focus rfl); apply Exists.intro; constructor; (focus (intro w'; go_simp; with_reducible rfl)); (simp only [Act.put, List.setIfInBounds_toArray, List.set_cons_zero, List.set_cons_succ]))
         | (refine sq1 rfl ?_ (fun _ _ _ _ h => h) hS ?_; (focus rfl); apply Exists.intro; constructor; (focus (intro w' hS'; have x1 : w'.cell? ⟨g, 1, none⟩ = some (.slice A8 xs.length k8) := blk_cell hS'.2.2.1 1; go_simp; with_reducible rfl)); (simp only [Act.put, List.setIfInBounds_toArray, List.set_cons_zero, List.set_cons_succ]))
         | (refine sq_call rfl Tryz.func34 (by kernel_rfl) rfl #[.int .i64 i] rfl ?_ rfl ?_ ?_; (focus rfl); (focus ((try simp only [List.map_toArray, List.map_cons, List.map_nil]); first | done | rfl)); refine (digits_c _ h0 h1 _).mono ?_; rintro e w5 ⟨s5, hz5, rfl, hb⟩; have hz6 : ¬ 9223372036854775807 < 2 + s5.size := (by omega); refine ⟨_, rfl, hS.step hb, fun hS2 => ?_⟩; clear hS hb; have hS := hS2; clear hS2; (simp only [Act.put, List.setIfInBounds_toArray, List.set_cons_zero, List.set_cons_succ])))
        generalize hst : (⟨#[112, 119]⟩ ++ s5 : ByteArray) = st
        clear W
        obtain ⟨W, rfl⟩ : ∃ x, x = w5 := ⟨w5, rfl⟩
        have hwb : wb.heap.size ≤ W.heap.size := hS.1.size
        have hown : Hid (∀ k, (Value.slice A8 xs.length k8).ownBlock = some k → k < W.heap.size) := Lib.hid (Kd.R_mono (Kd.R_bound hS.2.2.2.2.2.2.2) (ok' := fun k => k < W.heap.size) (fun _ h => h.2.2.1)).1
        refine sq_value (w1 := W.alloc (.cells #[.string st] 9)) (v := .slice (some ⟨W.heap.size, 0, none⟩) 1 1) rfl rfl rfl (by go_simp) (hS.step (below_alloc (Below.refl _ _) _)) (fun hS2 => ?_)
        (simp only [Act.put, List.setIfInBounds_toArray, List.set_cons_zero, List.set_cons_succ])
        (refine sq0 rfl ?_ (fun _ _ _ _ h => h) ?_; (focus rfl); apply Exists.intro; constructor; (focus (intro w'; go_simp; with_reducible rfl)); (simp only [Act.put, List.setIfInBounds_toArray, List.set_cons_zero, List.set_cons_succ]))
        have hR1 : Kd.R Kd.string 9 (W.alloc (.cells #[.string st] 9)) wb.heap.size (fun k => k = W.heap.size) (.slice (some ⟨W.heap.size, 0, none⟩) 1 1) [st] := Kd.R_of_own (own_lit_of (enc := Value.string) W wb.heap.size 9 [st] hwb (by simp)) (fun k hk => by simpa [Value.ownBlock] using hk.symm)
        generalize hW1 : W.alloc (.cells #[.string st] 9) = W1 at hS2 hR1 ⊢
        refine sq_value (w1 := W1.alloc (.cells #[.string ⟨#[117, 115, 101, 114, 112, 97, 115, 115, 119, 111, 114, 100]⟩, .slice (some ⟨W.heap.size, 0, none⟩) 1 1] 42)) (v := .slice (some ⟨W1.heap.size, 0, none⟩) 1 1) rfl rfl rfl (by go_simp) (hS2.step (below_alloc (Below.refl _ _) _)) (fun _ => ?_)
        (simp only [Act.put, List.setIfInBounds_toArray, List.set_cons_zero, List.set_cons_succ])
        refine sq3 rfl (fun K hK => ?_)
        refine Kd.R_append_step k69 (w0 := wb) (W := W1) wb.heap.size (by rfl) (.tmp 61) (.tmp 67) 23 42 (.agg #[.string ⟨#[]⟩, .slice none 0 0]) 40 rfl Tryz.underlying23 PA.info69 rfl (by decide) (by decide) (.slice A8 xs.length k8) xs ⟨⟨#[117, 115, 101, 114, 112, 97, 115, 115, 119, 111, 114, 100]⟩, [st]⟩ [.string ⟨#[117, 115, 101, 114, 112, 97, 115, 115, 119, 111, 114, 100]⟩, .slice (some ⟨W.heap.size, 0, none⟩) 1 1] (fun _ => True) (fun k => k = W.heap.size) rfl rfl (k69_mkM _ _ _ _ hR1) (fun k hk => ⟨trivial, fun e => by have := hown.out k e.symm; omega⟩) (fun _ _ => trivial) hS2.2.2.2.2.2.2.2 hS2.1 hS2.1.size (by have := hS2.2.2.2.2.2.1; omega) ?_
        intro v1 w6 hR6 hB6 hg6 _
        obtain ⟨A9, k9, hv9⟩ := Kd.R_slice hR6
        rw [List.length_append, List.length_singleton] at hv9
        subst hv9
        have hb6 := blk_grown hS2.2.2.1 hg6 (Kd.R_ne hS2.2.2.2.2.2.2.2 hS2.2.2.1 (by decide))
        have HV := Lib.hid hS2.2.2.2.2
        refine hK _ _ ?_
        (simp only [Act.put, List.setIfInBounds_toArray, List.set_cons_zero, List.set_cons_succ])
        (refine sq0 rfl ?_ (fun _ _ _ _ h => h) ?_; (focus rfl); apply Exists.intro; constructor; (focus (intro w'; go_simp; with_reducible rfl)); (simp only [Act.put, List.setIfInBounds_toArray, List.set_cons_zero, List.set_cons_succ]))
        have y1 : w6.cell? ⟨g, 1, none⟩ = some (.slice A8 xs.length k8) := blk_cell hb6 1
        have f1 := blk_frozen hb6 1
        refine sq_store (w1 := w6.setCell ⟨g, 1, none⟩ (.slice A9 (xs.length + 1) k9)) rfl rfl rfl (by go_simp) ?_
        refine sq_end ?_
        have hgg := hS2.2.1
        clear y1 f1
        go_wp2
        go_meet
        case rel => exact ⟨_, xs ++ [⟨⟨#[117, 115, 101, 114, 112, 97, 115, 115, 119, 111, 114, 100]⟩, [st]⟩], Lib.hid ⟨hB6.setCell hgg _, hgg, blk_set hb6 1 _, fun h => by rw [hp] at h; exact Bool.noConfusion h, by rw [List.length_append, List.length_singleton]; have := HXL.out; omega, by rw [List.length_append, List.length_singleton]; have := HXL.out; omega, fit_snoc HV.out.2.2.1 (by decide), Kd.R_set hR6 hb6 (by decide) 1 _⟩⟩
    case rest =>
     obtain ⟨u, xs, H9⟩ := hcut
     obtain ⟨hB, hgg, hgb, hx3, hv⟩ := H9.out
     obtain ⟨A8, k8, rfl, hk8, hC8⟩ := Kd.R_reads hv.2.2.2
     have z0 : wc.cell? ⟨g, 0, none⟩ = some (.string d) := blk_cell hgb 0
     have z1 : wc.cell? ⟨g, 1, none⟩ = some (.slice A8 xs.length k8) := blk_cell hgb 1
     have hlw : w.heap.size < wb.heap.size := blk_lt HBW.out.2
     have hE := (hB.block _ hlw).trans HBW.out.2
     have hBW := HBW.out.1.trans (hB.mono (Nat.le_of_lt hlw))
     have HX := Lib.hid (And.intro hx3 (And.intro hv.1 (And.intro hE hBW)))
     have HA : Hid (AttrsOk xs) := Lib.hid ⟨by have := hv.2.1; omega, hv.2.2.1⟩
     have HC8 := Lib.hid hC8
     clear hB hgg hgb hx3 hv hE hBW hC8 H8 H9
     go_wp2_with fail
     refine (norm_c d xs A8 k8 _ (by omega) HC8.out hk8 HA.out).mono ?_
     rintro e w9 ⟨l, hll, hla, v9, rfl, hR9, hb9⟩
     rw [HN.out]
     have HLL := Lib.hid hll
     clear hll
     obtain ⟨A9, k9, rfl⟩ := Kd.R_slice hR9
     have hE := blk_below HX.out.2.2.1 hb9
     have y0 : w9.cell? ⟨w.heap.size, 0, none⟩ = some (.string ⟨#[]⟩) := blk_cell hE 0
     have y1 : w9.cell? ⟨w.heap.size, 1, none⟩ = some (.slice none 0 0) := blk_cell hE 1
     have f0 := blk_frozen hE 0
     have f1 := blk_frozen hE 1
     have hr1' := blk_set (blk_set hE 0 (.string d)) 1 (.slice A9 l.length k9)
     have HR9 := Lib.hid (Kd.R_set (Kd.R_set hR9 hE (by decide) 0 (.string d)) (blk_set hE 0 (.string d)) (by decide) 1 (.slice A9 l.length k9))
     have hB9 := below_set (j := 1) (v := .slice A9 l.length k9) (below_set (g := w.heap.size) (j := 0) (v := .string d) (below_step HX.out.2.2.2 hb9) (Nat.le_refl _)) (g := w.heap.size) (Nat.le_refl _)
     go_wp2
     refine bodyPost_ret (results_cell_row rfl _ _ w.heap.size 25 #[.string d, .slice A9 l.length k9] (0, 0) _ rfl hr1' Tryz.underlying25 rfl (by kernel_rfl)) rfl ?_
     obtain ⟨A', c', e, hl, hC⟩ := Kd.R_reads HR9.out
     cases e
     exact ⟨l, by rw [HLL.out]; exact HX.out.2.1, fun hp => by rw [HLL.out]; exact HX.out.1 hp, hla, _, _, rfl, hl, hC, hB9⟩
end Go.Proofs.YtflkghdndffacaaGreatDoor.C
namespace Go.Proofs.YtflkghdndffacaaGreatDoor.C
open Go.RowKit Go.Proofs.YtflkghdndffacaaGreatDoor.Sq Go.Proofs.YtflkghdndffacaaGreatDoor.H Go.Proofs.YtflkghdndffacaaGreatDoor.PA Go.Proofs.YtflkghdndffacaaGreatDoor.Pure Go.Proofs.YtflkghdndffacaaGreatDoorW.PrintWords Go.Proofs.YtflkghdndffacaaGreatDoorW.PrintLast Go.Proofs.YtflkghdndffacaaGreatDoorW.PrintMore
set_option linter.unusedVariables false
set_option linter.unusedSimpArgs false
def typesL : List ByteArray := [⟨#[99, 110]⟩, ⟨#[115, 110]⟩, ⟨#[100, 101, 115, 99, 114, 105, 112, 116, 105, 111, 110]⟩, ⟨#[117, 115, 101, 114, 112, 97, 115, 115, 119, 111, 114, 100]⟩, ⟨#[101, 110, 116, 114, 121]⟩, ⟨#[111, 98, 106, 101, 99, 116, 99, 108, 97, 115, 115]⟩]
def MadeR (r : S54) : Prop := (1 ≤ r.f0 ∧ r.f0 ≤ 4) ∧ (r.f0 = 4 → r.f1 ∈ namesL) ∧ (r.f0 ≠ 4 → r.f1 = ⟨#[]⟩) ∧ (r.f2 = ⟨#[]⟩ ∨ r.f2 ∈ namesL) ∧ r.f4.length ≤ 2 ∧ (∀ s ∈ r.f4, s ∈ typesL) ∧ 0 ≤ r.f5 ∧ r.f5 ≤ 2
def RM (w wo : World) (v8 : Value) (xs : List S54) (g : Nat) (r : S54) (u : Value) (W : World) : Prop :=
 Below w.heap.size w W ∧ Kd.R k54 40 W w.heap.size (fun k => k < wo.heap.size) v8 xs ∧ wo.heap.size ≤ g ∧ Below wo.heap.size wo W ∧ w.heap.size ≤ wo.heap.size ∧ W.heap[g]? = some (.cells #[.int .i64 r.f0, .string r.f1, .string r.f2, .bool r.f3, u, .int .i64 r.f5] 40 (0, 0)) ∧ Kd.R Kd.string 9 W wo.heap.size (fun _ => True) u r.f4
theorem RM.step {w wo W W1 : World} {v8 : Value} {xs : List S54} {g : Nat} {r : S54} {u : Value} (h : RM w wo v8 xs g r u W) (hb : Below W.heap.size W W1) : RM w wo v8 xs g r u W1 :=
 ⟨below_step h.1 hb, Kd.R_below h.2.1 hb, h.2.2.1, below_step h.2.2.2.1 hb, h.2.2.2.2.1, blk_below h.2.2.2.2.2.1 hb, Kd.R_below h.2.2.2.2.2.2 hb⟩
theorem RM.dn {w wo W : World} {v8 : Value} {xs : List S54} {g : Nat} {n : Int} {s t : ByteArray} {b : Bool} {l : List ByteArray} {m : Int} {u : Value} (h : RM w wo v8 xs g ⟨n, s, t, b, l, m⟩ u W) (s' : ByteArray) : RM w wo v8 xs g ⟨n, s', t, b, l, m⟩ u (W.setCell ⟨g, 1, none⟩ (.string s')) :=
 ⟨below_set h.1 (Nat.le_trans h.2.2.2.2.1 h.2.2.1), Kd.R_far h.2.1 (fun k (hk : k < wo.heap.size) => by have := h.2.2.1; show k ≠ g; omega) _, h.2.2.1, below_set h.2.2.2.1 h.2.2.1, h.2.2.2.2.1, blk_set h.2.2.2.2.2.1 1 _, Kd.R_set h.2.2.2.2.2.2 h.2.2.2.2.2.1 (by decide) 1 _⟩
end Go.Proofs.YtflkghdndffacaaGreatDoor.C
namespace Go.Proofs.YtflkghdndffacaaGreatDoor.C
open Go.RowKit Go.Proofs.YtflkghdndffacaaGreatDoor.Sq Go.Proofs.YtflkghdndffacaaGreatDoor.H Go.Proofs.YtflkghdndffacaaGreatDoor.PA Go.Proofs.YtflkghdndffacaaGreatDoor.Pure Go.Proofs.YtflkghdndffacaaGreatDoorW.PrintWords Go.Proofs.YtflkghdndffacaaGreatDoorW.PrintLast Go.Proofs.YtflkghdndffacaaGreatDoorW.PrintMore
set_option linter.unusedVariables false
set_option linter.unusedSimpArgs false
theorem rules_at {W : World} {b : Nat} {cs : Array Value} (hb : W.heap[b]? = some (.cells cs 40 (0, 0))) (rs : List S54) (hl : rs.length ≤ 9223372036854775807) (h : ∀ k r, rs[k]? = some r → ∃ A4 c4, r.f4.length ≤ c4 ∧ Kd.string.C W A4 r.f4.length r.f4 ∧ ∀ j v, (ruleV r A4 c4)[j]? = some v → cs[k * 6 + j]? = some v) : Kd.C k54 W (some ⟨b, 0, none⟩) rs.length rs := by
 refine ⟨rfl, hl, fun _ => ⟨⟨b, 0, none⟩, rfl, fun j p hj => ?_⟩⟩
 obtain ⟨A4, c4, l4, g4, hc⟩ := h j p hj
 refine ⟨_, rfl, k54_mk W p l4 g4, fun i u hu => ?_⟩
 have e : W.cell? ⟨b, 0 + (j * 6 + i), none⟩ = some u := by
  rw [Nat.zero_add, blk_cell hb]
  refine hc i u ?_
  rw [← hu]
  simp [ruleV]
 have hsz : k54.sz = 6 := rfl
 rw [hsz]
 have ha : (⟨b, 0, none⟩ : Addr).add (j * 6 + i) = ⟨b, 0 + (j * 6 + i), none⟩ := by
  unfold Addr.add
  split
  ·rename_i h0
   rw [h0]
  ·rfl
 rw [ha]
 exact e
theorem rule_one {W : World} {b : Nat} {n m : Int} {s t : ByteArray} {d : Bool} (hb : W.heap[b]? = some (.cells #[.int .i64 n, .string s, .string t, .bool d, .slice none 0 0, .int .i64 m] 40 (0, 0))) : Kd.C k54 W (some ⟨b, 0, none⟩) 1 [⟨n, s, t, d, [], m⟩] := by
 refine rules_at hb [⟨n, s, t, d, [], m⟩] (by simp) (fun k r hr => ?_)
 match k, hr with
 | 0, hr =>
  cases hr
  exact ⟨none, 0, Nat.le_refl _, Kd.C_nil _ _, fun j v hv => by simpa [ruleV] using hv⟩
def rAll : S54 := ⟨1, ⟨#[]⟩, ⟨#[]⟩, true, [], 1⟩
theorem under_nil (key : ByteArray) : underB key ⟨#[]⟩ = true := underS_nil _ (bl key) (Nat.le_refl _)
theorem all_right (key typ : ByteArray) : rightB [rAll] ⟨#[]⟩ key typ = 1 := by
 have e : (keyB ⟨#[]⟩).1 = ⟨#[]⟩ := by decide +kernel
 have h : speaksB rAll ⟨#[]⟩ key typ = true := by simp [speaksB, notHereB, whoB, rAll, e, under_nil]
 unfold rightB
 have e : List.find? (fun r => speaksB r ⟨#[]⟩ key typ) [rAll] = some rAll := by simp only [List.find?, h]
 rw [e]
 rfl
theorem all_view (key : ByteArray) (l : List S69) : viewB [rAll] ⟨#[]⟩ key l = l := by
 unfold viewB
 rw [List.filter_eq_self]
 intro a _
 simp [seesB, all_right]
theorem all_may : mayB1 [rAll] = true := by decide +kernel
theorem all_ok : RulesOk [rAll] := by
 intro r hr
 rw [List.mem_singleton] at hr
 subst hr
 exact ⟨by decide, by decide⟩
theorem all_fine : ∀ r ∈ [rAll], RuleFine r := by
 intro r hr
 rw [List.mem_singleton] at hr
 subst hr
 exact ⟨by decide, by decide, fun s hs => by cases hs⟩
theorem rAll_one {W : World} {b : Nat} (hb : W.heap[b]? = some (.cells #[.int .i64 1, .string ⟨#[]⟩, .string ⟨#[]⟩, .bool true, .slice none 0 0, .int .i64 1] 40 (0, 0))) : Kd.C k54 W (some ⟨b, 0, none⟩) [rAll].length [rAll] := rule_one hb
theorem field51_1 (s : ByteArray) (A : Option Addr) (n c : Nat) (w : World) : (Instr.field 25 (.agg #[.string s, .slice A n c]) 1).run Tryz.prog w = .ok (.slice A n c) w := by kernel_rfl
def Ex (w1 : World) (d : ByteArray) (A : Option Addr) (n c : Nat) (W : World) : Prop := W.heap[w1.heap.size]? = some (.cells #[.string d, .slice A n c] 25 (0, 0)) ∧ W.heap[w1.heap.size + 1]? = some (.cells #[.int .i64 1, .string ⟨#[]⟩, .string ⟨#[]⟩, .bool true, .slice none 0 0, .int .i64 1] 40 (0, 0)) ∧ Below w1.heap.size w1 W
theorem Ex.step {w1 W W1 : World} {d : ByteArray} {A : Option Addr} {n c : Nat} (h : Ex w1 d A n c W) (hb : Below W.heap.size W W1) : Ex w1 d A n c W1 := ⟨blk_below h.1 hb, blk_below h.2.1 hb, below_step h.2.2 hb⟩
set_option maxHeartbeats 4000000 in
set_option maxRecDepth 100000 in
theorem awake_c (w : World) : Calls Tryz.prog 6 #[] w fun e w' => e = .returned (.bool true) ∧ Below w.heap.size w w' := by
 have hf51 := field51_1
 go_enter Tryz.func6, Tryz.ntmps6
 go_wp2_with fail
 refine (entry_c 0 1 (by decide) (by decide) (by decide) (by decide) _).mono ?_
 rintro e w1 ⟨l, hl3, hp, ha, A, c, rfl, hc, hC, hb⟩
 have H3 := Lib.hid (hp (by decide +kernel))
 have hds : (nm 0).size ≤ 1000000 := by decide +kernel
 generalize nm 0 = d at *
 have HA := Lib.hid ha
 clear hl3 hp ha
 have HB := Lib.hid hb
 have HC := Lib.hid hC
 clear hb hC
 go_wp2_with fail
 have HX : Hid (Ex w1 d A l.length c ((w1.alloc (.cells #[.string d, .slice A l.length c] 25)).alloc (.cells #[.int .i64 1, .string ⟨#[]⟩, .string ⟨#[]⟩, .bool true, .slice none 0 0, .int .i64 1] 40))) := Lib.hid ⟨blk_alloc (heap_alloc_new w1 _) _, by have := heap_alloc_new (w1.alloc (.cells #[.string d, .slice A l.length c] 25)) (.cells #[.int .i64 1, .string ⟨#[]⟩, .string ⟨#[]⟩, .bool true, .slice none 0 0, .int .i64 1] 40); simpa using this, below_alloc (below_alloc (Below.refl _ _) _) _⟩
 refine (right_c [] none 0 ⟨#[]⟩ d ⟨#[111]⟩ (.slice A l.length c) _ (Kd.C_nil _ _) (Nat.le_refl _) (fun r hr => by cases hr) (by omega) (by decide) rfl).mono ?_
 rintro e w2 ⟨rfl, hb2⟩
 have HX2 := Lib.hid (HX.out.step hb2)
 have x0 : w2.cell? ⟨w1.heap.size, 0, none⟩ = some (.string d) := blk_cell HX2.out.1 0
 have x1 : w2.cell? ⟨w1.heap.size, 1, none⟩ = some (.slice A l.length c) := blk_cell HX2.out.1 1
 have hr0 : rightB [] ⟨#[]⟩ (keyB d).1 ⟨#[111]⟩ = 0 := rfl
 clear HX hb2
 go_wp2_with fail
 refine (right_c [rAll] _ 1 ⟨#[]⟩ d ⟨#[111]⟩ (.slice A l.length c) _ (rAll_one HX2.out.2.1) (Nat.le_refl _) all_ok (by omega) (by decide) rfl).mono ?_
 rintro e w3 ⟨rfl, hb3⟩
 have HX3 := Lib.hid (HX2.out.step hb3)
 rw [all_right]
 clear x0 x1 hr0 HX2 hb3
 have x0 : w3.cell? ⟨w1.heap.size, 0, none⟩ = some (.string d) := blk_cell HX3.out.1 0
 have x1 : w3.cell? ⟨w1.heap.size, 1, none⟩ = some (.slice A l.length c) := blk_cell HX3.out.1 1
 go_wp2_with fail
 refine (view_c [rAll] _ 1 ⟨#[]⟩ d l A c _ (rAll_one HX3.out.2.1) (Nat.le_refl _) all_ok (by omega) (Kd.C_below HC.out HX3.out.2.2) hc HA.out).mono ?_
 rintro e w4 ⟨A4, c4, rfl, hc4, hC4, hb4⟩
 have HX4 := Lib.hid (HX3.out.step hb4)
 rw [all_view]
 clear x0 x1 HX3 hb4 hC4
 have h3 : ((l.length : Int) == 3) = true := by rw [H3.out]; rfl
 go_wp2_with fail
 refine (may_c _ 1 [rAll] _ (rAll_one HX4.out.2.1) (Nat.le_refl _) all_fine).mono ?_
 rintro e w5 ⟨rfl, hb5⟩
 have HX5 := Lib.hid (HX4.out.step hb5)
 rw [all_may]
 clear HX4 hb5 h3
 go_wp2
 go_ret
 exact ⟨rfl, below_step HB.out HX5.out.2.2⟩
end Go.Proofs.YtflkghdndffacaaGreatDoor.C
namespace Go.Proofs.YtflkghdndffacaaGreatDoor.C
open Go.RowKit Go.Proofs.YtflkghdndffacaaGreatDoor.Sq Go.Proofs.YtflkghdndffacaaGreatDoor.H Go.Proofs.YtflkghdndffacaaGreatDoor.PA Go.Proofs.YtflkghdndffacaaGreatDoor.Pure Go.Proofs.YtflkghdndffacaaGreatDoorW.PrintWords Go.Proofs.YtflkghdndffacaaGreatDoorW.PrintLast Go.Proofs.YtflkghdndffacaaGreatDoorW.PrintMore
set_option linter.unusedVariables false
set_option linter.unusedSimpArgs false
def Env (L : List (Nat × Array Value × TypeId)) (w W : World) : Prop := (∀ b ∈ L, W.heap[b.1]? = some (.cells b.2.1 b.2.2 (0, 0))) ∧ Below w.heap.size w W
theorem Env.step {L : List (Nat × Array Value × TypeId)} {w W W1 : World} (h : Env L w W) (hb : Below W.heap.size W W1) : Env L w W1 := ⟨fun b hi => blk_below (h.1 b hi) hb, below_step h.2 hb⟩
theorem Env.nil (w W : World) (hb : Below w.heap.size w W) : Env [] w W := ⟨fun b hi => (by cases hi), hb⟩
theorem Env.more {L : List (Nat × Array Value × TypeId)} {w W W1 : World} (h : Env L w W) {g : Nat} {cs : Array Value} {t : TypeId} (hb : Below W.heap.size W W1) (hg : W1.heap[g]? = some (.cells cs t (0, 0))) : Env (L ++ [(g, cs, t)]) w W1 := by
 refine ⟨fun b hi => ?_, below_step h.2 hb⟩
 rcases List.mem_append.1 hi with hi | hi
 ·exact blk_below (h.1 b hi) hb
 ·rw [List.mem_singleton] at hi
  subst hi
  exact hg
theorem Env.alloc {L : List (Nat × Array Value × TypeId)} {w W : World} (h : Env L w W) (cs : Array Value) (t : TypeId) : Env (L ++ [(W.heap.size, cs, t)]) w (W.alloc (.cells cs t)) := h.more (below_alloc (Below.refl _ _) _) (heap_alloc_new W _)
theorem Env.at {L : List (Nat × Array Value × TypeId)} {w W : World} (h : Env L w W) (i : Nat) {g : Nat} {cs : Array Value} {t : TypeId} (hi : L[i]? = some (g, cs, t)) : W.heap[g]? = some (.cells cs t (0, 0)) := h.1 _ (List.mem_of_getElem? hi)
theorem key_nil : (keyB ⟨#[]⟩).1 = ⟨#[]⟩ := by decide +kernel
theorem names_key {d : ByteArray} (hd : d ∈ namesL) : ((keyB d).1.toList != []) = true ∧ d.size ≤ 1000000 := by
 have h : namesL.all (fun d => ((keyB d).1.toList != []) && decide (d.size ≤ 1000000)) = true := by decide +kernel
 have h1 := List.all_eq_true.1 h d hd
 rw [Bool.and_eq_true, decide_eq_true_eq] at h1
 exact h1
end Go.Proofs.YtflkghdndffacaaGreatDoor.C
namespace Go.Proofs.YtflkghdndffacaaGreatDoor.C
open Go.RowKit Go.Proofs.YtflkghdndffacaaGreatDoor.Sq Go.Proofs.YtflkghdndffacaaGreatDoor.H Go.Proofs.YtflkghdndffacaaGreatDoor.PA Go.Proofs.YtflkghdndffacaaGreatDoor.Pure Go.Proofs.YtflkghdndffacaaGreatDoorW.PrintWords Go.Proofs.YtflkghdndffacaaGreatDoorW.PrintLast Go.Proofs.YtflkghdndffacaaGreatDoorW.PrintMore
set_option linter.unusedVariables false
set_option linter.unusedSimpArgs false
theorem str_one {W : World} {g : Nat} {s : ByteArray} (h : W.heap[g]? = some (.cells #[.string s] 9 (0, 0))) : Kd.C Kd.string W (some ⟨g, 0, none⟩) 1 [s] := by
 refine ⟨rfl, by decide, fun _ => ⟨⟨g, 0, none⟩, rfl, fun j p hj => ⟨[.string p], rfl, rfl, fun i u hu => ?_⟩⟩⟩
 match j, hj with
 | 0, hj =>
  cases hj
  match i, hu with
  | 0, hu => rw [← hu]; exact blk_cell h 0
theorem names_small {d : ByteArray} (hd : d ∈ namesL) : d.size ≤ 1000000 := (names_key hd).2
abbrev LF (b2 b4 b5 : Bool) : List Bool := [true, true, b2, true, b4, b5, b5]
def FF (wA : World) (r1 r2 : S54) (b2 b4 b5 : Bool) (g : Nat) (v36 v38 v39 v14 : Value) (W : World) : Prop :=
 Below wA.heap.size wA W ∧ (b2 = true → b5 = false → g < W.heap.size ∧ Kd.R k54 40 W wA.heap.size (fun k => k = g) v36 [r1, r2]) ∧
  (b4 = true → b5 = false → ∃ xs : List S54, xs.length ≤ 10 ∧ (∀ r ∈ xs, MadeR r) ∧ Kd.R k54 40 W wA.heap.size (fun k => b2 = true → k ≠ g) v38 xs) ∧
  (b5 = true → v39 = v14 ∧ ∃ xs : List S54, (∀ r ∈ xs, MadeR r) ∧ Kd.R k54 40 W wA.heap.size (fun _ => True) v14 (r1 :: r2 :: xs))
def IF (wA : World) (r1 r2 : S54) (a0 : Act) (l : List Bool) (act : Act) (W : World) : Prop :=
 ∃ (b2 b4 b5 : Bool) (g : Nat) (v36 v38 v39 v14 : Value), l = LF b2 b4 b5 ∧ act = (((a0.put (some 36) v36).put (some 38) v38).put (some 39) v39).put (some 14) v14 ∧ (b5 = true → b2 = true ∧ b4 = true) ∧ FF wA r1 r2 b2 b4 b5 g v36 v38 v39 v14 W
theorem IF.start {wA W : World} {r1 r2 : S54} (a0 : Act) (h : Below wA.heap.size wA W) : IF wA r1 r2 a0 (LF false false false) a0 W :=
 ⟨false, false, false, 0, a0.tmps.getD 36 undef, a0.tmps.getD 38 undef, a0.tmps.getD 39 undef, a0.tmps.getD 14 undef, rfl, by rw [put_self, put_self, put_self, put_self], fun h => Bool.noConfusion h, h, fun h => Bool.noConfusion h, fun h => Bool.noConfusion h, fun h => Bool.noConfusion h⟩
end Go.Proofs.YtflkghdndffacaaGreatDoor.C
namespace Go.Proofs.YtflkghdndffacaaGreatDoor.C
open Go.RowKit Go.Proofs.YtflkghdndffacaaGreatDoor.Sq Go.Proofs.YtflkghdndffacaaGreatDoor.H Go.Proofs.YtflkghdndffacaaGreatDoor.PA Go.Proofs.YtflkghdndffacaaGreatDoor.Pure Go.Proofs.YtflkghdndffacaaGreatDoorW.PrintWords Go.Proofs.YtflkghdndffacaaGreatDoorW.PrintLast Go.Proofs.YtflkghdndffacaaGreatDoorW.PrintMore
set_option linter.unusedVariables false
def rgateB (rules : List S54) (who key : ByteArray) (types : List ByteArray) : Bool := types.all fun t => !decide (rightB rules who key t < 2)
set_option maxHeartbeats 4000000 in
set_option maxRecDepth 100000 in
theorem rgate_c (rules : List S54) (A : Option Addr) (c : Nat) (who dn : ByteArray) (at1 : Value) (types : List ByteArray) (A2 : Option Addr) (c2 : Nat) (w : World) (hr : Kd.C k54 w A rules.length rules) (hc : rules.length ≤ c) (hm : RulesMod rules) (hd : dn.size ≤ 1000000) (h1 : at1.oneCell' = true) (hr2 : Kd.C Kd.string w A2 types.length types) (hc2 : types.length ≤ c2) (ht : TypesOk types) :
  Calls Tryz.prog 16 #[.slice A rules.length c, .string who, .agg #[.string dn, at1], .slice A2 types.length c2] w fun e w' => e = .returned (.bool (rgateB rules who (keyB dn).1 types)) ∧ Below w.heap.size w w' := by
 have hmax : types.length ≤ 9223372036854775807 := hr2.2.1
 have HR := Lib.hid hr
 have HM := Lib.hid hm
 have HR2 := Lib.hid hr2
 have HT := Lib.hid ht
 have HD := Lib.hid hd
 clear hr hm hr2 ht hd
 go_enter Tryz.func16, Tryz.ntmps16
 go_wp2
 go_loopw [9] (fun i wr => ∃ k : Nat, k ≤ types.length ∧ i = .int .i64 k ∧ Hid ((types.take k).all (fun t => !decide (rightB rules who (keyB dn).1 t < 2)) = true) ∧ Own w w.heap.size (.cells #[.string dn, at1] 25 (0, 0)) wr) (fun i _ => types.length - (intOf i).toNat)
 case atStart => exact ⟨0, Nat.zero_le _, rfl, Lib.hid (by simp), heap_alloc_new w _, (Below.refl _ _).alloc (Nat.le_refl _) _⟩
 case round =>
  obtain ⟨k, hk, rfl, HF, HO⟩ := hrel
  by_cases hlt : k < types.length
  ·obtain ⟨y, hy⟩ : ∃ y, types[k]? = some y := ⟨_, List.getElem?_eq_getElem hlt⟩
   obtain ⟨ad, e, _⟩ := str_at (Kd.C_below HR2.out HO.2) hy
   cases e
   have hyt := HT.out y (List.mem_of_getElem? hy)
   have HY := Lib.hid hy
   clear hy
   have hlt' : (k : Int) < (types.length : Int) := by omega
   have h0 : (0 : Int) ≤ (k : Int) := by omega
   go_upto_region 4 with (fail)
   go_cut [23, 24] (fun v23 v24 wc => v24 = .bool (decide (rightB rules who (keyB dn).1 y < 2)) ∧ Own w w.heap.size (.cells #[.string dn, at1] 25 (0, 0)) wc)
   case first =>
    refine sq_ (Own w w.heap.size (.cells #[.string dn, at1] 25 (0, 0))) [] [(0,0,some 16),(0,1,some 17),(1,2,some 18),(0,3,some 19),(0,4,some 20),(0,5,some 21),(1,6,some 22),(2,7,some 23),(0,8,some 24)] (by kernel_rfl) (by kernel_rfl) HO.drew (fun hS => ?_)
    generalize wr.drew = W at hS ⊢
    repeat (first
     | (refine sq0 rfl ?_ (fun _ _ _ _ h => h) ?_; (focus rfl); apply Exists.intro; constructor; (focus (intro w'; go_simp; with_reducible rfl)); (simp only [Act.put, List.setIfInBounds_toArray, List.set_cons_zero, List.set_cons_succ]))
     | (refine sq1 rfl ?_ (fun _ _ _ _ h => h) hS ?_; (focus rfl); apply Exists.intro; constructor; (focus (intro w' hS'; have s0 : w'.cell? ⟨w.heap.size, 0, none⟩ = some (.string dn) := blk_cell hS'.1 0; have s1 : w'.cell? ⟨w.heap.size, 1, none⟩ = some at1 := blk_cell hS'.1 1; obtain ⟨ad2, e2, x0⟩ := str_at (Kd.C_below HR2.out hS'.2) HY.out; cases e2; go_simp; with_reducible rfl)); (simp only [Act.put, List.setIfInBounds_toArray, List.set_cons_zero, List.set_cons_succ]))
     | (refine sq_call rfl Tryz.func11 (by kernel_rfl) rfl #[.slice A rules.length c, .string who, .agg #[.string dn, at1], .string y] rfl ?_ rfl ?_ ?_; (focus rfl); (focus ((try simp only [List.map_toArray, List.map_cons, List.map_nil]); first | done | rfl)); refine (rright_c rules A c who dn y at1 _ (Kd.C_below HR.out hS.2) hc HM.out HD.out hyt h1).mono ?_; rintro e w2 ⟨rfl, hb⟩; refine ⟨_, rfl, Own.step hS hb, fun hS2 => ?_⟩; clear hb hS; have hS := hS2; clear hS2; (simp only [Act.put, List.setIfInBounds_toArray, List.set_cons_zero, List.set_cons_succ])))
    refine sq_end ?_
    go_wp2
    go_meet
    case rel => exact ⟨rfl, hS⟩
   case rest =>
    obtain ⟨rfl, hO⟩ := hcut
    cases hs : decide (rightB rules who (keyB dn).1 y < 2)
    ·have HS := Lib.hid hs
     go_wp2
     go_roundw
     case measure => simp [intOf]; omega
     case rel => exact ⟨k + 1, by omega, by go_num, Lib.hid (all_next HY.out (by rw [HS.out]; rfl) HF.out), hO⟩
    ·have HS := Lib.hid hs
     go_wp2
     go_ret
     exact ⟨ret_bool (all_here (p := fun t => !decide (rightB rules who (keyB dn).1 t < 2)) HY.out (by rw [HS.out]; rfl)).symm, hO.2⟩
  ·obtain rfl : k = types.length := by omega
   go_wp2
   go_ret
   exact ⟨ret_bool (all_end HF.out).symm, HO.2⟩
end Go.Proofs.YtflkghdndffacaaGreatDoor.C
namespace Go.Proofs.YtflkghdndffacaaGreatDoor.C
open Go.RowKit Go.Proofs.YtflkghdndffacaaGreatDoor.Sq Go.Proofs.YtflkghdndffacaaGreatDoor.H Go.Proofs.YtflkghdndffacaaGreatDoor.PA Go.Proofs.YtflkghdndffacaaGreatDoor.Pure Go.Proofs.YtflkghdndffacaaGreatDoorW.PrintWords Go.Proofs.YtflkghdndffacaaGreatDoorW.PrintLast Go.Proofs.YtflkghdndffacaaGreatDoorW.PrintMore
set_option linter.unusedVariables false
def oldK {α : Type} (d : Kd α) (w0 : World) : Kd α where
 sz := d.sz
 E := []
 K := fun _ x cs => d.K w0 x cs
 M := fun _ _ _ x cs => d.K w0 x cs
 K_len := d.K_len
 K_one := d.K_one
 K_below := fun _ h => h
 K_of_M := fun h => h
 M_mono := fun _ h => h
 M_bound := fun h => h
 M_move := fun _ h => h
 M_lower := fun _ h => h
theorem C_of_old {α : Type} {d : Kd α} {w0 w : World} {A : Option Addr} {n : Nat} {xs : List α} (h : (oldK d w0).C w A n xs) (hb : Below w0.heap.size w0 w) : d.C w A n xs := ReadsRow.imp_ h (Below.refl _ _) (fun _ _ hp => d.K_below hb hp)
theorem old_ne {α : Type} {d : Kd α} {w0 : World} : ∀ q, q ∈ 42 :: (oldK d w0).E → q ≠ 25 := fun q h => by
 have h' : q ∈ [42] := h
 rw [List.mem_singleton] at h'
 omega
def VwS (w : World) (dn : ByteArray) (a1 v : Value) (xs : List S69) (W : World) : Prop := Vw w dn a1 v W ∧ Kd.R (oldK k69 w) 42 W w.heap.size (fun _ => True) v xs
theorem VwS.step {w W W1 : World} {dn : ByteArray} {a1 v : Value} {xs : List S69} (h : VwS w dn a1 v xs W) (hb : Below W.heap.size W W1) : VwS w dn a1 v xs W1 := ⟨h.1.step hb, Kd.R_below h.2 hb⟩
theorem Vw.grownO {w W W1 : World} {dn : ByteArray} {a1 v : Value} {base : Nat} {ok : Nat → Prop} {xs : List S69} (h : Vw w dn a1 v W) (hV : Kd.R (oldK k69 w) 42 W base ok v xs) (hg : W.grownBy W1 v.ownBlock) (hb : Below w.heap.size w W1) : Vw w dn a1 v W1 := ⟨blk_grown h.1 hg (Kd.R_ne hV h.1 (by decide)), blk_grown h.2.1 hg (Kd.R_ne hV h.2.1 (by decide)), blk_grown h.2.2.1 hg (Kd.R_ne hV h.2.2.1 (by decide)), hb⟩
set_option maxHeartbeats 4000000 in
set_option maxRecDepth 100000 in
theorem rview_c (rules : List S54) (A : Option Addr) (c : Nat) (who dn : ByteArray) (attrs : List S69) (A1 : Option Addr) (c1 : Nat) (w : World) (hr : Kd.C k54 w A rules.length rules) (hc : rules.length ≤ c) (hm : RulesMod rules) (hd : dn.size ≤ 1000000) (hr1 : Kd.C k69 w A1 attrs.length attrs) (hc1 : attrs.length ≤ c1) (ha : AttrsOk attrs) :
  Calls Tryz.prog 14 #[.slice A rules.length c, .string who, .agg #[.string dn, .slice A1 attrs.length c1]] w (EntryOut w dn (viewB rules who (keyB dn).1 attrs)) := by
 have hmax : attrs.length ≤ 9223372036854775807 := hr1.2.1
 have HR := Lib.hid hr
 have HM := Lib.hid hm
 have HR1 := Lib.hid hr1
 have HA := Lib.hid ha
 have HD := Lib.hid hd
 clear hr hm hr1 ha hd
 go_enter Tryz.func14, Tryz.ntmps14
 go_wp2
 go_loopw [8] (fun i wr => ∃ k : Nat, ∃ v : Value, k ≤ attrs.length ∧ i = .int .i64 k ∧ Hid (Kd.R (oldK k69 w) 42 wr w.heap.size (fun _ => True) v ((attrs.take k).filter (seesB rules who (keyB dn).1))) ∧ Vw w dn (.slice A1 attrs.length c1) v wr) (fun i _ => attrs.length - (intOf i).toNat)
 case atStart => exact ⟨0, .slice none 0 0, Nat.zero_le _, rfl, Lib.hid (Kd.R_nil _ _ _ _ _), blk_alloc (blk_alloc (heap_alloc_new w _) _) _, blk_alloc (by have := heap_alloc_new (w.alloc (.cells #[.string dn, .slice A1 attrs.length c1] 25)) (.cells #[.string ⟨#[]⟩, .slice none 0 0] 25); simpa using this) _, by have := heap_alloc_new ((w.alloc (.cells #[.string dn, .slice A1 attrs.length c1] 25)).alloc (.cells #[.string ⟨#[]⟩, .slice none 0 0] 25)) (.cells #[.string dn, .slice none 0 0] 25); simpa using this, below_alloc (below_alloc (below_alloc (Below.refl _ _) _) _) _⟩
 case round =>
  obtain ⟨k, v, hk, rfl, HV, HW⟩ := hrel
  have e1 : wr.cell? ⟨w.heap.size, 1, none⟩ = some (.slice A1 attrs.length c1) := blk_cell HW.1 1
  by_cases hlt : k < attrs.length
  ·obtain ⟨a, hy⟩ : ∃ r, attrs[k]? = some r := ⟨_, List.getElem?_eq_getElem hlt⟩
   obtain ⟨m1, m2⟩ := HA.out.2 a (List.mem_of_getElem? hy)
   have m1' : a.f0.size ≤ 9223372036854775806 := by omega
   obtain ⟨ad, Aa, ca, e, x0, x1, hl4, hi4⟩ := attr_at HR1.out hy
   cases e
   have HC := Lib.hid (And.intro x0 x1)
   clear x0 x1
   have HK := Lib.hid (k69_mk w a hl4 hi4)
   clear hi4
   have HY := Lib.hid hy
   clear hy
   have hlt' : (k : Int) < (attrs.length : Int) := by omega
   have h0 : (0 : Int) ≤ (k : Int) := by omega
   have HT := Lib.hid (List.take_add_one (l := attrs) (i := k))
   have HL : Hid ((((attrs.take k).filter (seesB rules who (keyB dn).1)).length + 1) * 40 ≤ 140737488355328) := Lib.hid (by have := List.length_filter_le (seesB rules who (keyB dn).1) (attrs.take k); have := List.length_take_le k attrs; have := HA.out.1; omega)
   go_upto_region 5 with (fail)
   go_cut [29] (fun v29 wc => v29 = .bool (decide (1 ≤ rightB rules who (keyB dn).1 a.f0)) ∧ Hid (VwS w dn (.slice (some ad) attrs.length c1) v ((attrs.take k).filter (seesB rules who (keyB dn).1)) wc))
   case first =>
    refine sq_ (VwS w dn (.slice (some ad) attrs.length c1) v ((attrs.take k).filter (seesB rules who (keyB dn).1))) [] [(0,0,some 19),(0,1,some 20),(1,2,some 21),(0,3,some 22),(1,4,some 23),(0,5,some 24),(0,6,some 25),(0,7,some 26),(1,8,some 27),(2,9,some 28),(0,10,some 29)] (by kernel_rfl) (by kernel_rfl) (VwS.step ⟨HW, HV.out⟩ (below_drew (Below.refl _ _))) (fun hS => ?_)
    clear HV HW e1
    generalize wr.drew = W at hS ⊢
    repeat (first
     | (refine sq0 rfl ?_ (fun _ _ _ _ h => h) ?_; (focus rfl); apply Exists.intro; constructor; (focus (intro w'; go_simp; with_reducible rfl)); (simp only [Act.put, List.setIfInBounds_toArray, List.set_cons_zero, List.set_cons_succ]))
     | (refine sq1 rfl ?_ (fun _ _ _ _ h => h) hS ?_; (focus rfl); apply Exists.intro; constructor; (focus (intro w' hS'; have s0 : w'.cell? ⟨w.heap.size, 0, none⟩ = some (.string dn) := blk_cell hS'.1.1 0; have s1 : w'.cell? ⟨w.heap.size, 1, none⟩ = some (.slice (some ad) attrs.length c1) := blk_cell hS'.1.1 1; obtain ⟨ad2, Aa2, ca2, e2, x0, x1, _, _⟩ := attr_at (Kd.C_below HR1.out hS'.1.2.2.2) HY.out; cases e2; go_simp; with_reducible rfl)); (simp only [Act.put, List.setIfInBounds_toArray, List.set_cons_zero, List.set_cons_succ]))
     | (refine sq_call rfl Tryz.func11 (by kernel_rfl) rfl #[.slice A rules.length c, .string who, .agg #[.string dn, .slice (some ad) attrs.length c1], .string a.f0] rfl ?_ rfl ?_ ?_; (focus rfl); (focus ((try simp only [List.map_toArray, List.map_cons, List.map_nil]); first | done | rfl)); refine (rright_c rules A c who dn a.f0 (.slice (some ad) attrs.length c1) _ (Kd.C_below HR.out hS.1.2.2.2) hc HM.out HD.out m1' rfl).mono ?_; rintro e w2 ⟨rfl, hb⟩; refine ⟨_, rfl, VwS.step hS hb, fun hS2 => ?_⟩; clear hb hS; have hS := hS2; clear hS2; (simp only [Act.put, List.setIfInBounds_toArray, List.set_cons_zero, List.set_cons_succ])))
    refine sq_end ?_
    go_wp2
    go_meet
    case rel => exact ⟨rfl, Lib.hid hS⟩
   case rest =>
    clear HV HW e1
    obtain ⟨rfl, hO⟩ := hcut
    cases hs : decide (1 ≤ rightB rules who (keyB dn).1 a.f0)
    ·have HS := Lib.hid hs
     clear hs
     go_wp2
     go_roundw
     case measure => simp [intOf]; omega
     case rel =>
      refine ⟨k + 1, v, by omega, by go_num, Lib.hid ?_, hO.out.1⟩
      rw [HT.out, HY.out, List.filter_append]
      simpa [seesB, HS.out] using hO.out.2
    ·have HS := Lib.hid hs
     clear hs
     go_upto_region 6 with (fail)
     refine sq_ (Vw w dn (.slice (some ad) attrs.length c1) v) [10] [(0,0,some 30),(1,1,some 31),(0,2,some 32),(1,3,some 33),(0,4,some 34),(0,5,some 35),(1,6,some 36),(2,7,some 37),(2,8,some 38),(0,9,some 39),(3,10,none)] (by kernel_rfl) (by kernel_rfl) (Vw.step hO.out.1 (below_drew (Below.refl _ _))) (fun hS => ?_)
     have HV := Lib.hid (Kd.R_drew hO.out.2)
     clear hO
     generalize wc.drew = W at hS HV ⊢
     repeat (first
      | (refine sq0 rfl ?_ (fun _ _ _ _ h => h) ?_; (focus rfl); apply Exists.intro; constructor; (focus (intro w'; go_simp; with_reducible rfl)); (simp only [Act.put, List.setIfInBounds_toArray, List.set_cons_zero, List.set_cons_succ]))
      | (refine sq1 rfl ?_ (fun _ _ _ _ h => h) hS ?_; (focus rfl); apply Exists.intro; constructor; (focus (intro w' hS'; have s1 : w'.cell? ⟨w.heap.size, 1, none⟩ = some (.slice (some ad) attrs.length c1) := blk_cell hS'.1 1; have s2 : w'.cell? ⟨w.heap.size + 1 + 1, 1, none⟩ = some v := blk_cell hS'.2.2.1 1; obtain ⟨x0, x1⟩ := attr_in HC.out hS'.2.2.2; go_simp; with_reducible rfl)); (simp only [Act.put, List.setIfInBounds_toArray, List.set_cons_zero, List.set_cons_succ])))
     refine sq_value (w1 := W.alloc (.cells #[.string a.f0, .slice Aa a.f1.length ca] 42)) (v := .slice (some ⟨W.heap.size, 0, none⟩) 1 1) rfl rfl ?_ ?_ (hS.step (below_alloc (Below.refl _ _) _)) (fun _ => ?_)
     ·rfl
     ·go_simp
     (simp only [Act.put, List.setIfInBounds_toArray, List.set_cons_zero, List.set_cons_succ])
     refine sq2d rfl rfl (fun K hK => ?_)
     refine Kd.R_append_step (oldK k69 w) (w0 := w) (W := W) w.heap.size (by rfl) (.tmp 31) (.tmp 37) 23 42 (.agg #[.string ⟨#[]⟩, .slice none 0 0]) 40 rfl Tryz.underlying23 PA.info69 rfl (show 0 < 2 by decide) (by decide) v ((attrs.take k).filter (seesB rules who (keyB dn).1)) a [.string a.f0, .slice Aa a.f1.length ca] (fun _ => True) (fun _ => False) rfl rfl HK.out (fun _ h => h.elim) (fun _ _ => trivial) HV.out hS.2.2.2 (below_size hS.2.2.2) HL.out ?_
     intro v1 w5 hR5 hB5 hg5 _
     obtain ⟨Aw, cw, rfl⟩ := Kd.R_slice hR5
     rw [List.length_append, List.length_singleton] at hR5
     refine hK _ _ (Vw.grownO hS HV.out hg5 hB5) (fun hS5 => ?_)
     (simp only [Act.put, List.setIfInBounds_toArray, List.set_cons_zero, List.set_cons_succ])
     have HR5 := Lib.hid (Kd.R_set hR5 hS5.2.2.1 old_ne 1 (.slice Aw (((attrs.take k).filter (seesB rules who (keyB dn).1)).length + 1) cw))
     have HW5 := Lib.hid (hS5.put (.slice Aw (((attrs.take k).filter (seesB rules who (keyB dn).1)).length + 1) cw))
     have u0 : w5.cell? ⟨w.heap.size + 1 + 1, 1, none⟩ = some v := blk_cell hS5.2.2.1 1
     have u1 := blk_frozen hS5.2.2.1 1
     clear hR5 hS5 hg5 hB5 hK hS
     (refine sq0 rfl ?_ (fun _ _ _ _ h => h) ?_; (focus rfl); apply Exists.intro; constructor; (focus (intro w'; go_simp; with_reducible rfl)); (simp only [Act.put, List.setIfInBounds_toArray, List.set_cons_zero, List.set_cons_succ]))
     refine sq_store (w1 := w5.setCell ⟨w.heap.size + 1 + 1, 1, none⟩ (.slice Aw (((attrs.take k).filter (seesB rules who (keyB dn).1)).length + 1) cw)) rfl rfl ?_ ?_ ?_
     ·rfl
     ·go_simp
     refine sq_end ?_
     go_wp2
     go_roundw
     case measure => simp [intOf]; omega
     case rel =>
      refine ⟨k + 1, _, by omega, by go_num, Lib.hid ?_, HW5.out⟩
      rw [HT.out, HY.out, List.filter_append]
      simpa [seesB, HS.out] using HR5.out
  ·obtain rfl : k = attrs.length := by omega
   obtain ⟨Av, cv, rfl⟩ := Kd.R_slice HV.out
   have z0 : wr.cell? ⟨w.heap.size + 1, 0, none⟩ = some (.string ⟨#[]⟩) := blk_cell HW.2.1 0
   have z1 : wr.cell? ⟨w.heap.size + 1, 1, none⟩ = some (.slice none 0 0) := blk_cell HW.2.1 1
   have y0 := blk_frozen HW.2.1 0
   have y1 := blk_frozen HW.2.1 1
   have c0 : wr.cell? ⟨w.heap.size + 1 + 1, 0, none⟩ = some (.string dn) := blk_cell HW.2.2.1 0
   have c1' : wr.cell? ⟨w.heap.size + 1 + 1, 1, none⟩ = some (.slice Av ((attrs.take attrs.length).filter (seesB rules who (keyB dn).1)).length cv) := blk_cell HW.2.2.1 1
   have hr1' := blk_set (blk_set HW.2.1 0 (.string dn)) 1 (.slice Av ((attrs.take attrs.length).filter (seesB rules who (keyB dn).1)).length cv)
   have HR9 := Lib.hid (Kd.R_set (Kd.R_set HV.out HW.2.1 old_ne 0 (.string dn)) (blk_set HW.2.1 0 (.string dn)) old_ne 1 (.slice Av ((attrs.take attrs.length).filter (seesB rules who (keyB dn).1)).length cv))
   have hB9 := below_set (j := 1) (v := .slice Av ((attrs.take attrs.length).filter (seesB rules who (keyB dn).1)).length cv) (below_set (g := w.heap.size + 1) (j := 0) (v := .string dn) HW.2.2.2 (by omega)) (g := w.heap.size + 1) (by omega)
   rw [List.take_length] at hr1' HR9 hB9
   go_wp2
   refine bodyPost_ret (results_cell_row rfl _ _ (w.heap.size + 1) 25 #[.string dn, .slice Av (viewB rules who (keyB dn).1 attrs).length cv] (0, 0) _ rfl hr1' Tryz.underlying25 rfl (by kernel_rfl)) rfl ?_
   obtain ⟨A', c', e, hl, hC⟩ := Kd.R_reads HR9.out
   cases e
   exact ⟨_, _, rfl, hl, C_of_old hC hB9, hB9⟩
end Go.Proofs.YtflkghdndffacaaGreatDoor.C
namespace Go.Proofs.YtflkghdndffacaaGreatDoor.C
open Go.RowKit Go.Proofs.YtflkghdndffacaaGreatDoor.Sq Go.Proofs.YtflkghdndffacaaGreatDoor.H Go.Proofs.YtflkghdndffacaaGreatDoor.PA Go.Proofs.YtflkghdndffacaaGreatDoor.Pure Go.Proofs.YtflkghdndffacaaGreatDoorW.PrintWords Go.Proofs.YtflkghdndffacaaGreatDoorW.PrintLast Go.Proofs.YtflkghdndffacaaGreatDoorW.PrintMore
set_option linter.unusedVariables false
set_option maxHeartbeats 4000000 in
theorem texts_c (A B : Option Addr) (c d : Nat) (l : List ByteArray) (w : World) (hr : Kd.C Kd.string w A l.length l) (hc : l.length ≤ c) (hr2 : Kd.C Kd.string w B l.length l) (hd : l.length ≤ d) :
  Calls Tryz.prog 31 #[.slice A l.length c, .slice B l.length d] w fun e w' => e = .returned (.bool true) ∧ Drawn0 w w' := by
 have hmax : l.length ≤ 9223372036854775807 := hr.2.1
 have HR := Lib.hid hr
 have HR2 := Lib.hid hr2
 clear hr hr2
 go_enter Tryz.func31, Tryz.ntmps31
 go_wp2
 go_loopw [5] (fun i wr => ∃ k : Nat, k ≤ l.length ∧ i = .int .i64 k ∧ Hid (Drawn0 w wr)) (fun i _ => l.length - (intOf i).toNat)
 case atStart => exact ⟨0, Nat.zero_le _, rfl, Lib.hid (Drawn0.refl _)⟩
 case round =>
  obtain ⟨k, hk, rfl, HD⟩ := hrel
  by_cases hlt : k < l.length
  ·obtain ⟨y, hy⟩ : ∃ y, l[k]? = some y := ⟨_, List.getElem?_eq_getElem hlt⟩
   obtain ⟨ad, e, x0⟩ := str_at (Kd.C_below HR.out HD.out.below) hy
   obtain ⟨ad2, e2, x1⟩ := str_at (Kd.C_below HR2.out HD.out.below) hy
   cases e
   cases e2
   have hlt' : (k : Int) < (l.length : Int) := by omega
   have h0 : (0 : Int) ≤ (k : Int) := by omega
   clear hy
   go_upto_region 6 with (fail)
   go_quiet (fail)
   go_wp2
   go_roundw
   case measure => simp [intOf]; omega
   case rel => exact ⟨k + 1, by omega, by go_num, Lib.hid (Drawn0.step HD.out _)⟩
  ·obtain rfl : k = l.length := by omega
   go_wp2
   go_ret
   exact ⟨rfl, HD.out⟩
def Two (w : World) (a b : Array Value) (W : World) : Prop := W.heap[w.heap.size]? = some (.cells a 25 (0, 0)) ∧ W.heap[w.heap.size + 1]? = some (.cells b 25 (0, 0)) ∧ Below w.heap.size w W
theorem Two.step {w W W1 : World} {a b : Array Value} (h : Two w a b W) (hb : Below W.heap.size W W1) : Two w a b W1 := ⟨blk_below h.1 hb, blk_below h.2.1 hb, below_step h.2.2 hb⟩
set_option maxHeartbeats 8000000 in
set_option maxRecDepth 100000 in
theorem same_c (dn : ByteArray) (A B : Option Addr) (c d : Nat) (l : List S69) (w : World) (hr : Kd.C k69 w A l.length l) (hc : l.length ≤ c) (hr2 : Kd.C k69 w B l.length l) (hd : l.length ≤ d) :
  Calls Tryz.prog 12 #[.agg #[.string dn, .slice A l.length c], .agg #[.string dn, .slice B l.length d]] w fun e w' => e = .returned (.bool true) ∧ Below w.heap.size w w' := by
 have hmax : l.length ≤ 9223372036854775807 := hr.2.1
 have HR := Lib.hid hr
 have HR2 := Lib.hid hr2
 clear hr hr2
 go_enter Tryz.func12, Tryz.ntmps12
 go_wp2
 go_loopw [5] (fun i wr => ∃ k : Nat, k ≤ l.length ∧ i = .int .i64 k ∧ Two w #[.string dn, .slice A l.length c] #[.string dn, .slice B l.length d] wr) (fun i _ => l.length - (intOf i).toNat)
 case atStart => exact ⟨0, Nat.zero_le _, rfl, blk_alloc (heap_alloc_new w _) _, by have := heap_alloc_new (w.alloc (.cells #[.string dn, .slice A l.length c] 25)) (.cells #[.string dn, .slice B l.length d] 25); simpa using this, below_alloc (below_alloc (Below.refl _ _) _) _⟩
 case round =>
  obtain ⟨k, hk, rfl, HW⟩ := hrel
  have e1 : wr.cell? ⟨w.heap.size, 1, none⟩ = some (.slice A l.length c) := blk_cell HW.1 1
  by_cases hlt : k < l.length
  ·obtain ⟨a, hy⟩ : ∃ r, l[k]? = some r := ⟨_, List.getElem?_eq_getElem hlt⟩
   obtain ⟨ad, Aa, ca, e, x0, x1, hl, hi⟩ := attr_at HR.out hy
   cases e
   obtain ⟨ad2, Ab, cb, e, y0, y1, hl2, hi2⟩ := attr_at HR2.out hy
   cases e
   have HC := Lib.hid (And.intro (And.intro x0 x1) (And.intro y0 y1))
   have HI := Lib.hid (And.intro hi hi2)
   have hlt' : (k : Int) < (l.length : Int) := by omega
   have h0 : (0 : Int) ≤ (k : Int) := by omega
   clear hy x0 x1 y0 y1 hi hi2
   go_upto_region 6 with (fail)
   clear e1
   refine sq_ (Two w #[.string dn, .slice (some ad) l.length c] #[.string dn, .slice (some ad2) l.length d]) [] [(0,0,some 27),(1,1,some 28),(0,2,some 29),(0,3,some 30),(0,4,some 31),(1,5,some 32),(0,6,some 33),(1,7,some 34),(0,8,some 35),(0,9,some 36),(0,10,some 37),(1,11,some 38),(0,12,some 39),(0,13,some 40),(0,14,some 41),(1,15,some 42),(0,16,some 43),(0,17,some 44),(0,18,some 45),(1,19,some 46),(0,20,some 47),(1,21,some 48),(0,22,some 49),(0,23,some 50),(0,24,some 51),(1,25,some 52),(2,26,some 53),(0,27,some 54),(0,28,some 55)] (by kernel_rfl) (by kernel_rfl) (HW.step (below_drew (Below.refl _ _))) (fun hS => ?_)
   clear HW
   generalize wr.drew = W at hS ⊢
   repeat (first
    | (refine sq0 rfl ?_ (fun _ _ _ _ h => h) ?_; (focus rfl); apply Exists.intro; constructor; (focus (intro w'; go_simp; with_reducible rfl)); (simp only [Act.put, List.setIfInBounds_toArray, List.set_cons_zero, List.set_cons_succ]))
    | (refine sq1 rfl ?_ (fun _ _ _ _ h => h) hS ?_; (focus rfl); apply Exists.intro; constructor; (focus (intro w' hS'; have s1 : w'.cell? ⟨w.heap.size, 1, none⟩ = some (.slice (some ad) l.length c) := blk_cell hS'.1 1; have s2 : w'.cell? ⟨w.heap.size + 1, 1, none⟩ = some (.slice (some ad2) l.length d) := blk_cell hS'.2.1 1; have x0 := pw_cell_below hS'.2.2 HC.out.1.1; have x1 := pw_cell_below hS'.2.2 HC.out.1.2; have y0 := pw_cell_below hS'.2.2 HC.out.2.1; have y1 := pw_cell_below hS'.2.2 HC.out.2.2; go_simp; with_reducible rfl)); (simp only [Act.put, List.setIfInBounds_toArray, List.set_cons_zero, List.set_cons_succ]))
    | (refine sq_call rfl Tryz.func31 (by kernel_rfl) rfl #[.slice Aa a.f1.length ca, .slice Ab a.f1.length cb] rfl ?_ rfl ?_ ?_; (focus rfl); (focus ((try simp only [List.map_toArray, List.map_cons, List.map_nil]); first | done | rfl)); refine (texts_c Aa Ab ca cb a.f1 _ (Kd.C_below HI.out.1 hS.2.2) hl (Kd.C_below HI.out.2 hS.2.2) hl2).mono ?_; rintro e w2 ⟨rfl, hd2⟩; refine ⟨_, rfl, hS.step hd2.below, fun hS2 => ?_⟩; clear hd2 hS; have hS := hS2; clear hS2; (simp only [Act.put, List.setIfInBounds_toArray, List.set_cons_zero, List.set_cons_succ])))
   refine sq_end ?_
   go_wp2
   go_roundw
   case measure => simp [intOf]; omega
   case rel => exact ⟨k + 1, by omega, by go_num, hS⟩
  ·obtain rfl : k = l.length := by omega
   go_wp2
   go_ret
   exact ⟨rfl, HW.2.2⟩
end Go.Proofs.YtflkghdndffacaaGreatDoor.C
namespace Go.Proofs.YtflkghdndffacaaGreatDoor.C
open Go.RowKit Go.Proofs.YtflkghdndffacaaGreatDoor.Sq Go.Proofs.YtflkghdndffacaaGreatDoor.H Go.Proofs.YtflkghdndffacaaGreatDoor.PA Go.Proofs.YtflkghdndffacaaGreatDoor.Pure Go.Proofs.YtflkghdndffacaaGreatDoorW.PrintWords Go.Proofs.YtflkghdndffacaaGreatDoorW.PrintLast Go.Proofs.YtflkghdndffacaaGreatDoorW.PrintMore
set_option linter.unusedVariables false
set_option linter.unusedSimpArgs false
theorem key_nil2 : (keyB ⟨#[]⟩).2 = true := by decide +kernel
abbrev LM (b31 b32 b37 b38 b42 : Bool) : List Bool := [true, true, true, true, true, true, true, true, true, true, true, true, true, true, true, true, true, true, true, true, true, true, true, true, true, true, true, true, true, true, true, b31, b32, true, true, true, true, b37, b38, b38, b38, b38, b42, b42, b42]
def FM (wA : World) (s t : ByteArray) (G : Bool) (b31 b32 b37 b38 b42 : Bool) (v65 v66 v71 v75 v8 : Value) (W : World) : Prop :=
 Below wA.heap.size wA W ∧ (b31 = true → ∃ g, v65 = .slice (some ⟨g, 0, none⟩) 2 2 ∧ W.heap[g]? = some (.cells #[.string s, .string t] 9 (0, 0))) ∧ (b37 = true → ∃ g, v71 = .slice (some ⟨g, 0, none⟩) 2 2 ∧ W.heap[g]? = some (.cells #[.string s, .string t] 9 (0, 0))) ∧
  (b32 = true → v66 = .bool G) ∧ (b38 = true → v75 = .bool true) ∧ (b42 = true → v8 = .bool true)
theorem FM.step {wA W W1 : World} {s t : ByteArray} {G b31 b32 b37 b38 b42 : Bool} {v65 v66 v71 v75 v8 : Value} (h : FM wA s t G b31 b32 b37 b38 b42 v65 v66 v71 v75 v8 W) (hb : Below W.heap.size W W1) : FM wA s t G b31 b32 b37 b38 b42 v65 v66 v71 v75 v8 W1 :=
 ⟨below_step h.1 hb, fun e => by obtain ⟨g, h1, h2⟩ := h.2.1 e; exact ⟨g, h1, blk_below h2 hb⟩, fun e => by obtain ⟨g, h1, h2⟩ := h.2.2.1 e; exact ⟨g, h1, blk_below h2 hb⟩, h.2.2.2⟩
def IM (wA : World) (s t : ByteArray) (G : Bool) (a0 : Act) (l : List Bool) (act : Act) (W : World) : Prop :=
 ∃ (b31 b32 b37 b38 b42 : Bool) (v65 v66 v71 v72 v73 v74 v75 v76 v77 v8 : Value), l = LM b31 b32 b37 b38 b42 ∧ act = (((((((((a0.put (some 65) v65).put (some 66) v66).put (some 71) v71).put (some 72) v72).put (some 73) v73).put (some 74) v74).put (some 75) v75).put (some 76) v76).put (some 77) v77).put (some 8) v8 ∧ (b32 = true → b31 = true) ∧ (b38 = true → b37 = true ∧ b32 = true) ∧ (b42 = true → b38 = true) ∧ FM wA s t G b31 b32 b37 b38 b42 v65 v66 v71 v75 v8 W
theorem IM.start {wA W : World} {s t : ByteArray} {G : Bool} (a0 : Act) (h : Below wA.heap.size wA W) : IM wA s t G a0 (LM false false false false false) a0 W :=
 ⟨false, false, false, false, false, a0.tmps.getD 65 undef, a0.tmps.getD 66 undef, a0.tmps.getD 71 undef, a0.tmps.getD 72 undef, a0.tmps.getD 73 undef, a0.tmps.getD 74 undef, a0.tmps.getD 75 undef, a0.tmps.getD 76 undef, a0.tmps.getD 77 undef, a0.tmps.getD 8 undef, rfl, by simp only [put_self], fun h => Bool.noConfusion h, fun h => Bool.noConfusion h, fun h => Bool.noConfusion h, h, fun h => Bool.noConfusion h, fun h => Bool.noConfusion h, fun h => Bool.noConfusion h, fun h => Bool.noConfusion h, fun h => Bool.noConfusion h⟩
end Go.Proofs.YtflkghdndffacaaGreatDoor.C
namespace Go.Proofs.YtflkghdndffacaaGreatDoor.C
open Go.RowKit Go.Proofs.YtflkghdndffacaaGreatDoor.Sq Go.Proofs.YtflkghdndffacaaGreatDoor.H Go.Proofs.YtflkghdndffacaaGreatDoor.PA Go.Proofs.YtflkghdndffacaaGreatDoor.Pure Go.Proofs.YtflkghdndffacaaGreatDoorW.PrintWords Go.Proofs.YtflkghdndffacaaGreatDoorW.PrintLast Go.Proofs.YtflkghdndffacaaGreatDoorW.PrintMore
set_option linter.unusedVariables false
set_option linter.unusedSimpArgs false
theorem gate_nil (who key : ByteArray) : gateB [] who key [] = true := rfl
end Go.Proofs.YtflkghdndffacaaGreatDoor.C
namespace Go.Proofs.YtflkghdndffacaaGreatDoor.Row0
open Go.ChangeShapes Go.WideShapes Go.ChangeAt Go.RowKit
set_option linter.unusedVariables false
theorem g1 : Tryz.prog.globalNamed "unicode/utf8.first" = some 1 := by kernel_rfl
theorem g2 : Tryz.prog.globalNamed "unicode/utf8.acceptRanges" = some 2 := by kernel_rfl
end Go.Proofs.YtflkghdndffacaaGreatDoor.Row0
