/- What dn.Parse reckons, in plain words, and that it tells a name's text again: for every list of parts that may be a name. -/
import Derived.Test.YtflkghdndffacaaDoorPDx6
import Derived.Test.YtflkghdndffacaaDoorPureC
namespace Go.Proofs.YtflkghdndffacaaDoor.Pure
open Go.RowKit Go.Proofs.YtflkghdndffacaaDoor.PD Go.Proofs.YtflkghdndffacaaDoor.H Go.Proofs.YtflkghdndffacaaDoorW.PrintWords Go.Proofs.YtflkghdndffacaaDoorW.PrintLast
/-! ### A byte behind a backslash -/
def hexDigits : List UInt8 := [48, 49, 50, 51, 52, 53, 54, 55, 56, 57, 97, 98, 99, 100, 101, 102]
def digB (c : UInt8) : Int := Lib.indexByte hexDigits (lowC c)
theorem digit_fin : ∀ n : Fin 256, dn_digit.f (((UInt8.ofNat n.val).toNat : Nat) : Int) = some (digB (UInt8.ofNat n.val)) := by decide +kernel
theorem digit_c (c : UInt8) : dn_digit.f (c.toNat : Int) = some (digB c) := u8_all (P := fun c => dn_digit.f (c.toNat : Int) = some (digB c)) digit_fin c
theorem digB_fin : ∀ n : Fin 256, -1 ≤ digB (UInt8.ofNat n.val) ∧ digB (UInt8.ofNat n.val) ≤ 15 := by decide +kernel
theorem digB_rng (c : UInt8) : -1 ≤ digB c ∧ digB c ≤ 15 := u8_all (P := fun c => -1 ≤ digB c ∧ digB c ≤ 15) digB_fin c
theorem or16_fin : ∀ h l : Fin 16, (Go.bits .or .i64 (wrap64 ((h.val : Int) * 16)) (l.val : Int)) % 256 = ((h.val * 16 + l.val).toUInt8.toNat : Int) := by decide +kernel
theorem or16 {h l : Int} (h0 : 0 ≤ h) (h1 : h ≤ 15) (l0 : 0 ≤ l) (l1 : l ≤ 15) : (Go.bits .or .i64 (wrap64 (h * 16)) l) % 256 = (((h.toNat * 16 + l.toNat).toUInt8).toNat : Int) := by
  have := or16_fin ⟨h.toNat, by omega⟩ ⟨l.toNat, by omega⟩
  simpa only [Int.toNat_of_nonneg h0, Int.toNat_of_nonneg l0] using this
def oneB (c : UInt8) : Bool := specialB c || c == 61 || c == 35 || c == 32
def escAt : List UInt8 → Option (UInt8 × Nat)
  | [] => none
  | c :: r => if oneB c = true then some (c, 1) else match r with
    | [] => none
    | d :: _ => if 0 ≤ digB c ∧ 0 ≤ digB d then some (((digB c).toNat * 16 + (digB d).toNat).toUInt8, 2) else none
theorem escAt_one {c : UInt8} {r : List UInt8} (h : oneB c = true) : escAt (c :: r) = some (c, 1) := by simp only [escAt, if_pos h]
theorem escAt_lone {c : UInt8} (h : ¬ oneB c = true) : escAt [c] = none := by simp only [escAt, if_neg h]
theorem escAt_two {c d : UInt8} {r : List UInt8} (h : ¬ oneB c = true) (h1 : 0 ≤ digB c ∧ 0 ≤ digB d) : escAt (c :: d :: r) = some (((digB c).toNat * 16 + (digB d).toNat).toUInt8, 2) := by simp only [escAt, if_neg h, if_pos h1]
theorem escAt_not {c d : UInt8} {r : List UInt8} (h : ¬ oneB c = true) (h1 : ¬ (0 ≤ digB c ∧ 0 ≤ digB d)) : escAt (c :: d :: r) = none := by simp only [escAt, if_neg h, if_neg h1]
def escRes : Option (UInt8 × Nat) → Int × Int
  | none => (0, 0)
  | some (c, n) => ((c.toNat : Int), (n : Int))
theorem special_c (c : UInt8) : dn_special.f (c.toNat : Int) = some (specialB c) := by
  unfold dn_special.f strings_IndexByte.f
  simp only [Option.bind_some, Int.toNat_natCast]
  unfold specialB
  have : (c.toNat).toUInt8 = c := by simp
  rw [this]
theorem bt_0 (c : UInt8) (r : List UInt8) : bt (B (c :: r)) 0 = (c.toNat : Int) := bt_pre [] c r
theorem bt_1 (c d : UInt8) (r : List UInt8) : bt (B (c :: d :: r)) 1 = (d.toNat : Int) := bt_pre [c] d r
theorem escaped_dn (l : List UInt8) : Ev (fun k => dn_escaped.f k (B l)) (escRes (escAt l)) := by
  unfold dn_escaped.f
  cases l with
  | nil => exact Ev.pos (by rw [B_toList]) (Ev.now _)
  | cons c r =>
    refine Ev.neg (by rw [B_toList]; simp) ?_
    refine Ev.pos (by rw [B_size]; simp) ?_
    rw [bt_0]
    refine Ev.fix (special_c c) ?_
    have h61 : ((c.toNat : Int) = 61) ↔ c = 61 := u8_int_inj (n := 61) (by omega)
    have h35 : ((c.toNat : Int) = 35) ↔ c = 35 := u8_int_inj (n := 35) (by omega)
    have h32 : ((c.toNat : Int) = 32) ↔ c = 32 := u8_int_inj (n := 32) (by omega)
    have jt : oneB c = true → Ev (fun k => dn_escaped.j0 k (B (c :: r)) true) (escRes (escAt (c :: r))) := fun ho => by
      have e : escAt (c :: r) = some (c, 1) := escAt_one ho
      rw [e]
      refine Ev.step (fun k => by rw [dn_escaped.j0]) ?_
      refine Ev.pos rfl ?_
      refine Ev.pos (by rw [B_size]; simp) ?_
      rw [bt_0]
      exact Ev.now _
    by_cases h1 : specialB c = true
    · exact Ev.pos h1 (jt (by unfold oneB; simp [h1]))
    · refine Ev.neg h1 ?_
      by_cases h2 : c = 61
      · exact Ev.pos (h61.2 h2) (jt (by unfold oneB; simp [h2]))
      · refine Ev.neg (fun e => h2 (h61.1 e)) ?_
        by_cases h3 : c = 35
        · exact Ev.pos (h35.2 h3) (jt (by unfold oneB; simp [h3]))
        · refine Ev.neg (fun e => h3 (h35.1 e)) ?_
          by_cases h4 : c = 32
          · rw [show ((c.toNat : Int) == 32) = true by rw [beq_iff_eq]; exact h32.2 h4]
            exact jt (by unfold oneB; simp [h4])
          · rw [show ((c.toNat : Int) == 32) = false by rw [beq_eq_false_iff_ne]; exact fun e => h4 (h32.1 e)]
            have ho : ¬ oneB c = true := by unfold oneB; simp [h1, h2, h3, h4]
            refine Ev.step (fun k => by rw [dn_escaped.j0]) ?_
            refine Ev.neg (by simp) ?_
            have jf : Ev (fun k => dn_escaped.j1 k (B (c :: r)) false) (0, 0) := Ev.step (fun k => by rw [dn_escaped.j1]) (Ev.neg (by simp) (Ev.now _))
            cases r with
            | nil =>
              have e : escAt [c] = none := escAt_lone ho
              rw [e]
              refine Ev.neg (by rw [B_size]; simp) ?_
              exact jf
            | cons d r =>
              refine Ev.pos (by rw [B_size]; simp; omega) ?_
              refine Ev.pos (by rw [B_size]; simp; omega) ?_
              rw [bt_0]
              refine Ev.fix (digit_c c) ?_
              by_cases h5 : 0 ≤ digB c
              · refine Ev.pos h5 ?_
                refine Ev.pos (by rw [B_size]; simp; omega) ?_
                rw [bt_1]
                refine Ev.fix (digit_c d) ?_
                by_cases h6 : 0 ≤ digB d
                · have e : escAt (c :: d :: r) = some (((digB c).toNat * 16 + (digB d).toNat).toUInt8, 2) := escAt_two ho ⟨h5, h6⟩
                  rw [e]
                  refine Ev.step (fun k => by rw [dn_escaped.j1]) ?_
                  refine Ev.pos (by simpa using h6) ?_
                  refine Ev.pos (by rw [B_size]; simp; omega) ?_
                  rw [bt_0]
                  refine Ev.fix (digit_c c) ?_
                  refine Ev.pos (by rw [B_size]; simp; omega) ?_
                  rw [bt_1]
                  refine Ev.fix (digit_c d) ?_
                  rw [or16 h5 (digB_rng c).2 h6 (digB_rng d).2]
                  exact Ev.now _
                · have e : escAt (c :: d :: r) = none := escAt_not ho (fun h => h6 h.2)
                  rw [e, show decide (digB d ≥ 0) = false by simpa using h6]
                  exact jf
              · have e : escAt (c :: d :: r) = none := escAt_not ho (fun h => h5 h.1)
                rw [e]
                exact Ev.neg h5 jf
/-! ### value -/
def badC (first : Bool) (c : UInt8) : Bool := decide (c.toNat < 32) || decide (126 < c.toNat) || specialB c || (first && (c == 35 || c == 32))
/-- What dn.value makes of what stands behind the '=': the value, what is left, whether it may be. -/
def valS (first : Bool) (acc : List UInt8) (sp : Bool) : List UInt8 → List UInt8 × List UInt8 × Bool
  | [] => (acc, [], !sp)
  | c :: r => if c = 44 then (acc, c :: r, !sp)
    else if c = 92 then match escAt r with
      | none => ([], [], false)
      | some (b, n) => valS false (acc ++ [b]) false (r.drop n)
    else if badC first c = true then ([], [], false) else valS false (acc ++ [c]) (c == 32) r
termination_by l => l.length
decreasing_by all_goals (simp; try omega)
def res3 (x : List UInt8 × List UInt8 × Bool) : ByteArray × ByteArray × Bool := (B x.1, B x.2.1, x.2.2)
theorem escAt_pos {l : List UInt8} {c : UInt8} {n : Nat} (h : escAt l = some (c, n)) : 1 ≤ n ∧ n ≤ l.length := by
  unfold escAt at h
  split at h
  · cases h
  · split at h
    · cases h; simp
    · split at h
      · cases h
      · split at h
        · cases h; simp
        · cases h
theorem bi_snoc (l : List UInt8) (c : UInt8) : bi l ++ [(c.toNat : Int)] = bi (l ++ [c]) := by simp [bi]
theorem value_l0 (l : List UInt8) (hl : l.length ≤ 100000000) : ∀ n (q p acc : List UInt8) (sp : Bool), q.length ≤ n → l = p ++ q → acc.length ≤ p.length →
    Ev (fun k => dn_value.l0 k (B l) (bi acc) sp (p.length : Int)) (res3 (valS p.isEmpty acc sp q)) := by
  intro n
  induction n with
  | zero =>
    intro q p acc sp hq hp ha
    obtain rfl : q = [] := List.length_eq_zero_iff.1 (by omega)
    obtain rfl : l = p := by simpa using hp
    refine Ev.step (fun k => by rw [dn_value.l0]) ?_
    refine Ev.neg (by rw [B_size]; omega) ?_
    refine Ev.step (fun k => by rw [dn_value.j1]) ?_
    refine Ev.neg (by simp) ?_
    refine Ev.pos (by omega) ?_
    refine Ev.pos (by rw [B_size]; omega) ?_
    rw [valS, str_bi, B_extract]
    simpa [B_size, res3, B] using Ev.now _
  | succ n ih =>
    intro q p acc sp hq hp ha
    cases q with
    | nil => exact (by
        obtain rfl : l = p := by simpa using hp
        refine Ev.step (fun k => by rw [dn_value.l0]) ?_
        refine Ev.neg (by rw [B_size]; omega) ?_
        refine Ev.step (fun k => by rw [dn_value.j1]) ?_
        refine Ev.neg (by simp) ?_
        refine Ev.pos (by omega) ?_
        refine Ev.pos (by rw [B_size]; omega) ?_
        rw [valS, str_bi, B_extract]
        simpa [B_size, res3, B] using Ev.now _)
    | cons c q =>
      have hlen : p.length + 1 + q.length = l.length := by rw [hp]; simp; omega
      have hb : bt (B l) (p.length : Int) = (c.toNat : Int) := by rw [hp]; exact bt_pre p c q
      have h44 : ((c.toNat : Int) = 44) ↔ c = 44 := u8_int_inj (n := 44) (by omega)
      have h92 : ((c.toNat : Int) = 92) ↔ c = 92 := u8_int_inj (n := 92) (by omega)
      have h35 : ((c.toNat : Int) = 35) ↔ c = 35 := u8_int_inj (n := 35) (by omega)
      have h32 : ((c.toNat : Int) = 32) ↔ c = 32 := u8_int_inj (n := 32) (by omega)
      have hbl : (bi acc).length ≤ p.length := by rw [bi_length]; exact ha
      refine Ev.step (fun k => by rw [dn_value.l0]) ?_
      refine Ev.pos (by rw [B_size]; omega) ?_
      refine Ev.pos (by omega) ?_
      rw [hb]
      refine Ev.step (fun k => by rw [dn_value.j1]) ?_
      by_cases c44 : c = 44
      · rw [show ((c.toNat : Int) != 44) = false by rw [bne_eq_false_iff_eq]; exact h44.2 c44]
        refine Ev.neg (by simp) ?_
        refine Ev.pos (by omega) ?_
        refine Ev.pos (by rw [B_size]; omega) ?_
        rw [valS, if_pos c44, str_bi, B_extract, B_size]
        have : (l.drop (p.length : Int).toNat).take (l.length - (p.length : Int).toNat) = c :: q := by
          rw [List.take_of_length_le (by simp), hp]; simp
        rw [this]
        exact Ev.now _
      · rw [show ((c.toNat : Int) != 44) = true by rw [bne_iff_ne]; exact fun e => c44 (h44.1 e)]
        refine Ev.pos rfl ?_
        refine Ev.pos (by omega) ?_
        refine Ev.pos (by rw [B_size]; omega) ?_
        rw [hb, valS, if_neg c44, wrap_succ (by omega)]
        by_cases c92 : c = 92
        · rw [if_pos c92]
          refine Ev.pos (h92.2 c92) ?_
          refine Ev.pos (by omega) ?_
          refine Ev.pos (by rw [B_size]; omega) ?_
          have hx : (B l).extract (((p.length + 1 : Nat) : Int)).toNat (B l).size = B q := by
            rw [B_extract, B_size]
            have : (l.drop (((p.length + 1 : Nat) : Int)).toNat).take (l.length - (((p.length + 1 : Nat) : Int)).toNat) = q := by
              rw [List.take_of_length_le (by simp), hp]
              simp
            rw [this]
          rw [hx]
          refine Ev.bind (escaped_dn q) ?_
          cases he : escAt q with
          | none => exact Ev.pos rfl (Ev.now _)
          | some y =>
            obtain ⟨b, m⟩ := y
            obtain ⟨hm1, hm2⟩ := escAt_pos he
            refine Ev.neg (by simp only [escRes]; omega) ?_
            refine Ev.pos (by omega) ?_
            simp only [escRes]
            rw [bi_snoc, show ((c.toNat : Int) == 32) = false by rw [beq_eq_false_iff_ne, h92.2 c92]; omega]
            have hw : wrap64 (wrap64 ((p.length : Int) + (m : Int)) + 1) = ((p ++ c :: q.take m).length : Int) := by
              rw [wrap64_small (n := (p.length : Int) + (m : Int)) (by omega), wrap64_small (by omega)]; simp; omega
            rw [hw]
            have := ih (q.drop m) (p ++ c :: q.take m) (acc ++ [b]) false (by simp at hq ⊢; omega) (by rw [hp]; simp) (by simp; omega)
            rw [show (p ++ c :: q.take m).isEmpty = false by simp] at this
            exact this
        · rw [if_neg c92]
          refine Ev.neg (fun e => c92 (h92.1 e)) ?_
          have hgo : badC p.isEmpty c = false → Ev (fun k => dn_value.l0 k (B l) (bi acc ++ [(c.toNat : Int)]) ((c.toNat : Int) == 32) ((p.length + 1 : Nat) : Int)) (res3 (if badC p.isEmpty c = true then ([], [], false) else valS false (acc ++ [c]) (c == 32) q)) := fun hbad => by
            rw [if_neg (by simp [hbad]), bi_snoc]
            have := ih q (p ++ [c]) (acc ++ [c]) (c == 32) (by simp at hq; omega) (by rw [hp]; simp) (by simp; omega)
            rw [show (p ++ [c]).isEmpty = false by simp, show (p ++ [c]).length = p.length + 1 by simp] at this
            rw [show ((c.toNat : Int) == 32) = (c == 32) by rw [Bool.eq_iff_iff, beq_iff_eq, beq_iff_eq]; exact h32]
            exact this
          have hno : badC p.isEmpty c = true → Ev (fun _ => some ((⟨#[]⟩ : ByteArray), (⟨#[]⟩ : ByteArray), false)) (res3 (if badC p.isEmpty c = true then ([], [], false) else valS false (acc ++ [c]) (c == 32) q)) := fun hbad => by
            rw [if_pos hbad]; exact Ev.now _
          by_cases b1 : c.toNat < 32
          · exact Ev.pos (by omega) (hno (by unfold badC; simp [b1]))
          · refine Ev.neg (by omega) ?_
            by_cases b2 : 126 < c.toNat
            · exact Ev.pos (by omega) (hno (by unfold badC; simp [b2]))
            · refine Ev.neg (by omega) ?_
              refine Ev.fix (special_c c) ?_
              by_cases b3 : specialB c = true
              · exact Ev.pos b3 (hno (by unfold badC; simp [b3]))
              · refine Ev.neg b3 ?_
                by_cases b4 : p = []
                · subst b4
                  refine Ev.pos (by simp) ?_
                  by_cases b5 : c = 35
                  · exact Ev.pos (h35.2 b5) (hno (by unfold badC; simp [b5]))
                  · refine Ev.neg (fun e => b5 (h35.1 e)) ?_
                    by_cases b6 : c = 32
                    · exact Ev.pos (h32.2 b6) (hno (by unfold badC; simp [b6]))
                    · refine Ev.neg (fun e => b6 (h32.1 e)) ?_
                      exact Ev.pos (by omega) (hgo (by unfold badC; simp [b1, b2, b3, b5, b6]))
                · have : 0 < p.length := List.length_pos_iff.2 b4
                  refine Ev.neg (by omega) ?_
                  exact Ev.pos (by omega) (hgo (by unfold badC; simp [b1, b2, b3, b4]))
theorem value_ev (l : List UInt8) (hl : l.length ≤ 100000000) : Ev (fun k => dn_value.f k (B l)) (res3 (valS true [] false l)) :=
  value_l0 l hl l.length l [] [] false (Nat.le_refl _) rfl (by simp)
/-! ### Parse -/
/-- Up to the first '=', and behind it. -/
def cutS : List UInt8 → Option (List UInt8 × List UInt8)
  | [] => none
  | c :: r => if c = 61 then some ([], r) else (cutS r).map fun x => (c :: x.1, x.2)
theorem cutS_index (l : List UInt8) : (cutS l = none ∧ Lib.indexByte l 61 = -1) ∨ ∃ a b, cutS l = some (a, b) ∧ Lib.indexByte l 61 = (a.length : Int) ∧ l = a ++ 61 :: b := by
  induction l with
  | nil => exact .inl ⟨rfl, rfl⟩
  | cons c r ih =>
    by_cases h : c = 61
    · subst h
      exact .inr ⟨[], r, by simp [cutS], by simp [Lib.indexByte], rfl⟩
    · have hb : (c == 61) = false := by simpa using h
      rcases ih with ⟨h1, h2⟩ | ⟨a, b, h1, h2, h3⟩
      · exact .inl ⟨by simp [cutS, h, h1], by simp [Lib.indexByte, hb, h2]⟩
      · refine .inr ⟨c :: a, b, by simp [cutS, h, h1], ?_, by rw [h3]; rfl⟩
        simp only [Lib.indexByte, hb, h2]
        simp
theorem cut_ev (l : List UInt8) (hl : l.length ≤ 100000000) : strings_Cut.f (B l) (⟨#[61]⟩ : ByteArray) = some (match cutS l with | none => (B l, B [], false) | some (a, b) => (B a, B b, true)) := by
  unfold strings_Cut.f stringslite_Cut.f stringslite_Index.f
  simp only [B_data, Option.bind_some]
  rcases cutS_index l with ⟨h1, h2⟩ | ⟨a, b, h1, h2, h3⟩
  · rw [h1, h2]
    simp [B]
  · rw [h1, h2]
    have hlen : a.length + 1 + b.length = l.length := by rw [h3]; simp; omega
    have hs : ((⟨#[61]⟩ : ByteArray).size : Int) = 1 := rfl
    have hw := wrap_succ (n := a.length) (by omega)
    rw [if_pos (by omega), if_pos (by omega), if_pos (by rw [B_size]; omega), hs, hw, if_pos (by omega), if_pos (by rw [B_size]; omega)]
    simp only [Option.bind_some, B_extract, B_size]
    have e1 : (l.drop 0).take ((a.length : Int).toNat - 0) = a := by rw [h3]; simp
    have e2 : (l.drop (((a.length + 1 : Nat) : Int)).toNat).take (l.length - (((a.length + 1 : Nat) : Int)).toNat) = b := by
      rw [List.take_of_length_le (by simp), h3]
      simp
    rw [e1, e2]
/-- What dn.Parse makes of what is left, behind some parts; with so many more to come. -/
def parseS : Nat → List UInt8 → List S25 → Bool → List S25 × Bool
  | n, s, acc, more =>
    if more = false then (if mayB acc = true then (acc, true) else ([], false)) else
    match n with
    | 0 => ([], false)
    | n + 1 => match cutS s with
      | none => ([], false)
      | some (a, b) => if typedB a = false then ([], false) else
        if (valS true [] false b).2.2 = false then ([], false) else
        parseS n ((valS true [] false b).2.1.drop 1) (acc ++ [⟨B a, B (valS true [] false b).1⟩]) ((valS true [] false b).2.1 != [])
theorem parseS_done (n : Nat) (s : List UInt8) (acc : List S25) : parseS n s acc false = if mayB acc = true then (acc, true) else ([], false) := by
  unfold parseS; simp
theorem parseS_zero (s : List UInt8) (acc : List S25) : parseS 0 s acc true = ([], false) := by
  unfold parseS; simp
theorem parseS_none (n : Nat) (s : List UInt8) (acc : List S25) (h : cutS s = none) : parseS (n + 1) s acc true = ([], false) := by
  conv => lhs; unfold parseS
  simp [h]
theorem parseS_some (n : Nat) (s a b : List UInt8) (acc : List S25) (h : cutS s = some (a, b)) : parseS (n + 1) s acc true = if typedB a = false then ([], false) else
        if (valS true [] false b).2.2 = false then ([], false) else
        parseS n ((valS true [] false b).2.1.drop 1) (acc ++ [⟨B a, B (valS true [] false b).1⟩]) ((valS true [] false b).2.1 != []) := by
  conv => lhs; unfold parseS
  simp [h]
theorem valS_len : ∀ n (q : List UInt8), q.length ≤ n → ∀ (first : Bool) (acc : List UInt8) (sp : Bool), (valS first acc sp q).2.1.length ≤ q.length := by
  intro n
  induction n with
  | zero =>
    intro q hq first acc sp
    obtain rfl : q = [] := List.length_eq_zero_iff.1 (by omega)
    rw [valS]; simp
  | succ n ih =>
    intro q hq first acc sp
    cases q with
    | nil => rw [valS]; simp
    | cons c r =>
      rw [valS]
      split
      · simp
      · split
        · split
          · simp
          · next b m he =>
            have := ih (r.drop m) (by simp at hq ⊢; omega) false (acc ++ [b]) false
            simp at this ⊢
            omega
        · split
          · simp
          · have := ih r (by simp at hq; omega) false (acc ++ [c]) (c == 32)
            simp at this ⊢
            omega
theorem parse_l0 : ∀ n (s : List UInt8) (acc : List S25) (more : Bool), s.length ≤ 100000000 → acc.length + n = 8 →
    Ev (fun k => dn_Parse.l0 k (B s) acc more) (parseS n s acc more) := by
  intro n
  induction n with
  | zero =>
    intro s acc more hs hn
    refine Ev.step (fun k => by rw [dn_Parse.l0]) ?_
    cases more with
    | false =>
      refine Ev.neg (by simp) ?_
      refine Ev.bind (may_ev acc (by omega)) ?_
      rw [parseS_done]
      by_cases hm : mayB acc = true
      · simp only [if_pos hm]; exact Ev.now _
      · simp only [if_neg hm]; exact Ev.now _
    | true =>
      refine Ev.pos rfl ?_
      refine Ev.fix (cut_ev s (by omega)) ?_
      rw [parseS_zero]
      have jt : ∀ x y, Ev (fun k => dn_Parse.j1 k acc x y true) ([], false) := fun x y => Ev.step (fun k => by rw [dn_Parse.j1]) (Ev.pos rfl (Ev.now _))
      cases cutS s with
      | none => exact Ev.neg (by simp) (jt _ _)
      | some x =>
        obtain ⟨a, b⟩ := x
        refine Ev.pos rfl ?_
        refine Ev.fix (v := typedB a) (by unfold dn_typed.f; rw [B_data]) ?_
        by_cases ht : typedB a = true
        · refine Ev.pos ht ?_
          rw [show ((acc.length : Int) == 8) = true by rw [beq_iff_eq]; omega]
          exact jt _ _
        · exact Ev.neg ht (jt _ _)
  | succ n ih =>
    intro s acc more hs hn
    refine Ev.step (fun k => by rw [dn_Parse.l0]) ?_
    cases more with
    | false =>
      refine Ev.neg (by simp) ?_
      refine Ev.bind (may_ev acc (by omega)) ?_
      rw [parseS_done]
      by_cases hm : mayB acc = true
      · simp only [if_pos hm]; exact Ev.now _
      · simp only [if_neg hm]; exact Ev.now _
    | true =>
      refine Ev.pos rfl ?_
      refine Ev.fix (cut_ev s (by omega)) ?_
      have jt : ∀ x y, Ev (fun k => dn_Parse.j1 k acc x y true) ([], false) := fun x y => Ev.step (fun k => by rw [dn_Parse.j1]) (Ev.pos rfl (Ev.now _))
      cases hc : cutS s with
      | none =>
        rw [parseS_none _ _ _ hc]
        exact Ev.neg (by simp) (jt _ _)
      | some x =>
        obtain ⟨a, b⟩ := x
        rw [parseS_some _ _ _ _ _ hc]
        refine Ev.pos rfl ?_
        refine Ev.fix (v := typedB a) (by unfold dn_typed.f; rw [B_data]) ?_
        have hbl : b.length ≤ s.length := by
          rcases cutS_index s with ⟨h1, _⟩ | ⟨a', b', h1, _, h3⟩
          · rw [h1] at hc; cases hc
          · rw [h1] at hc; cases hc; rw [h3]; simp; omega
        by_cases ht : typedB a = true
        · refine Ev.pos ht ?_
          rw [if_neg (by simp [ht]), show ((acc.length : Int) == 8) = false by rw [beq_eq_false_iff_ne]; omega]
          refine Ev.step (fun k => by rw [dn_Parse.j1]) ?_
          refine Ev.neg (by simp) ?_
          refine Ev.bind (value_ev b (by omega)) ?_
          have hv := valS_len b.length b (Nat.le_refl _) true [] false
          generalize valS true [] false b = v at *
          obtain ⟨v1, v2, v3⟩ := v
          simp only [res3] at hv ⊢
          cases v3 with
          | false =>
            rw [if_pos rfl]
            exact Ev.neg (by simp) (Ev.now _)
          | true =>
            rw [if_neg (by simp)]
            refine Ev.pos rfl ?_
            refine Ev.pos (by omega) ?_
            refine Ev.fix rfl ?_
            simp only [B_toList]
            have hi := ih (v2.drop 1) (acc ++ [⟨B a, B v1⟩]) (v2 != []) (by simp; omega) (by simp; omega)
            cases v2 with
            | nil => exact Ev.pos rfl hi
            | cons d v2 =>
              refine Ev.neg (by simp) ?_
              refine Ev.pos (by rw [B_size]; simp; omega) ?_
              have : (B (d :: v2)).extract 1 (B (d :: v2)).size = B ((d :: v2).drop 1) := by rw [B_extract, B_size, List.take_of_length_le (by simp)]
              rw [this]
              exact hi
        · have : typedB a = false := by simpa using ht
          rw [if_pos this]
          exact Ev.neg ht (jt _ _)
def parseL (s : List UInt8) : List S25 × Bool := parseS 8 s [] (s != [])
theorem parse_ev (s : List UInt8) (hs : s.length ≤ 100000000) : Ev (fun k => dn_Parse.f k (B s)) (parseL s) := by
  unfold dn_Parse.f parseL
  rw [B_toList]
  exact parse_l0 8 s [] (s != []) hs rfl
end Go.Proofs.YtflkghdndffacaaDoor.Pure
