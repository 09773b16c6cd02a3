/- Contracts of library functions and of functions over a string's bytes, in the form in which the print states contracts. -/
import Derived.Test.YtflkghdndffacaaDoorShelf
import Derived.Test.YtflkghdndffacaaDoorLex
import Derived.Lib.Hide
namespace Go.Proofs.YtflkghdndffacaaDoor.H
open Go.RowKit Go.Proofs.YtflkghdndffacaaDoorW.PrintWords Go.Proofs.YtflkghdndffacaaDoorW.PrintLast Go.Proofs.YtflkghdndffacaaDoorW.PrintMore
set_option linter.unusedVariables false
set_option linter.unusedSimpArgs false

theorem u8_w (n : Int) : IntKind.u8.wrap n = n % 256 := by simp [IntKind.wrap, IntKind.signed, IntKind.bits]
theorem isEmpty_bne (l : List UInt8) : l.isEmpty = !(l != []) := by cases l <;> rfl
/-- strings.IndexByte. -/
def strings_IndexByte.f (a0 : ByteArray) (a1 : Int) : Option Int := some (Lib.indexByte a0.data.toList a1.toNat.toUInt8)
theorem strings_IndexByte.calls (a0 : ByteArray) (a1 : Int) (r : Int) (w : World) (h : strings_IndexByte.f a0 a1 = some r) :
    Calls Tryd.prog 72 #[.string a0, .int .u8 a1] w fun e w' => e = .returned (.int .i64 r) ∧ Drawn0 w w' := by
  obtain rfl := Option.some.inj h
  exact (Tryd.strings_IndexByte a0 a1 w).mono fun e w' ⟨he, hw⟩ => ⟨he, hw ▸ Drawn0.refl _⟩

/-- internal/stringslite.Index at a text of one byte. -/
def stringslite_Index.f (a0 : ByteArray) (a1 : ByteArray) : Option Int := match a1.data.toList with
  | [c] => some (Lib.indexByte a0.data.toList c)
  | _ => none
theorem one_byte {a : ByteArray} {c : UInt8} (h : a.data.toList = [c]) : a = ⟨#[c]⟩ := by
  cases a with
  | mk d => cases d; simp at h; subst h; rfl
theorem stringslite_Index.calls (a0 : ByteArray) (a1 : ByteArray) (r : Int) (w : World) (h : stringslite_Index.f a0 a1 = some r) :
    Calls Tryd.prog 96 #[.string a0, .string a1] w fun e w' => e = .returned (.int .i64 r) ∧ Drawn0 w w' := by
  unfold stringslite_Index.f at h
  split at h
  · rename_i c hc
    obtain rfl := Option.some.inj h
    rw [one_byte hc]
    exact (Tryd.stringslite_Index_one a0 c w).mono fun e w' ⟨he, hw⟩ => ⟨he, hw ▸ Drawn0.refl _⟩
  · cases h

/-- strings.Trim at one byte of ASCII. -/
def strings_Trim.f (a0 : ByteArray) (a1 : ByteArray) : Option ByteArray := match a1.data.toList with
  | [c] => if c.toNat < 128 ∧ a0.size ≤ 9223372036854775807 then some ⟨(Lib.trimB a0.data.toList c).toArray⟩ else none
  | _ => none
theorem strings_Trim.calls (a0 : ByteArray) (a1 : ByteArray) (r : ByteArray) (w : World) (h : strings_Trim.f a0 a1 = some r) :
    Calls Tryd.prog 58 #[.string a0, .string a1] w fun e w' => e = .returned (.string r) ∧ Drawn0 w w' := by
  unfold strings_Trim.f at h
  split at h
  · rename_i c hc
    split at h
    · rename_i hb
      obtain rfl := Option.some.inj h
      rw [one_byte hc]
      exact (Tryd.strings_Trim_one a0 c hb.1 w hb.2).mono fun e w' ⟨he, hw⟩ => ⟨he, by
        rcases hw with rfl | rfl
        · exact Drawn0.refl _
        · exact (Drawn0.refl w).step 1⟩
    · cases h
  · cases h

/-! ### A row that is a string's bytes -/
/-- Block g holds a conversion's row of N cells, whose first are the bytes l. -/
def Bytes (w : World) (g N : Nat) (l : List UInt8) : Prop := ∃ cur : Array Value, w.heap[g]? = some (.cells cur 5 (N, N + 1)) ∧ cur.size = N ∧ l.length ≤ N ∧ ∀ (j : Nat) (c : UInt8), l[j]? = some c → cur[j]? = some (.int .u8 (c.toNat : Int))
theorem Bytes.cell {w : World} {g N : Nat} {l : List UInt8} (h : Bytes w g N l) {j : Nat} {c : UInt8} (hj : l[j]? = some c) : w.cell? ⟨g, j, none⟩ = some (.int .u8 (c.toNat : Int)) := by
  obtain ⟨cur, hb, hs, hl, hc⟩ := h
  simp [World.cell?, hb, hc j c hj]
theorem Bytes.frozen {w : World} {g N : Nat} {l : List UInt8} (h : Bytes w g N l) {j : Nat} (hj : j < N) : w.frozen? ⟨g, j, none⟩ = false := by
  obtain ⟨cur, hb, hs, hl, hc⟩ := h
  simp [World.frozen?, hb]; omega
theorem Bytes.set {w : World} {g N : Nat} {l : List UInt8} (h : Bytes w g N l) {j : Nat} (c : UInt8) (hj : j < l.length) : Bytes (w.setCell ⟨g, j, none⟩ (.int .u8 (c.toNat : Int))) g N (l.set j c) := by
  obtain ⟨cur, hb, hs, hl, hc⟩ := h
  refine ⟨cur.setIfInBounds j (.int .u8 (c.toNat : Int)), ?_, by simpa using hs, by simpa using hl, ?_⟩
  · have hlt : g < w.heap.size := by
      rcases Nat.lt_or_ge g w.heap.size with h' | h'
      · exact h'
      · simp [Array.getElem?_eq_none h'] at hb
    unfold World.setCell
    simp only [Array.getElem?_modify, if_true, hb]
    rfl
  · intro i d hi
    by_cases e : j = i
    · subst e
      rw [List.getElem?_set_self hj] at hi
      obtain rfl := Option.some.inj hi
      rw [Array.getElem?_setIfInBounds_self]
      rw [if_pos (by omega)]
    · rw [List.getElem?_set_ne e] at hi
      rw [Array.getElem?_setIfInBounds_ne e]
      exact hc i d hi
theorem Bytes.below {w w1 : World} {g N : Nat} {l : List UInt8} (h : Bytes w g N l) (hb : Below w.heap.size w w1) : Bytes w1 g N l := by
  obtain ⟨cur, h1, hs, hl, hc⟩ := h
  have hlt : g < w.heap.size := by
    rcases Nat.lt_or_ge g w.heap.size with h' | h'
    · exact h'
    · simp [Array.getElem?_eq_none h'] at h1
  exact ⟨cur, by rw [hb.block g hlt]; exact h1, hs, hl, hc⟩
theorem Bytes.lt {w : World} {g N : Nat} {l : List UInt8} (h : Bytes w g N l) : g < w.heap.size := by
  obtain ⟨cur, hb, _⟩ := h
  rcases Nat.lt_or_ge g w.heap.size with h' | h'
  · exact h'
  · simp [Array.getElem?_eq_none h'] at hb
/-- Behind the conversion. -/
theorem Bytes.of (w : World) (s : ByteArray) : Bytes (Lib.bytesWorld w 5 s) w.heap.size (Lib.bytesCells w 5 s).size s.data.toList := by
  refine ⟨Lib.bytesCells w 5 s, ?_, rfl, ?_, ?_⟩
  · exact Lib.bytesWorld_at_new w 5 s
  · simp [Lib.bytesCells]
  · intro j c hj
    have hlt : j < s.data.size := by simpa using (List.getElem?_eq_some_iff.1 hj).1
    rw [Lib.bytesCells, Array.getElem?_append_left (by simpa using hlt)]
    simp at hj
    simp [hj]
theorem bytes_below0 (w : World) (s : ByteArray) : Below w.heap.size w (Lib.bytesWorld w 5 s) := bytes_below (Below.refl _ _) (Nat.le_refl _) 5 s
/-- What the row says as a string. -/
theorem Bytes.str {w : World} {g N cap : Nat} {l : List UInt8} (h : Bytes w g N l) (hl : l.length ≤ 9223372036854775807) :
    (convert 29 9 (.slice (some ⟨g, 0, none⟩) l.length cap)).run Tryd.prog w = .ok (.string ⟨l.toArray⟩) w := by
  have hr : ReadsInt w .u8 (some ⟨g, 0, none⟩) l.length (bytesOf ⟨l.toArray⟩) := by
    refine ⟨by rw [bytesOf_length]; simp [ByteArray.size], hl, fun _ => ⟨_, rfl, fun j hj => ?_⟩⟩
    rw [add_plain, h.cell (List.getElem?_eq_getElem hj)]
    simp [bytesOf, List.getD_eq_getElem?_getD, List.getElem?_eq_getElem hj]
  have e : strOfNums (bytesOf ⟨l.toArray⟩) = (⟨l.toArray⟩ : ByteArray) := by
    unfold strOfNums bytesOf
    simp [List.map_map, Function.comp_def]
  rw [← e]
  exact string_of_reads Tryd.underlying29 Tryd.underlying5 Tryd.underlying9 hr

/-- A letter A to Z as a to z. -/
def lowC (c : UInt8) : UInt8 := if 65 ≤ c.toNat ∧ c.toNat ≤ 90 then c + 32 else c
def lowL (l : List UInt8) : List UInt8 := l.map lowC
def lowS (s : ByteArray) : ByteArray := ⟨(lowL s.data.toList).toArray⟩
theorem lowC_toNat (c : UInt8) : ((lowC c).toNat : Int) = if 65 ≤ c.toNat ∧ c.toNat ≤ 90 then (c.toNat : Int) + 32 else c.toNat := by
  unfold lowC
  split
  · rename_i h
    have : (c + 32).toNat = c.toNat + 32 := by rw [UInt8.toNat_add]; have : (32 : UInt8).toNat = 32 := rfl; omega
    rw [this]; omega
  · rfl
/-- The first k bytes lowered. -/
def lowUp (l : List UInt8) (k : Nat) : List UInt8 := lowL (l.take k) ++ l.drop k
theorem lowUp_length (l : List UInt8) (k : Nat) : (lowUp l k).length = l.length := by
  simp [lowUp, lowL]; omega
theorem lowUp_get (l : List UInt8) (k : Nat) {c : UInt8} (h : l[k]? = some c) : (lowUp l k)[k]? = some c := by
  have hk := (List.getElem?_eq_some_iff.1 h).1
  unfold lowUp lowL
  rw [List.getElem?_append_right (by simp; omega)]
  simp [Nat.min_eq_left (Nat.le_of_lt hk), h]
theorem lowUp_set (l : List UInt8) (k : Nat) {c : UInt8} (h : l[k]? = some c) : (lowUp l k).set k (lowC c) = lowUp l (k + 1) := by
  obtain ⟨hk, he⟩ := List.getElem?_eq_some_iff.1 h
  unfold lowUp lowL
  rw [List.set_append_right _ _ (by simp; omega)]
  have e1 : k - ((l.take k).map lowC).length = 0 := by simp; omega
  rw [e1, List.drop_eq_getElem_cons hk, List.set_cons_zero, List.take_succ_eq_append_getElem hk, List.map_append]
  simp [he]
theorem lowUp_zero (l : List UInt8) : lowUp l 0 = l := by simp [lowUp, lowL]
theorem lowUp_all (l : List UInt8) : lowUp l l.length = lowL l := by simp [lowUp, lowL]

theorem lowUp_keep (l : List UInt8) (k : Nat) {c : UInt8} (h : l[k]? = some c) (e : lowC c = c) : lowUp l (k + 1) = lowUp l k := by
  have hg := lowUp_get l k h
  rw [← lowUp_set l k h, e]
  apply List.ext_getElem?
  intro i
  by_cases hi : k = i
  · subst hi
    rw [List.getElem?_set_self (List.getElem?_eq_some_iff.1 hg).1, hg]
  · rw [List.getElem?_set_ne hi]

/-- dn.lower. -/
theorem lower_any (c : UInt8) (w : World) : Calls Tryd.prog 77 #[.int .u8 (c.toNat : Int)] w fun e w' => e = .returned (.int .u8 ((lowC c).toNat : Int)) ∧ w' = w := by
  rw [lowC_toNat]
  by_cases h1 : (65 : Int) ≤ (c.toNat : Int)
  · by_cases h2 : (c.toNat : Int) ≤ 90
    · rw [if_pos ⟨by omega, by omega⟩]
      have hc : (c.toNat : Int) + 32 < 256 := by omega
      go_enter Tryd.func77, Tryd.ntmps77
      go_wp2
      go_ret
      exact ⟨by simp, rfl⟩
    · rw [if_neg (by omega)]
      go_enter Tryd.func77, Tryd.ntmps77
      go_wp2
      go_ret
      exact ⟨rfl, rfl⟩
  · rw [if_neg (by omega)]
    go_enter Tryd.func77, Tryd.ntmps77
    go_wp2
    go_ret
    exact ⟨rfl, rfl⟩

/-- dn.lowered. -/
def dn_lowered.f (a0 : ByteArray) : Option ByteArray := if a0.size ≤ 9223372036854775806 then some (lowS a0) else none
set_option maxHeartbeats 1000000 in
theorem dn_lowered.calls (a0 : ByteArray) (r : ByteArray) (w : World) (h : dn_lowered.f a0 = some r) :
    Calls Tryd.prog 57 #[.string a0] w fun e w' => e = .returned (.string r) ∧ Below w.heap.size w w' := by
  unfold dn_lowered.f at h
  split at h
  case isFalse => cases h
  case isTrue hs =>
  obtain rfl := Option.some.inj h
  have hconv := fun W => print_bytes (P := Tryd.prog) 9 29 5 Tryd.underlying9 Tryd.underlying29 Tryd.underlying5 a0 W
  go_enter Tryd.func57, Tryd.ntmps57
  go_wp2
  go_loopw [10] (fun i wr => ∃ k : Nat, k ≤ a0.size ∧ i = .int .i64 k ∧ Bytes wr w.heap.size (Lib.bytesCells w 5 a0).size (lowUp a0.data.toList k) ∧ Below w.heap.size w wr) (fun i _ => a0.size - (intOf i).toNat)
  case atStart => exact ⟨0, Nat.zero_le _, rfl, by rw [lowUp_zero]; exact Bytes.of w a0, bytes_below0 w a0⟩
  case round =>
    obtain ⟨k, hk, rfl, hB, hW⟩ := hrel
    by_cases hlt : k < a0.size
    · obtain ⟨c, hc⟩ : ∃ c, a0.data.toList[k]? = some c := ⟨_, List.getElem?_eq_getElem (by simpa using hlt)⟩
      have hcell := hB.cell (lowUp_get _ _ hc)
      have hfr := hB.frozen (j := k) (by have := hB; obtain ⟨_, _, _, h1, _⟩ := this; rw [lowUp_length] at h1; simp at h1; exact Nat.lt_of_lt_of_le hlt h1)
      have HC := Lib.hid hc
      clear hc
      go_wp2_with (go_at_call 77; refine (lower_any _ _).mono ?_; rintro e w' ⟨rfl, rfl⟩)
      refine ⟨⟨k + 1, by omega, by simp, ?_, hW.setCell (p := ⟨w.heap.size, k, none⟩) (Nat.le_refl _) _⟩, by simp [intOf]; omega⟩
      have := hB.set (lowC c) (j := k) (by rw [lowUp_length]; simpa using hlt)
      rw [lowUp_set _ _ HC.out] at this
      exact this
    · obtain rfl : k = a0.size := by omega
      have hl : (lowUp a0.data.toList a0.size) = lowL a0.data.toList := by
        have := lowUp_all a0.data.toList
        simpa using this
      rw [hl] at hB
      have hstr := hB.str (cap := grownCap w a0.size 0 5) (by simp [lowL]; exact Nat.le_trans hs (by decide))
      have hn : (lowL a0.data.toList).length = a0.size := by simp [lowL]
      rw [hn] at hstr
      clear hl hn hconv
      go_wp2
      go_ret
      exact ⟨rfl, hW⟩

/-- brookref1.Lower. -/
def brookref1_Lower.f (a0 : ByteArray) : Option ByteArray := if a0.size ≤ 9223372036854775806 then some (lowS a0) else none
set_option maxHeartbeats 1000000 in
theorem brookref1_Lower.calls (a0 : ByteArray) (r : ByteArray) (w : World) (h : brookref1_Lower.f a0 = some r) :
    Calls Tryd.prog 24 #[.string a0] w fun e w' => e = .returned (.string r) ∧ Below w.heap.size w w' := by
  unfold brookref1_Lower.f at h
  split at h
  case isFalse => cases h
  case isTrue hs =>
  obtain rfl := Option.some.inj h
  have hconv := fun W => print_bytes (P := Tryd.prog) 9 29 5 Tryd.underlying9 Tryd.underlying29 Tryd.underlying5 a0 W
  go_enter Tryd.func24, Tryd.ntmps24
  go_wp2
  go_loopw [4] (fun i wr => ∃ k : Nat, k ≤ a0.size ∧ i = .int .i64 k ∧ Bytes wr w.heap.size (Lib.bytesCells w 5 a0).size (lowUp a0.data.toList k) ∧ Below w.heap.size w wr) (fun i _ => a0.size - (intOf i).toNat)
  case atStart => exact ⟨0, Nat.zero_le _, rfl, by rw [lowUp_zero]; exact Bytes.of w a0, bytes_below0 w a0⟩
  case round =>
    obtain ⟨k, hk, rfl, hB, hW⟩ := hrel
    by_cases hlt : k < a0.size
    · obtain ⟨c, hc⟩ : ∃ c, a0.data.toList[k]? = some c := ⟨_, List.getElem?_eq_getElem (by simpa using hlt)⟩
      have hcell := hB.cell (lowUp_get _ _ hc)
      have hfr := hB.frozen (j := k) (by have := hB; obtain ⟨_, _, _, h1, _⟩ := this; rw [lowUp_length] at h1; simp at h1; exact Nat.lt_of_lt_of_le hlt h1)
      have HN := Lib.hid (lowUp_set _ _ hc)
      have HP := Lib.hid (lowUp_keep _ _ hc)
      have hlow := lowC_toNat c
      clear hc hconv
      by_cases c1 : (65 : Int) ≤ (c.toNat : Int)
      · have c1b : decide ((65 : Int) ≤ (c.toNat : Int)) = true := decide_eq_true c1
        by_cases c2 : (c.toNat : Int) ≤ 90
        · have c2b : decide ((c.toNat : Int) ≤ (90 : Int)) = true := decide_eq_true c2
          rw [if_pos ⟨by omega, by omega⟩] at hlow
          have hc : (c.toNat : Int) + 32 < 256 := by omega
          have HL := Lib.hid hlow
          clear hlow
          go_wp2
          refine ⟨⟨k + 1, by omega, by simp, ?_, hW.setCell (p := ⟨w.heap.size, k, none⟩) (Nat.le_refl _) _⟩, by simp [intOf]; omega⟩
          have := hB.set (lowC c) (j := k) (by rw [lowUp_length]; simpa using hlt)
          rw [HN.out, HL.out] at this
          exact this
        · have c2b : decide ((c.toNat : Int) ≤ (90 : Int)) = false := decide_eq_false c2
          rw [if_neg (by omega)] at hlow
          have HL := Lib.hid hlow
          clear hlow
          go_wp2
          refine ⟨⟨k + 1, by omega, by simp, ?_, hW⟩, by simp [intOf]; omega⟩
          rw [HP.out (by rw [← UInt8.toNat_inj]; have := HL.out; omega)]
          exact hB
      · have c1b : decide ((65 : Int) ≤ (c.toNat : Int)) = false := decide_eq_false c1
        rw [if_neg (by omega)] at hlow
        have HL := Lib.hid hlow
        clear hlow
        go_wp2
        refine ⟨⟨k + 1, by omega, by simp, ?_, hW⟩, by simp [intOf]; omega⟩
        rw [HP.out (by rw [← UInt8.toNat_inj]; have := HL.out; omega)]
        exact hB
    · obtain rfl : k = a0.size := by omega
      have hl : (lowUp a0.data.toList a0.size) = lowL a0.data.toList := by
        have := lowUp_all a0.data.toList
        simpa using this
      rw [hl] at hB
      have hstr := hB.str (cap := grownCap w a0.size 0 5) (by simp [lowL]; exact Nat.le_trans hs (by decide))
      have hn : (lowL a0.data.toList).length = a0.size := by simp [lowL]
      rw [hn] at hstr
      clear hl hn hconv
      go_wp2
      go_ret
      exact ⟨rfl, hW⟩

/-- dn.letter, dn.typed. -/
def letterB (c : UInt8) : Bool := decide (97 ≤ (lowC c).toNat) && decide ((lowC c).toNat ≤ 122)
theorem letter_any (c : UInt8) (w : World) : Calls Tryd.prog 69 #[.int .u8 (c.toNat : Int)] w fun e w' => e = .returned (.bool (letterB c)) ∧ w' = w := by
  unfold letterB
  by_cases h1 : (97 : Int) ≤ ((lowC c).toNat : Int)
  · have h1b : decide ((97 : Int) ≤ ((lowC c).toNat : Int)) = true := decide_eq_true h1
    go_enter Tryd.func69, Tryd.ntmps69
    go_wp2_with (go_at_call 77; refine (lower_any _ _).mono ?_; rintro e w' ⟨rfl, rfl⟩)
    go_ret
    exact ⟨by have : 97 ≤ (lowC c).toNat := by omega
              simp [this]; omega, rfl⟩
  · have h1b : decide ((97 : Int) ≤ ((lowC c).toNat : Int)) = false := decide_eq_false h1
    go_enter Tryd.func69, Tryd.ntmps69
    go_wp2_with (go_at_call 77; refine (lower_any _ _).mono ?_; rintro e w' ⟨rfl, rfl⟩)
    go_ret
    exact ⟨by simp; omega, rfl⟩
def typeC (c : UInt8) : Bool := letterB c || (decide (48 ≤ c.toNat) && decide (c.toNat ≤ 57)) || c == 45
def typedB (l : List UInt8) : Bool := match l with
  | [] => false
  | c :: r => decide (r.length + 1 ≤ 30) && letterB c && (c :: r).all typeC
def dn_typed.f (a0 : ByteArray) : Option Bool := some (typedB a0.data.toList)
theorem data_size (s : ByteArray) : s.data.toList.length = s.size := by simp
theorem typeC_not {d : UInt8} (h : letterB d = false) (h1 : ¬ (48 ≤ d.toNat ∧ d.toNat ≤ 57)) (h2 : d ≠ 45) : typeC d = false := by
  simp [typeC, h, h2]; omega
theorem typed_step {l : List UInt8} {k : Nat} {c : UInt8} (hc : l[k]? = some c) (h : (l.take k).all typeC = true) (ht : typeC c = true) : (l.take (k + 1)).all typeC = true := by
  obtain ⟨hk, rfl⟩ := List.getElem?_eq_some_iff.1 hc
  rw [List.take_succ_eq_append_getElem hk, List.all_append, h]
  simp [ht]
theorem typed_not {l : List UInt8} {k : Nat} {c : UInt8} (hc : l[k]? = some c) (ht : typeC c = false) : typedB l = false := by
  cases l with
  | nil => simp at hc
  | cons d r =>
    have : (d :: r).all typeC = false := by
      rw [List.all_eq_false]
      exact ⟨c, List.mem_of_getElem? hc, by simp [ht]⟩
    simp [typedB, this]
theorem typed_head {l : List UInt8} {c : UInt8} (hc : l[0]? = some c) (hl : l.length ≤ 30) : typedB l = (letterB c && l.all typeC) := by
  cases l with
  | nil => simp at hc
  | cons d r =>
    simp at hc hl
    subst hc
    simp [typedB, hl]
set_option maxHeartbeats 1000000 in
theorem dn_typed.calls (a0 : ByteArray) (r : Bool) (w : World) (h : dn_typed.f a0 = some r) :
    Calls Tryd.prog 47 #[.string a0] w fun e w' => e = .returned (.bool r) ∧ Below w.heap.size w w' := by
  obtain rfl := Option.some.inj h
  clear h
  by_cases h0 : a0.data.toList = []
  · have h0' : a0.toList = [] := by rw [← h0]; exact ByteArray.toList_eq a0
    have hr : typedB a0.data.toList = false := by rw [h0]; rfl
    have HR := Lib.hid hr
    clear hr h0
    go_enter Tryd.func47, Tryd.ntmps47
    go_wp2
    go_ret
    exact ⟨by rw [HR.out]; rfl, Below.refl _ _⟩
  · have hpos : 0 < a0.size := by
      rw [← data_size]
      exact List.length_pos_iff.2 h0
    have h0' : ¬ a0.toList = [] := by rw [ByteArray.toList_eq a0]; exact h0
    have h0e : a0.toList.isEmpty = false := by simp [h0']
    by_cases h1 : (30 : Int) < (a0.size : Int)
    · have hr : typedB a0.data.toList = false := by
        have hz := data_size a0
        revert hz h0
        cases a0.data.toList with
        | nil => intro h0; exact absurd rfl h0
        | cons d r => intro _ hz; simp at hz; have : ¬ r.length + 1 ≤ 30 := by omega
                      simp [typedB]; omega
      have HR := Lib.hid hr
      clear hr h0
      go_enter Tryd.func47, Tryd.ntmps47
      go_wp2
      go_ret
      exact ⟨by rw [HR.out]; rfl, Below.refl _ _⟩
    · obtain ⟨c, hc⟩ : ∃ c, a0.data.toList[0]? = some c := ⟨_, List.getElem?_eq_getElem (by rw [data_size]; exact hpos)⟩
      have hc0 : a0[0] = c := by
        have := (List.getElem?_eq_some_iff.1 hc).2
        exact this
      have HT := Lib.hid (typed_head hc (by rw [data_size]; omega))
      have HZ := Lib.hid h0
      clear hc h0
      have hconv := fun W => print_bytes (P := Tryd.prog) 9 29 5 Tryd.underlying9 Tryd.underlying29 Tryd.underlying5 a0 W
      cases hl : letterB c with
      | false =>
        go_enter Tryd.func47, Tryd.ntmps47
        go_wp2_with (go_at_call 69; refine (letter_any _ _).mono ?_; rintro e w' ⟨rfl, rfl⟩)
        go_ret
        exact ⟨by rw [HT.out, hl]; rfl, Below.refl _ _⟩
      | true =>
        go_enter Tryd.func47, Tryd.ntmps47
        go_wp2_with (go_at_call 69; refine (letter_any _ _).mono ?_; rintro e w' ⟨rfl, rfl⟩)
        rw [hl] at HT
        go_loopw [21] (fun i wr => ∃ k : Nat, k ≤ a0.size ∧ i = .int .i64 k ∧ wr = Lib.bytesWorld w' 5 a0 ∧ (a0.data.toList.take k).all typeC = true) (fun i _ => a0.size - (intOf i).toNat)
        case atStart => exact ⟨0, Nat.zero_le _, rfl, rfl, by simp⟩
        case round =>
          obtain ⟨k, hk, rfl, rfl, ha⟩ := hrel
          by_cases hlt : k < a0.size
          · obtain ⟨d, hd⟩ : ∃ d, a0.data.toList[k]? = some d := ⟨_, List.getElem?_eq_getElem (by rw [data_size]; exact hlt)⟩
            have hcell := (Bytes.of w' a0).cell hd
            have HS := Lib.hid (fun ht => typed_step hd ha ht)
            have HF := Lib.hid (fun ht => typed_not hd ht)
            have HA := Lib.hid ha
            clear hd ha hc0
            cases h3 : letterB d with
            | true =>
              go_wp2_with (go_at_call 69; refine (letter_any _ _).mono ?_; rintro e w' ⟨rfl, rfl⟩)
              exact ⟨⟨k + 1, by omega, by simp, trivial, HS.out (by simp [typeC, h3])⟩, by simp [intOf]; omega⟩
            | false =>
              by_cases c1 : (48 : Int) ≤ (d.toNat : Int)
              · have c1b : decide ((48 : Int) ≤ (d.toNat : Int)) = true := decide_eq_true c1
                by_cases c2 : (d.toNat : Int) ≤ 57
                · have c2b : decide ((d.toNat : Int) ≤ (57 : Int)) = true := decide_eq_true c2
                  go_wp2_with (go_at_call 69; refine (letter_any _ _).mono ?_; rintro e w' ⟨rfl, rfl⟩)
                  exact ⟨⟨k + 1, by omega, by simp, trivial, HS.out (by simp [typeC]; omega)⟩, by simp [intOf]; omega⟩
                · have c2b : decide ((d.toNat : Int) ≤ (57 : Int)) = false := decide_eq_false c2
                  by_cases c3 : (d.toNat : Int) = 45
                  · omega
                  · have c3b : ((d.toNat : Int) == 45) = false := beq_eq_false_iff_ne.2 c3
                    have c3n : ((d.toNat : Int) != 45) = true := by rw [bne_iff_ne]; exact c3
                    clear c3
                    go_wp2_with (go_at_call 69; refine (letter_any _ _).mono ?_; rintro e w' ⟨rfl, rfl⟩)
                    go_ret
                    exact ⟨by rw [HF.out (typeC_not h3 (by omega) (by intro e; subst e; simp at c3b))]; rfl, bytes_below0 _ a0⟩
              · have c1b : decide ((48 : Int) ≤ (d.toNat : Int)) = false := decide_eq_false c1
                by_cases c3 : (d.toNat : Int) = 45
                · have c3b : ((d.toNat : Int) == 45) = true := beq_iff_eq.2 c3
                  have c3n : ((d.toNat : Int) != 45) = false := by rw [bne_eq_false_iff_eq]; exact c3
                  have hd : typeC d = true := by
                    have : d = 45 := by rw [← UInt8.toNat_inj]; have : (45 : UInt8).toNat = 45 := rfl; omega
                    simp [typeC, this]
                  have HD := Lib.hid hd
                  clear c3 hd
                  go_wp2_with (go_at_call 69; refine (letter_any _ _).mono ?_; rintro e w' ⟨rfl, rfl⟩)
                  exact ⟨⟨k + 1, by omega, by simp, trivial, HS.out HD.out⟩, by simp [intOf]; omega⟩
                · have c3b : ((d.toNat : Int) == 45) = false := beq_eq_false_iff_ne.2 c3
                  have c3n : ((d.toNat : Int) != 45) = true := by rw [bne_iff_ne]; exact c3
                  clear c3
                  go_wp2_with (go_at_call 69; refine (letter_any _ _).mono ?_; rintro e w' ⟨rfl, rfl⟩)
                  go_ret
                  exact ⟨by rw [HF.out (typeC_not h3 (by omega) (by intro e; subst e; simp at c3b))]; rfl, bytes_below0 _ a0⟩
          · obtain rfl : k = a0.size := by omega
            have HA := Lib.hid ha
            clear ha hc0
            go_wp2
            go_ret
            refine ⟨?_, bytes_below0 _ a0⟩
            have h := HA.out
            rw [List.take_of_length_le (by rw [data_size]; exact Nat.le_refl _)] at h
            rw [HT.out, h]; rfl

/-! ### dn.Fold -/
theorem info5 : (Tryd.prog.info? 5).map (fun i => (i.zero, i.size, i.bytes)) = some (some (.int .u8 0), 1, 1) := by kernel_rfl
def sqStep (b : List UInt8) (c : UInt8) : List UInt8 := if c = 32 ∧ b.getLast? = some 32 then b else b ++ [c]
def sq (l : List UInt8) : List UInt8 := l.foldl sqStep []
def bi (l : List UInt8) : List Int := l.map fun c => (c.toNat : Int)
theorem sq_snoc {l : List UInt8} {k : Nat} {c : UInt8} (h : l[k]? = some c) : sq (l.take (k + 1)) = sqStep (sq (l.take k)) c := by
  obtain ⟨hk, rfl⟩ := List.getElem?_eq_some_iff.1 h
  unfold sq
  rw [List.take_succ_eq_append_getElem hk, List.foldl_append]
  rfl
theorem sqStep_length (b : List UInt8) (c : UInt8) : (sqStep b c).length ≤ b.length + 1 ∧ b.length ≤ (sqStep b c).length := by
  unfold sqStep; split <;> simp
theorem sq_length (l : List UInt8) (k : Nat) : (sq (l.take k)).length ≤ k := by
  induction k with
  | zero => simp [sq]
  | succ k ih =>
    by_cases hk : k < l.length
    · rw [sq_snoc (List.getElem?_eq_getElem hk)]
      have := (sqStep_length (sq (l.take k)) l[k]).1
      omega
    · rw [List.take_of_length_le (by omega)]
      rw [List.take_of_length_le (by omega)] at ih
      omega
theorem sq_pos {l : List UInt8} (h : l.head? ≠ some 32) {k : Nat} (hk : 0 < k) (hl : k ≤ l.length) : sq (l.take k) ≠ [] := by
  induction k with
  | zero => omega
  | succ k ih =>
    rw [sq_snoc (List.getElem?_eq_getElem (show k < l.length by omega))]
    rcases Nat.eq_zero_or_pos k with h0 | hp
    · subst h0
      simp [sq, sqStep]
    · intro he
      have := (sqStep_length (sq (l.take k)) l[k]).2
      rw [he] at this
      exact ih hp (by omega) (List.eq_nil_of_length_eq_zero (by simpa using this))
theorem bi_length (l : List UInt8) : (bi l).length = l.length := by simp [bi]
theorem str_bi (l : List UInt8) : strOfNums (bi l) = (⟨l.toArray⟩ : ByteArray) := by
  unfold strOfNums bi
  simp [List.map_map, Function.comp_def]
def trimS (s : ByteArray) : ByteArray := ⟨(Lib.trimB s.data.toList 32).toArray⟩
theorem trimB_length (l : List UInt8) (c : UInt8) : (Lib.trimB l c).length ≤ l.length := by
  unfold Lib.trimB Lib.trimLeftB Lib.trimRightB
  have h1 := (List.dropWhile_sublist (fun x => x == c) (l := (List.dropWhile (fun x => x == c) l.reverse).reverse)).length_le
  have h2 := (List.dropWhile_sublist (fun x => x == c) (l := l.reverse)).length_le
  simp at h1 h2 ⊢
  omega
def dn_Fold.f (a0 : ByteArray) : Option ByteArray := if a0.size ≤ 140737488355320 ∧ (lowL (Lib.trimB a0.data.toList 32)).head? ≠ some 32 then some ⟨(sq (lowL (Lib.trimB a0.data.toList 32))).toArray⟩ else none
set_option maxHeartbeats 1000000 in
theorem dn_Fold.calls (a0 : ByteArray) (r : ByteArray) (w : World) (h : dn_Fold.f a0 = some r) :
    Calls Tryd.prog 25 #[.string a0] w fun e w' => e = .returned (.string r) ∧ Below w.heap.size w w' := by
  unfold dn_Fold.f at h
  split at h
  case isFalse => cases h
  case isTrue hs =>
  obtain rfl := Option.some.inj h
  clear h
  obtain ⟨hs, hh⟩ := hs
  have HT : strings_Trim.f a0 ⟨#[32]⟩ = some (trimS a0) := by
    show (if (32 : UInt8).toNat < 128 ∧ a0.size ≤ 9223372036854775807 then some (⟨(Lib.trimB a0.data.toList 32).toArray⟩ : ByteArray) else none) = some (trimS a0)
    rw [if_pos ⟨by decide, Nat.le_trans hs (by decide)⟩]
    rfl
  have hts : (trimS a0).size ≤ a0.size := by
    have := trimB_length a0.data.toList 32
    simp only [trimS, ByteArray.size, List.size_toArray]
    simp only [Array.length_toList] at this
    exact this
  have HL : dn_lowered.f (trimS a0) = some (lowS (trimS a0)) := by
    unfold dn_lowered.f
    rw [if_pos (Nat.le_trans hts (Nat.le_trans hs (by decide)))]
  have hlow : (lowS (trimS a0)).data.toList = lowL (Lib.trimB a0.data.toList 32) := by simp [lowS, trimS]
  have hsz : (lowS (trimS a0)).size = (trimS a0).size := by
    simp only [lowS, lowL, ByteArray.size, List.size_toArray, List.length_map, Array.length_toList]
  rw [← hlow] at hh ⊢
  generalize lowS (trimS a0) = t at *
  generalize trimS a0 = u at *
  have HT' := Lib.hid HT
  have HL' := Lib.hid HL
  have HH := Lib.hid hh
  have hn : t.size ≤ 140737488355320 := by omega
  clear HT HL hh hlow hsz hts
  have hconv := fun W => print_bytes (P := Tryd.prog) 9 29 5 Tryd.underlying9 Tryd.underlying29 Tryd.underlying5 t W
  go_enter Tryd.func25, Tryd.ntmps25
  go_wp2_with (first | (go_at_call 58; refine (strings_Trim.calls _ _ _ _ HT'.out).mono ?_; rintro e w1 ⟨rfl, hd⟩) | (go_at_call 57; refine (dn_lowered.calls _ _ _ HL'.out).mono ?_; rintro e w2 ⟨rfl, hb2⟩))
  have HB1 := Bytes.of w2 t
  have hb1 := bytes_below0 w2 t
  have hb : Below w.heap.size w (Lib.bytesWorld w2 5 t) := below_step (below_step hd.below hb2) hb1
  have hG : w2.heap.size < (Lib.bytesWorld w2 5 t).heap.size := by rw [Lib.bytesWorld_size]; omega
  generalize hW1 : Lib.bytesWorld w2 5 t = W1 at *
  generalize w2.heap.size = G at *
  generalize (Lib.bytesCells w2 5 t).size = N at *
  generalize grownCap w2 t.size 0 5 = cap at *
  clear hW1 hconv hb1
  go_loopw [3, 11] (fun v i wr => ∃ k : Nat, k ≤ t.size ∧ i = .int .i64 k ∧ wr.ownsRow W1.heap.size 5 1 v (bi (sq (t.data.toList.take k))).length (nums .u8 (bi (sq (t.data.toList.take k)))) ∧ Below W1.heap.size W1 wr) (fun _ i _ => t.size - (intOf i).toNat)
  case atStart => exact ⟨0, Nat.zero_le _, rfl, by simp [sq, bi, nums, World.ownsRow], Below.refl _ _⟩
  case round =>
    obtain ⟨k, hk, rfl, hO, hW⟩ := hrel
    have HBr := HB1.below hW
    have hle := sq_length t.data.toList k
    obtain ⟨A, cp, hv⟩ := own_slice hO
    by_cases hlt : k < t.size
    · obtain ⟨c, hc⟩ : ∃ c, t.data.toList[k]? = some c := ⟨_, List.getElem?_eq_getElem (by rw [data_size]; exact hlt)⟩
      have hcell := HBr.cell hc
      have HS := Lib.hid (sq_snoc hc)
      have hkl : k ≤ t.data.toList.length := by rw [data_size]; exact hk
      have HP := Lib.hid (fun hp => sq_pos HH.out (k := k) hp hkl)
      have HC := Lib.hid hc
      clear hc
      generalize hq : sq (t.data.toList.take k) = q at *
      by_cases c1 : (c.toNat : Int) = 32
      · have c32 : c = 32 := by rw [← UInt8.toNat_inj]; have : (32 : UInt8).toNat = 32 := rfl; omega
        have hk0 : 0 < k := by
          rcases Nat.eq_zero_or_pos k with h0 | h0
          · subst h0; exfalso; apply HH.out; rw [← c32, List.head?_eq_getElem?]; exact HC.out
          · exact h0
        have hne := HP.out hk0
        have hlen : 0 < q.length := List.length_pos_iff.2 hne
        obtain ⟨d, hd1⟩ : ∃ d, q.getLast? = some d := ⟨_, List.getLast?_eq_some_getLast hne⟩
        have hbl : (bi q).length = q.length := bi_length q
        obtain ⟨g, cp', hv2, hgb, hgl⟩ := hO.form (by rw [hbl]; exact hlen)
        subst hv2
        have hat := own_at hO ((q.length : Int) - 1) (by omega) (by rw [hbl]; omega)
        have e1 : ((q.length : Int) - 1).toNat = q.length - 1 := by omega
        have e2 : rd (bi q) ((q.length : Int) - 1) = (d.toNat : Int) := by
          unfold rd bi
          rw [e1, List.getD_eq_getElem?_getD, List.getElem?_map]
          rw [List.getLast?_eq_getElem?] at hd1
          rw [hd1]; rfl
        rw [e1, e2] at hat
        obtain ⟨hat, hatf⟩ := hat
        have c1b : ((c.toNat : Int) == 32) = true := beq_iff_eq.2 c1
        have hb0 : W1.heap.size ≤ wr.heap.size := hW.size
        have hi0 : (0 : Int) ≤ (q.length : Int) - 1 := by omega
        have hi2 : (q.length : Int) - 1 < (q.length : Int) := by omega
        have hq1 : (q.length : Int) ≤ 140737488355320 := by omega
        rw [hbl] at hO ⊢
        by_cases c2 : (d.toNat : Int) = 32
        · have c2b : ((d.toNat : Int) == 32) = true := beq_iff_eq.2 c2
          have hst : sqStep q c = q := by
            unfold sqStep
            rw [if_pos ⟨c32, by rw [hd1]; congr 1; rw [← UInt8.toNat_inj]; have : (32 : UInt8).toNat = 32 := rfl; omega⟩]
          have HST := Lib.hid hst
          have HZ := Lib.hid hbl
          clear hst hbl c1 hq c2 c32 hd1 e1 e2
          go_wp2
          refine ⟨⟨k + 1, by omega, by simp, ?_, hW⟩, by simp [intOf]; omega⟩
          rw [HS.out, HST.out, HZ.out]
          exact hO
        · have c2b : ((d.toNat : Int) == 32) = false := beq_eq_false_iff_ne.2 c2
          have hst : sqStep q c = q ++ [c] := by
            unfold sqStep
            rw [if_neg]; rintro ⟨_, h⟩; rw [hd1] at h; injection h with h; apply c2; rw [h]; rfl
          have HST := Lib.hid hst
          have HZ := Lib.hid hbl
          have hO2 := hO
          rw [← hbl] at hO2
          have HO2 := Lib.hid hO2
          clear hst hbl c1 hq c2 c32 hd1 e1 e2 hO2
          go_wp2_with (at_builtin; refine print_append_num (w0 := W1) W1.heap.size rfl (.tmp 26) (.tmp 28) 29 5 .u8 1 rfl Tryd.underlying29 info5 (by omega) _ (bi q) (c.toNat : Int) rfl rfl ?bO ?bB ?bS ?bL ?_)
          case bO => have h := hO; rw [← HZ.out] at h; rw [← HZ.out]; exact h
          case bB => exact hW
          case bS => exact hb0
          case bL => have := HZ.out; omega
          intro v1 w3 ho hb3 hg hat
          go_wp2
          refine ⟨⟨k + 1, by omega, by simp, ?_, hb3⟩, by simp [intOf]; omega⟩
          rw [HS.out, HST.out]
          have e : bi (q ++ [c]) = bi q ++ [(c.toNat : Int)] := by simp [bi]
          rw [e, List.length_append]
          exact ho
      · have c1b : ((c.toNat : Int) == 32) = false := beq_eq_false_iff_ne.2 c1
        have hst : sqStep q c = q ++ [c] := by unfold sqStep; rw [if_neg]; intro h; apply c1; rw [h.1]; rfl
        have HST := Lib.hid hst
        have hbl : (bi q).length = q.length := bi_length q
        have hb0 : W1.heap.size ≤ wr.heap.size := hW.size
        have HZ := Lib.hid hbl
        clear hst hbl c1 hq
        subst hv
        go_wp2_with (at_builtin; refine print_append_num (w0 := W1) W1.heap.size rfl (.tmp 26) (.tmp 28) 29 5 .u8 1 rfl Tryd.underlying29 info5 (by omega) _ (bi q) (c.toNat : Int) rfl rfl ?aO ?aB ?aS ?aL ?_)
        case aO => exact hO
        case aB => exact hW
        case aS => exact hb0
        case aL => have := HZ.out; omega
        intro v1 w3 ho hb3 hg hat
        go_wp2
        refine ⟨⟨k + 1, by omega, by simp, ?_, hb3⟩, by simp [intOf]; omega⟩
        rw [HS.out, HST.out]
        have e : bi (q ++ [c]) = bi q ++ [(c.toNat : Int)] := by simp [bi]
        rw [e, List.length_append]
        exact ho
    · obtain rfl : k = t.size := by omega
      have hl : List.take t.size t.data.toList = t.data.toList := List.take_of_length_le (by rw [data_size]; exact Nat.le_refl _)
      rw [hl] at hO
      have hstr := own_string (P := Tryd.prog) Tryd.underlying29 Tryd.underlying5 Tryd.underlying9 hO
      rw [str_bi] at hstr
      subst hv
      clear hl
      go_wp2
      go_ret
      exact ⟨rfl, hb.trans (hW.mono hb.size)⟩

end Go.Proofs.YtflkghdndffacaaDoor.H
