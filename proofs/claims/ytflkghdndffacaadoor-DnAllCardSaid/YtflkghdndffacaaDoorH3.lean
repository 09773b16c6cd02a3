/- The contract of dn.Text: a name's text, as a plain function of the list. -/
import Derived.Test.YtflkghdndffacaaDoorH2
import Derived.Test.YtflkghdndffacaaDoorPDx0
import Derived.Deep.RegionWith
import Derived.StillTail
import Derived.StillTailTactics
namespace Go.Proofs.YtflkghdndffacaaDoor.H
open Go.RowKit Go.Proofs.YtflkghdndffacaaDoor.PD Go.Proofs.YtflkghdndffacaaDoorW.PrintWords Go.Proofs.YtflkghdndffacaaDoorW.PrintLast Go.Proofs.YtflkghdndffacaaDoorW.PrintMore
set_option linter.unusedVariables false
set_option linter.unusedSimpArgs false

def hexD (n : Nat) : UInt8 := if n < 10 then (48 + n).toUInt8 else (87 + n).toUInt8
def specialB (c : UInt8) : Bool := decide (0 ≤ Lib.indexByte [44, 43, 34, 92, 60, 62, 59] c)
/-- Byte c, the k-th of n, as a name has it. -/
def escC (n k : Nat) (c : UInt8) : List UInt8 :=
  if c.toNat < 32 ∨ 126 < c.toNat then [92, hexD (c.toNat / 16), hexD (c.toNat % 16)]
  else if specialB c = true ∨ (k = 0 ∧ (c = 35 ∨ c = 32)) ∨ (k + 1 = n ∧ c = 32) then [92, c] else [c]
/-- The first k bytes of v. -/
def escUp (v : List UInt8) : Nat → List UInt8
  | 0 => []
  | k + 1 => escUp v k ++ (match v[k]? with | some c => escC v.length k c | none => [])
/-- The first k parts of l. -/
def textUp (l : List S25) : Nat → List UInt8
  | 0 => []
  | k + 1 => textUp l k ++ (match l[k]? with | some r => (if 0 < k then [44] else []) ++ r.f0.data.toList ++ [61] ++ escUp r.f1.data.toList r.f1.data.toList.length | none => [])
theorem escUp_mono (v : List UInt8) (k d : Nat) : (escUp v k).length ≤ (escUp v (k + d)).length := by
  induction d with
  | zero => exact Nat.le_refl _
  | succ d ih => rw [← Nat.add_assoc]; simp only [escUp, List.length_append]; omega
theorem textUp_mono (l : List S25) (k d : Nat) : (textUp l k).length ≤ (textUp l (k + d)).length := by
  induction d with
  | zero => exact Nat.le_refl _
  | succ d ih => rw [← Nat.add_assoc]; simp only [textUp, List.length_append]; omega
theorem textUp_le (l : List S25) {k n : Nat} (h : k ≤ n) : (textUp l k).length ≤ (textUp l n).length := by
  obtain ⟨d, rfl⟩ := Nat.le.dest h
  exact textUp_mono l k d
theorem escUp_le (v : List UInt8) {k n : Nat} (h : k ≤ n) : (escUp v k).length ≤ (escUp v n).length := by
  obtain ⟨d, rfl⟩ := Nat.le.dest h
  exact escUp_mono v k d
theorem textUp_succ {l : List S25} {k : Nat} {r : S25} (h : l[k]? = some r) : textUp l (k + 1) = textUp l k ++ ((if 0 < k then [44] else []) ++ r.f0.data.toList ++ [61] ++ escUp r.f1.data.toList r.f1.data.toList.length) := by
  simp only [textUp, h]
theorem escUp_succ {v : List UInt8} {k : Nat} {c : UInt8} (h : v[k]? = some c) : escUp v (k + 1) = escUp v k ++ escC v.length k c := by
  simp only [escUp, h]
theorem escC_pos (n k : Nat) (c : UInt8) : 1 ≤ (escC n k c).length := by
  unfold escC; split
  · simp
  · split <;> simp
theorem escUp_ge (v : List UInt8) (k : Nat) (h : k ≤ v.length) : k ≤ (escUp v k).length := by
  induction k with
  | zero => exact Nat.zero_le _
  | succ k ih =>
    rw [escUp_succ (List.getElem?_eq_getElem (show k < v.length by omega)), List.length_append]
    have := ih (by omega)
    have := escC_pos v.length k v[k]
    omega
theorem textUp_ge (l : List S25) (k : Nat) (h : k ≤ l.length) : k ≤ (textUp l k).length := by
  induction k with
  | zero => exact Nat.zero_le _
  | succ k ih =>
    rw [textUp_succ (List.getElem?_eq_getElem (show k < l.length by omega))]
    simp only [List.length_append, List.length_singleton]
    have := ih (by omega)
    omega
def dn_Text.f (l0 : List S25) : Option ByteArray := if (textUp l0 l0.length).length ≤ 140737488355328 then some ⟨(textUp l0 l0.length).toArray⟩ else none

theorem special_any (c : UInt8) (w : World) : Calls Tryd.prog 52 #[.int .u8 (c.toNat : Int)] w fun e w' => e = .returned (.bool (specialB c)) ∧ w' = w := by
  unfold specialB
  go_enter Tryd.func52, Tryd.ntmps52
  go_wp2_with (go_at_call 72; refine (Tryd.strings_IndexByte _ _ _).mono ?_; rintro e w' ⟨rfl, rfl⟩)
  go_ret
  exact ⟨by simp, rfl⟩
theorem wbyteI (B b : Nat) (l : List UInt8) (n : Int) (c : UInt8) (hn : n = (c.toNat : Int)) (w : World) (h : Lib.IsBuilderF 74 5 B b (Lib.byteCells l) w) (hlen : l.length + 1 ≤ 140737488355328) (hBw : B ≤ w.heap.size) :
    Calls Tryd.prog 49 #[.pointer (some ⟨b, 0, none⟩), .int .u8 n] w fun e w' => e = .returned .nilIface ∧ Bld B b (l ++ [c]) w' ∧ Below B w w' ∧ Lib.OthersKept 5 (some b) w w' := by
  subst hn
  exact wbyte B b l c w h hlen hBw
/-- A part's own variable. -/
def Part (w : World) (p : Nat) (r : S25) : Prop := w.heap[p]? = some (.cells #[.string r.f0, .string r.f1] 25 (0, 0))
theorem Part.cells {w : World} {p : Nat} {r : S25} (h : Part w p r) : w.cell? ⟨p, 0, none⟩ = some (.string r.f0) ∧ w.cell? ⟨p, 1, none⟩ = some (.string r.f1) := by
  unfold Part at h
  exact ⟨by rw [Lib.cell_of_heap h]; rfl, by rw [Lib.cell_of_heap h]; rfl⟩
theorem Part.kept {w w' : World} {p b : Nat} {r : S25} (h : Part w p r) (hb : p ≠ b) (hk : Lib.OthersKept 5 (some b) w w') : Part w' p r :=
  hk p _ h (fun e => hb (Option.some.inj e)) (fun c fz e => by injection e with _ e2; cases e2)
theorem Part.new (w : World) (r : S25) : Part (w.alloc (.cells #[.string r.f0, .string r.f1] 25)) w.heap.size r := heap_alloc_new w _
theorem isB_lt {B b : Nat} {bs : List Value} {w : World} (h : Lib.IsBuilderF 74 5 B b bs w) : b < w.heap.size := by
  rcases h with h | h
  · exact h.lt
  · exact h.lt
theorem isB_alloc {B b : Nat} {bs : List Value} {w : World} (h : Lib.IsBuilderF 74 5 B b bs w) (o : Obj) : Lib.IsBuilderF 74 5 B b bs (w.alloc o) := h.imp (fun h => h.alloc o) (fun h => h.alloc o)
theorem u8_of (c d : UInt8) (h : (c.toNat : Int) = (d.toNat : Int)) : c = d := by rw [← UInt8.toNat_inj]; omega
theorem builder_new (w : World) : Lib.IsBuilderF 74 5 w.heap.size w.heap.size (Lib.byteCells []) (w.alloc (.cells #[.pointer none, .slice none 0 0] 74)) := by
  refine .inl ⟨Nat.le_refl _, .slice none 0 0, heap_alloc_new w _, ⟨by simp [Lib.byteCells], .inl ⟨rfl, rfl⟩⟩, by simp [Value.ownBlock]⟩
theorem and15 (c : UInt8) : Go.bits .and .u8 (c.toNat : Int) 15 = (c.toNat : Int) % 16 := u8_and15 (x := (c.toNat : Int)) (by omega) (by have := UInt8.toNat_lt c; omega)
theorem hexD_get : ∀ n : Fin 16, (⟨#[48, 49, 50, 51, 52, 53, 54, 55, 56, 57, 97, 98, 99, 100, 101, 102]⟩ : ByteArray)[n.val]'n.isLt = hexD n.val := by decide
theorem hexD_at (i : Int) (n : Nat) (hn : n < 16) (e : i = (n : Int)) (h : i.toNat < (⟨#[48, 49, 50, 51, 52, 53, 54, 55, 56, 57, 97, 98, 99, 100, 101, 102]⟩ : ByteArray).size) : (⟨#[48, 49, 50, 51, 52, 53, 54, 55, 56, 57, 97, 98, 99, 100, 101, 102]⟩ : ByteArray)[i.toNat]'h = hexD n := by
  subst e
  exact hexD_get ⟨n, hn⟩
theorem wrow3 (B b : Nat) (l : List UInt8) (n0 : Int) (x0 x1 x2 : UInt8) (hn0 : n0 = (x0.toNat : Int)) (w : World) (h : Bld B b l w) (hlen : l.length + 3 ≤ 140737488355328) (hBw : B ≤ w.heap.size) :
    Calls Tryd.prog 51 #[.pointer (some ⟨b, 0, none⟩), .slice (some ⟨w.heap.size, 0, none⟩) 3 3] ((w.alloc (.cells #[.int .u8 n0, .int .u8 (x1.toNat : Int), .int .u8 (x2.toNat : Int)] 5)).drew)
      fun e w' => e = .returned (.tuple #[.int .i64 3, .nilIface]) ∧ Bld B b (l ++ [x0, x1, x2]) w' ∧ Below B w w' ∧ (∀ (p : Nat) (r : S25), p ≠ b → Part w p r → Part w' p r) := by
  subst hn0
  have hb : Bld B b l (w.alloc (.cells #[.int .u8 (x0.toNat : Int), .int .u8 (x1.toNat : Int), .int .u8 (x2.toNat : Int)] 5)) := Lib.BuilderAtF.alloc h _
  refine (wrow B b w.heap.size 3 l [x0, x1, x2] ((w.alloc (.cells #[.int .u8 (x0.toNat : Int), .int .u8 (x1.toNat : Int), .int .u8 (x2.toNat : Int)] 5)).drew) hb (by simp) ?_ hlen (by simp; omega)).mono ?_
  · intro j c hj
    have hnew := heap_alloc_new w (.cells #[.int .u8 (x0.toNat : Int), .int .u8 (x1.toNat : Int), .int .u8 (x2.toNat : Int)] 5)
    have hc : ∀ j, ((w.alloc (.cells #[.int .u8 (x0.toNat : Int), .int .u8 (x1.toNat : Int), .int .u8 (x2.toNat : Int)] 5)).drew).cell? ⟨w.heap.size, j, none⟩ = #[Value.int .u8 (x0.toNat : Int), .int .u8 (x1.toNat : Int), .int .u8 (x2.toNat : Int)][j]? := fun j => Lib.cell_of_heap (w := w.alloc _) hnew j
    rw [hc]
    match j, hj with
    | 0, hj => simp at hj; subst hj; rfl
    | 1, hj => simp at hj; subst hj; rfl
    | 2, hj => simp at hj; subst hj; rfl
    | n + 3, hj => simp at hj
  · rintro e w' ⟨he, h1, h2, h3⟩
    refine ⟨he, h1, ((Below.refl B w).alloc hBw _).drew.trans h2, fun p r hp hP => ?_⟩
    have hP2 : Part ((w.alloc (.cells #[.int .u8 (x0.toNat : Int), .int .u8 (x1.toNat : Int), .int .u8 (x2.toNat : Int)] 5)).drew) p r := by
      have hlt : p < w.heap.size := by
        unfold Part at hP
        exact (Array.getElem?_eq_some_iff.1 hP).1
      have := Lib.alloc_old w (.cells #[.int .u8 (x0.toNat : Int), .int .u8 (x1.toNat : Int), .int .u8 (x2.toNat : Int)] 5) p hlt
      exact this.trans hP
    exact hP2.kept hp h3
set_option maxHeartbeats 4000000 in
set_option maxRecDepth 100000 in
theorem dn_Text.calls (A0 : Option Addr) (c0 : Nat) (l0 : List S25) (r : ByteArray) (w : World) (hr0 : Kd.C k25 w A0 l0.length l0) (hc0 : l0.length ≤ c0) (h : dn_Text.f l0 = some r) :
    Calls Tryd.prog 18 #[.slice A0 l0.length c0] w fun e w' => e = .returned (.string r) ∧ Below w.heap.size w w' := by
  unfold dn_Text.f at h
  split at h
  case isFalse => cases h
  case isTrue hs =>
  obtain rfl := Option.some.inj h
  clear h
  have HR := Lib.hid hr0
  clear hr0
  go_enter Tryd.func18, Tryd.ntmps18
  go_wp2
  go_loopw [10] (fun i wr => ∃ k : Nat, k ≤ l0.length ∧ i = .int .i64 k ∧ Lib.IsBuilderF 74 5 w.heap.size w.heap.size (Lib.byteCells (textUp l0 k)) wr ∧ (0 < k → Bld w.heap.size w.heap.size (textUp l0 k) wr) ∧ Below w.heap.size w wr) (fun i _ => l0.length - (intOf i).toNat)
  case atStart => exact ⟨0, Nat.zero_le _, rfl, builder_new w, fun h => absurd h (by omega), (Below.refl _ _).alloc (Nat.le_refl _) _⟩
  case round =>
    obtain ⟨k, hk, rfl, hI, hBl, hW⟩ := hrel
    obtain ⟨W0, hW0⟩ : ∃ W, W = wr := ⟨_, rfl⟩
    subst hW0
    have hkb : (k : Int) ≤ 140737488355328 := by
      have h1 := textUp_ge l0 k hk
      have h2 := textUp_le l0 hk
      omega
    have hI2 := isB_lt hI
    have HI := Lib.hid hI
    have HBl := Lib.hid hBl
    clear hI hBl
    have hww : w.heap.size ≤ W0.heap.size := hW.size
    by_cases hlt : k < l0.length
    · obtain ⟨ad, rfl, hx0, hx1⟩ := at_T25 (Kd.C_below HR.out hW) (k : Int) (by omega) (by omega)
      obtain ⟨r, hr⟩ : ∃ r, l0[k]? = some r := ⟨_, List.getElem?_eq_getElem hlt⟩
      have erd : rd_T25 l0 (k : Int) = r := by unfold rd_T25; simp [List.getD_eq_getElem?_getD, hr]
      rw [erd] at hx0 hx1
      rw [Int.toNat_natCast] at hx0 hx1
      have ht := textUp_succ hr
      obtain ⟨E, hE⟩ : ∃ E, escUp r.f1.data.toList r.f1.data.toList.length = E := ⟨_, rfl⟩
      rw [hE] at ht
      have HT := Lib.hid ht
      have HE := Lib.hid hE
      clear ht hE
      have HLE := Lib.hid (textUp_le l0 (show k + 1 ≤ l0.length by omega))
      clear hr erd
      have hbig := HLE.out
      rw [HT.out] at hbig
      simp only [List.length_append, data_size, List.length_singleton] at hbig
      have hww1 : w.heap.size ≤ (W0.alloc (.cells #[.string r.f0, .string r.f1] 25)).heap.size := by simp; omega
      have hpb : W0.heap.size ≠ w.heap.size := by have := hI2; omega
      go_upto_if 16 with (fail)
      go_cut [] (fun wc => ∃ T1 : List UInt8, Lib.IsBuilderF 74 5 w.heap.size w.heap.size (Lib.byteCells T1) wc ∧ Part wc W0.heap.size r ∧ Below w.heap.size w wc ∧ Hid (textUp l0 (k + 1) = T1 ++ r.f0.data.toList ++ [61] ++ E) ∧ T1.length + r.f0.size + 1 + E.length ≤ 140737488355328)
      case first =>
        by_cases hk0 : 0 < k
        · have hk0b : decide (0 < k) = true := decide_eq_true hk0
          rw [if_pos hk0] at HT hbig
          go_wp2_with (go_at_call 49; refine (wbyteI w.heap.size w.heap.size (textUp l0 k) 44 44 rfl _ (isB_alloc HI.out _) (by simp at hbig; omega) hww1).mono ?_)
          rintro e w1 ⟨rfl, hB1, hb1, hk1⟩
          have hP1 := (Part.new W0 r).kept hpb hk1
          have hW1 := (hW.alloc hww (.cells #[.string r.f0, .string r.f1] 25)).trans hb1
          have hI1 := hB1.is
          have hsep : textUp l0 k ++ ([44] ++ r.f0.data.toList ++ [61] ++ E) = textUp l0 k ++ [44] ++ r.f0.data.toList ++ [61] ++ E := by simp
          have hbig1 : (textUp l0 k ++ [44]).length + r.f0.size + 1 + E.length ≤ 140737488355328 := by simp only [List.length_append, List.length_singleton] at hbig ⊢; omega
          rw [hsep] at HT
          clear hsep hbig
          go_wp2
          go_meet
          case rel => exact ⟨_, hI1, hP1, hW1, HT, hbig1⟩
        · have hk0b : decide (0 < k) = false := decide_eq_false hk0
          rw [if_neg hk0] at HT hbig
          have hP1 := Part.new W0 r
          have hW1 := hW.alloc hww (.cells #[.string r.f0, .string r.f1] 25)
          have hI1 := isB_alloc HI.out (.cells #[.string r.f0, .string r.f1] 25)
          have hsep : textUp l0 k ++ ([] ++ r.f0.data.toList ++ [61] ++ E) = textUp l0 k ++ r.f0.data.toList ++ [61] ++ E := by simp
          have hbig1 : (textUp l0 k).length + r.f0.size + 1 + E.length ≤ 140737488355328 := by simp only [List.length_append, List.length_nil] at hbig ⊢; omega
          rw [hsep] at HT
          clear hsep hbig
          go_wp2
          go_meet
          case rel => exact ⟨_, hI1, hP1, hW1, HT, hbig1⟩
      case rest =>
        clear HI HBl HLE hbig HT hx0 hx1
        obtain ⟨T1, hI1, hP1, hW1, HT, hbig1⟩ := hcut
        have hg1 : w.heap.size ≤ wc.heap.size := hW1.size
        obtain ⟨hq0, hq1⟩ := hP1.cells
        go_wp2_with (go_at_call 50; refine (wstr w.heap.size w.heap.size T1 r.f0 _ hI1 (by omega) hg1).mono ?_)
        rintro e w2 ⟨rfl, hB2, hb2, hk2⟩
        have hP2 := hP1.kept hpb hk2
        obtain ⟨hq0, hq1⟩ := hP2.cells
        have hW2 := hW1.trans hb2
        have hg2 : w.heap.size ≤ w2.heap.size := hW2.size
        go_wp2_with (go_at_call 49; refine (wbyteI w.heap.size w.heap.size _ 61 61 rfl _ hB2.is (by rw [List.length_append, data_size]; omega) hg2).mono ?_)
        rintro e w3 ⟨rfl, hB3, hb3, hk3⟩
        have hP3 := hP2.kept hpb hk3
        obtain ⟨hq0, hq1⟩ := hP3.cells
        have hW3 := hW2.trans hb3
        have hbig3 : (T1 ++ r.f0.data.toList ++ [61]).length + E.length ≤ 140737488355328 := by simp only [List.length_append, List.length_singleton, data_size] at hbig1 ⊢; omega
        generalize T1 ++ r.f0.data.toList ++ [61] = T3 at *
        clear hB2 hb2 hb3 hk2 hk3 hW1 hW2 hP1 hP2 hI1 hg1 hg2 hbig1
        have hszb : (r.f1.size : Int) ≤ 140737488355328 := by
          have h1 := escUp_ge r.f1.data.toList r.f1.data.toList.length (Nat.le_refl _)
          rw [HE.out, data_size] at h1
          omega
        go_wp2
        go_loopw [25] (fun i wi => ∃ j : Nat, j ≤ r.f1.size ∧ i = .int .i64 j ∧ Bld w.heap.size w.heap.size (T3 ++ escUp r.f1.data.toList j) wi ∧ Part wi W0.heap.size r ∧ Below w.heap.size w wi) (fun i _ => r.f1.size - (intOf i).toNat)
        case atStart => exact ⟨0, Nat.zero_le _, rfl, by simpa [escUp] using hB3, hP3, hW3⟩
        case round =>
          obtain ⟨j, hj, rfl, hB, hP, hWi⟩ := hrel
          by_cases hjl : j < r.f1.size
          · obtain ⟨c, hc⟩ : ∃ c, r.f1.data.toList[j]? = some c := ⟨_, List.getElem?_eq_getElem (by rw [data_size]; exact hjl)⟩
            have hgc : r.f1[j] = c := (List.getElem?_eq_some_iff.1 hc).2
            have HN := Lib.hid (escUp_succ hc)
            have HLJ := Lib.hid (escUp_le r.f1.data.toList (show j + 1 ≤ r.f1.data.toList.length by rw [data_size]; omega))
            obtain ⟨hq0, hq1⟩ := hP.cells
            have hlj := HLJ.out
            rw [HN.out, HE.out] at hlj
            rw [data_size] at HN hlj
            simp only [List.length_append] at hlj
            have hgi : w.heap.size ≤ wr.heap.size := hWi.size
            clear hc
            by_cases hv : c.toNat < 32 ∨ 126 < c.toNat
            · have hl3 : escC r.f1.size j c = [92, hexD (c.toNat / 16), hexD (c.toNat % 16)] := by unfold escC; rw [if_pos hv]
              have hlj3 := hlj
              rw [hl3] at hlj3 HN
              have v12 : decide ((c.toNat : Int) < 32) = true ∨ decide ((c.toNat : Int) < 32) = false ∧ decide ((126 : Int) < (c.toNat : Int)) = true := by
                rcases hv with h | h
                · exact .inl (decide_eq_true (by omega))
                · by_cases h' : c.toNat < 32
                  · exact .inl (decide_eq_true (by omega))
                  · exact .inr ⟨decide_eq_false (by omega), decide_eq_true (by omega)⟩
              have hi0 : (0 : Int) ≤ (c.toNat : Int) / 16 := by omega
              have hcb : c.toNat < 256 := UInt8.toNat_lt c
              have hi1 : (c.toNat : Int) / 16 < 16 := by omega
              have hj0 : (0 : Int) ≤ (c.toNat : Int) % 16 := by omega
              have hj1 : (c.toNat : Int) % 16 < 16 := by omega
              have hand : Go.bits .and .u8 (c.toNat : Int) 15 = (c.toNat : Int) % 16 := and15 c
              clear hv
              rcases v12 with v1 | ⟨v1, v2⟩
              · go_wp2
                go_region_with (refine (wrow3 w.heap.size w.heap.size (T3 ++ escUp r.f1.data.toList j) 92 92 _ _ rfl _ hB (by rw [List.length_append]; simp at hlj3; omega) hgi).mono ?_; rintro e w4 ⟨rfl, hB4, hb4, hp4⟩)
                all_goals
                  have hP4 := hp4 _ _ hpb hP
                  have hW4 := hWi.trans hb4
                  go_wp2
                  refine ⟨⟨j + 1, by omega, by simp, ?_, hP4, hW4⟩, by simp [intOf]; omega⟩
                  rw [HN.out]
                  rw [hexD_at ((c.toNat : Int) / 16) (c.toNat / 16) (by omega) (by omega), hexD_at ((c.toNat : Int) % 16) (c.toNat % 16) (by omega) (by omega)] at hB4
                  rw [← List.append_assoc]
                  exact hB4
              · go_wp2
                go_region_with (refine (wrow3 w.heap.size w.heap.size (T3 ++ escUp r.f1.data.toList j) 92 92 _ _ rfl _ hB (by rw [List.length_append]; simp at hlj3; omega) hgi).mono ?_; rintro e w4 ⟨rfl, hB4, hb4, hp4⟩)
                all_goals
                  have hP4 := hp4 _ _ hpb hP
                  have hW4 := hWi.trans hb4
                  go_wp2
                  refine ⟨⟨j + 1, by omega, by simp, ?_, hP4, hW4⟩, by simp [intOf]; omega⟩
                  rw [HN.out]
                  rw [hexD_at ((c.toNat : Int) / 16) (c.toNat / 16) (by omega) (by omega), hexD_at ((c.toNat : Int) % 16) (c.toNat % 16) (by omega) (by omega)] at hB4
                  rw [← List.append_assoc]
                  exact hB4
            · have v1 : decide ((c.toNat : Int) < 32) = false := decide_eq_false (by omega)
              have v2 : decide ((126 : Int) < (c.toNat : Int)) = false := decide_eq_false (by omega)
              have hspl : ∀ bb : Bool, (bb = true ↔ (specialB c = true ∨ (j = 0 ∧ (c = 35 ∨ c = 32)) ∨ (j + 1 = r.f1.size ∧ c = 32))) → escC r.f1.size j c = if bb = true then [92, c] else [c] := by
                intro bb hbb
                unfold escC
                rw [if_neg hv]
                by_cases hx : bb = true
                · rw [if_pos hx, if_pos (hbb.1 hx)]
                · rw [if_neg hx, if_neg (fun h => hx (hbb.2 h))]
              have HSP := Lib.hid hspl
              have HHV := Lib.hid hv
              clear hspl hv
              go_upto_if 47 with (go_at_call 52; refine (special_any _ _).mono ?_; rintro e wx ⟨rfl, rfl⟩)
              go_cut [47] (fun v wc => ∃ bb : Bool, v = .bool bb ∧ Hid (escC r.f1.size j c = if bb = true then [92, c] else [c]) ∧ Bld w.heap.size w.heap.size (T3 ++ escUp r.f1.data.toList j) wc ∧ Part wc W0.heap.size r ∧ Below w.heap.size w wc)
              case first =>
                cases hsp : specialB c with
                | true =>
                  go_wp2
                  go_meet
                  case rel => exact ⟨true, rfl, Lib.hid (HSP.out true (by rw [hsp]; simp)), hB, hP, hWi⟩
                | false =>
                  by_cases j0 : j = 0
                  · have j0b : ((j : Int) == 0) = true := beq_iff_eq.2 (by omega)
                    by_cases c35 : (c.toNat : Int) = 35
                    · have c35b : ((c.toNat : Int) == 35) = true := beq_iff_eq.2 c35
                      have hc35 : c = 35 := u8_of c 35 c35
                      have HB := Lib.hid (HSP.out true (by rw [hsp, hc35, j0]; simp))
                      clear j0 c35 hc35
                      go_wp2
                      go_meet
                      case rel => exact ⟨true, rfl, HB, hB, hP, hWi⟩
                    · have c35b : ((c.toNat : Int) == 35) = false := beq_eq_false_iff_ne.2 c35
                      have hn35 : c ≠ 35 := fun e => c35 (by rw [e]; rfl)
                      by_cases c32 : (c.toNat : Int) = 32
                      · have c32b : ((c.toNat : Int) == 32) = true := beq_iff_eq.2 c32
                        have hc32 : c = 32 := u8_of c 32 c32
                        have HB := Lib.hid (HSP.out true (by rw [hsp, hc32, j0]; simp))
                        clear j0 c35 c32 hc32 hn35
                        go_wp2
                        go_meet
                        case rel => exact ⟨true, rfl, HB, hB, hP, hWi⟩
                      · have c32b : ((c.toNat : Int) == 32) = false := beq_eq_false_iff_ne.2 c32
                        have hn32 : c ≠ 32 := fun e => c32 (by rw [e]; rfl)
                        have HB := Lib.hid (HSP.out false (by rw [hsp]; simp [hn32, hn35]))
                        clear c35 c32 hn35 hn32
                        by_cases jl : (j : Int) = (r.f1.size : Int) - 1
                        · have jlb : ((j : Int) == (r.f1.size : Int) - 1) = true := beq_iff_eq.2 jl
                          clear j0 jl
                          go_wp2
                          go_meet
                          case rel => exact ⟨false, rfl, HB, hB, hP, hWi⟩
                        · have jlb : ((j : Int) == (r.f1.size : Int) - 1) = false := beq_eq_false_iff_ne.2 jl
                          clear j0 jl
                          go_wp2
                          go_meet
                          case rel => exact ⟨false, rfl, HB, hB, hP, hWi⟩
                  · have j0b : ((j : Int) == 0) = false := beq_eq_false_iff_ne.2 (by omega)
                    by_cases jl : (j : Int) = (r.f1.size : Int) - 1
                    · have jlb : ((j : Int) == (r.f1.size : Int) - 1) = true := beq_iff_eq.2 jl
                      by_cases c32 : (c.toNat : Int) = 32
                      · have c32b : ((c.toNat : Int) == 32) = true := beq_iff_eq.2 c32
                        have hc32 : c = 32 := u8_of c 32 c32
                        have HB := Lib.hid (HSP.out true (by rw [hsp, hc32]; simp; right; omega))
                        clear j0 jl c32 hc32
                        go_wp2
                        go_meet
                        case rel => exact ⟨true, rfl, HB, hB, hP, hWi⟩
                      · have c32b : ((c.toNat : Int) == 32) = false := beq_eq_false_iff_ne.2 c32
                        have hn32 : c ≠ 32 := fun e => c32 (by rw [e]; rfl)
                        have HB := Lib.hid (HSP.out false (by rw [hsp]; simp [hn32, j0]))
                        clear j0 jl c32 hn32
                        go_wp2
                        go_meet
                        case rel => exact ⟨false, rfl, HB, hB, hP, hWi⟩
                    · have jlb : ((j : Int) == (r.f1.size : Int) - 1) = false := beq_eq_false_iff_ne.2 jl
                      have HB := Lib.hid (HSP.out false (by rw [hsp]; simp [j0]; omega))
                      clear j0 jl
                      go_wp2
                      go_meet
                      case rel => exact ⟨false, rfl, HB, hB, hP, hWi⟩
              case rest =>
                clear HSP hB hP hWi hq0 hq1 hgi
                obtain ⟨bb, rfl, HB, hB, hP, hWi⟩ := hcut
                have hgi : w.heap.size ≤ wc.heap.size := hWi.size
                have hn := HN.out
                rw [HB.out] at hn hlj
                clear HN HB
                cases bb with
                | true =>
                  simp only [if_true, List.length_cons, List.length_nil] at hlj hn
                  have hn2 : T3 ++ escUp r.f1.data.toList (j + 1) = T3 ++ escUp r.f1.data.toList j ++ [92] ++ [c] := by rw [hn]; simp
                  have hl4 : (T3 ++ escUp r.f1.data.toList j).length + 2 ≤ 140737488355328 := by rw [List.length_append]; omega
                  have HN2 := Lib.hid hn2
                  clear hn hn2 hlj
                  generalize T3 ++ escUp r.f1.data.toList j = T4 at *
                  go_wp2_with (go_at_call 49; refine (wbyteI w.heap.size w.heap.size T4 92 92 rfl _ hB.is (by omega) hgi).mono ?_)
                  rintro e w4 ⟨rfl, hB4, hb4, hk4⟩
                  have hP4 := hP.kept hpb hk4
                  have hW4 := hWi.trans hb4
                  have hg4 : w.heap.size ≤ w4.heap.size := hW4.size
                  have hl5 : (T4 ++ [92]).length + 1 ≤ 140737488355328 := by rw [List.length_append]; simp only [List.length_singleton]; omega
                  generalize T4 ++ [92] = T5 at *
                  go_wp2_with (go_at_call 49; refine (wbyteI w.heap.size w.heap.size T5 (c.toNat : Int) c rfl _ hB4.is hl5 hg4).mono ?_)
                  rintro e w5 ⟨rfl, hB5, hb5, hk5⟩
                  have hP5 := hP4.kept hpb hk5
                  have hW5 := hW4.trans hb5
                  go_wp2
                  exact ⟨⟨j + 1, by omega, by simp, by rw [HN2.out]; exact hB5, hP5, hW5⟩, by simp [intOf]; omega⟩
                | false =>
                  simp only [Bool.false_eq_true, if_false, List.length_cons, List.length_nil] at hlj hn
                  have hn2 : T3 ++ escUp r.f1.data.toList (j + 1) = T3 ++ escUp r.f1.data.toList j ++ [c] := by rw [hn]; simp
                  have hl4 : (T3 ++ escUp r.f1.data.toList j).length + 1 ≤ 140737488355328 := by rw [List.length_append]; omega
                  have HN2 := Lib.hid hn2
                  clear hn hn2 hlj
                  generalize T3 ++ escUp r.f1.data.toList j = T4 at *
                  go_wp2_with (go_at_call 49; refine (wbyteI w.heap.size w.heap.size T4 (c.toNat : Int) c rfl _ hB.is hl4 hgi).mono ?_)
                  rintro e w5 ⟨rfl, hB5, hb5, hk5⟩
                  have hP5 := hP.kept hpb hk5
                  have hW5 := hWi.trans hb5
                  go_wp2
                  exact ⟨⟨j + 1, by omega, by simp, by rw [HN2.out]; exact hB5, hP5, hW5⟩, by simp [intOf]; omega⟩
          · obtain rfl : j = r.f1.size := by omega
            have he := HE.out
            rw [data_size] at he
            rw [he] at hB
            rw [← HT.out] at hB
            clear HE HT he
            go_wp2
            exact ⟨⟨k + 1, by omega, by simp, hB.is, fun _ => hB, hWi⟩, by simp [intOf]; omega⟩
    · obtain rfl : k = l0.length := by omega
      have hB := HI.out
      go_wp2_with (go_at_call 53; refine (Tryd.Builder_String_any_k w.heap.size w.heap.size _ _ hB hww).mono ?_; rintro e w' ⟨rfl, h1, h2⟩)
      go_ret
      exact ⟨rfl, hW.trans h2.1⟩
end Go.Proofs.YtflkghdndffacaaDoor.H
