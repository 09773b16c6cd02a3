/- The statement DnFold as the printed functions reckon it: with enough rounds the answer is true at every text and number. -/
import Derived.Test.YtflkghdndffacaaDoorPDx19
import Derived.Test.YtflkghdndffacaaDoorPureB
namespace Go.Proofs.YtflkghdndffacaaDoor.Pure
open Go.RowKit Go.Proofs.YtflkghdndffacaaDoor.PD Go.Proofs.YtflkghdndffacaaDoor.H Go.Proofs.YtflkghdndffacaaDoorW.PrintWords Go.Proofs.YtflkghdndffacaaDoorW.PrintLast
theorem awake_60 : brooklaw2_awake.f 60 = some true := by decide +kernel
theorem awake_ev : Ev (fun k => brooklaw2_awake.f k) true := Ev.of (fun k => brooklaw2_awake.mono k) awake_60
theorem fold_l0 (a0 x5 : ByteArray) (a1 : Int) (m : Nat) (hm : Int.tmod (wrap64 a1) 4 = (m : Int)) (hm4 : m ≤ 3) (r : Bool)
    (h : Ev (fun k => brooklaw2_DnFold.l1 k a0 x5 (B (List.replicate m 32)) (B []) (B []) 0) r) :
    ∀ d i : Nat, i + d = m → Ev (fun k => brooklaw2_DnFold.l0 k a0 a1 x5 (B (List.replicate i 32)) (i : Int)) r := by
  intro d
  induction d with
  | zero =>
    intro i hi
    obtain rfl : i = m := by omega
    refine Ev.step (fun k => by rw [brooklaw2_DnFold.l0]) ?_
    refine Ev.neg (by rw [hm]; omega) ?_
    exact h
  | succ d ih =>
    intro i hi
    refine Ev.step (fun k => by rw [brooklaw2_DnFold.l0]) ?_
    refine Ev.pos (by rw [hm]; omega) ?_
    refine Ev.pos (by rw [B_size]; simp; omega) ?_
    have e1 : wrap64 ((i : Int) + 1) = ((i + 1 : Nat) : Int) := by rw [wrap64_small (by omega)]; omega
    have e2 : B (List.replicate i 32) ++ (⟨#[32]⟩ : ByteArray) = B (List.replicate (i + 1) 32) := by
      rw [show (⟨#[32]⟩ : ByteArray) = B [32] from rfl, B_append, List.replicate_succ']
    rw [e1, e2]
    exact ih (i + 1) (by omega)
theorem fold_l1 (x5 x6 x9 : ByteArray) (l : List UInt8) (hl : l.length ≤ 200) (r : Bool)
    (h : Ev (fun k => brooklaw2_DnFold.l2 k (B l) x5 x6 (B ((lowL l).filter nb)) x9 0) r) :
    ∀ q p : List UInt8, l = p ++ q → Ev (fun k => brooklaw2_DnFold.l1 k (B l) x5 x6 (B ((lowL p).filter nb)) x9 (p.length : Int)) r := by
  intro q
  induction q with
  | nil =>
    intro p hp
    obtain rfl : l = p := by simpa using hp
    refine Ev.step (fun k => by rw [brooklaw2_DnFold.l1]) ?_
    exact Ev.neg (by rw [B_size]; omega) h
  | cons c q ih =>
    intro p hp
    have hlen : p.length + 1 + q.length = l.length := by rw [hp]; simp; omega
    refine Ev.step (fun k => by rw [brooklaw2_DnFold.l1]) ?_
    refine Ev.pos (by rw [B_size]; omega) ?_
    refine Ev.pos (by omega) ?_
    have e1 : wrap64 ((p.length : Int) + 1) = ((p ++ [c]).length : Int) := by rw [wrap64_small (by omega)]; simp
    have hb : bt (B l) (p.length : Int) = (c.toNat : Int) := by rw [hp]; exact bt_pre p c q
    have hi := ih (p ++ [c]) (by rw [hp]; simp)
    rw [hb, e1]
    by_cases hc : c = 32
    · subst hc
      refine Ev.pos (by rfl) ?_
      have : (lowL (p ++ [32])).filter nb = (lowL p).filter nb := by rw [lowL_append, List.filter_append]; simp [lowL, lowC, nb]
      rw [this] at hi
      exact hi
    · refine Ev.neg (fun e => hc (u8_eq.1 (e : (c.toNat : Int) = ((32 : UInt8).toNat : Int)))) ?_
      refine Ev.pos (by simp; omega) ?_
      refine Ev.pos (by rw [B_size]; simp; omega) ?_
      have hx : (B l).extract (p.length : Int).toNat (((p ++ [c]).length : Int)).toNat = B [c] := by
        rw [hp]; have := cut_pre p c q; simpa using this
      have hf : (lowL (p ++ [c])).filter nb = (lowL p).filter nb ++ lowL [c] := by
        rw [lowL_append, List.filter_append]; congr 1
        have : lowC c ≠ 32 := fun e => hc ((lowC_32 c).1 e)
        simp [lowL, nb, this]
      rw [hx]
      refine Ev.fix (lower_B (by simp)) ?_
      have hfl : ((lowL p).filter nb).length ≤ p.length := Nat.le_trans (List.length_filter_le _ _) (by rw [lowL_length]; omega)
      refine Ev.pos (by rw [B_size, B_size, lowL_length]; simp; omega) ?_
      rw [B_append, ← hf]
      exact hi
theorem fold_l2 (x0 x6 x8 : ByteArray) (f : List UInt8) (hl : f.length ≤ 200) (hh : f.head? ≠ some 32) (hla : f.getLast? ≠ some 32) (hs : Sq f) (r : Bool)
    (h : ∀ n : Int, n = f.length → Ev (fun k => brooklaw2_DnFold.l2 k x0 (B f) x6 x8 (B (f.filter nb)) n) r) :
    ∀ q p : List UInt8, f = p ++ q → Ev (fun k => brooklaw2_DnFold.l2 k x0 (B f) x6 x8 (B (p.filter nb)) (p.length : Int)) r := by
  intro q
  induction q with
  | nil =>
    intro p hp
    obtain rfl : f = p := by simpa using hp
    exact h _ rfl
  | cons c q ih =>
    intro p hp
    have hlen : p.length + 1 + q.length = f.length := by rw [hp]; simp; omega
    refine Ev.step (fun k => by rw [brooklaw2_DnFold.l2]) ?_
    refine Ev.pos (by rw [B_size]; omega) ?_
    refine Ev.pos (by omega) ?_
    have e1 : wrap64 ((p.length : Int) + 1) = ((p ++ [c]).length : Int) := by rw [wrap64_small (by omega)]; simp
    have hb : bt (B f) (p.length : Int) = (c.toNat : Int) := by rw [hp]; exact bt_pre p c q
    have hi := ih (p ++ [c]) (by rw [hp]; simp)
    rw [hb, e1]
    by_cases hc : c = 32
    · subst hc
      have hp0 : p ≠ [] := by rintro rfl; rw [hp] at hh; simp at hh
      have hq0 : q ≠ [] := by rintro rfl; rw [hp] at hla; simp at hla
      have hpl : 0 < p.length := List.length_pos_iff.2 hp0
      have hql : 0 < q.length := List.length_pos_iff.2 hq0
      have e2 : wrap64 ((p.length : Int) - 1) = ((p.length - 1 : Nat) : Int) := by rw [wrap64_small (by omega)]; omega
      have e3 : wrap64 (((B f).size : Int) - 1) = ((f.length - 1 : Nat) : Int) := by rw [B_size, wrap64_small (by omega)]; omega
      refine Ev.pos (by rfl) ?_
      refine Ev.neg (by omega) ?_
      refine Ev.neg (by rw [e3]; omega) ?_
      rw [e2]
      refine Ev.pos (by omega) ?_
      refine Ev.pos (by rw [B_size]; omega) ?_
      obtain ⟨d, hd⟩ : ∃ d, f[p.length - 1]? = some d := ⟨f[p.length - 1]'(by omega), List.getElem?_eq_getElem _⟩
      rw [bt_at' hd]
      refine Ev.neg (fun e => ?_) ?_
      · have hd32 : d = 32 := u8_eq.1 (e : (d.toNat : Int) = ((32 : UInt8).toNat : Int))
        subst hd32
        refine hs (p.length - 1) ⟨hd, ?_⟩
        rw [show p.length - 1 + 1 = p.length by omega, hp]
        simp
      · have : (p ++ [32]).filter nb = p.filter nb := by rw [List.filter_append]; simp [nb]
        rw [this] at hi
        exact hi
    · refine Ev.neg (fun e => hc (u8_eq.1 (e : (c.toNat : Int) = ((32 : UInt8).toNat : Int)))) ?_
      refine Ev.pos (by simp; omega) ?_
      refine Ev.pos (by rw [B_size]; simp; omega) ?_
      have hx : (B f).extract (p.length : Int).toNat (((p ++ [c]).length : Int)).toNat = B [c] := by
        rw [hp]; have := cut_pre p c q; simpa using this
      have hf : (p ++ [c]).filter nb = p.filter nb ++ [c] := by
        rw [List.filter_append]; congr 1
        simp [nb, hc]
      rw [hx]
      have hfl : (p.filter nb).length ≤ p.length := List.length_filter_le _ _
      refine Ev.pos (by rw [B_size, B_size]; simp; omega) ?_
      rw [B_append, ← hf]
      exact hi
theorem DnFold (a0 : ByteArray) (a1 : Int) (w0 : a0.size ≤ 140737488351232) (w1 : (Lit.int .u8 a1).wf = true) : ∃ k, brooklaw2_DnFold.f k a0 a1 = some true := by
  have hb1 : 0 ≤ a1 ∧ a1 < 256 := by have := w1; simp [Lit.wf, IntKind.min, IntKind.max, IntKind.bits, IntKind.signed] at this; omega
  refine Ev.rounds (g := fun k => brooklaw2_DnFold.f k a0 a1) ?_
  rw [← B_of a0] at w0 ⊢
  generalize a0.data.toList = l at *
  rw [B_size] at w0
  show Ev (fun k => brooklaw2_DnFold.f k (B l) a1) true
  unfold brooklaw2_DnFold.f
  by_cases h200 : l.length ≤ 200
  · refine Ev.neg (by rw [B_size]; omega) ?_
    refine Ev.fix (fold_B (by omega)) ?_
    have hm : Int.tmod (wrap64 a1) 4 = ((a1 % 4).toNat : Int) := by rw [wrap64_small (by omega), Int.tmod_eq_emod_of_nonneg (by omega)]; omega
    refine fold_l0 (B l) (B (foldL l)) a1 (a1 % 4).toNat hm (by omega) true ?_ (a1 % 4).toNat 0 (by omega)
    generalize hM : (a1 % 4).toNat = m
    have hm3 : m ≤ 3 := by omega
    have hfl := foldL_le l
    refine fold_l1 (B (foldL l)) (B (List.replicate m 32)) (B []) l h200 true ?_ l [] rfl
    refine fold_l2 (B l) (B (List.replicate m 32)) (B ((lowL l).filter nb)) (foldL l) (by omega) (foldL_head l) (foldL_last l) (sq_chain _) true ?_ (foldL l) [] rfl
    intro n hn
    refine Ev.step (fun k => by rw [brooklaw2_DnFold.l2]) ?_
    refine Ev.neg (by rw [B_size, hn]; omega) ?_
    refine Ev.fix (fold_B (by omega)) ?_
    refine Ev.pos (by rw [foldL_foldL]) ?_
    refine Ev.fix (lower_B (by omega)) ?_
    refine Ev.pos (by rw [B_size, B_size, lowL_length]; simp; omega) ?_
    refine Ev.pos (by rw [B_append, B_size, B_size]; simp [lowL_length]; omega) ?_
    rw [B_append, B_append]
    refine Ev.fix (fold_B (by simp [lowL_length]; omega)) ?_
    refine Ev.pos (by rw [foldL_rep, foldL_low']) ?_
    refine Ev.pos (by rw [foldL_filter]) ?_
    exact Ev.bind awake_ev (Ev.now true)
  · refine Ev.pos (by rw [B_size]; omega) ?_
    exact Ev.bind awake_ev (Ev.now true)
end Go.Proofs.YtflkghdndffacaaDoor.Pure
