/- Words, functions' contracts and plain laws for the row of AclWho, part 6: cut out of this session's texts by a program of its own. No condition. -/
import Derived.WalkLawsBesides
import Derived.SizedLaws
import Derived.Test.YtflkghdndffacaaDoorGWho5
namespace Go.Proofs.YtflkghdndffacaaDoor.C
open Go.RowKit Go.Proofs.YtflkghdndffacaaDoor.Sq Go.Proofs.YtflkghdndffacaaDoor.H Go.Proofs.YtflkghdndffacaaDoor.PA Go.Proofs.YtflkghdndffacaaDoor.Pure Go.Proofs.YtflkghdndffacaaDoorW.PrintWords Go.Proofs.YtflkghdndffacaaDoorW.PrintLast Go.Proofs.YtflkghdndffacaaDoorW.PrintMore
set_option linter.unusedVariables false
def normDn (dn : ByteArray) : ByteArray := if (parseL (bl dn)).2 = true then B (text (parseL (bl dn)).1) else dn
def NormOut (w : World) (dn : ByteArray) (n : Nat) (e : Ending) (w' : World) : Prop := ∃ l : List S69, l.length = n ∧ AttrsOk l ∧ ∃ v, e = .returned (.agg #[.string dn, v]) ∧ Kd.R k69 69 w' w.heap.size (fun _ => True) v l ∧ Below w.heap.size w w'
def Nw (w : World) (dn dn' : ByteArray) (a1 v : Value) (W : World) : Prop := W.heap[w.heap.size]? = some (.cells #[.string dn, a1] 51 (0, 0)) ∧ W.heap[w.heap.size + 1]? = some (.cells #[.string ⟨#[]⟩, .slice none 0 0] 51 (0, 0)) ∧ W.heap[w.heap.size + 1 + 1]? = some (.cells #[.string dn', v] 51 (0, 0)) ∧ Below w.heap.size w W
theorem Nw.step {w W W1 : World} {dn dn' : ByteArray} {a1 v : Value} (h : Nw w dn dn' a1 v W) (hb : Below W.heap.size W W1) : Nw w dn dn' a1 v W1 := ⟨blk_below h.1 hb, blk_below h.2.1 hb, blk_below h.2.2.1 hb, below_step h.2.2.2 hb⟩
theorem Nw.put {w W : World} {dn dn' : ByteArray} {a1 v : Value} (h : Nw w dn dn' a1 v W) (u : Value) : Nw w dn dn' a1 u (W.setCell ⟨w.heap.size + 1 + 1, 1, none⟩ u) := ⟨blk_far h.1 (Nat.ne_of_lt (Nat.lt_add_of_pos_right (by decide : 0 < 2))) u, blk_far h.2.1 (Nat.ne_of_lt (Nat.lt_succ_self _)) u, blk_set h.2.2.1 1 u, below_set h.2.2.2 (Nat.le_add_right _ 2)⟩
theorem Nw.name {w W : World} {dn dn' : ByteArray} {a1 v : Value} (h : Nw w dn dn' a1 v W) (s : ByteArray) : Nw w dn s a1 v (W.setCell ⟨w.heap.size + 1 + 1, 0, none⟩ (.string s)) := ⟨blk_far h.1 (Nat.ne_of_lt (Nat.lt_add_of_pos_right (by decide : 0 < 2))) _, blk_far h.2.1 (Nat.ne_of_lt (Nat.lt_succ_self _)) _, blk_set h.2.2.1 0 _, below_set h.2.2.2 (Nat.le_add_right _ 2)⟩
def FitL (l : List S69) : Prop := ∀ a ∈ l, a.f0.size ≤ 1000000000 ∧ a.f1.length ≤ 1000000
def R8 (w wr : World) (dn : ByteArray) (a1 v : Value) (xs : List S69) (W : World) : Prop := Nw w dn (normDn dn) a1 v W ∧ Kd.R k69 69 W w.heap.size (fun k => k < wr.heap.size) v xs ∧ w.heap.size + 1 + 1 < wr.heap.size ∧ wr.heap.size ≤ W.heap.size
theorem R8.far {w wr W W1 : World} {dn : ByteArray} {a1 v : Value} {xs : List S69} (h : R8 w wr dn a1 v xs W) (hb : Below wr.heap.size W W1) : R8 w wr dn a1 v xs W1 := by
 obtain ⟨⟨h1, h2, h3, h4⟩, h5, h6, h7⟩ := h
 exact ⟨⟨(hb.block _ (by omega)).trans h1, (hb.block _ (by omega)).trans h2, (hb.block _ (by omega)).trans h3, h4.trans (hb.mono (by omega))⟩, Kd.R_step h5 (fun k hk _ => hb.block k hk), h6, Nat.le_trans h7 hb.size⟩
theorem R8.step {w wr W W1 : World} {dn : ByteArray} {a1 v : Value} {xs : List S69} (h : R8 w wr dn a1 v xs W) (hb : Below W.heap.size W W1) : R8 w wr dn a1 v xs W1 := h.far (hb.mono h.2.2.2)
def T8 : Bool × List (List Nat × List Nat) := (true, [([], []), ([0], [0]), ([], []), ([1, 2], [1, 2]), ([3], [3]), ([4], [4]), ([], []), ([], []), ([7], [7]), ([], []), ([8, 9], [8, 9]), ([10], [10]), ([11], [11]), ([6, 12], [6, 12]), ([5, 13], [5, 13]), ([], []), ([15, 14, 13, 0, 1, 2, 3, 4, 5, 6, 7, 8, 9, 10, 11, 12, 13, 14, 15], [14, 15])])
theorem ready8 : ∀ b1 b2 b3 b4 : Bool, ∀ i : Fin 17, readyAt T8.2 [true, true, true, true, true, true, b1, true, true, true, true, true, true, b2, b2, b3, b4] i.val = true → (i.val = 6 ∧ b1 = false) ∨ (i.val = 13 ∧ b1 = true ∧ b2 = false) ∨ (i.val = 15 ∧ b3 = false) ∨ (i.val = 16 ∧ b2 = true ∧ b3 = true ∧ b4 = false) := by decide +kernel
theorem done8 : ∀ b1 b2 b3 b4 : Bool, readyT T8.2 [true, true, true, true, true, true, b1, true, true, true, true, true, true, b2, b2, b3, b4] = [] → b2 = true ∧ b3 = true ∧ b4 = true := by decide +kernel
def F8 (w wr : World) (dn : ByteArray) (a1 v : Value) (xs : List S69) (a : S69) (b1 b2 b3 b4 : Bool) (v35 v43 v6 : Value) (W : World) : Prop :=
 R8 w wr dn a1 v xs W ∧ (b1 = true → b2 = false → Kd.R Kd.string 9 W wr.heap.size (fun _ => True) v35 []) ∧
  (b2 = true → ∃ A c, v43 = .agg #[.string a.f0, .slice A a.f1.length c] ∧ Kd.R Kd.string 9 W wr.heap.size (fun _ => True) (.slice A a.f1.length c) a.f1) ∧
  (b3 = true → ∃ g, v6 = .pointer (some ⟨g, 0, none⟩) ∧ wr.heap.size ≤ g ∧ (b4 = false → W.heap[g]? = some (.cells #[.string ⟨#[]⟩, .slice none 0 0] 69 (0, 0))) ∧ (b4 = true → ∃ A c, W.heap[g]? = some (.cells #[.string a.f0, .slice A a.f1.length c] 69 (0, 0)) ∧ Kd.R Kd.string 9 W wr.heap.size (fun _ => True) (.slice A a.f1.length c) a.f1)) ∧ (b4 = true → b2 = true ∧ b3 = true)
theorem F8.step {w wr W W1 : World} {dn : ByteArray} {a1 v : Value} {xs : List S69} {a : S69} {b1 b2 b3 b4 : Bool} {v35 v43 v6 : Value} (h : F8 w wr dn a1 v xs a b1 b2 b3 b4 v35 v43 v6 W) (hb : Below W.heap.size W W1) : F8 w wr dn a1 v xs a b1 b2 b3 b4 v35 v43 v6 W1 := by
 obtain ⟨hR, hA, hB, hC, hD⟩ := h
 refine ⟨hR.step hb, fun h1 h2 => Kd.R_below (hA h1 h2) hb, fun h => ?_, fun h => ?_, hD⟩
 ·obtain ⟨A, c, e, r⟩ := hB h
  exact ⟨A, c, e, Kd.R_below r hb⟩
 ·obtain ⟨g, e, hg, h3, h4⟩ := hC h
  refine ⟨g, e, hg, fun h' => blk_below (h3 h') hb, fun h' => ?_⟩
  obtain ⟨A, c, e, r⟩ := h4 h'
  exact ⟨A, c, blk_below e hb, Kd.R_below r hb⟩
def I8 (w wr : World) (dn : ByteArray) (a1 v : Value) (xs : List S69) (a : S69) (a0 : Act) (l : List Bool) (act : Act) (W : World) : Prop :=
 ∃ (b1 b2 b3 b4 : Bool) (v35 v42 v43 v6 : Value), l = [true, true, true, true, true, true, b1, true, true, true, true, true, true, b2, b2, b3, b4] ∧ act = (((a0.put (some 35) v35).put (some 42) v42).put (some 43) v43).put (some 6) v6 ∧ F8 w wr dn a1 v xs a b1 b2 b3 b4 v35 v43 v6 W
theorem I8.start {w wr W : World} {dn : ByteArray} {a1 v : Value} {xs : List S69} {a : S69} (a0 : Act) (h : R8 w wr dn a1 v xs W) : I8 w wr dn a1 v xs a a0 [true, true, true, true, true, true, false, true, true, true, true, true, true, false, false, false, false] a0 W :=
 ⟨false, false, false, false, a0.tmps.getD 35 undef, a0.tmps.getD 42 undef, a0.tmps.getD 43 undef, a0.tmps.getD 6 undef, rfl, by rw [put_self, put_self, put_self, put_self], h, fun h => Bool.noConfusion h, fun h => Bool.noConfusion h, fun h => Bool.noConfusion h, fun h => Bool.noConfusion h⟩
def R9 (w wr : World) (dn : ByteArray) (a1 v : Value) (xs : List S69) (a : S69) (g : Nat) (u : Value) (s : ByteArray) (W : World) : Prop := R8 w wr dn a1 v xs W ∧ wr.heap.size ≤ g ∧ W.heap[g]? = some (.cells #[.string s, u] 69 (0, 0)) ∧ Kd.R Kd.string 9 W wr.heap.size (fun _ => True) u a.f1 ∧ s.size ≤ 1000000000
theorem R9.step {w wr W W1 : World} {dn : ByteArray} {a1 v : Value} {xs : List S69} {a : S69} {g : Nat} {u : Value} {s : ByteArray} (h : R9 w wr dn a1 v xs a g u s W) (hb : Below W.heap.size W W1) : R9 w wr dn a1 v xs a g u s W1 := ⟨h.1.step hb, h.2.1, blk_below h.2.2.1 hb, Kd.R_below h.2.2.2.1 hb, h.2.2.2.2⟩
theorem R9.put {w wr W : World} {dn : ByteArray} {a1 v : Value} {xs : List S69} {a : S69} {g : Nat} {u : Value} {s : ByteArray} (h : R9 w wr dn a1 v xs a g u s W) (s' : ByteArray) (hs : s'.size ≤ 1000000000) : R9 w wr dn a1 v xs a g u s' (W.setCell ⟨g, 0, none⟩ (.string s')) := ⟨h.1.far ((Below.refl _ _).setCell h.2.1 _), h.2.1, blk_set h.2.2.1 0 _, Kd.R_set h.2.2.2.1 h.2.2.1 (by decide) 0 _, hs⟩
def mK {α : Type} (d : Kd α) (w0 : World) (base : Nat) (ok : Nat → Prop) : Kd α where
 sz := d.sz
 E := []
 K := fun _ x cs => d.M w0 base ok x cs
 M := fun _ _ _ x cs => d.M w0 base ok x cs
 K_len := fun h => d.K_len (d.K_of_M h)
 K_one := fun h => d.K_one (d.K_of_M h)
 K_below := fun _ h => h
 K_of_M := fun h => h
 M_mono := fun _ h => h
 M_bound := fun h => h
 M_move := fun _ h => h
 M_lower := fun _ h => h
theorem rows_of_R {α : Type} {d : Kd α} {e base : Nat} {ok : Nat → Prop} {W : World} {A : Option Addr} {n c : Nat} {xs : List α} (h : Kd.R d e W base ok (.slice A n c) xs) : (mK d W base ok).C W A xs.length xs ∧ xs.length ≤ c ∧ n = xs.length := by
 obtain ⟨A', c', e', hl, hr⟩ := OwnRow.reads h.2
 cases e'
 exact ⟨hr.imp_ (Below.refl _ _) (fun _ _ hp => d.M_mono (fun _ hk => hk.1) hp), hl, rfl⟩
theorem own_shape {α : Type} {d : Kd α} {e base : Nat} {ok : Nat → Prop} {W : World} {A : Option Addr} {n c : Nat} {xs : List α} (h : Kd.R d e W base ok (.slice A n c) xs) : (A = none ∧ xs = [] ∧ c = 0) ∨ ∃ g, A = some ⟨g, 0, none⟩ := by
 obtain ⟨inner, hown⟩ := Kd.R_own h
 have hn := (rows_of_R h).2.2
 rcases hown.2 with ⟨hv, _⟩ | ⟨gq, cap, cur, hv, _⟩
 ·cases hv
  exact .inl ⟨rfl, List.eq_nil_of_length_eq_zero hn.symm, rfl⟩
 ·cases hv
  exact .inr ⟨gq, rfl⟩
theorem own_empty (W : World) (base : Nat) (hb : base ≤ W.heap.size) : Kd.R k69 69 (W.alloc (.cells #[] 69)) base (fun _ => True) (.slice (some ⟨W.heap.size, 0, none⟩) 0 0) [] :=
 ⟨fun _ _ => trivial, [], World.ownsRow_lit (base := base) (e := 69) (size := 2) W #[] 0 hb (by decide) rfl, Reps.none _ _⟩
def R9b (w wo : World) (dn : ByteArray) (a1 v : Value) (xs : List S69) (a : S69) (g : Nat) (u : Value) (s : ByteArray) (B : Nat) (W : World) : Prop := R8 w wo dn a1 v xs W ∧ g < B ∧ W.heap[g]? = some (.cells #[.string s, u] 69 (0, 0)) ∧ Kd.R Kd.string 9 W w.heap.size (fun k => k < B) u a.f1 ∧ wo.heap.size ≤ B ∧ B ≤ W.heap.size
theorem R9.bound {w wo W : World} {dn : ByteArray} {a1 v : Value} {xs : List S69} {a : S69} {g : Nat} {u : Value} {s : ByteArray} (h : R9 w wo dn a1 v xs a g u s W) : R9b w wo dn a1 v xs a g u s W.heap.size W := ⟨h.1, blk_lt h.2.2.1, h.2.2.1, Kd.R_lower (Kd.R_mono (Kd.R_bound h.2.2.2.1) (fun _ hk => hk.2.2.1)) (by have := h.1.2.2.1; omega), h.1.2.2.2, Nat.le_refl _⟩
theorem R9b.far {w wo W W1 : World} {dn : ByteArray} {a1 v : Value} {xs : List S69} {a : S69} {g : Nat} {u : Value} {s : ByteArray} {B : Nat} (h : R9b w wo dn a1 v xs a g u s B W) (hb : Below B W W1) : R9b w wo dn a1 v xs a g u s B W1 := ⟨h.1.far (hb.mono h.2.2.2.2.1), h.2.1, (hb.block _ h.2.1).trans h.2.2.1, Kd.R_step h.2.2.2.1 (fun k hk _ => hb.block k hk), h.2.2.2.2.1, Nat.le_trans h.2.2.2.2.2 hb.size⟩
theorem rows_take {d : Kd S69} {W : World} {base : Nat} {ok : Nat → Prop} {A : Option Addr} {n c j : Nat} {xs : List S69} (h : Kd.R d 69 W base ok (.slice A n c) xs) (hj : j ≤ xs.length) : ReadsRow (d.M W base ok) d.sz W A j (xs.take j) := by
 have h1 := Kd.C_take (k := mK d W base ok) (rows_of_R h).1 hj
 rw [List.length_take, Nat.min_eq_left hj] at h1
 exact h1
theorem rows_drop {d : Kd S69} {W : World} {base : Nat} {ok : Nat → Prop} {A : Option Addr} {n c j : Nat} {xs : List S69} (h : Kd.R d 69 W base ok (.slice A n c) xs) (hj : j ≤ xs.length) : ReadsRow (d.M W base ok) d.sz W (if c = j then A else A.map (·.add (j * d.sz))) (xs.length - j) (xs.drop j) := by
 have h1 := Kd.C_drop (k := mK d W base ok) (rows_of_R h).1 hj (rows_of_R h).2.1
 rw [List.length_drop] at h1
 exact h1
theorem fitL_ins {xs : List S69} {a : S69} {s : ByteArray} {j : Nat} (h : FitL xs) (hs : s.size ≤ 1000000000) (ha : a.f1.length ≤ 1000000) : FitL (xs.take j ++ [(⟨s, a.f1⟩ : S69)] ++ xs.drop j) := by
 intro b hb
 simp only [List.mem_append, List.mem_singleton] at hb
 rcases hb with (hb | rfl) | hb
 ·exact h b (List.mem_of_mem_take hb)
 ·exact ⟨hs, ha⟩
 ·exact h b (List.mem_of_mem_drop hb)
theorem drop_none {R : S69 → List Value → Prop} {W : World} {j c m n : Nat} {xs : List S69} (hx : xs = []) (h : ReadsRow R m W (if c = j then none else (none : Option Addr).map (·.add (j * m))) n (xs.drop j)) : ReadsRow R m W none 0 (xs.drop j) := by
 subst hx
 exact ⟨by simp, by omega, fun h => absurd h (Nat.lt_irrefl 0)⟩
theorem drop_near {R : S69 → List Value → Prop} {W : World} {A : Option Addr} {j c m n : Nat} {xs : List S69} (hc : c = j) (h : ReadsRow R m W (if c = j then A else A.map (·.add (j * m))) n xs) : ReadsRow R m W A n xs := by rwa [if_pos hc] at h
theorem drop_far {R : S69 → List Value → Prop} {W : World} {gq j c m n : Nat} {xs : List S69} (hc : ¬ c = j) (h : ReadsRow R m W (if c = j then some ⟨gq, 0, none⟩ else (some (⟨gq, 0, none⟩ : Addr)).map (·.add (j * m))) n xs) : ReadsRow R m W (some ⟨gq, j * m, none⟩) n xs := by
 rw [if_neg hc] at h
 simp only [Option.map_some, Addr.add, Nat.zero_add] at h
 by_cases e : j * m = 0
 ·rw [if_pos e] at h; rwa [e]
 ·rwa [if_neg e] at h
theorem own_ge {v v1 : Value} {B : Nat} {W : World} (h : ∀ k, v.ownBlock = some k → B ≤ k) (hat : v1.ownBlock = v.ownBlock ∨ ∃ b, v1.ownBlock = some b ∧ W.heap.size ≤ b) (hW : B ≤ W.heap.size) : ∀ k, v1.ownBlock = some k → B ≤ k := by
 intro k hk
 rcases hat with e | ⟨b, e, hb⟩
 ·exact h k (e ▸ hk)
 ·rw [e] at hk
  injection hk with hk
  omega
theorem own_apart {v : Value} {B k : Nat} (h : ∀ k, v.ownBlock = some k → B ≤ k) (hk : k < B) : some k ≠ v.ownBlock := fun e => by have := h k e.symm; omega
theorem attr_in {w W : World} {ad : Addr} {Aa : Option Addr} {k ca : Nat} {a : S69} (h : w.cell? (ad.add (k * 2)) = some (.string a.f0) ∧ w.cell? ⟨(ad.add (k * 2)).block, (ad.add (k * 2)).off + 1, none⟩ = some (.slice Aa a.f1.length ca)) (hb : Below w.heap.size w W) : W.cell? (ad.add (k * 2)) = some (.string a.f0) ∧ W.cell? ⟨(ad.add (k * 2)).block, (ad.add (k * 2)).off + 1, none⟩ = some (.slice Aa a.f1.length ca) := ⟨pw_cell_below hb h.1, pw_cell_below hb h.2⟩
set_option maxHeartbeats 8000000 in
set_option maxRecDepth 100000 in
theorem norm_c (dn : ByteArray) (attrs : List S69) (A1 : Option Addr) (c1 : Nat) (w : World) (hd : dn.size ≤ 1000000) (hr1 : Kd.C k69 w A1 attrs.length attrs) (hc1 : attrs.length ≤ c1) (ha : AttrsOk attrs) :
  Calls Tryd.prog 62 #[.agg #[.string dn, .slice A1 attrs.length c1]] w (NormOut w (normDn dn) attrs.length) := by
 have hmax : attrs.length ≤ 9223372036854775807 := hr1.2.1
 have HR1 := Lib.hid hr1
 have HA := Lib.hid ha
 have HD := Lib.hid hd
 clear hr1 ha hd
 go_enter Tryd.func62, Tryd.ntmps62
 go_wp2_with fail
 refine (parseDn_c dn HD.out _).mono ?_
 rintro e w1 ⟨v0, rfl, hp, hb⟩
 obtain ⟨Av, cv, rfl, hlv, hCv⟩ := Kd.R_reads hp
 have HN0 : Nw w dn dn (.slice A1 attrs.length c1) (.slice none 0 0) (((w.alloc (.cells #[.string dn, .slice A1 attrs.length c1] 51)).alloc (.cells #[.string ⟨#[]⟩, .slice none 0 0] 51)).alloc (.cells #[.string dn, .slice none 0 0] 51)) := ⟨blk_alloc (blk_alloc (heap_alloc_new w _) _) _, blk_alloc (by have := heap_alloc_new (w.alloc (.cells #[.string dn, .slice A1 attrs.length c1] 51)) (.cells #[.string ⟨#[]⟩, .slice none 0 0] 51); simpa using this) _, by have := heap_alloc_new ((w.alloc (.cells #[.string dn, .slice A1 attrs.length c1] 51)).alloc (.cells #[.string ⟨#[]⟩, .slice none 0 0] 51)) (.cells #[.string dn, .slice none 0 0] 51); simpa using this, below_alloc (below_alloc (below_alloc (Below.refl _ _) _) _) _⟩
 have HN1 := Lib.hid (HN0.step hb)
 have HC := Lib.hid hCv
 have HS : Hid (((((w.alloc (.cells #[.string dn, .slice A1 attrs.length c1] 51)).alloc (.cells #[.string ⟨#[]⟩, .slice none 0 0] 51)).alloc (.cells #[.string dn, .slice none 0 0] 51)).heap.size ≤ w1.heap.size)) := Lib.hid hb.size
 clear hp hb hCv HN0
 go_upto_if 17 with (fail)
 go_cut [] (fun wc => Hid (Nw w dn (normDn dn) (.slice A1 attrs.length c1) (.slice none 0 0) wc))
 case first =>
  cases hb : (parseL (bl dn)).2
  ·have HX : Hid (normDn dn = dn) := Lib.hid (by unfold normDn; rw [hb]; rfl)
   go_wp2
   go_meet
   case rel =>
    rw [HX.out]
    exact Lib.hid (HN1.out.step (below_alloc (Below.refl _ _) _))
  ·have HX : Hid (normDn dn = B (text (parseL (bl dn)).1)) := Lib.hid (by unfold normDn; rw [hb]; rfl)
   have hm : mayB (parseL (bl dn)).1 = true := parseS_may 8 (bl dn) [] (bl dn != []) (parseL (bl dn)).1 (by rw [← hb]; rfl)
   go_wp2_with fail
   refine (textDn_c Av cv _ _ (Kd.C_below HC.out (below_alloc (Below.refl _ _) _)) hlv (may_modest hm)).mono ?_
   rintro e w2 ⟨rfl, hd⟩
   have hN2 := (HN1.out.step (below_alloc (Below.refl _ _) _)).step hd.below
   have HN2 := Lib.hid (hN2.name (B (text (parseL (bl dn)).1)))
   have s0 : w2.cell? ⟨w.heap.size + 1 + 1, 0, none⟩ = some (.string dn) := blk_cell hN2.2.2.1 0
   have f0 := blk_frozen hN2.2.2.1 0
   clear hd hN2 hm
   go_wp2
   go_meet
   case rel =>
    rw [HX.out]
    exact HN2
 case rest =>
  have HN := hcut
  clear HN1 HC HS hcut
  go_wp2
  go_loopw [5] (fun i wr => ∃ (k : Nat) (v : Value) (xs : List S69), k ≤ attrs.length ∧ i = .int .i64 k ∧ Hid (xs.length = k ∧ FitL xs) ∧ Hid (Kd.R k69 69 wr w.heap.size (fun _ => True) v xs ∧ Nw w dn (normDn dn) (.slice A1 attrs.length c1) v wr)) (fun i _ => attrs.length - (intOf i).toNat)
  case atStart => exact ⟨0, .slice none 0 0, [], Nat.zero_le _, rfl, Lib.hid ⟨rfl, fun _ h => by cases h⟩, Lib.hid ⟨Kd.R_nil _ _ _ _ _, HN.out⟩⟩
  case round =>
   clear HN
   obtain ⟨k, v, xs, hk, rfl, HX, HW⟩ := hrel
   obtain ⟨wo, rfl⟩ : ∃ wo : World, wo = wr := ⟨_, rfl⟩
   have e1 : wo.cell? ⟨w.heap.size, 1, none⟩ = some (.slice A1 attrs.length c1) := blk_cell HW.out.2.1 1
   by_cases hlt : k < attrs.length
   ·obtain ⟨a, hy⟩ : ∃ r, attrs[k]? = some r := ⟨_, List.getElem?_eq_getElem hlt⟩
    have HM := Lib.hid (HA.out.2 a (List.mem_of_getElem? hy))
    obtain ⟨ad, Aa, ca, e, x0, x1, hl4, hi4⟩ := attr_at HR1.out hy
    cases e
    have HC := Lib.hid (And.intro x0 x1)
    have HI := Lib.hid hi4
    have hlt' : (k : Int) < (attrs.length : Int) := by omega
    have h0 : (0 : Int) ≤ (k : Int) := by omega
    clear hy x0 x1 hi4
    have HV := Lib.hid (Kd.R_mono (Kd.R_bound HW.out.1) (ok' := fun k => k < wo.heap.size) (fun _ h => h.2.2.1))
    go_upto_region 8 with (fail)
    go_cut [6] (fun v6 wc => ∃ g u, v6 = .pointer (some ⟨g, 0, none⟩) ∧ Hid (R8 w wo dn (.slice (some ad) attrs.length c1) v xs wc ∧ wo.heap.size ≤ g ∧ wc.heap[g]? = some (.cells #[.string a.f0, u] 69 (0, 0)) ∧ Kd.R Kd.string 9 wc wo.heap.size (fun _ => True) u a.f1))
    case first =>
     refine iv_ (R8 w wo dn (.slice (some ad) attrs.length c1) v xs) [16] T8 [(0,0,some 29),(1,1,some 30),(0,2,some 31),(0,3,some 32),(0,4,some 33),(1,5,some 34),(0,7,some 36),(1,8,some 37),(0,9,some 38),(0,10,some 39),(0,11,some 40),(1,12,some 41)] [true, true, true, true, true, true, false, true, true, true, true, true, true, false, false, false, false] (by kernel_rfl) (by kernel_rfl) (by kernel_rfl) rfl (R8.step ⟨HW.out.2, HV.out, blk_lt HW.out.2.2.2.1, Nat.le_refl _⟩ (below_drew (Below.refl _ _))) (fun hS => ?_)
     clear HW HV e1
     generalize wo.drew = W at hS ⊢
     repeat (first
      | (refine sqi0 rfl ?_ (fun _ _ _ _ h => h) ?_; (focus rfl); apply Exists.intro; constructor; (focus (intro w'; go_simp; with_reducible rfl)); (simp only [Act.put, List.setIfInBounds_toArray, List.set_cons_zero, List.set_cons_succ]))
      | (refine sqi1 rfl ?_ (fun _ _ _ _ h => h) hS ?_; (focus rfl); apply Exists.intro; constructor; (focus (intro w' hS'; have s1 : w'.cell? ⟨w.heap.size, 1, none⟩ = some (.slice (some ad) attrs.length c1) := blk_cell hS'.1.1 1; obtain ⟨x0, x1⟩ := attr_in HC.out hS'.1.2.2.2; go_simp; with_reducible rfl)); (simp only [Act.put, List.setIfInBounds_toArray, List.set_cons_zero, List.set_cons_succ])))
     generalize hA : (Act.mk _ _) = a0
     refine iv_go (I8 w wo dn (.slice (some ad) attrs.length c1) v xs a a0) (I8.start a0 hS) ?_ ?_
     ·rintro l act W' ⟨b1, b2, b3, b4, v35, v42, v43, v6, rfl, rfl, hF⟩ hr
      obtain ⟨rfl, rfl, rfl⟩ := done8 b1 b2 b3 b4 hr
      obtain ⟨g, rfl, hg, _, h4⟩ := hF.2.2.2.1 rfl
      obtain ⟨A, c, hgb, hRu⟩ := h4 rfl
      subst hA
      (simp only [Act.put, List.setIfInBounds_toArray, List.set_cons_zero, List.set_cons_succ])
      go_wp2
      go_meet
      case rel => exact ⟨g, _, rfl, Lib.hid ⟨hF.1, hg, hgb, hRu⟩⟩
     ·rintro l act W' i ⟨b1, b2, b3, b4, v35, v42, v43, v6, rfl, rfl, hF⟩ hi hra
      have hx := ready8 b1 b2 b3 b4 ⟨i, hi⟩ hra
      simp only at hx
      subst hA
      obtain ⟨rfl, rfl⟩ | ⟨rfl, rfl, rfl⟩ | ⟨rfl, rfl⟩ | ⟨rfl, rfl, rfl, rfl⟩ := hx
      ·have hb := below_alloc (Below.refl W'.heap.size W') (.cells #[] 9)
       refine iv_value (n := some 35) [] (w1 := W'.alloc (.cells #[] 9)) (v := .slice (some ⟨W'.heap.size, 0, none⟩) 0 0) rfl rfl rfl rfl rfl ?_ (fun h => h.step hb) ?_
       ·go_simp
       ·have hF2 := hF.step hb
        refine ⟨true, b2, b3, b4, .slice (some ⟨W'.heap.size, 0, none⟩) 0 0, v42, v43, v6, rfl, ?_, hF2.1, fun _ _ => Kd.R_of_own (own_lit_of (enc := Value.string) W' wo.heap.size 9 [] hF.1.2.2.2 (by decide)) (fun _ _ => trivial), hF2.2.2⟩
        (simp only [Act.put, List.setIfInBounds_toArray, List.set_cons_zero, List.set_cons_succ])
      ·have hRow := hF.2.1 rfl rfl
       refine iv_law (n := some 42) [(0, 14, some 43)] rfl rfl (by cases b3 <;> cases b4 <;> rfl) (by kernel_rfl) (fun K hK => ?_)
       refine Kd.R_append_rows_step Kd.string (Rr := Kd.string.K W') (w0 := W') (W := W') wo.heap.size (by rfl) (.tmp 35) (.tmp 41) 28 9 (.string ⟨#[]⟩) 16 rfl Tryd.underlying28 PA.info9 rfl (by decide) (by decide) v35 [] a.f1 Aa a.f1.length ca (fun _ => True) (fun _ => False) rfl rfl hRow (Kd.C_below HI.out hF.1.1.2.2.2) (fun _ _ h => h) (fun _ h => h.elim) (fun _ _ => trivial) (Below.refl _ _) hF.1.2.2.2 (by have := HM.out.2; simp only [List.length_nil]; omega) ?_
       intro v1 w5 hR5 hB5 hg5 _
       rw [List.nil_append] at hR5
       obtain ⟨Aw, cw, rfl⟩ := Kd.R_slice hR5
       refine hK _ _ (fun h => h.far hB5) ?_
       refine sqk rfl ?_ (fun _ _ _ _ h => h) ?_
       ·rfl
       ·apply Exists.intro
        constructor
        ·intro w'
         go_simp
         with_reducible rfl
        ·have hf : F8 w wo dn (.slice (some ad) attrs.length c1) v xs a true true b3 b4 v35 (.agg #[.string a.f0, .slice Aw a.f1.length cw]) v6 w5 := by
          have h4f : b4 = false := by
           cases b4
           ·rfl
           ·exact Bool.noConfusion (hF.2.2.2.2 rfl).1
          subst h4f
          refine ⟨hF.1.far hB5, fun _ h => Bool.noConfusion h, fun _ => ⟨Aw, cw, rfl, hR5⟩, fun h => ?_, fun h => Bool.noConfusion h⟩
          obtain ⟨g, e, hg, h3, h4⟩ := hF.2.2.2.1 h
          exact ⟨g, e, hg, fun _ => blk_grown (h3 rfl) hg5 (Kd.R_ne hRow (h3 rfl) (by decide)), fun h => Bool.noConfusion h⟩
         refine ⟨true, true, b3, b4, v35, .slice Aw a.f1.length cw, .agg #[.string a.f0, .slice Aw a.f1.length cw], v6, rfl, ?_, hf⟩
         (simp only [Act.put, List.setIfInBounds_toArray, List.set_cons_zero, List.set_cons_succ])
      ·have hb := below_alloc (Below.refl W'.heap.size W') (.cells #[.string ⟨#[]⟩, .slice none 0 0] 69)
       refine iv_value (n := some 6) [] (w1 := W'.alloc (.cells #[.string ⟨#[]⟩, .slice none 0 0] 69)) (v := .pointer (some ⟨W'.heap.size, 0, none⟩)) rfl rfl rfl rfl rfl ?_ (fun h => h.step hb) ?_
       ·go_simp
       ·have hF2 := hF.step hb
        refine ⟨b1, b2, true, b4, v35, v42, v43, .pointer (some ⟨W'.heap.size, 0, none⟩), rfl, ?_, hF2.1, hF2.2.1, hF2.2.2.1, fun _ => ⟨W'.heap.size, rfl, hF.1.2.2.2, fun _ => heap_alloc_new W' _, fun h => Bool.noConfusion (hF.2.2.2.2 h).2⟩, fun h => Bool.noConfusion (hF.2.2.2.2 h).2⟩
        (simp only [Act.put, List.setIfInBounds_toArray, List.set_cons_zero, List.set_cons_succ])
      ·obtain ⟨A, c, rfl, hRu⟩ := hF.2.2.1 rfl
       obtain ⟨g, rfl, hg, h3, _⟩ := hF.2.2.2.1 rfl
       have h3 := h3 rfl
       have s0 : W'.cell? ⟨g, 0, none⟩ = some (.string ⟨#[]⟩) := blk_cell h3 0
       have s1 : W'.cell? ⟨g, 1, none⟩ = some (.slice none 0 0) := blk_cell h3 1
       have f0 := blk_frozen h3 0
       have f1 := blk_frozen h3 1
       have hB5 : Below wo.heap.size W' ((W'.setCell ⟨g, 0, none⟩ (.string a.f0)).setCell ⟨g, 1, none⟩ (.slice A a.f1.length c)) := ((Below.refl _ _).setCell hg _).setCell hg _
       refine iv_store (w1 := (W'.setCell ⟨g, 0, none⟩ (.string a.f0)).setCell ⟨g, 1, none⟩ (.slice A a.f1.length c)) rfl rfl (by decide) rfl ?_ ?_
       ·go_simp
       ·have hR5 := Kd.R_set (Kd.R_set hRu h3 (by decide) 0 (.string a.f0)) (blk_set h3 0 (.string a.f0)) (by decide) 1 (.slice A a.f1.length c)
        refine ⟨b1, true, true, true, v35, v42, _, _, rfl, rfl, hF.1.far hB5, fun _ h => Bool.noConfusion h, fun _ => ⟨A, c, rfl, hR5⟩, fun _ => ⟨g, rfl, hg, fun h => Bool.noConfusion h, fun _ => ⟨A, c, blk_set (blk_set h3 0 _) 1 _, hR5⟩⟩, fun _ => ⟨rfl, rfl⟩⟩
    case rest =>
     obtain ⟨g, u, rfl, H8⟩ := hcut
     clear HW HV e1 HC HI
     have s0 : wc.cell? ⟨g, 0, none⟩ = some (.string a.f0) := blk_cell H8.out.2.2.1 0
     have hm : a.f0.size ≤ 9223372036854775806 := by have := HM.out.1; omega
     go_wp2_with fail
     refine (rcanon_c a.f0 hm _).mono ?_
     rintro e w2 ⟨rfl, hb⟩
     have H9 : Hid (R9 w wo dn (.slice (some ad) attrs.length c1) v xs a g u a.f0 w2) := Lib.hid (R9.step ⟨H8.out.1, H8.out.2.1, H8.out.2.2.1, H8.out.2.2.2, HM.out.1⟩ hb)
     clear hb H8 s0
     go_upto_if 48 with (fail)
     go_cut [] (fun wc => ∃ s, Hid (R9 w wo dn (.slice (some ad) attrs.length c1) v xs a g u s wc))
     case first =>
      have hsz : (canonB a.f0).1.size ≤ 1000000000 := by
       have := HM.out.1
       unfold canonB
       split
       ·show (0 : Nat) ≤ _
        omega
       ·rw [low_size]; exact this
      have HS := Lib.hid hsz
      clear hsz
      have H10 := Lib.hid (H9.out.step (below_alloc (Below.refl _ _) (.cells #[.string (canonB a.f0).1, .bool (canonB a.f0).2] 45)))
      have t0 : (w2.alloc (.cells #[.string (canonB a.f0).1, .bool (canonB a.f0).2] 45)).cell? ⟨g, 0, none⟩ = some (.string a.f0) := blk_cell H10.out.2.2.1 0
      have f0 := blk_frozen H10.out.2.2.1 0
      cases hc : (canonB a.f0).2
      ·rw [hc] at H10
       go_wp2
       go_meet
       case rel => exact ⟨_, H10⟩
      ·rw [hc] at H10 t0 f0
       go_wp2
       go_meet
       case rel => exact ⟨_, Lib.hid (H10.out.put (canonB a.f0).1 HS.out)⟩
     case rest =>
      obtain ⟨s, H9b⟩ := hcut
      clear H9
      obtain ⟨Aq, cq, rfl⟩ := Kd.R_slice H9b.out.1.2.1
      have s1 : wc.cell? ⟨w.heap.size + 1 + 1, 1, none⟩ = some (.slice Aq xs.length cq) := blk_cell H9b.out.1.1.2.2.1 1
      go_upto_block 2 with (fail)
      go_cut [8] (fun v8 wc => ∃ j : Nat, j ≤ xs.length ∧ v8 = .int .i64 j ∧ Hid (R9 w wo dn (.slice (some ad) attrs.length c1) (.slice Aq xs.length cq) xs a g u s wc))
      case first =>
       clear s1
       go_wp2
       go_loopw [8] (fun v8 wl => ∃ j : Nat, j ≤ xs.length ∧ v8 = .int .i64 j ∧ Hid (R9 w wo dn (.slice (some ad) attrs.length c1) (.slice Aq xs.length cq) xs a g u s wl)) (fun v8 _ => (intOf v8).toNat)
       case atStart => exact ⟨xs.length, Nat.le_refl _, rfl, H9b⟩
       case round =>
        clear H9b
        obtain ⟨j, hj, rfl, HL⟩ := hrel
        have s1 : wr.cell? ⟨w.heap.size + 1 + 1, 1, none⟩ = some (.slice Aq xs.length cq) := blk_cell HL.out.1.1.2.2.1 1
        have s2 : wr.cell? ⟨g, 0, none⟩ = some (.string s) := blk_cell HL.out.2.2.1 0
        cases j with
        | zero =>
         go_upto_region 13 with (fail)
         go_quiet (fail)
         go_wp2
         go_meet
         case rel => exact ⟨0, Nat.zero_le _, rfl, Lib.hid (HL.out.step (pw_below_drewN (Below.refl _ _) _))⟩
        | succ m =>
         obtain ⟨b, hb⟩ : ∃ r, xs[m]? = some r := ⟨_, List.getElem?_eq_getElem (by omega)⟩
         obtain ⟨Aq', cq', e, hlq, hCq⟩ := Kd.R_reads HL.out.1.2.1
         cases e
         obtain ⟨ad2, Ab, cb, e, y0, y1, hl2, hi2⟩ := attr_at hCq hb
         cases e
         have hj' : (m : Int) < (xs.length : Int) := by omega
         have hm0 : (0 : Int) ≤ (m : Int) := by omega
         have hj2 : (m : Int) + 1 ≤ (xs.length : Int) := by omega
         have hg1 : decide ((0 : Int) < (m : Int) + 1) = true := decide_eq_true (by omega)
         have hxl : xs.length ≤ attrs.length := by have := HX.out.1; omega
         have hg2 : (0 : Int) < (m : Int) + 1 := by omega
         have hw : IntKind.i64.wrap ((m : Int) + 1 - 1) = (m : Int) := by rw [i64_w]; unfold wrap64; omega
         clear hCq hb y1 hi2
         go_upto_region 13 with (fail)
         go_quiet (fail)
         go_wp2
         ·go_roundw
          case measure => simp [intOf]
          case rel => exact ⟨m, by omega, rfl, Lib.hid (HL.out.step (pw_below_drewN (Below.refl _ _) _))⟩
         ·go_meet
          case rel => exact ⟨m + 1, by omega, by go_num, Lib.hid (HL.out.step (pw_below_drewN (Below.refl _ _) _))⟩
      case rest =>
       obtain ⟨j, hj, rfl, H9⟩ := hcut
       clear H9b s1
       have s1 : wc.cell? ⟨w.heap.size + 1 + 1, 1, none⟩ = some (.slice Aq xs.length cq) := blk_cell H9.out.1.1.2.2.1 1
       have n1 := cell_alloc s1
       have hgl : g < wc.heap.size := blk_lt H9.out.2.2.1
       have HSZ := Lib.hid H9.out.2.2.2.2
       have HWa := Lib.hid (H9.out.bound.far ((below_alloc (Below.refl wc.heap.size wc) (.cells #[] 69))))
       obtain ⟨Au, cu, rfl⟩ := Kd.R_slice HWa.out.2.2.2.1
       have HL0 := Lib.hid (own_empty wc w.heap.size H9.out.1.1.2.2.2.size)
       have hw : wo.heap.size ≤ wc.heap.size := H9.out.1.2.2.2
       have HT1 := Lib.hid (rows_take HWa.out.1.2.1 hj)
       have HO0 : Hid (∀ k, (Value.slice (some ⟨wc.heap.size, 0, none⟩) 0 0).ownBlock = some k → wc.heap.size ≤ k) := Lib.hid (fun k h => by simp [Value.ownBlock] at h; omega)
       have HK1 : Hid (∀ k, k < wo.heap.size → (fun _ => True) k ∧ some k ≠ (Value.slice (some ⟨wc.heap.size, 0, none⟩) 0 0).ownBlock) := Lib.hid (fun k hk => ⟨trivial, own_apart HO0.out (Nat.lt_of_lt_of_le hk hw)⟩)
       have HZ1 : Hid (w.heap.size ≤ (wc.alloc (.cells #[] 69)).heap.size) := Lib.hid HWa.out.1.1.2.2.2.size
       have HZ3 : Hid (wc.heap.size ≤ (wc.alloc (.cells #[] 69)).heap.size) := Lib.hid (by simp)
       have hxl : xs.length ≤ 1000000 := by have := HX.out.1; have := HA.out.1; omega
       have ejl : (xs.take j).length = j := by rw [List.length_take]; omega
       have ejl2 : (xs.take j ++ [(⟨s, a.f1⟩ : S69)]).length = j + 1 := by rw [List.length_append, ejl]; rfl
       have ejl3 : (xs.take j ++ [(⟨s, a.f1⟩ : S69)] ++ xs.drop j).length = xs.length + 1 := by rw [List.length_append, ejl2, List.length_drop]; omega
       have HZ2 : Hid ((([] : List S69).length + j) * 40 ≤ 140737488355328) := Lib.hid (by simp only [List.length_nil]; omega)
       have HZ4 : Hid (((xs.take j).length + 1) * 40 ≤ 140737488355328) := Lib.hid (by rw [ejl]; omega)
       have HZ5 : Hid (((xs.take j ++ [(⟨s, a.f1⟩ : S69)]).length + (xs.length - j)) * 40 ≤ 140737488355328) := Lib.hid (by rw [ejl2]; omega)
       clear s1 H9
       have HFX : Hid (FitL (xs.take j ++ [(⟨s, a.f1⟩ : S69)] ++ xs.drop j)) := Lib.hid (fitL_ins HX.out.2 HSZ.out HM.out.2)
       rcases own_shape HWa.out.1.2.1 with ⟨rfl, hx0, rfl⟩ | ⟨gq, rfl⟩
       ·have hx0 := Lib.hid hx0
        have hxl0 : Hid (xs.length = 0) := Lib.hid (by rw [hx0.out]; rfl)
        have hj0 : (j : Int) ≤ ((0 : Nat) : Int) := by have := hxl0.out; omega
        have HZ6 : Hid (((xs.take j ++ [(⟨s, a.f1⟩ : S69)]).length + 0) * 40 ≤ 140737488355328) := Lib.hid (by rw [ejl2]; omega)
        have hj1 : (j : Int) ≤ 0 := by have := hxl0.out; omega
        have hj2 : (0 : Int) ≤ (j : Int) := by omega
        have hj' : (j : Int) ≤ (xs.length : Int) := by omega
        go_wp2_with (first
        | (at_builtin; refine Kd.R_append_rows k69 (Rr := k69.M (wc.alloc (.cells #[] 69)) w.heap.size (fun k => k < wo.heap.size)) (w0 := w) (W := wc.alloc (.cells #[] 69)) w.heap.size rfl (.tmp 71) (.tmp 75) 49 69 (.agg #[.string ⟨#[]⟩, .slice none 0 0]) 40 rfl Tryd.underlying49 PA.info69 rfl (by decide) (by decide) (.slice (some ⟨wc.heap.size, 0, none⟩) 0 0) [] (xs.take j) _ _ _ (fun _ => True) (fun k => k < wo.heap.size) rfl rfl HL0.out HT1.out (fun _ _ h => h) HK1.out (fun _ _ => trivial) HWa.out.1.1.2.2.2 HZ1.out HZ2.out ?_; intro v1 w5 hR5 hB5 hg5 hat5; have HO5 := Lib.hid (own_ge HO0.out hat5 HZ3.out); have H95 := Lib.hid (HWa.out.far (pw_below_grown (Below.refl wc.heap.size _) _ HZ3.out hg5 HO0.out)); rw [List.nil_append] at hR5; obtain ⟨A5, c5, hv5⟩ := Kd.R_slice hR5; rw [ejl] at hv5; subst hv5; have HR5 := Lib.hid hR5; have HB5 := Lib.hid hB5; have u0 : w5.cell? ⟨g, 0, none⟩ = some (.string s) := blk_cell H95.out.2.2.1 0; have u1 : w5.cell? ⟨g, 1, none⟩ = some (.slice Au a.f1.length cu) := blk_cell H95.out.2.2.1 1; clear hR5 hB5 hg5 hat5)
        | (at_builtin; refine Kd.R_append k69 (w0 := w) (W := w5) w.heap.size rfl (.tmp 77) (.tmp 79) 49 69 (.agg #[.string ⟨#[]⟩, .slice none 0 0]) 40 rfl Tryd.underlying49 PA.info69 rfl (by decide) (by decide) _ (xs.take j) ⟨s, a.f1⟩ [.string s, .slice Au a.f1.length cu] (fun _ => True) (fun k => k < wc.heap.size) rfl rfl (k69_mkM _ _ _ _ H95.out.2.2.2.1) (fun _ hk => ⟨trivial, own_apart HO5.out hk⟩) (fun _ _ => trivial) HR5.out HB5.out HB5.out.size HZ4.out ?_; intro v1 w6 hR6 hB6 hg6 hat6; have HO6 := Lib.hid (own_ge HO5.out hat6 H95.out.2.2.2.2.2); have H96 := Lib.hid (H95.out.far (pw_below_grown (Below.refl wc.heap.size _) _ H95.out.2.2.2.2.2 hg6 HO5.out)); obtain ⟨A6, c6, hv6⟩ := Kd.R_slice hR6; rw [ejl2] at hv6; subst hv6; have HR6 := Lib.hid hR6; have HB6 := Lib.hid hB6; have HT2 := Lib.hid (drop_none hx0.out (rows_drop H96.out.1.2.1 hj)); have t1 : w6.cell? ⟨w.heap.size + 1 + 1, 1, none⟩ = some (.slice none xs.length 0) := blk_cell H96.out.1.1.2.2.1 1; clear hR6 hB6 hg6 hat6 u0 u1)
        | (at_builtin; refine Kd.R_append_rows k69 (Rr := k69.M w6 w.heap.size (fun k => k < wo.heap.size)) (w0 := w) (W := w6) w.heap.size rfl (.tmp 81) (.tmp 85) 49 69 (.agg #[.string ⟨#[]⟩, .slice none 0 0]) 40 rfl Tryd.underlying49 PA.info69 rfl (by decide) (by decide) (.slice A6 (j + 1) c6) (xs.take j ++ [(⟨s, a.f1⟩ : S69)]) (xs.drop j) _ _ _ (fun _ => True) (fun k => k < wo.heap.size) rfl rfl HR6.out HT2.out (fun _ _ h => h) (fun k hk => ⟨trivial, own_apart HO6.out (Nat.lt_of_lt_of_le hk hw)⟩) (fun _ _ => trivial) HB6.out HB6.out.size HZ6.out ?_; intro v1 w7 hR7 hB7 hg7 hat7; have H97 := Lib.hid (H96.out.far (pw_below_grown (Below.refl wc.heap.size _) _ H96.out.2.2.2.2.2 hg7 HO6.out)); obtain ⟨A7, c7, hv7⟩ := Kd.R_slice hR7; rw [ejl3] at hv7; subst hv7; have HR7 := Lib.hid hR7; have y0 : w7.cell? ⟨w.heap.size + 1 + 1, 1, none⟩ = some (.slice none xs.length 0) := blk_cell H97.out.1.1.2.2.1 1; have y1 := blk_frozen H97.out.1.1.2.2.1 1; clear hR7 hB7 hg7 hat7 t1))
        case roundEnd =>
         refine ⟨⟨k + 1, .slice A7 1 c7, xs.take j ++ [⟨s, a.f1⟩] ++ xs.drop j, by omega, by go_num, Lib.hid ⟨by rw [ejl3, HX.out.1], HFX.out⟩, Lib.hid ⟨Kd.R_set (by have h := HR7.out; rw [hxl0.out] at h; exact h) H97.out.1.1.2.2.1 (by decide) 1 _, H97.out.1.1.put _⟩⟩, ?_⟩
         simp [intOf]; omega
       ·have hlq := (rows_of_R HWa.out.1.2.1).2.1
        have hlq' : (j : Int) ≤ (cq : Int) := by omega
        have hj' : (j : Int) ≤ (xs.length : Int) := by omega
        have hj0 : (0 : Int) ≤ (j : Int) := by omega
        by_cases hcj : cq = j
        ·have hcj' : (cq : Int) = (j : Int) := by omega
         go_wp2_with (first
        | (at_builtin; refine Kd.R_append_rows k69 (Rr := k69.M (wc.alloc (.cells #[] 69)) w.heap.size (fun k => k < wo.heap.size)) (w0 := w) (W := wc.alloc (.cells #[] 69)) w.heap.size rfl (.tmp 71) (.tmp 75) 49 69 (.agg #[.string ⟨#[]⟩, .slice none 0 0]) 40 rfl Tryd.underlying49 PA.info69 rfl (by decide) (by decide) (.slice (some ⟨wc.heap.size, 0, none⟩) 0 0) [] (xs.take j) _ _ _ (fun _ => True) (fun k => k < wo.heap.size) rfl rfl HL0.out HT1.out (fun _ _ h => h) HK1.out (fun _ _ => trivial) HWa.out.1.1.2.2.2 HZ1.out HZ2.out ?_; intro v1 w5 hR5 hB5 hg5 hat5; have HO5 := Lib.hid (own_ge HO0.out hat5 HZ3.out); have H95 := Lib.hid (HWa.out.far (pw_below_grown (Below.refl wc.heap.size _) _ HZ3.out hg5 HO0.out)); rw [List.nil_append] at hR5; obtain ⟨A5, c5, hv5⟩ := Kd.R_slice hR5; rw [ejl] at hv5; subst hv5; have HR5 := Lib.hid hR5; have HB5 := Lib.hid hB5; have u0 : w5.cell? ⟨g, 0, none⟩ = some (.string s) := blk_cell H95.out.2.2.1 0; have u1 : w5.cell? ⟨g, 1, none⟩ = some (.slice Au a.f1.length cu) := blk_cell H95.out.2.2.1 1; clear hR5 hB5 hg5 hat5)
        | (at_builtin; refine Kd.R_append k69 (w0 := w) (W := w5) w.heap.size rfl (.tmp 77) (.tmp 79) 49 69 (.agg #[.string ⟨#[]⟩, .slice none 0 0]) 40 rfl Tryd.underlying49 PA.info69 rfl (by decide) (by decide) _ (xs.take j) ⟨s, a.f1⟩ [.string s, .slice Au a.f1.length cu] (fun _ => True) (fun k => k < wc.heap.size) rfl rfl (k69_mkM _ _ _ _ H95.out.2.2.2.1) (fun _ hk => ⟨trivial, own_apart HO5.out hk⟩) (fun _ _ => trivial) HR5.out HB5.out HB5.out.size HZ4.out ?_; intro v1 w6 hR6 hB6 hg6 hat6; have HO6 := Lib.hid (own_ge HO5.out hat6 H95.out.2.2.2.2.2); have H96 := Lib.hid (H95.out.far (pw_below_grown (Below.refl wc.heap.size _) _ H95.out.2.2.2.2.2 hg6 HO5.out)); obtain ⟨A6, c6, hv6⟩ := Kd.R_slice hR6; rw [ejl2] at hv6; subst hv6; have HR6 := Lib.hid hR6; have HB6 := Lib.hid hB6; have HT2 := Lib.hid (drop_near hcj (rows_drop H96.out.1.2.1 hj)); have t1 : w6.cell? ⟨w.heap.size + 1 + 1, 1, none⟩ = some (.slice (some ⟨gq, 0, none⟩) xs.length cq) := blk_cell H96.out.1.1.2.2.1 1; clear hR6 hB6 hg6 hat6 u0 u1)
        | (at_builtin; refine Kd.R_append_rows k69 (Rr := k69.M w6 w.heap.size (fun k => k < wo.heap.size)) (w0 := w) (W := w6) w.heap.size rfl (.tmp 81) (.tmp 85) 49 69 (.agg #[.string ⟨#[]⟩, .slice none 0 0]) 40 rfl Tryd.underlying49 PA.info69 rfl (by decide) (by decide) (.slice A6 (j + 1) c6) (xs.take j ++ [(⟨s, a.f1⟩ : S69)]) (xs.drop j) _ _ _ (fun _ => True) (fun k => k < wo.heap.size) rfl rfl HR6.out HT2.out (fun _ _ h => h) (fun k hk => ⟨trivial, own_apart HO6.out (Nat.lt_of_lt_of_le hk hw)⟩) (fun _ _ => trivial) HB6.out HB6.out.size HZ5.out ?_; intro v1 w7 hR7 hB7 hg7 hat7; have H97 := Lib.hid (H96.out.far (pw_below_grown (Below.refl wc.heap.size _) _ H96.out.2.2.2.2.2 hg7 HO6.out)); obtain ⟨A7, c7, hv7⟩ := Kd.R_slice hR7; rw [ejl3] at hv7; subst hv7; have HR7 := Lib.hid hR7; have y0 : w7.cell? ⟨w.heap.size + 1 + 1, 1, none⟩ = some (.slice (some ⟨gq, 0, none⟩) xs.length cq) := blk_cell H97.out.1.1.2.2.1 1; have y1 := blk_frozen H97.out.1.1.2.2.1 1; clear hR7 hB7 hg7 hat7 t1))
         case roundEnd =>
          refine ⟨⟨k + 1, .slice A7 (xs.length + 1) c7, xs.take j ++ [⟨s, a.f1⟩] ++ xs.drop j, by omega, by go_num, Lib.hid ⟨by rw [ejl3, HX.out.1], HFX.out⟩, Lib.hid ⟨Kd.R_set HR7.out H97.out.1.1.2.2.1 (by decide) 1 _, H97.out.1.1.put _⟩⟩, ?_⟩
          simp [intOf]; omega
        ·have hcj' : ¬ (cq : Int) = (j : Int) := by omega
         go_wp2_with (first
        | (at_builtin; refine Kd.R_append_rows k69 (Rr := k69.M (wc.alloc (.cells #[] 69)) w.heap.size (fun k => k < wo.heap.size)) (w0 := w) (W := wc.alloc (.cells #[] 69)) w.heap.size rfl (.tmp 71) (.tmp 75) 49 69 (.agg #[.string ⟨#[]⟩, .slice none 0 0]) 40 rfl Tryd.underlying49 PA.info69 rfl (by decide) (by decide) (.slice (some ⟨wc.heap.size, 0, none⟩) 0 0) [] (xs.take j) _ _ _ (fun _ => True) (fun k => k < wo.heap.size) rfl rfl HL0.out HT1.out (fun _ _ h => h) HK1.out (fun _ _ => trivial) HWa.out.1.1.2.2.2 HZ1.out HZ2.out ?_; intro v1 w5 hR5 hB5 hg5 hat5; have HO5 := Lib.hid (own_ge HO0.out hat5 HZ3.out); have H95 := Lib.hid (HWa.out.far (pw_below_grown (Below.refl wc.heap.size _) _ HZ3.out hg5 HO0.out)); rw [List.nil_append] at hR5; obtain ⟨A5, c5, hv5⟩ := Kd.R_slice hR5; rw [ejl] at hv5; subst hv5; have HR5 := Lib.hid hR5; have HB5 := Lib.hid hB5; have u0 : w5.cell? ⟨g, 0, none⟩ = some (.string s) := blk_cell H95.out.2.2.1 0; have u1 : w5.cell? ⟨g, 1, none⟩ = some (.slice Au a.f1.length cu) := blk_cell H95.out.2.2.1 1; clear hR5 hB5 hg5 hat5)
        | (at_builtin; refine Kd.R_append k69 (w0 := w) (W := w5) w.heap.size rfl (.tmp 77) (.tmp 79) 49 69 (.agg #[.string ⟨#[]⟩, .slice none 0 0]) 40 rfl Tryd.underlying49 PA.info69 rfl (by decide) (by decide) _ (xs.take j) ⟨s, a.f1⟩ [.string s, .slice Au a.f1.length cu] (fun _ => True) (fun k => k < wc.heap.size) rfl rfl (k69_mkM _ _ _ _ H95.out.2.2.2.1) (fun _ hk => ⟨trivial, own_apart HO5.out hk⟩) (fun _ _ => trivial) HR5.out HB5.out HB5.out.size HZ4.out ?_; intro v1 w6 hR6 hB6 hg6 hat6; have HO6 := Lib.hid (own_ge HO5.out hat6 H95.out.2.2.2.2.2); have H96 := Lib.hid (H95.out.far (pw_below_grown (Below.refl wc.heap.size _) _ H95.out.2.2.2.2.2 hg6 HO5.out)); obtain ⟨A6, c6, hv6⟩ := Kd.R_slice hR6; rw [ejl2] at hv6; subst hv6; have HR6 := Lib.hid hR6; have HB6 := Lib.hid hB6; have HT2 := Lib.hid (drop_far hcj (rows_drop H96.out.1.2.1 hj)); have t1 : w6.cell? ⟨w.heap.size + 1 + 1, 1, none⟩ = some (.slice (some ⟨gq, 0, none⟩) xs.length cq) := blk_cell H96.out.1.1.2.2.1 1; clear hR6 hB6 hg6 hat6 u0 u1)
        | (at_builtin; refine Kd.R_append_rows k69 (Rr := k69.M w6 w.heap.size (fun k => k < wo.heap.size)) (w0 := w) (W := w6) w.heap.size rfl (.tmp 81) (.tmp 85) 49 69 (.agg #[.string ⟨#[]⟩, .slice none 0 0]) 40 rfl Tryd.underlying49 PA.info69 rfl (by decide) (by decide) (.slice A6 (j + 1) c6) (xs.take j ++ [(⟨s, a.f1⟩ : S69)]) (xs.drop j) _ _ _ (fun _ => True) (fun k => k < wo.heap.size) rfl rfl HR6.out HT2.out (fun _ _ h => h) (fun k hk => ⟨trivial, own_apart HO6.out (Nat.lt_of_lt_of_le hk hw)⟩) (fun _ _ => trivial) HB6.out HB6.out.size HZ5.out ?_; intro v1 w7 hR7 hB7 hg7 hat7; have H97 := Lib.hid (H96.out.far (pw_below_grown (Below.refl wc.heap.size _) _ H96.out.2.2.2.2.2 hg7 HO6.out)); obtain ⟨A7, c7, hv7⟩ := Kd.R_slice hR7; rw [ejl3] at hv7; subst hv7; have HR7 := Lib.hid hR7; have y0 : w7.cell? ⟨w.heap.size + 1 + 1, 1, none⟩ = some (.slice (some ⟨gq, 0, none⟩) xs.length cq) := blk_cell H97.out.1.1.2.2.1 1; have y1 := blk_frozen H97.out.1.1.2.2.1 1; clear hR7 hB7 hg7 hat7 t1))
         case roundEnd =>
          refine ⟨⟨k + 1, .slice A7 (xs.length + 1) c7, xs.take j ++ [⟨s, a.f1⟩] ++ xs.drop j, by omega, by go_num, Lib.hid ⟨by rw [ejl3, HX.out.1], HFX.out⟩, Lib.hid ⟨Kd.R_set HR7.out H97.out.1.1.2.2.1 (by decide) 1 _, H97.out.1.1.put _⟩⟩, ?_⟩
          simp [intOf]; omega
   ·obtain rfl : k = attrs.length := by omega
    obtain ⟨Aq, cq, rfl⟩ := Kd.R_slice HW.out.1
    have hW := HW.out.2
    have z0 : wo.cell? ⟨w.heap.size + 1, 0, none⟩ = some (.string ⟨#[]⟩) := blk_cell hW.2.1 0
    have z1 : wo.cell? ⟨w.heap.size + 1, 1, none⟩ = some (.slice none 0 0) := blk_cell hW.2.1 1
    have y0 := blk_frozen hW.2.1 0
    have y1 := blk_frozen hW.2.1 1
    have c0 : wo.cell? ⟨w.heap.size + 1 + 1, 0, none⟩ = some (.string (normDn dn)) := blk_cell hW.2.2.1 0
    have c1' : wo.cell? ⟨w.heap.size + 1 + 1, 1, none⟩ = some (.slice Aq xs.length cq) := blk_cell hW.2.2.1 1
    have hr1' := blk_set (blk_set hW.2.1 0 (.string (normDn dn))) 1 (.slice Aq xs.length cq)
    have HR9 := Lib.hid (Kd.R_set (Kd.R_set HW.out.1 hW.2.1 (by decide) 0 (.string (normDn dn))) (blk_set hW.2.1 0 (.string (normDn dn))) (by decide) 1 (.slice Aq xs.length cq))
    have hB9 := below_set (j := 1) (v := .slice Aq xs.length cq) (below_set (g := w.heap.size + 1) (j := 0) (v := .string (normDn dn)) hW.2.2.2 (by omega)) (g := w.heap.size + 1) (by omega)
    go_wp2
    refine bodyPost_ret (results_cell_row rfl _ _ (w.heap.size + 1) 51 #[.string (normDn dn), .slice Aq xs.length cq] (0, 0) _ rfl hr1' Tryd.underlying51 rfl (by kernel_rfl)) rfl ?_
    exact ⟨xs, HX.out.1, ⟨by have := HX.out.1; have := HA.out.1; omega, HX.out.2⟩, _, rfl, HR9.out, hB9⟩
end Go.Proofs.YtflkghdndffacaaDoor.C
namespace Go.Proofs.YtflkghdndffacaaDoor.C
open Go.RowKit Go.Proofs.YtflkghdndffacaaDoor.Sq Go.Proofs.YtflkghdndffacaaDoor.H Go.Proofs.YtflkghdndffacaaDoor.PA Go.Proofs.YtflkghdndffacaaDoor.Pure Go.Proofs.YtflkghdndffacaaDoorW.PrintWords Go.Proofs.YtflkghdndffacaaDoorW.PrintLast Go.Proofs.YtflkghdndffacaaDoorW.PrintMore
set_option linter.unusedVariables false
set_option linter.unusedSimpArgs false
theorem names_norm {d : ByteArray} (hd : d ∈ namesL) : normDn d = d := by
 have h : namesL.all (fun d => decide (normDn d = d)) = true := by decide +kernel
 simpa using List.all_eq_true.1 h d hd
def nameOk (d : ByteArray) : Bool := decide (0 < (parseL (bl d)).1.length) && decide (d.size ≤ 30) && (parseL (bl d)).1.all fun p => decide (p.f0.size ≤ 3) && decide (p.f1.size ≤ 3)
theorem names_part {d : ByteArray} (hd : d ∈ namesL) : ∃ p q, (parseL (bl d)).1 = p :: q ∧ d.size ≤ 30 ∧ p.f0.size ≤ 3 ∧ p.f1.size ≤ 3 := by
 have h : namesL.all nameOk = true := by decide +kernel
 have h1 := List.all_eq_true.1 h d hd
 unfold nameOk at h1
 rw [Bool.and_eq_true, Bool.and_eq_true, decide_eq_true_eq, decide_eq_true_eq, List.all_eq_true] at h1
 cases e : (parseL (bl d)).1 with
 | nil => rw [e] at h1; exact absurd h1.1.1 (by decide)
 | cons p q =>
  have h2 := h1.2 p (by rw [e]; exact List.mem_cons_self)
  rw [Bool.and_eq_true, decide_eq_true_eq, decide_eq_true_eq] at h2
  exact ⟨p, q, rfl, h1.1.2, h2.1, h2.2⟩
def nm (i : Int) : ByteArray := namesL.getD (i.tmod 12).toNat ⟨#[]⟩
theorem nm_some {i : Int} (h : 0 ≤ i) : ∃ j : Nat, j < 12 ∧ i.tmod 12 = (j : Int) ∧ namesL[j]? = some (nm i) := by
 have h1 : 0 ≤ i.tmod 12 := Int.tmod_nonneg 12 h
 have h2 : i.tmod 12 < 12 := Int.tmod_lt_of_pos i (by decide)
 have hl : namesL.length = 12 := rfl
 refine ⟨(i.tmod 12).toNat, by omega, by omega, ?_⟩
 unfold nm
 rw [List.getD_eq_getElem?_getD, List.getElem?_eq_getElem (by omega)]
 rfl
theorem nm_mem {i : Int} (h : 0 ≤ i) : nm i ∈ namesL := by
 obtain ⟨j, _, _, e⟩ := nm_some h
 exact List.mem_of_getElem? e
def personB (d : ByteArray) : Bool := match (parseL (bl d)).1 with
 | [] => false
 | p :: _ => !(p.f0.toList == [111]) && !(p.f0.toList == [111, 117])
abbrev perL : List UInt8 := [112, 101, 114, 115, 111, 110]
def EntOut (w : World) (d : ByteArray) (e : Ending) (w' : World) : Prop := ∃ l : List S69, 3 ≤ l.length ∧ (personB d = false → l.length = 3) ∧ AttrsOk l ∧ EntryOut w d l e w'
def TE : Bool × List (List Nat × List Nat) := (true, [([], []), ([], []), ([1], [1]), ([], []), ([3], [3]), ([4], [4]), ([2, 5], [2, 5]), ([], []), ([7], [7]), ([8], [8]), ([], []), ([10], [10]), ([11], [11]), ([12], [12]), ([13], [13]), ([14], [14]), ([6, 9, 15], [6, 9, 15]), ([0, 16], [0, 16]), ([], []), ([18, 17, 12, 0, 1, 2, 3, 4, 5, 6, 7, 8, 9, 10, 11, 12, 13, 14, 15, 16, 17, 18], [17, 18])])
abbrev LE (b5 b8 bc be bg bi bj : Bool) : List Bool := [true, true, true, true, true, b5, b5, true, b8, b8, true, true, bc, bc, be, be, bg, bg, bi, bj]
set_option synthInstance.maxHeartbeats 2000000 in
set_option synthInstance.maxSize 100000 in
theorem readyE : ∀ b5 b8 bc be bg bi bj : Bool, ∀ i : Fin 20, readyAt TE.2 (LE b5 b8 bc be bg bi bj) i.val = true → (i.val = 5 ∧ b5 = false) ∨ (i.val = 8 ∧ b8 = false) ∨ (i.val = 12 ∧ bc = false) ∨ (i.val = 14 ∧ bc = true ∧ be = false) ∨ (i.val = 16 ∧ b5 = true ∧ b8 = true ∧ be = true ∧ bg = false) ∨ (i.val = 18 ∧ bi = false) ∨ (i.val = 19 ∧ bg = true ∧ bi = true ∧ bj = false) := by decide +kernel
theorem doneE : ∀ b5 b8 bc be bg bi bj : Bool, readyT TE.2 (LE b5 b8 bc be bg bi bj) = [] → bg = true ∧ bi = true ∧ bj = true := by decide +kernel
theorem ok5 : ∀ b8 bc be bg bi bj : Bool, okK TE [(0,6,some 31)] ((LE false b8 bc be bg bi bj).set 5 true) = true := by decide +kernel
theorem ok8 : ∀ b5 bc be bg bi bj : Bool, okK TE [(0,9,some 34)] ((LE b5 false bc be bg bi bj).set 8 true) = true := by decide +kernel
theorem ok12 : ∀ b5 b8 be bg bi bj : Bool, okK TE [(0,13,some 38)] ((LE b5 b8 false be bg bi bj).set 12 true) = true := by decide +kernel
theorem ok14 : ∀ b5 b8 bc bg bi bj : Bool, okK TE [(0,15,some 40)] ((LE b5 b8 bc false bg bi bj).set 14 true) = true := by decide +kernel
theorem ok16 : ∀ b5 b8 bc be bi bj : Bool, okK TE [(0,17,some 42)] ((LE b5 b8 bc be false bi bj).set 16 true) = true := by decide +kernel
def V1 (B : Nat) (W : World) (v : Value) : Prop := ∃ (s x : ByteArray) (c : Nat) (A : Option Addr), v = .agg #[.string s, .slice A 1 c] ∧ s.size ≤ 30 ∧ Kd.R Kd.string 9 W B (fun _ => True) (.slice A 1 c) [x]
theorem V1.step {B : Nat} {W W1 : World} {v : Value} (h : V1 B W v) (hb : Below W.heap.size W W1) : V1 B W1 v := by
 obtain ⟨s, x, c, A, e, hs, hR⟩ := h
 exact ⟨s, x, c, A, e, hs, Kd.R_below hR hb⟩
theorem v1_lit (B : Nat) (W : World) (s x : ByteArray) (hb : B ≤ W.heap.size) (hs : s.size ≤ 30) : V1 B (W.alloc (.cells #[.string x] 9)) (.agg #[.string s, .slice (some ⟨W.heap.size, 0, none⟩) 1 1]) := ⟨s, x, 1, _, rfl, hs, Kd.R_of_own (own_lit_of (enc := Value.string) W B 9 [x] hb (by simp)) (fun _ _ => trivial)⟩
def V2 (B : Nat) (W : World) (v : Value) (xs : List S69) : Prop := 3 ≤ xs.length ∧ xs.length ≤ 5 ∧ FitL xs ∧ Kd.R k69 69 W B (fun _ => True) v xs
theorem V2.step {B : Nat} {W W1 : World} {v : Value} {xs : List S69} (h : V2 B W v xs) (hb : Below W.heap.size W W1) : V2 B W1 v xs := ⟨h.1, h.2.1, h.2.2.1, Kd.R_below h.2.2.2 hb⟩
theorem reps3 {W : World} {B : Nat} {ok : Nat → Prop} {s1 s2 s3 : ByteArray} {l1 l2 l3 : List ByteArray} {v1 v2 v3 : Value} (R1 : Kd.R Kd.string 9 W B ok v1 l1) (R2 : Kd.R Kd.string 9 W B ok v2 l2) (R3 : Kd.R Kd.string 9 W B ok v3 l3) : Reps (k69.M W B ok) k69.sz [⟨s1, l1⟩, ⟨s2, l2⟩, ⟨s3, l3⟩] [.string s1, v1, .string s2, v2, .string s3, v3] :=
 by
 have h1 := Reps.snoc (Reps.none (k69.M W B ok) k69.sz) (k69_mkM W B ok ⟨s1, l1⟩ R1) rfl
 have h2 := Reps.snoc h1 (k69_mkM W B ok ⟨s2, l2⟩ R2) rfl
 exact Reps.snoc h2 (k69_mkM W B ok ⟨s3, l3⟩ R3) rfl
theorem fit3 {s1 s2 s3 x1 x2 x3 : ByteArray} (h1 : s1.size ≤ 30) (h2 : s2.size ≤ 30) (h3 : s3.size ≤ 30) : FitL [⟨s1, [x1]⟩, ⟨s2, [x2]⟩, ⟨s3, [x3]⟩] := by
 intro a ha
 rcases List.mem_cons.1 ha with rfl | ha
 ·exact ⟨by show s1.size ≤ _; omega, by simp⟩
 ·rcases List.mem_cons.1 ha with rfl | ha
  ·exact ⟨by show s2.size ≤ _; omega, by simp⟩
  ·rcases List.mem_cons.1 ha with rfl | ha
   ·exact ⟨by show s3.size ≤ _; omega, by simp⟩
   ·cases ha
theorem fit_snoc {xs : List S69} {s st : ByteArray} (h : FitL xs) (hs : s.size ≤ 30) : FitL (xs ++ [⟨s, [st]⟩]) := by
 intro a ha
 rcases List.mem_append.1 ha with ha | ha
 ·exact h a ha
 ·rw [List.mem_singleton] at ha
  subst ha
  exact ⟨by show s.size ≤ _; omega, by simp⟩
def RE (w0 : World) (d : ByteArray) (per : Bool) (g : Nat) (u : Value) (xs : List S69) (W : World) : Prop := Below w0.heap.size w0 W ∧ w0.heap.size ≤ g ∧ W.heap[g]? = some (.cells #[.string d, u] 51 (0, 0)) ∧ (per = false → xs.length = 3) ∧ V2 w0.heap.size W u xs
theorem RE.step {w0 W W1 : World} {d : ByteArray} {per : Bool} {g : Nat} {u : Value} {xs : List S69} (h : RE w0 d per g u xs W) (hb : Below W.heap.size W W1) : RE w0 d per g u xs W1 := ⟨below_step h.1 hb, h.2.1, blk_below h.2.2.1 hb, h.2.2.2.1, h.2.2.2.2.step hb⟩
def FE (w0 : World) (d : ByteArray) (b5 b8 bc be bg bi bj : Bool) (v31 v34 v38 v40 v42 v8 : Value) (W : World) : Prop :=
 Below w0.heap.size w0 W ∧ (b5 = true → bg = false → V1 w0.heap.size W v31) ∧ (b8 = true → bg = false → V1 w0.heap.size W v34) ∧ (bc = true → be = false → ∃ s : ByteArray, v38 = .string s) ∧ (be = true → bg = false → V1 w0.heap.size W v40) ∧
  (bg = true → bj = false → ∃ u xs, v42 = .agg #[.string d, u] ∧ xs.length = 3 ∧ V2 w0.heap.size W u xs) ∧
  (bi = true → ∃ g, v8 = .pointer (some ⟨g, 0, none⟩) ∧ w0.heap.size ≤ g ∧ (bj = false → W.heap[g]? = some (.cells #[.string ⟨#[]⟩, .slice none 0 0] 51 (0, 0))) ∧ (bj = true → ∃ u xs, W.heap[g]? = some (.cells #[.string d, u] 51 (0, 0)) ∧ xs.length = 3 ∧ V2 w0.heap.size W u xs)) ∧ (bj = true → bg = true ∧ bi = true)
theorem FE.step {w0 W W1 : World} {d : ByteArray} {b5 b8 bc be bg bi bj : Bool} {v31 v34 v38 v40 v42 v8 : Value} (h : FE w0 d b5 b8 bc be bg bi bj v31 v34 v38 v40 v42 v8 W) (hb : Below W.heap.size W W1) : FE w0 d b5 b8 bc be bg bi bj v31 v34 v38 v40 v42 v8 W1 := by
 obtain ⟨h1, h2, h3, h4, h5, h6, h7, h8⟩ := h
 refine ⟨below_step h1 hb, fun a b => (h2 a b).step hb, fun a b => (h3 a b).step hb, h4, fun a b => (h5 a b).step hb, fun a b => ?_, fun a => ?_, h8⟩
 ·obtain ⟨u, xs, e, hl, hv⟩ := h6 a b
  exact ⟨u, xs, e, hl, hv.step hb⟩
 ·obtain ⟨g, e, hg, k1, k2⟩ := h7 a
  refine ⟨g, e, hg, fun b => blk_below (k1 b) hb, fun b => ?_⟩
  obtain ⟨u, xs, e2, hl, hv⟩ := k2 b
  exact ⟨u, xs, blk_below e2 hb, hl, hv.step hb⟩
def IE (w0 : World) (d : ByteArray) (a0 : Act) (l : List Bool) (act : Act) (W : World) : Prop :=
 ∃ (b5 b8 bc be bg bi bj : Bool) (v30 v31 v33 v34 v37 v38 v39 v40 v41 v42 v8 : Value), l = LE b5 b8 bc be bg bi bj ∧ act = ((((((((((a0.put (some 30) v30).put (some 31) v31).put (some 33) v33).put (some 34) v34).put (some 37) v37).put (some 38) v38).put (some 39) v39).put (some 40) v40).put (some 41) v41).put (some 42) v42).put (some 8) v8 ∧ FE w0 d b5 b8 bc be bg bi bj v31 v34 v38 v40 v42 v8 W
theorem IE.start {w0 W : World} {d : ByteArray} (a0 : Act) (h : Below w0.heap.size w0 W) : IE w0 d a0 (LE false false false false false false false) a0 W :=
 ⟨false, false, false, false, false, false, false, a0.tmps.getD 30 undef, a0.tmps.getD 31 undef, a0.tmps.getD 33 undef, a0.tmps.getD 34 undef, a0.tmps.getD 37 undef, a0.tmps.getD 38 undef, a0.tmps.getD 39 undef, a0.tmps.getD 40 undef, a0.tmps.getD 41 undef, a0.tmps.getD 42 undef, a0.tmps.getD 8 undef, rfl, by rw [put_self, put_self, put_self, put_self, put_self, put_self, put_self, put_self, put_self, put_self, put_self], h, fun h => Bool.noConfusion h, fun h => Bool.noConfusion h, fun h => Bool.noConfusion h, fun h => Bool.noConfusion h, fun h => Bool.noConfusion h, fun h => Bool.noConfusion h, fun h => Bool.noConfusion h⟩
theorem field42_0 (A : Option Addr) (n c : Nat) (b : Bool) (w : World) : (Instr.field 42 (.agg #[.slice A n c, .bool b]) 0).run Tryd.prog w = .ok (.slice A n c) w := by kernel_rfl
set_option maxHeartbeats 4000000 in
set_option maxRecDepth 100000 in
theorem entry_c (i n : Int) (h0 : 0 ≤ i) (h1 : i ≤ 255) (hn0 : 0 ≤ n) (hn1 : n ≤ 255) (w : World) :
  Calls Tryd.prog 33 #[.int .i64 i, .int .u8 n] w (EntOut w (nm i)) := by
 obtain ⟨j, hj, hij, hnj⟩ := nm_some h0
 obtain ⟨p, q, hpq, hds, hp0, hp1⟩ := names_part (nm_mem h0)
 have HN := Lib.hid (names_norm (nm_mem h0))
 have HNJ := Lib.hid hnj
 clear hnj
 have HP := Lib.hid hpq
 clear hpq
 generalize hd : nm i = d at *
 have hf42 := field42_0
 go_enter Tryd.func33, Tryd.ntmps33
 go_wp2_with fail
 refine (names_c _).mono ?_
 rintro e w1 ⟨v, rfl, hR, hb⟩
 obtain ⟨A, c, rfl, hc, hC⟩ := Kd.R_reads hR
 obtain ⟨ad, e1, hcell⟩ := str_at hC HNJ.out
 cases e1
 have hl : namesL.length = 12 := rfl
 have hj1 : (j : Int) < 12 := by omega
 have hj2 : (0 : Int) ≤ (j : Int) := by omega
 clear hR hC
 rw [hl] at hc ⊢
 have HB := Lib.hid hb
 clear hb
 go_wp2_with fail
 refine (parseDn_c d (by omega) _).mono ?_
 rintro e w2 ⟨v, rfl, hR, hb⟩
 obtain ⟨A2, c2, rfl, hc2, hC⟩ := Kd.R_reads hR
 rw [HP.out] at hc2 hC ⊢
 obtain ⟨ad2, rfl, hc0, hc1⟩ := PD.at_T25 hC 0 (by decide) (by simp)
 have hpq0 : PD.rd_T25 (p :: q) 0 = p := rfl
 rw [hpq0] at hc0 hc1
 have ha2 : ad2.add ((0 : Int).toNat * 2) = ad2 := rfl
 rw [ha2] at hc0 hc1
 have hql : (0 : Int) < ((p :: q).length : Int) := by simp
 clear hR hC hcell
 have HB2 := Lib.hid hb
 clear hb
 go_upto_if 21 with (fail)
 generalize hw3 : w2.alloc (.cells #[.string p.f0, .string p.f1] 25) = w3
 go_cut [7] (fun v7 wc => ∃ s : ByteArray, v7 = .string s ∧ Hid (s.size ≤ 30 ∧ (s.toList == perL) = !(p.f0.toList == [111])) ∧ Hid (wc = w3))
 case first =>
  cases hx : (p.f0.toList == [111])
  ·go_wp2
   go_meet
   case rel => exact ⟨_, rfl, Lib.hid ⟨by decide, by rw [hx]; decide +kernel⟩, Lib.hid rfl⟩
  ·go_wp2
   go_meet
   case rel => exact ⟨_, rfl, Lib.hid ⟨by decide, by rw [hx]; decide +kernel⟩, Lib.hid rfl⟩
 case rest =>
  obtain ⟨s, rfl, HS, HW⟩ := hcut
  obtain rfl := HW.out
  subst hw3
  have hg0 : (w2.alloc (.cells #[.string p.f0, .string p.f1] 25)).heap[w2.heap.size]? = some (.cells #[.string p.f0, .string p.f1] 25 (0, 0)) := heap_alloc_new w2 _
  generalize hw3 : w2.alloc (.cells #[.string p.f0, .string p.f1] 25) = w3 at hg0 ⊢
  have g0 : w3.cell? ⟨w2.heap.size, 0, none⟩ = some (.string p.f0) := blk_cell hg0 0
  have g1 : w3.cell? ⟨w2.heap.size, 1, none⟩ = some (.string p.f1) := blk_cell hg0 1
  have HG := Lib.hid hg0
  clear hg0
  go_upto_if 24 with (fail)
  go_cut [7] (fun v7 wc => ∃ s : ByteArray, v7 = .string s ∧ Hid (s.size ≤ 30 ∧ (s.toList == perL) = personB d) ∧ Hid (wc = w3))
  case first =>
   have hPB : personB d = (!(p.f0.toList == [111]) && !(p.f0.toList == [111, 117])) := by unfold personB; rw [HP.out]
   have HPB := Lib.hid hPB
   clear hPB
   cases hx : (p.f0.toList == [111, 117])
   ·go_wp2
    go_meet
    case rel => exact ⟨_, rfl, Lib.hid ⟨HS.out.1, by rw [HS.out.2, HPB.out, hx]; simp⟩, Lib.hid rfl⟩
   ·go_wp2
    go_meet
    case rel => exact ⟨_, rfl, Lib.hid ⟨by decide, by rw [HPB.out, hx]; simp⟩, Lib.hid rfl⟩
  case rest =>
   obtain ⟨s, rfl, HS, HW⟩ := hcut
   obtain rfl := HW.out
   obtain ⟨wb, rfl⟩ : ∃ wb, wb = wc := ⟨wc, rfl⟩
   go_upto_region 8 with (fail)
   have HBW : Hid (Below w.heap.size w wb ∧ wb.heap[w.heap.size]? = some (.cells #[.string ⟨#[]⟩, .slice none 0 0] 51 (0, 0))) := Lib.hid (by
    have hb1 := HB.out
    have hb2 := HB2.out
    have e0 := blk_below (heap_alloc_new w (.cells #[.string ⟨#[]⟩, .slice none 0 0] 51)) hb1
    rw [← hw3]
    exact ⟨below_step (below_step (below_step (below_alloc (Below.refl _ _) _) hb1) hb2) (below_alloc (Below.refl _ _) _), blk_below (blk_below e0 hb2) (below_alloc (Below.refl _ _) _)⟩)
   go_cut [8] (fun v8 wd => ∃ g u xs, v8 = .pointer (some ⟨g, 0, none⟩) ∧ 3 ≤ xs.length ∧ Hid (Below wb.heap.size wb wd ∧ wb.heap.size ≤ g ∧ wd.heap[g]? = some (.cells #[.string d, u] 51 (0, 0)) ∧ xs.length = 3 ∧ V2 wb.heap.size wd u xs))
   case first =>
    have hg : w2.heap.size < wb.heap.size := blk_lt HG.out
    have hwn : IntKind.i64.wrap n = n := by rw [i64_w]; unfold wrap64; omega
    refine iv_ (fun W => Below wb.heap.size wb W) [19] TE [(0,0,some 25),(0,1,some 26),(1,2,some 27),(0,3,some 28),(1,4,some 29),(0,7,some 32),(0,10,some 35),(0,11,some 36)] (LE false false false false false false false) (by kernel_rfl) (by kernel_rfl) (by kernel_rfl) rfl (below_drew (Below.refl _ _)) (fun hS => ?_)
    generalize wb.drew = W at hS ⊢
    repeat (first
     | (refine sqi0 rfl ?_ (fun _ _ _ _ h => h) ?_; (focus rfl); apply Exists.intro; constructor; (focus (intro w'; go_simp; with_reducible rfl)); (simp only [Act.put, List.setIfInBounds_toArray, List.set_cons_zero, List.set_cons_succ]))
     | (refine sqi1 rfl ?_ (fun _ _ _ _ h => h) hS ?_; (focus rfl); apply Exists.intro; constructor; (focus (intro w' hS'; have x0 : w'.cell? ⟨w2.heap.size, 0, none⟩ = some (.string p.f0) := blk_cell ((hS'.block _ hg).trans HG.out) 0; have x1 : w'.cell? ⟨w2.heap.size, 1, none⟩ = some (.string p.f1) := blk_cell ((hS'.block _ hg).trans HG.out) 1; go_simp; with_reducible rfl)); (simp only [Act.put, List.setIfInBounds_toArray, List.set_cons_zero, List.set_cons_succ])))
    generalize hA : (Act.mk _ _) = a0
    refine iv_go (IE wb d a0) (IE.start a0 hS) ?_ ?_
    ·rintro l act W' ⟨b5, b8, bc, be, bg, bi, bj, v30, v31, v33, v34, v37, v38, v39, v40, v41, v42, v8, rfl, rfl, hF⟩ hr
     obtain ⟨rfl, rfl, rfl⟩ := doneE _ _ _ _ _ _ _ hr
     obtain ⟨g, rfl, hgg, _, h4⟩ := hF.2.2.2.2.2.2.1 rfl
     obtain ⟨u, xs, hgb, hl3, hv⟩ := h4 rfl
     subst hA
     (simp only [Act.put, List.setIfInBounds_toArray, List.set_cons_zero, List.set_cons_succ])
     go_wp2
     go_meet
     case rel => exact ⟨g, u, xs, rfl, by omega, Lib.hid ⟨hF.1, hgg, hgb, hl3, hv⟩⟩
    ·rintro l act W' ix ⟨b5, b8, bc, be, bg, bi, bj, v30, v31, v33, v34, v37, v38, v39, v40, v41, v42, v8, rfl, rfl, hF⟩ hi hra
     have hx := readyE _ _ _ _ _ _ _ ⟨ix, hi⟩ hra
     simp only at hx
     subst hA
     obtain ⟨rfl, rfl⟩ | ⟨rfl, rfl⟩ | ⟨rfl, rfl⟩ | ⟨rfl, rfl, rfl⟩ | ⟨rfl, rfl, rfl, rfl, rfl⟩ | ⟨rfl, rfl⟩ | ⟨rfl, rfl, rfl, rfl⟩ := hx
     ·have hb := below_alloc (Below.refl W'.heap.size W') (.cells #[.string p.f1] 9)
      have hv := v1_lit wb.heap.size W' p.f0 p.f1 hF.1.size (by omega)
      refine iv_value (n := some 30) [(0,6,some 31)] (w1 := W'.alloc (.cells #[.string p.f1] 9)) (v := .slice (some ⟨W'.heap.size, 0, none⟩) 1 1) rfl rfl (ok5 _ _ _ _ _ _) (by kernel_rfl) rfl ?_ (fun h => below_step h hb) ?_
      ·go_simp
      ·obtain ⟨h1, h2, h3, h4, h5, h6, h7, h8⟩ := hF.step hb
       refine sqk rfl ?_ (fun _ _ _ _ h => h) ?_
       ·rfl
       ·apply Exists.intro
        constructor
        ·intro w'
         go_simp
         with_reducible rfl
        ·refine ⟨true, b8, bc, be, bg, bi, bj, .slice (some ⟨W'.heap.size, 0, none⟩) 1 1, .agg #[.string p.f0, .slice (some ⟨W'.heap.size, 0, none⟩) 1 1], v33, v34, v37, v38, v39, v40, v41, v42, v8, rfl, ?_, h1, fun _ _ => hv, h3, h4, h5, h6, h7, h8⟩
         (simp only [Act.put, List.setIfInBounds_toArray, List.set_cons_zero, List.set_cons_succ])
     ·have hb := below_alloc (Below.refl W'.heap.size W') (.cells #[.string s] 9)
      have hv := v1_lit wb.heap.size W' ⟨#[111, 98, 106, 101, 99, 116, 99, 108, 97, 115, 115]⟩ s hF.1.size (by decide)
      refine iv_value (n := some 33) [(0,9,some 34)] (w1 := W'.alloc (.cells #[.string s] 9)) (v := .slice (some ⟨W'.heap.size, 0, none⟩) 1 1) rfl rfl (ok8 _ _ _ _ _ _) (by kernel_rfl) rfl ?_ (fun h => below_step h hb) ?_
      ·go_simp
      ·obtain ⟨h1, h2, h3, h4, h5, h6, h7, h8⟩ := hF.step hb
       refine sqk rfl ?_ (fun _ _ _ _ h => h) ?_
       ·rfl
       ·apply Exists.intro
        constructor
        ·intro w'
         go_simp
         with_reducible rfl
        ·refine ⟨b5, true, bc, be, bg, bi, bj, v30, v31, .slice (some ⟨W'.heap.size, 0, none⟩) 1 1, .agg #[.string ⟨#[111, 98, 106, 101, 99, 116, 99, 108, 97, 115, 115]⟩, .slice (some ⟨W'.heap.size, 0, none⟩) 1 1], v37, v38, v39, v40, v41, v42, v8, rfl, ?_, h1, h2, fun _ _ => hv, h4, h5, h6, h7, h8⟩
         (simp only [Act.put, List.setIfInBounds_toArray, List.set_cons_zero, List.set_cons_succ])
     ·refine iv_call (n := some 37) [(0,13,some 38)] rfl rfl (ok12 _ _ _ _ _ _) (by kernel_rfl) Tryd.func61 (by kernel_rfl) rfl #[.int .i64 n] rfl rfl ?_ ?_
      ·(simp only [List.map_toArray, List.map_cons, List.map_nil, Act.put, List.setIfInBounds_toArray, List.set_cons_zero, List.set_cons_succ])
       first | done | rfl
      ·refine (digits_c n hn0 hn1 _).mono ?_
       rintro e w5 ⟨s5, hz5, rfl, hb⟩
       have hz6 : ¬ 9223372036854775807 < 1 + s5.size := by omega
       refine ⟨_, rfl, fun h => below_step h hb, ?_⟩
       obtain ⟨h1, h2, h3, h4, h5, h6, h7, h8⟩ := hF.step hb
       refine sqk rfl ?_ (fun _ _ _ _ h => h) ?_
       ·rfl
       ·apply Exists.intro
        constructor
        ·intro w'
         go_simp
         with_reducible rfl
        ·refine ⟨b5, b8, true, be, bg, bi, bj, v30, v31, v33, v34, .string s5, .string (⟨#[100]⟩ ++ s5), v39, v40, v41, v42, v8, rfl, ?_, h1, h2, h3, fun _ _ => ⟨_, rfl⟩, h5, h6, h7, h8⟩
         (simp only [Act.put, List.setIfInBounds_toArray, List.set_cons_zero, List.set_cons_succ])
     ·obtain ⟨s5, rfl⟩ := hF.2.2.2.1 rfl rfl
      have hb := below_alloc (Below.refl W'.heap.size W') (.cells #[.string s5] 9)
      have hv := v1_lit wb.heap.size W' ⟨#[100, 101, 115, 99, 114, 105, 112, 116, 105, 111, 110]⟩ s5 hF.1.size (by decide)
      refine iv_value (n := some 39) [(0,15,some 40)] (w1 := W'.alloc (.cells #[.string s5] 9)) (v := .slice (some ⟨W'.heap.size, 0, none⟩) 1 1) rfl rfl (ok14 _ _ _ _ _ _) (by kernel_rfl) rfl ?_ (fun h => below_step h hb) ?_
      ·go_simp
      ·obtain ⟨h1, h2, h3, h4, h5, h6, h7, h8⟩ := hF.step hb
       refine sqk rfl ?_ (fun _ _ _ _ h => h) ?_
       ·rfl
       ·apply Exists.intro
        constructor
        ·intro w'
         go_simp
         with_reducible rfl
        ·refine ⟨b5, b8, true, true, bg, bi, bj, v30, v31, v33, v34, v37, .string s5, .slice (some ⟨W'.heap.size, 0, none⟩) 1 1, .agg #[.string ⟨#[100, 101, 115, 99, 114, 105, 112, 116, 105, 111, 110]⟩, .slice (some ⟨W'.heap.size, 0, none⟩) 1 1], v41, v42, v8, rfl, ?_, h1, h2, h3, fun _ h => Bool.noConfusion h, fun _ _ => hv, h6, h7, h8⟩
         (simp only [Act.put, List.setIfInBounds_toArray, List.set_cons_zero, List.set_cons_succ])
     ·obtain ⟨s1, x1, k1, A1, rfl, z1, R1⟩ := hF.2.1 rfl rfl
      obtain ⟨s2, x2, k2, A2', rfl, z2, R2⟩ := hF.2.2.1 rfl rfl
      obtain ⟨s3, x3, k3, A3, rfl, z3, R3⟩ := hF.2.2.2.2.1 rfl rfl
      refine iv_law (n := some 41) [(0,17,some 42)] rfl rfl (ok16 _ _ _ _ _ _) (by kernel_rfl) (fun K hK => ?_)
      refine Kd.R_lit_step k69 (w0 := wb) (W := W') wb.heap.size 69 (by rfl) (N := 41) rfl (xs := [⟨s1, [x1]⟩, ⟨s2, [x2]⟩, ⟨s3, [x3]⟩]) (inner := [.string s1, .slice A1 1 k1, .string s2, .slice A2' 1 k2, .string s3, .slice A3 1 k3]) (ok := fun _ => True) (okp := fun _ => True) (by go_simp) (reps3 R1 R2 R3) (fun _ _ => trivial) trivial hF.1 hF.1.size (by simp) ?_
      intro v1 w5 hR5 hB5 hg5 _
      obtain ⟨A5, k5, hv5⟩ := Kd.R_slice hR5
      have hv6 : v1 = .slice A5 3 k5 := hv5
      subst hv6
      refine hK _ _ (fun _ => hB5) ?_
      obtain ⟨h1, h2, h3, h4, h5, h6, h7, h8⟩ := hF
      refine sqk rfl ?_ (fun _ _ _ _ h => h) ?_
      ·rfl
      ·apply Exists.intro
       constructor
       ·intro w'
        go_simp
        with_reducible rfl
       ·refine ⟨true, true, bc, true, true, bi, bj, v30, .agg #[.string s1, .slice A1 1 k1], v33, .agg #[.string s2, .slice A2' 1 k2], v37, v38, v39, .agg #[.string s3, .slice A3 1 k3], .slice A5 3 k5, .agg #[.string d, .slice A5 3 k5], v8, rfl, ?_, hB5, fun _ h => Bool.noConfusion h, fun _ h => Bool.noConfusion h, h4, fun _ h => Bool.noConfusion h, fun _ _ => ⟨_, _, rfl, rfl, by simp, by simp, fit3 z1 z2 z3, hR5⟩, fun h => ?_, fun h => Bool.noConfusion (h8 h).1⟩
        ·(simp only [Act.put, List.setIfInBounds_toArray, List.set_cons_zero, List.set_cons_succ])
         rfl
        ·obtain ⟨g, e, hgg, k1', k2'⟩ := h7 h
         exact ⟨g, e, hgg, fun hj => blk_grown (k1' hj) hg5 (fun h => by cases h), fun h => Bool.noConfusion (h8 h).1⟩
     ·have hb := below_alloc (Below.refl W'.heap.size W') (.cells #[.string ⟨#[]⟩, .slice none 0 0] 51)
      refine iv_value (n := some 8) [] (w1 := W'.alloc (.cells #[.string ⟨#[]⟩, .slice none 0 0] 51)) (v := .pointer (some ⟨W'.heap.size, 0, none⟩)) rfl rfl rfl rfl rfl ?_ (fun h => below_step h hb) ?_
      ·go_simp
      ·have hs := hF.1.size
       obtain ⟨h1, h2, h3, h4, h5, h6, h7, h8⟩ := hF.step hb
       refine ⟨b5, b8, bc, be, bg, true, bj, v30, v31, v33, v34, v37, v38, v39, v40, v41, v42, .pointer (some ⟨W'.heap.size, 0, none⟩), rfl, ?_, h1, h2, h3, h4, h5, h6, fun _ => ⟨W'.heap.size, rfl, hs, fun _ => heap_alloc_new W' _, fun h => Bool.noConfusion (h8 h).2⟩, fun h => Bool.noConfusion (h8 h).2⟩
       (simp only [Act.put, List.setIfInBounds_toArray, List.set_cons_zero, List.set_cons_succ])
     ·obtain ⟨h1, h2, h3, h4, h5, h6, h7, h8⟩ := hF
      obtain ⟨u, xs, rfl, hl3, hv⟩ := h6 rfl rfl
      obtain ⟨g, rfl, hgg, k1, _⟩ := h7 rfl
      have k1 := k1 rfl
      obtain ⟨A5, k5, rfl⟩ := Kd.R_slice hv.2.2.2
      have y0 : W'.cell? ⟨g, 0, none⟩ = some (.string ⟨#[]⟩) := blk_cell k1 0
      have y1 : W'.cell? ⟨g, 1, none⟩ = some (.slice none 0 0) := blk_cell k1 1
      have f0 := blk_frozen k1 0
      have f1 := blk_frozen k1 1
      refine iv_store (w1 := (W'.setCell ⟨g, 0, none⟩ (.string d)).setCell ⟨g, 1, none⟩ (.slice A5 xs.length k5)) rfl rfl (by decide) rfl ?_ ?_
      ·go_simp
      ·have hR5 := Kd.R_set (Kd.R_set hv.2.2.2 k1 (by decide) 0 (.string d)) (blk_set k1 0 (.string d)) (by decide) 1 (.slice A5 xs.length k5)
       exact ⟨b5, b8, bc, be, true, true, true, v30, v31, v33, v34, v37, v38, v39, v40, v41, _, _, rfl, rfl, (h1.setCell hgg _).setCell hgg _, fun _ h => Bool.noConfusion h, fun _ h => Bool.noConfusion h, h4, fun _ h => Bool.noConfusion h, fun _ h => Bool.noConfusion h, fun _ => ⟨g, rfl, hgg, fun h => Bool.noConfusion h, fun _ => ⟨_, xs, blk_set (blk_set k1 0 _) 1 _, hl3, hv.1, hv.2.1, hv.2.2.1, hR5⟩⟩, fun _ => ⟨rfl, rfl⟩⟩
   case rest =>
    obtain ⟨g, u, xs, rfl, hl0, H8⟩ := hcut
    obtain ⟨A8, k8, rfl⟩ := Kd.R_slice H8.out.2.2.2.2.2.2.2
    clear HG g0 g1 hw3 HW
    have hwn : IntKind.i64.wrap n = n := by rw [i64_w]; unfold wrap64; omega
    have hm0 : 0 ≤ n.tmod 4 := Int.tmod_nonneg 4 hn0
    have hm1 : n.tmod 4 < 4 := Int.tmod_lt_of_pos n (by decide)
    go_upto_if 44 with (fail)
    go_cut [] (fun wd => ∃ u xs, Hid (RE wb d (personB d) g u xs wd))
    case first =>
     cases hp : personB d
     ·have hcls : (s.toList == [112, 101, 114, 115, 111, 110]) = false := by have h := HS.out.2; rw [hp] at h; exact h
      rw [hcls]
      go_wp2
      go_meet
      case rel => exact ⟨_, xs, Lib.hid ⟨H8.out.1, H8.out.2.1, H8.out.2.2.1, fun _ => H8.out.2.2.2.1, H8.out.2.2.2.2⟩⟩
     ·have hcls : (s.toList == [112, 101, 114, 115, 111, 110]) = true := by have h := HS.out.2; rw [hp] at h; exact h
      rw [hcls]
      go_upto_region 10 with (fail)
      go_cut [] (fun wd => ∃ u xs, Hid (RE wb d true g u xs wd ∧ xs.length = 4))
      case first =>
       have hR8 : RE wb d true g (.slice A8 xs.length k8) xs wc := ⟨H8.out.1, H8.out.2.1, H8.out.2.2.1, fun h => Bool.noConfusion h, H8.out.2.2.2.2⟩
       have hxl : xs.length = 3 := H8.out.2.2.2.1
       refine sq_ (RE wb d true g (.slice A8 xs.length k8) xs) [10, 12] [(0,0,some 45),(1,1,some 46),(0,2,some 47),(0,3,some 48),(0,4,some 49),(2,5,some 50),(0,6,some 51),(2,7,some 52),(0,8,some 53),(2,9,some 54),(3,10,some 55),(0,11,some 56),(3,12,none)] (by kernel_rfl) (by kernel_rfl) (hR8.step (below_drew (Below.refl _ _))) (fun hS => ?_)
       have HXL := Lib.hid hxl
       clear hR8 hxl
       generalize wc.drew = W at hS ⊢
       repeat (first
        | (refine sq0 rfl ?_ (fun _ _ _ _ h => h) ?_; (focus rfl); apply Exists.intro; constructor; (focus (intro w'; go_simp; with_reducible rfl)); (simp only [Act.put, List.setIfInBounds_toArray, List.set_cons_zero, List.set_cons_succ]))
        | (refine sq1 rfl ?_ (fun _ _ _ _ h => h) hS ?_; (focus rfl); apply Exists.intro; constructor; (focus (intro w' hS'; have x1 : w'.cell? ⟨g, 1, none⟩ = some (.slice A8 xs.length k8) := blk_cell hS'.2.2.1 1; go_simp; with_reducible rfl)); (simp only [Act.put, List.setIfInBounds_toArray, List.set_cons_zero, List.set_cons_succ]))
        | (refine sq_call rfl Tryd.func61 (by kernel_rfl) rfl #[.int .i64 (n.tmod 4)] rfl ?_ rfl ?_ ?_; (focus rfl); (focus ((try simp only [List.map_toArray, List.map_cons, List.map_nil]); first | done | rfl)); refine (digits_c _ hm0 (by omega) _).mono ?_; rintro e w5 ⟨s5, hz5, rfl, hb⟩; have hz6 : ¬ 9223372036854775807 < 1 + s5.size := (by omega); refine ⟨_, rfl, hS.step hb, fun hS2 => ?_⟩; clear hS hb; have hS := hS2; clear hS2; (simp only [Act.put, List.setIfInBounds_toArray, List.set_cons_zero, List.set_cons_succ])))
       generalize hst : (⟨#[115]⟩ ++ s5 : ByteArray) = st
       clear W
       obtain ⟨W, rfl⟩ : ∃ x, x = w5 := ⟨w5, rfl⟩
       have hwb : wb.heap.size ≤ W.heap.size := hS.1.size
       have hown : Hid (∀ k, (Value.slice A8 xs.length k8).ownBlock = some k → k < W.heap.size) := Lib.hid (Kd.R_mono (Kd.R_bound hS.2.2.2.2.2.2.2) (ok' := fun k => k < W.heap.size) (fun _ h => h.2.2.1)).1
       refine sq_value (w1 := W.alloc (.cells #[.string st] 9)) (v := .slice (some ⟨W.heap.size, 0, none⟩) 1 1) rfl rfl rfl (by go_simp) (hS.step (below_alloc (Below.refl _ _) _)) (fun hS2 => ?_)
       (simp only [Act.put, List.setIfInBounds_toArray, List.set_cons_zero, List.set_cons_succ])
       (refine sq0 rfl ?_ (fun _ _ _ _ h => h) ?_; (focus rfl); apply Exists.intro; constructor; (focus (intro w'; go_simp; with_reducible rfl)); (simp only [Act.put, List.setIfInBounds_toArray, List.set_cons_zero, List.set_cons_succ]))
       have hR1 : Kd.R Kd.string 9 (W.alloc (.cells #[.string st] 9)) wb.heap.size (fun k => k = W.heap.size) (.slice (some ⟨W.heap.size, 0, none⟩) 1 1) [st] := Kd.R_of_own (own_lit_of (enc := Value.string) W wb.heap.size 9 [st] hwb (by simp)) (fun k hk => by simpa [Value.ownBlock] using hk.symm)
       generalize hW1 : W.alloc (.cells #[.string st] 9) = W1 at hS2 hR1 ⊢
       refine sq_value (w1 := W1.alloc (.cells #[.string ⟨#[115, 110]⟩, .slice (some ⟨W.heap.size, 0, none⟩) 1 1] 69)) (v := .slice (some ⟨W1.heap.size, 0, none⟩) 1 1) rfl rfl rfl (by go_simp) (hS2.step (below_alloc (Below.refl _ _) _)) (fun _ => ?_)
       (simp only [Act.put, List.setIfInBounds_toArray, List.set_cons_zero, List.set_cons_succ])
       refine sq3 rfl (fun K hK => ?_)
       refine Kd.R_append_step k69 (w0 := wb) (W := W1) wb.heap.size (by rfl) (.tmp 46) (.tmp 54) 49 69 (.agg #[.string ⟨#[]⟩, .slice none 0 0]) 40 rfl Tryd.underlying49 PA.info69 rfl (by decide) (by decide) (.slice A8 xs.length k8) xs ⟨⟨#[115, 110]⟩, [st]⟩ [.string ⟨#[115, 110]⟩, .slice (some ⟨W.heap.size, 0, none⟩) 1 1] (fun _ => True) (fun k => k = W.heap.size) rfl rfl (k69_mkM _ _ _ _ hR1) (fun k hk => ⟨trivial, fun e => by have := hown.out k e.symm; omega⟩) (fun _ _ => trivial) hS2.2.2.2.2.2.2.2 hS2.1 hS2.1.size (by have := hS2.2.2.2.2.2.1; omega) ?_
       intro v1 w6 hR6 hB6 hg6 _
       obtain ⟨A9, k9, hv9⟩ := Kd.R_slice hR6
       rw [List.length_append, List.length_singleton] at hv9
       subst hv9
       have hb6 := blk_grown hS2.2.2.1 hg6 (Kd.R_ne hS2.2.2.2.2.2.2.2 hS2.2.2.1 (by decide))
       have HV := Lib.hid hS2.2.2.2.2
       refine hK _ _ ?_
       (simp only [Act.put, List.setIfInBounds_toArray, List.set_cons_zero, List.set_cons_succ])
       (refine sq0 rfl ?_ (fun _ _ _ _ h => h) ?_; (focus rfl); apply Exists.intro; constructor; (focus (intro w'; go_simp; with_reducible rfl)); (simp only [Act.put, List.setIfInBounds_toArray, List.set_cons_zero, List.set_cons_succ]))
       have y1 : w6.cell? ⟨g, 1, none⟩ = some (.slice A8 xs.length k8) := blk_cell hb6 1
       have f1 := blk_frozen hb6 1
       refine sq_store (w1 := w6.setCell ⟨g, 1, none⟩ (.slice A9 (xs.length + 1) k9)) rfl rfl rfl (by go_simp) ?_
       refine sq_end ?_
       have hgg := hS2.2.1
       clear y1 f1
       go_wp2
       go_meet
       case rel => exact ⟨_, xs ++ [⟨⟨#[115, 110]⟩, [st]⟩], Lib.hid ⟨⟨hB6.setCell hgg _, hgg, blk_set hb6 1 _, fun h => Bool.noConfusion h, by rw [List.length_append, List.length_singleton]; have := HXL.out; omega, by rw [List.length_append, List.length_singleton]; have := HXL.out; omega, fit_snoc HV.out.2.2.1 (by decide), Kd.R_set hR6 hb6 (by decide) 1 _⟩, by rw [List.length_append, List.length_singleton, HXL.out]⟩⟩
      case rest =>
       obtain ⟨u, xs, H9⟩ := hcut
       obtain ⟨A8, k8, rfl⟩ := Kd.R_slice H9.out.1.2.2.2.2.2.2.2
       go_upto_if 59 with (fail)
       cases hn3 : (n % 3 == 0)
       ·go_wp2
        go_meet
        case rel => exact ⟨_, xs, Lib.hid (by rw [hp]; exact H9.out.1)⟩
       ·go_upto_region 12 with (fail)
        have hR8 : RE wb d true g (.slice A8 xs.length k8) xs wc := H9.out.1
        have hxl : xs.length = 4 := H9.out.2
        refine sq_ (RE wb d true g (.slice A8 xs.length k8) xs) [8, 10] [(0,0,some 60),(1,1,some 61),(0,2,some 62),(2,3,some 63),(0,4,some 64),(2,5,some 65),(0,6,some 66),(2,7,some 67),(3,8,some 68),(0,9,some 69),(3,10,none)] (by kernel_rfl) (by kernel_rfl) (hR8.step (below_drew (Below.refl _ _))) (fun hS => ?_)
        have HXL := Lib.hid hxl
        clear hR8 hxl
        generalize wc.drew = W at hS ⊢
        repeat (first
         | (refine sq0 rfl ?_ (fun _ _ _ _ h => h) ?_; (focus rfl); apply Exists.intro; constructor; (focus (intro w'; go_simp; with_reducible rfl)); (simp only [Act.put, List.setIfInBounds_toArray, List.set_cons_zero, List.set_cons_succ]))
         | (refine sq1 rfl ?_ (fun _ _ _ _ h => h) hS ?_; (focus rfl); apply Exists.intro; constructor; (focus (intro w' hS'; have x1 : w'.cell? ⟨g, 1, none⟩ = some (.slice A8 xs.length k8) := blk_cell hS'.2.2.1 1; go_simp; with_reducible rfl)); (simp only [Act.put, List.setIfInBounds_toArray, List.set_cons_zero, List.set_cons_succ]))
         | (refine sq_call rfl Tryd.func61 (by kernel_rfl) rfl #[.int .i64 i] rfl ?_ rfl ?_ ?_; (focus rfl); (focus ((try simp only [List.map_toArray, List.map_cons, List.map_nil]); first | done | rfl)); refine (digits_c _ h0 h1 _).mono ?_; rintro e w5 ⟨s5, hz5, rfl, hb⟩; have hz6 : ¬ 9223372036854775807 < 2 + s5.size := (by omega); refine ⟨_, rfl, hS.step hb, fun hS2 => ?_⟩; clear hS hb; have hS := hS2; clear hS2; (simp only [Act.put, List.setIfInBounds_toArray, List.set_cons_zero, List.set_cons_succ])))
        generalize hst : (⟨#[112, 119]⟩ ++ s5 : ByteArray) = st
        clear W
        obtain ⟨W, rfl⟩ : ∃ x, x = w5 := ⟨w5, rfl⟩
        have hwb : wb.heap.size ≤ W.heap.size := hS.1.size
        have hown : Hid (∀ k, (Value.slice A8 xs.length k8).ownBlock = some k → k < W.heap.size) := Lib.hid (Kd.R_mono (Kd.R_bound hS.2.2.2.2.2.2.2) (ok' := fun k => k < W.heap.size) (fun _ h => h.2.2.1)).1
        refine sq_value (w1 := W.alloc (.cells #[.string st] 9)) (v := .slice (some ⟨W.heap.size, 0, none⟩) 1 1) rfl rfl rfl (by go_simp) (hS.step (below_alloc (Below.refl _ _) _)) (fun hS2 => ?_)
        (simp only [Act.put, List.setIfInBounds_toArray, List.set_cons_zero, List.set_cons_succ])
        (refine sq0 rfl ?_ (fun _ _ _ _ h => h) ?_; (focus rfl); apply Exists.intro; constructor; (focus (intro w'; go_simp; with_reducible rfl)); (simp only [Act.put, List.setIfInBounds_toArray, List.set_cons_zero, List.set_cons_succ]))
        have hR1 : Kd.R Kd.string 9 (W.alloc (.cells #[.string st] 9)) wb.heap.size (fun k => k = W.heap.size) (.slice (some ⟨W.heap.size, 0, none⟩) 1 1) [st] := Kd.R_of_own (own_lit_of (enc := Value.string) W wb.heap.size 9 [st] hwb (by simp)) (fun k hk => by simpa [Value.ownBlock] using hk.symm)
        generalize hW1 : W.alloc (.cells #[.string st] 9) = W1 at hS2 hR1 ⊢
        refine sq_value (w1 := W1.alloc (.cells #[.string ⟨#[117, 115, 101, 114, 112, 97, 115, 115, 119, 111, 114, 100]⟩, .slice (some ⟨W.heap.size, 0, none⟩) 1 1] 69)) (v := .slice (some ⟨W1.heap.size, 0, none⟩) 1 1) rfl rfl rfl (by go_simp) (hS2.step (below_alloc (Below.refl _ _) _)) (fun _ => ?_)
        (simp only [Act.put, List.setIfInBounds_toArray, List.set_cons_zero, List.set_cons_succ])
        refine sq3 rfl (fun K hK => ?_)
        refine Kd.R_append_step k69 (w0 := wb) (W := W1) wb.heap.size (by rfl) (.tmp 61) (.tmp 67) 49 69 (.agg #[.string ⟨#[]⟩, .slice none 0 0]) 40 rfl Tryd.underlying49 PA.info69 rfl (by decide) (by decide) (.slice A8 xs.length k8) xs ⟨⟨#[117, 115, 101, 114, 112, 97, 115, 115, 119, 111, 114, 100]⟩, [st]⟩ [.string ⟨#[117, 115, 101, 114, 112, 97, 115, 115, 119, 111, 114, 100]⟩, .slice (some ⟨W.heap.size, 0, none⟩) 1 1] (fun _ => True) (fun k => k = W.heap.size) rfl rfl (k69_mkM _ _ _ _ hR1) (fun k hk => ⟨trivial, fun e => by have := hown.out k e.symm; omega⟩) (fun _ _ => trivial) hS2.2.2.2.2.2.2.2 hS2.1 hS2.1.size (by have := hS2.2.2.2.2.2.1; omega) ?_
        intro v1 w6 hR6 hB6 hg6 _
        obtain ⟨A9, k9, hv9⟩ := Kd.R_slice hR6
        rw [List.length_append, List.length_singleton] at hv9
        subst hv9
        have hb6 := blk_grown hS2.2.2.1 hg6 (Kd.R_ne hS2.2.2.2.2.2.2.2 hS2.2.2.1 (by decide))
        have HV := Lib.hid hS2.2.2.2.2
        refine hK _ _ ?_
        (simp only [Act.put, List.setIfInBounds_toArray, List.set_cons_zero, List.set_cons_succ])
        (refine sq0 rfl ?_ (fun _ _ _ _ h => h) ?_; (focus rfl); apply Exists.intro; constructor; (focus (intro w'; go_simp; with_reducible rfl)); (simp only [Act.put, List.setIfInBounds_toArray, List.set_cons_zero, List.set_cons_succ]))
        have y1 : w6.cell? ⟨g, 1, none⟩ = some (.slice A8 xs.length k8) := blk_cell hb6 1
        have f1 := blk_frozen hb6 1
        refine sq_store (w1 := w6.setCell ⟨g, 1, none⟩ (.slice A9 (xs.length + 1) k9)) rfl rfl rfl (by go_simp) ?_
        refine sq_end ?_
        have hgg := hS2.2.1
        clear y1 f1
        go_wp2
        go_meet
        case rel => exact ⟨_, xs ++ [⟨⟨#[117, 115, 101, 114, 112, 97, 115, 115, 119, 111, 114, 100]⟩, [st]⟩], Lib.hid ⟨hB6.setCell hgg _, hgg, blk_set hb6 1 _, fun h => by rw [hp] at h; exact Bool.noConfusion h, by rw [List.length_append, List.length_singleton]; have := HXL.out; omega, by rw [List.length_append, List.length_singleton]; have := HXL.out; omega, fit_snoc HV.out.2.2.1 (by decide), Kd.R_set hR6 hb6 (by decide) 1 _⟩⟩
    case rest =>
     obtain ⟨u, xs, H9⟩ := hcut
     obtain ⟨hB, hgg, hgb, hx3, hv⟩ := H9.out
     obtain ⟨A8, k8, rfl, hk8, hC8⟩ := Kd.R_reads hv.2.2.2
     have z0 : wc.cell? ⟨g, 0, none⟩ = some (.string d) := blk_cell hgb 0
     have z1 : wc.cell? ⟨g, 1, none⟩ = some (.slice A8 xs.length k8) := blk_cell hgb 1
     have hlw : w.heap.size < wb.heap.size := blk_lt HBW.out.2
     have hE := (hB.block _ hlw).trans HBW.out.2
     have hBW := HBW.out.1.trans (hB.mono (Nat.le_of_lt hlw))
     have HX := Lib.hid (And.intro hx3 (And.intro hv.1 (And.intro hE hBW)))
     have HA : Hid (AttrsOk xs) := Lib.hid ⟨by have := hv.2.1; omega, hv.2.2.1⟩
     have HC8 := Lib.hid hC8
     clear hB hgg hgb hx3 hv hE hBW hC8 H8 H9
     go_wp2_with fail
     refine (norm_c d xs A8 k8 _ (by omega) HC8.out hk8 HA.out).mono ?_
     rintro e w9 ⟨l, hll, hla, v9, rfl, hR9, hb9⟩
     rw [HN.out]
     have HLL := Lib.hid hll
     clear hll
     obtain ⟨A9, k9, rfl⟩ := Kd.R_slice hR9
     have hE := blk_below HX.out.2.2.1 hb9
     have y0 : w9.cell? ⟨w.heap.size, 0, none⟩ = some (.string ⟨#[]⟩) := blk_cell hE 0
     have y1 : w9.cell? ⟨w.heap.size, 1, none⟩ = some (.slice none 0 0) := blk_cell hE 1
     have f0 := blk_frozen hE 0
     have f1 := blk_frozen hE 1
     have hr1' := blk_set (blk_set hE 0 (.string d)) 1 (.slice A9 l.length k9)
     have HR9 := Lib.hid (Kd.R_set (Kd.R_set hR9 hE (by decide) 0 (.string d)) (blk_set hE 0 (.string d)) (by decide) 1 (.slice A9 l.length k9))
     have hB9 := below_set (j := 1) (v := .slice A9 l.length k9) (below_set (g := w.heap.size) (j := 0) (v := .string d) (below_step HX.out.2.2.2 hb9) (Nat.le_refl _)) (g := w.heap.size) (Nat.le_refl _)
     go_wp2
     refine bodyPost_ret (results_cell_row rfl _ _ w.heap.size 51 #[.string d, .slice A9 l.length k9] (0, 0) _ rfl hr1' Tryd.underlying51 rfl (by kernel_rfl)) rfl ?_
     obtain ⟨A', c', e, hl, hC⟩ := Kd.R_reads HR9.out
     cases e
     exact ⟨l, by rw [HLL.out]; exact HX.out.2.1, fun hp => by rw [HLL.out]; exact HX.out.1 hp, hla, _, _, rfl, hl, hC, hB9⟩
end Go.Proofs.YtflkghdndffacaaDoor.C
namespace Go.Proofs.YtflkghdndffacaaDoor.C
open Go.RowKit Go.Proofs.YtflkghdndffacaaDoor.Sq Go.Proofs.YtflkghdndffacaaDoor.H Go.Proofs.YtflkghdndffacaaDoor.PA Go.Proofs.YtflkghdndffacaaDoor.Pure Go.Proofs.YtflkghdndffacaaDoorW.PrintWords Go.Proofs.YtflkghdndffacaaDoorW.PrintLast Go.Proofs.YtflkghdndffacaaDoorW.PrintMore
set_option linter.unusedVariables false
set_option linter.unusedSimpArgs false
def RM (w wo : World) (v8 : Value) (xs : List S54) (g : Nat) (r : S54) (u : Value) (W : World) : Prop :=
 Below w.heap.size w W ∧ Kd.R k54 54 W w.heap.size (fun k => k < wo.heap.size) v8 xs ∧ wo.heap.size ≤ g ∧ Below wo.heap.size wo W ∧ w.heap.size ≤ wo.heap.size ∧ W.heap[g]? = some (.cells #[.int .i64 r.f0, .string r.f1, .string r.f2, .bool r.f3, u, .int .i64 r.f5] 54 (0, 0)) ∧ Kd.R Kd.string 9 W wo.heap.size (fun _ => True) u r.f4
theorem RM.step {w wo W W1 : World} {v8 : Value} {xs : List S54} {g : Nat} {r : S54} {u : Value} (h : RM w wo v8 xs g r u W) (hb : Below W.heap.size W W1) : RM w wo v8 xs g r u W1 :=
 ⟨below_step h.1 hb, Kd.R_below h.2.1 hb, h.2.2.1, below_step h.2.2.2.1 hb, h.2.2.2.2.1, blk_below h.2.2.2.2.2.1 hb, Kd.R_below h.2.2.2.2.2.2 hb⟩
theorem RM.dn {w wo W : World} {v8 : Value} {xs : List S54} {g : Nat} {n : Int} {s t : ByteArray} {b : Bool} {l : List ByteArray} {m : Int} {u : Value} (h : RM w wo v8 xs g ⟨n, s, t, b, l, m⟩ u W) (s' : ByteArray) : RM w wo v8 xs g ⟨n, s', t, b, l, m⟩ u (W.setCell ⟨g, 1, none⟩ (.string s')) :=
 ⟨below_set h.1 (Nat.le_trans h.2.2.2.2.1 h.2.2.1), Kd.R_far h.2.1 (fun k (hk : k < wo.heap.size) => by have := h.2.2.1; show k ≠ g; omega) _, h.2.2.1, below_set h.2.2.2.1 h.2.2.1, h.2.2.2.2.1, blk_set h.2.2.2.2.2.1 1 _, Kd.R_set h.2.2.2.2.2.2 h.2.2.2.2.2.1 (by decide) 1 _⟩
end Go.Proofs.YtflkghdndffacaaDoor.C
namespace Go.Proofs.YtflkghdndffacaaDoor.C
open Go.RowKit Go.Proofs.YtflkghdndffacaaDoor.Sq Go.Proofs.YtflkghdndffacaaDoor.H Go.Proofs.YtflkghdndffacaaDoor.PA Go.Proofs.YtflkghdndffacaaDoor.Pure Go.Proofs.YtflkghdndffacaaDoorW.PrintWords Go.Proofs.YtflkghdndffacaaDoorW.PrintLast Go.Proofs.YtflkghdndffacaaDoorW.PrintMore
set_option linter.unusedVariables false
set_option linter.unusedSimpArgs false
theorem rules_at {W : World} {b : Nat} {cs : Array Value} (hb : W.heap[b]? = some (.cells cs 54 (0, 0))) (rs : List S54) (hl : rs.length ≤ 9223372036854775807) (h : ∀ k r, rs[k]? = some r → ∃ A4 c4, r.f4.length ≤ c4 ∧ Kd.string.C W A4 r.f4.length r.f4 ∧ ∀ j v, (ruleV r A4 c4)[j]? = some v → cs[k * 6 + j]? = some v) : Kd.C k54 W (some ⟨b, 0, none⟩) rs.length rs := by
 refine ⟨rfl, hl, fun _ => ⟨⟨b, 0, none⟩, rfl, fun j p hj => ?_⟩⟩
 obtain ⟨A4, c4, l4, g4, hc⟩ := h j p hj
 refine ⟨_, rfl, k54_mk W p l4 g4, fun i u hu => ?_⟩
 have e : W.cell? ⟨b, 0 + (j * 6 + i), none⟩ = some u := by
  rw [Nat.zero_add, blk_cell hb]
  refine hc i u ?_
  rw [← hu]
  simp [ruleV]
 have hsz : k54.sz = 6 := rfl
 rw [hsz]
 have ha : (⟨b, 0, none⟩ : Addr).add (j * 6 + i) = ⟨b, 0 + (j * 6 + i), none⟩ := by
  unfold Addr.add
  split
  ·rename_i h0
   rw [h0]
  ·rfl
 rw [ha]
 exact e
theorem rule_one {W : World} {b : Nat} {n m : Int} {s t : ByteArray} {d : Bool} (hb : W.heap[b]? = some (.cells #[.int .i64 n, .string s, .string t, .bool d, .slice none 0 0, .int .i64 m] 54 (0, 0))) : Kd.C k54 W (some ⟨b, 0, none⟩) 1 [⟨n, s, t, d, [], m⟩] := by
 refine rules_at hb [⟨n, s, t, d, [], m⟩] (by simp) (fun k r hr => ?_)
 match k, hr with
 | 0, hr =>
  cases hr
  exact ⟨none, 0, Nat.le_refl _, Kd.C_nil _ _, fun j v hv => by simpa [ruleV] using hv⟩
def rAll : S54 := ⟨1, ⟨#[]⟩, ⟨#[]⟩, true, [], 1⟩
theorem under_nil (key : ByteArray) : underB key ⟨#[]⟩ = true := underS_nil _ (bl key) (Nat.le_refl _)
theorem all_right (key typ : ByteArray) : rightB [rAll] ⟨#[]⟩ key typ = 1 := by
 have e : (keyB ⟨#[]⟩).1 = ⟨#[]⟩ := by decide +kernel
 have h : speaksB rAll ⟨#[]⟩ key typ = true := by simp [speaksB, notHereB, whoB, rAll, e, under_nil]
 unfold rightB
 have e : List.find? (fun r => speaksB r ⟨#[]⟩ key typ) [rAll] = some rAll := by simp only [List.find?, h]
 rw [e]
 rfl
theorem all_view (key : ByteArray) (l : List S69) : viewB [rAll] ⟨#[]⟩ key l = l := by
 unfold viewB
 rw [List.filter_eq_self]
 intro a _
 simp [seesB, all_right]
theorem all_may : mayB1 [rAll] = true := by decide +kernel
theorem all_ok : RulesOk [rAll] := by
 intro r hr
 rw [List.mem_singleton] at hr
 subst hr
 exact ⟨by decide, by decide⟩
theorem all_fine : ∀ r ∈ [rAll], RuleFine r := by
 intro r hr
 rw [List.mem_singleton] at hr
 subst hr
 exact ⟨by decide, by decide, fun s hs => by cases hs⟩
theorem rAll_one {W : World} {b : Nat} (hb : W.heap[b]? = some (.cells #[.int .i64 1, .string ⟨#[]⟩, .string ⟨#[]⟩, .bool true, .slice none 0 0, .int .i64 1] 54 (0, 0))) : Kd.C k54 W (some ⟨b, 0, none⟩) [rAll].length [rAll] := rule_one hb
theorem field51_1 (s : ByteArray) (A : Option Addr) (n c : Nat) (w : World) : (Instr.field 51 (.agg #[.string s, .slice A n c]) 1).run Tryd.prog w = .ok (.slice A n c) w := by kernel_rfl
def Ex (w1 : World) (d : ByteArray) (A : Option Addr) (n c : Nat) (W : World) : Prop := W.heap[w1.heap.size]? = some (.cells #[.string d, .slice A n c] 51 (0, 0)) ∧ W.heap[w1.heap.size + 1]? = some (.cells #[.int .i64 1, .string ⟨#[]⟩, .string ⟨#[]⟩, .bool true, .slice none 0 0, .int .i64 1] 54 (0, 0)) ∧ Below w1.heap.size w1 W
theorem Ex.step {w1 W W1 : World} {d : ByteArray} {A : Option Addr} {n c : Nat} (h : Ex w1 d A n c W) (hb : Below W.heap.size W W1) : Ex w1 d A n c W1 := ⟨blk_below h.1 hb, blk_below h.2.1 hb, below_step h.2.2 hb⟩
set_option maxHeartbeats 4000000 in
set_option maxRecDepth 100000 in
theorem awake_c (w : World) : Calls Tryd.prog 36 #[] w fun e w' => e = .returned (.bool true) ∧ Below w.heap.size w w' := by
 have hf51 := field51_1
 go_enter Tryd.func36, Tryd.ntmps36
 go_wp2_with fail
 refine (entry_c 0 1 (by decide) (by decide) (by decide) (by decide) _).mono ?_
 rintro e w1 ⟨l, hl3, hp, ha, A, c, rfl, hc, hC, hb⟩
 have H3 := Lib.hid (hp (by decide +kernel))
 have hds : (nm 0).size ≤ 1000000 := by decide +kernel
 generalize nm 0 = d at *
 have HA := Lib.hid ha
 clear hl3 hp ha
 have HB := Lib.hid hb
 have HC := Lib.hid hC
 clear hb hC
 go_wp2_with fail
 have HX : Hid (Ex w1 d A l.length c ((w1.alloc (.cells #[.string d, .slice A l.length c] 51)).alloc (.cells #[.int .i64 1, .string ⟨#[]⟩, .string ⟨#[]⟩, .bool true, .slice none 0 0, .int .i64 1] 54))) := Lib.hid ⟨blk_alloc (heap_alloc_new w1 _) _, by have := heap_alloc_new (w1.alloc (.cells #[.string d, .slice A l.length c] 51)) (.cells #[.int .i64 1, .string ⟨#[]⟩, .string ⟨#[]⟩, .bool true, .slice none 0 0, .int .i64 1] 54); simpa using this, below_alloc (below_alloc (Below.refl _ _) _) _⟩
 refine (right_c [] none 0 ⟨#[]⟩ d ⟨#[111]⟩ (.slice A l.length c) _ (Kd.C_nil _ _) (Nat.le_refl _) (fun r hr => by cases hr) (by omega) (by decide) rfl).mono ?_
 rintro e w2 ⟨rfl, hb2⟩
 have HX2 := Lib.hid (HX.out.step hb2)
 have x0 : w2.cell? ⟨w1.heap.size, 0, none⟩ = some (.string d) := blk_cell HX2.out.1 0
 have x1 : w2.cell? ⟨w1.heap.size, 1, none⟩ = some (.slice A l.length c) := blk_cell HX2.out.1 1
 have hr0 : rightB [] ⟨#[]⟩ (keyB d).1 ⟨#[111]⟩ = 0 := rfl
 clear HX hb2
 go_wp2_with fail
 refine (right_c [rAll] _ 1 ⟨#[]⟩ d ⟨#[111]⟩ (.slice A l.length c) _ (rAll_one HX2.out.2.1) (Nat.le_refl _) all_ok (by omega) (by decide) rfl).mono ?_
 rintro e w3 ⟨rfl, hb3⟩
 have HX3 := Lib.hid (HX2.out.step hb3)
 rw [all_right]
 clear x0 x1 hr0 HX2 hb3
 have x0 : w3.cell? ⟨w1.heap.size, 0, none⟩ = some (.string d) := blk_cell HX3.out.1 0
 have x1 : w3.cell? ⟨w1.heap.size, 1, none⟩ = some (.slice A l.length c) := blk_cell HX3.out.1 1
 go_wp2_with fail
 refine (view_c [rAll] _ 1 ⟨#[]⟩ d l A c _ (rAll_one HX3.out.2.1) (Nat.le_refl _) all_ok (by omega) (Kd.C_below HC.out HX3.out.2.2) hc HA.out).mono ?_
 rintro e w4 ⟨A4, c4, rfl, hc4, hC4, hb4⟩
 have HX4 := Lib.hid (HX3.out.step hb4)
 rw [all_view]
 clear x0 x1 HX3 hb4 hC4
 have h3 : ((l.length : Int) == 3) = true := by rw [H3.out]; rfl
 go_wp2_with fail
 refine (may_c _ 1 [rAll] _ (rAll_one HX4.out.2.1) (Nat.le_refl _) all_fine).mono ?_
 rintro e w5 ⟨rfl, hb5⟩
 have HX5 := Lib.hid (HX4.out.step hb5)
 rw [all_may]
 clear HX4 hb5 h3
 go_wp2
 go_ret
 exact ⟨rfl, below_step HB.out HX5.out.2.2⟩
end Go.Proofs.YtflkghdndffacaaDoor.C
namespace Go.Proofs.YtflkghdndffacaaDoor.C
open Go.RowKit Go.Proofs.YtflkghdndffacaaDoor.Sq Go.Proofs.YtflkghdndffacaaDoor.H Go.Proofs.YtflkghdndffacaaDoor.PA Go.Proofs.YtflkghdndffacaaDoor.Pure Go.Proofs.YtflkghdndffacaaDoorW.PrintWords Go.Proofs.YtflkghdndffacaaDoorW.PrintLast Go.Proofs.YtflkghdndffacaaDoorW.PrintMore
set_option linter.unusedVariables false
set_option linter.unusedSimpArgs false
def Env (L : List (Nat × Array Value × TypeId)) (w W : World) : Prop := (∀ b ∈ L, W.heap[b.1]? = some (.cells b.2.1 b.2.2 (0, 0))) ∧ Below w.heap.size w W
theorem Env.step {L : List (Nat × Array Value × TypeId)} {w W W1 : World} (h : Env L w W) (hb : Below W.heap.size W W1) : Env L w W1 := ⟨fun b hi => blk_below (h.1 b hi) hb, below_step h.2 hb⟩
theorem Env.nil (w W : World) (hb : Below w.heap.size w W) : Env [] w W := ⟨fun b hi => (by cases hi), hb⟩
theorem Env.more {L : List (Nat × Array Value × TypeId)} {w W W1 : World} (h : Env L w W) {g : Nat} {cs : Array Value} {t : TypeId} (hb : Below W.heap.size W W1) (hg : W1.heap[g]? = some (.cells cs t (0, 0))) : Env (L ++ [(g, cs, t)]) w W1 := by
 refine ⟨fun b hi => ?_, below_step h.2 hb⟩
 rcases List.mem_append.1 hi with hi | hi
 ·exact blk_below (h.1 b hi) hb
 ·rw [List.mem_singleton] at hi
  subst hi
  exact hg
theorem Env.alloc {L : List (Nat × Array Value × TypeId)} {w W : World} (h : Env L w W) (cs : Array Value) (t : TypeId) : Env (L ++ [(W.heap.size, cs, t)]) w (W.alloc (.cells cs t)) := h.more (below_alloc (Below.refl _ _) _) (heap_alloc_new W _)
theorem Env.at {L : List (Nat × Array Value × TypeId)} {w W : World} (h : Env L w W) (i : Nat) {g : Nat} {cs : Array Value} {t : TypeId} (hi : L[i]? = some (g, cs, t)) : W.heap[g]? = some (.cells cs t (0, 0)) := h.1 _ (List.mem_of_getElem? hi)
theorem right_one (r : S54) (who key typ : ByteArray) : rightB [r] who key typ = if speaksB r who key typ then r.f5 else 0 := by
 unfold rightB
 cases h : speaksB r who key typ <;> simp [List.find?, h]
theorem key_nil : (keyB ⟨#[]⟩).1 = ⟨#[]⟩ := by decide +kernel
theorem not_here_top (n m : Int) (s : ByteArray) (key typ : ByteArray) : notHereB ⟨n, s, ⟨#[]⟩, true, [], m⟩ key typ = false := by
 simp [notHereB, key_nil, under_nil]
theorem names_key {d : ByteArray} (hd : d ∈ namesL) : ((keyB d).1.toList != []) = true ∧ d.size ≤ 1000000 := by
 have h : namesL.all (fun d => ((keyB d).1.toList != []) && decide (d.size ≤ 1000000)) = true := by decide +kernel
 have h1 := List.all_eq_true.1 h d hd
 rw [Bool.and_eq_true, decide_eq_true_eq] at h1
 exact h1
theorem right_users (x typ : ByteArray) : rightB [⟨2, ⟨#[]⟩, ⟨#[]⟩, true, [], 1⟩] ⟨#[]⟩ x typ = 0 := by
 rw [right_one, speaksB, not_here_top]
 simp [whoB]
theorem right_user (x y typ : ByteArray) (hy : (y.toList != []) = true) : rightB [⟨2, ⟨#[]⟩, ⟨#[]⟩, true, [], 1⟩] y x typ = 1 := by
 rw [right_one, speaksB, not_here_top]
 simp [whoB, hy]
theorem beq_flip (x y : ByteArray) : (y.toList == x.toList) = (x.toList == y.toList) := by
 rw [Bool.eq_iff_iff, beq_iff_eq, beq_iff_eq]
 exact eq_comm
theorem right_self (x y typ : ByteArray) : rightB [⟨3, ⟨#[]⟩, ⟨#[]⟩, true, [], 2⟩] y x typ = if (x.toList == y.toList) = true then 2 else 0 := by
 rw [right_one, speaksB, not_here_top]
 simp only [whoB, beq_flip x y]
 simp
theorem right_name (x d typ : ByteArray) : rightB [⟨4, d, ⟨#[]⟩, true, [], 1⟩] x x typ = if (x.toList == (keyB d).1.toList) = true then 1 else 0 := by
 rw [right_one, speaksB, not_here_top]
 simp [whoB]
theorem right_at (x d typ : ByteArray) (deep : Bool) : rightB [⟨1, ⟨#[]⟩, d, deep, [], 1⟩] ⟨#[]⟩ x typ = if (x.toList == (keyB d).1.toList || deep && underB x (keyB d).1) = true then 1 else 0 := by
 rw [right_one]
 cases h1 : (x.toList == (keyB d).1.toList) <;> cases deep <;> cases h2 : underB x (keyB d).1 <;> simp [speaksB, notHereB, whoB, h1, h2]
theorem one_ok {n m : Int} {s t : ByteArray} {d : Bool} (hs : s.size ≤ 1000000) (ht : t.size ≤ 1000000) : RulesOk [⟨n, s, t, d, [], m⟩] := by
 intro r hr
 rw [List.mem_singleton] at hr
 subst hr
 exact ⟨by show s.size ≤ _; omega, by show t.size ≤ _; omega⟩
set_option maxHeartbeats 8000000 in
set_option maxRecDepth 100000 in
theorem who_c (i j n : Int) (deep : Bool) (hi0 : 0 ≤ i) (hi1 : i ≤ 255) (hj0 : 0 ≤ j) (hj1 : j ≤ 255) (hn0 : 0 ≤ n) (hn1 : n ≤ 255) (w : World) :
  Calls Tryd.prog 12 #[.int .u8 i, .int .u8 j, .int .u8 n, .bool deep] w fun e w' => e = .returned (.bool true) ∧ Below w.heap.size w w' := by
 have qi : IntKind.i64.wrap i = i := by rw [i64_w]; unfold wrap64; omega
 have qj : IntKind.i64.wrap j = j := by rw [i64_w]; unfold wrap64; omega
 obtain ⟨hk1, hs1⟩ := names_key (nm_mem hi0)
 obtain ⟨hk2, hs2⟩ := names_key (nm_mem hj0)
 have HK2 := Lib.hid hk2
 clear hk1 hk2
 go_enter Tryd.func12, Tryd.ntmps12
 go_wp2_with fail
 refine (entry_c i n hi0 hi1 hn0 hn1 _).mono ?_
 rintro e w1 ⟨l1, hl3, hp, ha, A1, c1, rfl, hc1, hC1, hb1⟩
 clear hl3 hp ha hC1
 have HB1 := Lib.hid hb1
 clear hb1
 go_wp2_with fail
 refine (entry_c j n hj0 hj1 hn0 hn1 _).mono ?_
 rintro e w2 ⟨l2, hl3, hp, ha, A2, c2, rfl, hc2, hC2, hb2⟩
 clear hl3 hp ha hC2 qi qj
 have HB2 := Lib.hid (below_step HB1.out hb2)
 clear hb2 HB1
 generalize nm i = d1 at *
 generalize nm j = d2 at *
 generalize l1.length = n1 at *
 generalize l2.length = n2 at *
 go_upto_region 2 with (fail)
 have HX0 : Hid (Env [(w2.heap.size, #[.string d1, .slice A1 n1 c1], 51), (w2.heap.size + 1, #[.string d2, .slice A2 n2 c2], 51)] w2 ((w2.alloc (.cells #[.string d1, .slice A1 n1 c1] 51)).alloc (.cells #[.string d2, .slice A2 n2 c2] 51))) := Lib.hid (by
  have h := ((Env.nil w2 w2 (Below.refl _ _)).alloc #[.string d1, .slice A1 n1 c1] 51).alloc #[.string d2, .slice A2 n2 c2] 51
  rw [show (w2.alloc (.cells #[.string d1, .slice A1 n1 c1] 51)).heap.size = w2.heap.size + 1 by simp] at h
  exact h)
 go_cut [11, 12] (fun v11 v12 wc => v11 = .string (keyB d1).1 ∧ v12 = .string (keyB d2).1 ∧ Hid (Env [(w2.heap.size, #[.string d1, .slice A1 n1 c1], 51), (w2.heap.size + 1, #[.string d2, .slice A2 n2 c2], 51)] w2 wc))
 case first =>
  refine sq_ (Env [(w2.heap.size, #[.string d1, .slice A1 n1 c1], 51), (w2.heap.size + 1, #[.string d2, .slice A2 n2 c2], 51)] w2) [] [(1,0,some 25),(1,2,some 27),(2,1,some 26),(2,3,some 28),(0,4,some 11),(0,5,some 12)] (by kernel_rfl) (by kernel_rfl) (HX0.out.step (below_drew (Below.refl _ _))) (fun hS => ?_)
  clear HX0
  generalize World.drew _ = W at hS ⊢
  repeat (first
   | (refine sq0 rfl ?_ (fun _ _ _ _ h => h) ?_; (focus rfl); apply Exists.intro; constructor; (focus (intro w'; go_simp; with_reducible rfl)); (simp only [Act.put, List.setIfInBounds_toArray, List.set_cons_zero, List.set_cons_succ]))
   | (refine sq1 rfl ?_ (fun _ _ _ _ h => h) hS ?_; (focus rfl); apply Exists.intro; constructor; (focus (intro w' hS'; have x0 : w'.cell? ⟨w2.heap.size, 0, none⟩ = some (.string d1) := blk_cell (hS'.at 0 rfl) 0; have x1 : w'.cell? ⟨w2.heap.size, 1, none⟩ = some (.slice A1 n1 c1) := blk_cell (hS'.at 0 rfl) 1; have y0 : w'.cell? ⟨w2.heap.size + 1, 0, none⟩ = some (.string d2) := blk_cell (hS'.at 1 rfl) 0; have y1 : w'.cell? ⟨w2.heap.size + 1, 1, none⟩ = some (.slice A2 n2 c2) := blk_cell (hS'.at 1 rfl) 1; go_simp; with_reducible rfl)); (simp only [Act.put, List.setIfInBounds_toArray, List.set_cons_zero, List.set_cons_succ])))
  refine sq_call rfl Tryd.func37 (by kernel_rfl) rfl #[.agg #[.string d1, .slice A1 n1 c1]] rfl ?_ rfl ?_ ?_
  focus rfl
  focus ((try simp only [List.map_toArray, List.map_cons, List.map_nil]); first | done | rfl)
  refine (ekey_c d1 _ _ hs1 rfl).mono ?_
  rintro e w3 ⟨rfl, hb3⟩
  refine ⟨_, rfl, hS.step hb3, fun hS2 => ?_⟩
  clear hS hb3
  (simp only [Act.put, List.setIfInBounds_toArray, List.set_cons_zero, List.set_cons_succ])
  refine sq_call rfl Tryd.func37 (by kernel_rfl) rfl #[.agg #[.string d2, .slice A2 n2 c2]] rfl ?_ rfl ?_ ?_
  focus rfl
  focus ((try simp only [List.map_toArray, List.map_cons, List.map_nil]); first | done | rfl)
  refine (ekey_c d2 _ _ hs2 rfl).mono ?_
  rintro e w4 ⟨rfl, hb4⟩
  refine ⟨_, rfl, hS2.step hb4, fun hS => ?_⟩
  clear hS2 hb4
  (simp only [Act.put, List.setIfInBounds_toArray, List.set_cons_zero, List.set_cons_succ])
  repeat (first
   | (refine sq0 rfl ?_ (fun _ _ _ _ h => h) ?_; (focus rfl); apply Exists.intro; constructor; (focus (intro w'; go_simp; with_reducible rfl)); (simp only [Act.put, List.setIfInBounds_toArray, List.set_cons_zero, List.set_cons_succ])))
  refine sq_end ?_
  go_wp2
  go_meet
  case rel => exact ⟨rfl, rfl, Lib.hid hS⟩
 case rest =>
  obtain ⟨rfl, rfl, HX0⟩ := hcut
  have y0 : wc.cell? ⟨w2.heap.size + 1, 0, none⟩ = some (.string d2) := blk_cell (HX0.out.at 1 rfl) 0
  have y2 : ∀ o o' : Obj, ((wc.alloc o).alloc o').cell? ⟨w2.heap.size + 1, 0, none⟩ = some (.string d2) := fun o o' => cell_alloc (cell_alloc y0 o) o'
  have y3 : ∀ o o' o2 : Obj, (((wc.alloc o).alloc o').alloc o2).cell? ⟨w2.heap.size + 1, 0, none⟩ = some (.string d2) := fun o o' o2 => cell_alloc (y2 o o') o2
  go_upto_region 7 with (fail)
  have HX1 : Hid (Env [(w2.heap.size, #[.string d1, .slice A1 n1 c1], 51), (w2.heap.size + 1, #[.string d2, .slice A2 n2 c2], 51), (wc.heap.size, #[.int .i64 2, .string ⟨#[]⟩, .string ⟨#[]⟩, .bool true, .slice none 0 0, .int .i64 1], 54), (wc.heap.size + 1, #[.int .i64 3, .string ⟨#[]⟩, .string ⟨#[]⟩, .bool true, .slice none 0 0, .int .i64 2], 54), (wc.heap.size + 1 + 1, #[.int .i64 4, .string d2, .string ⟨#[]⟩, .bool true, .slice none 0 0, .int .i64 1], 54), (wc.heap.size + 1 + 1 + 1, #[.int .i64 1, .string ⟨#[]⟩, .string d2, .bool deep, .slice none 0 0, .int .i64 1], 54)] w2 ((((wc.alloc (.cells #[.int .i64 2, .string ⟨#[]⟩, .string ⟨#[]⟩, .bool true, .slice none 0 0, .int .i64 1] 54)).alloc (.cells #[.int .i64 3, .string ⟨#[]⟩, .string ⟨#[]⟩, .bool true, .slice none 0 0, .int .i64 2] 54)).alloc (.cells #[.int .i64 4, .string d2, .string ⟨#[]⟩, .bool true, .slice none 0 0, .int .i64 1] 54)).alloc (.cells #[.int .i64 1, .string ⟨#[]⟩, .string d2, .bool deep, .slice none 0 0, .int .i64 1] 54))) := Lib.hid (by
   have h := (((HX0.out.alloc #[.int .i64 2, .string ⟨#[]⟩, .string ⟨#[]⟩, .bool true, .slice none 0 0, .int .i64 1] 54).alloc #[.int .i64 3, .string ⟨#[]⟩, .string ⟨#[]⟩, .bool true, .slice none 0 0, .int .i64 2] 54).alloc #[.int .i64 4, .string d2, .string ⟨#[]⟩, .bool true, .slice none 0 0, .int .i64 1] 54).alloc #[.int .i64 1, .string ⟨#[]⟩, .string d2, .bool deep, .slice none 0 0, .int .i64 1] 54
   have e1 : ∀ o : Obj, (wc.alloc o).heap.size = wc.heap.size + 1 := fun o => by simp
   have e2 : ∀ o o' : Obj, ((wc.alloc o).alloc o').heap.size = wc.heap.size + 1 + 1 := fun o o' => by simp
   have e3 : ∀ o o' o2 : Obj, (((wc.alloc o).alloc o').alloc o2).heap.size = wc.heap.size + 1 + 1 + 1 := fun o o' o2 => by simp
   rw [e1, e2, e3] at h
   exact h)
  clear HX0 y0 y2 y3
  generalize ((((wc.alloc (.cells #[.int .i64 2, .string ⟨#[]⟩, .string ⟨#[]⟩, .bool true, .slice none 0 0, .int .i64 1] 54)).alloc (.cells #[.int .i64 3, .string ⟨#[]⟩, .string ⟨#[]⟩, .bool true, .slice none 0 0, .int .i64 2] 54)).alloc (.cells #[.int .i64 4, .string d2, .string ⟨#[]⟩, .bool true, .slice none 0 0, .int .i64 1] 54)).alloc (.cells #[.int .i64 1, .string ⟨#[]⟩, .string d2, .bool deep, .slice none 0 0, .int .i64 1] 54)) = w5 at HX1 ⊢
  cases hxy : ((keyB d1).1.toList == (keyB d2).1.toList)
  ·have x0 : w5.cell? ⟨w2.heap.size, 0, none⟩ = some (.string d1) := blk_cell (HX1.out.at 0 rfl) 0
   have x1 : w5.cell? ⟨w2.heap.size, 1, none⟩ = some (.slice A1 n1 c1) := blk_cell (HX1.out.at 0 rfl) 1
   have q0 : ∀ o : Obj, (w5.alloc o).cell? ⟨w2.heap.size, 0, none⟩ = some (.string d1) := fun o => cell_alloc x0 o
   have q1 : ∀ o : Obj, (w5.alloc o).cell? ⟨w2.heap.size, 1, none⟩ = some (.slice A1 n1 c1) := fun o => cell_alloc x1 o
   have z0 : w5.cell? ⟨wc.heap.size, 0, none⟩ = some (.int .i64 2) := blk_cell (HX1.out.at 2 rfl) 0
   have z1 : w5.cell? ⟨wc.heap.size, 1, none⟩ = some (.string ⟨#[]⟩) := blk_cell (HX1.out.at 2 rfl) 1
   have z2 : w5.cell? ⟨wc.heap.size, 2, none⟩ = some (.string ⟨#[]⟩) := blk_cell (HX1.out.at 2 rfl) 2
   have z3 : w5.cell? ⟨wc.heap.size, 3, none⟩ = some (.bool true) := blk_cell (HX1.out.at 2 rfl) 3
   have z4 : w5.cell? ⟨wc.heap.size, 4, none⟩ = some (.slice none 0 0) := blk_cell (HX1.out.at 2 rfl) 4
   have z5 : w5.cell? ⟨wc.heap.size, 5, none⟩ = some (.int .i64 1) := blk_cell (HX1.out.at 2 rfl) 5
   go_wp2_with fail
   refine (right_c [⟨2, ⟨#[]⟩, ⟨#[]⟩, true, [], 1⟩] _ 1 ⟨#[]⟩ d1 ⟨#[99, 110]⟩ (.slice A1 n1 c1) _ (rule_one (heap_alloc_new w5 _)) (Nat.le_refl _) (one_ok (by decide) (by decide)) (by omega) (by decide) rfl).mono ?_
   rintro e w6 ⟨rfl, hb6⟩
   have HX6 := Lib.hid ((HX1.out.step (below_alloc (Below.refl _ _) _)).step hb6)
   rw [right_users]
   clear x0 x1 q0 q1 z0 z1 z2 z3 z4 z5 HX1 hb6
   have x0 : w6.cell? ⟨w2.heap.size, 0, none⟩ = some (.string d1) := blk_cell (HX6.out.at 0 rfl) 0
   have x1 : w6.cell? ⟨w2.heap.size, 1, none⟩ = some (.slice A1 n1 c1) := blk_cell (HX6.out.at 0 rfl) 1
   have q0 : ∀ o : Obj, (w6.alloc o).cell? ⟨w2.heap.size, 0, none⟩ = some (.string d1) := fun o => cell_alloc x0 o
   have q1 : ∀ o : Obj, (w6.alloc o).cell? ⟨w2.heap.size, 1, none⟩ = some (.slice A1 n1 c1) := fun o => cell_alloc x1 o
   have z0 : w6.cell? ⟨wc.heap.size, 0, none⟩ = some (.int .i64 2) := blk_cell (HX6.out.at 2 rfl) 0
   have z1 : w6.cell? ⟨wc.heap.size, 1, none⟩ = some (.string ⟨#[]⟩) := blk_cell (HX6.out.at 2 rfl) 1
   have z2 : w6.cell? ⟨wc.heap.size, 2, none⟩ = some (.string ⟨#[]⟩) := blk_cell (HX6.out.at 2 rfl) 2
   have z3 : w6.cell? ⟨wc.heap.size, 3, none⟩ = some (.bool true) := blk_cell (HX6.out.at 2 rfl) 3
   have z4 : w6.cell? ⟨wc.heap.size, 4, none⟩ = some (.slice none 0 0) := blk_cell (HX6.out.at 2 rfl) 4
   have z5 : w6.cell? ⟨wc.heap.size, 5, none⟩ = some (.int .i64 1) := blk_cell (HX6.out.at 2 rfl) 5
   go_wp2_with fail
   refine (right_c [⟨2, ⟨#[]⟩, ⟨#[]⟩, true, [], 1⟩] _ 1 (keyB d2).1 d1 ⟨#[99, 110]⟩ (.slice A1 n1 c1) _ (rule_one (heap_alloc_new w6 _)) (Nat.le_refl _) (one_ok (by decide) (by decide)) (by omega) (by decide) rfl).mono ?_
   rintro e w7 ⟨rfl, hb7⟩
   have HX7 := Lib.hid ((HX6.out.step (below_alloc (Below.refl _ _) _)).step hb7)
   rw [right_user _ _ _ HK2.out]
   clear x0 x1 q0 q1 z0 z1 z2 z3 z4 z5 HX6 hb7
   have x0 : w7.cell? ⟨w2.heap.size, 0, none⟩ = some (.string d1) := blk_cell (HX7.out.at 0 rfl) 0
   have x1 : w7.cell? ⟨w2.heap.size, 1, none⟩ = some (.slice A1 n1 c1) := blk_cell (HX7.out.at 0 rfl) 1
   have q0 : ∀ o : Obj, (w7.alloc o).cell? ⟨w2.heap.size, 0, none⟩ = some (.string d1) := fun o => cell_alloc x0 o
   have q1 : ∀ o : Obj, (w7.alloc o).cell? ⟨w2.heap.size, 1, none⟩ = some (.slice A1 n1 c1) := fun o => cell_alloc x1 o
   have z0 : w7.cell? ⟨wc.heap.size + 1, 0, none⟩ = some (.int .i64 3) := blk_cell (HX7.out.at 3 rfl) 0
   have z1 : w7.cell? ⟨wc.heap.size + 1, 1, none⟩ = some (.string ⟨#[]⟩) := blk_cell (HX7.out.at 3 rfl) 1
   have z2 : w7.cell? ⟨wc.heap.size + 1, 2, none⟩ = some (.string ⟨#[]⟩) := blk_cell (HX7.out.at 3 rfl) 2
   have z3 : w7.cell? ⟨wc.heap.size + 1, 3, none⟩ = some (.bool true) := blk_cell (HX7.out.at 3 rfl) 3
   have z4 : w7.cell? ⟨wc.heap.size + 1, 4, none⟩ = some (.slice none 0 0) := blk_cell (HX7.out.at 3 rfl) 4
   have z5 : w7.cell? ⟨wc.heap.size + 1, 5, none⟩ = some (.int .i64 2) := blk_cell (HX7.out.at 3 rfl) 5
   go_wp2_with fail
   refine (right_c [⟨3, ⟨#[]⟩, ⟨#[]⟩, true, [], 2⟩] _ 1 (keyB d2).1 d1 ⟨#[99, 110]⟩ (.slice A1 n1 c1) _ (rule_one (heap_alloc_new w7 _)) (Nat.le_refl _) (one_ok (by decide) (by decide)) (by omega) (by decide) rfl).mono ?_
   rintro e w8 ⟨rfl, hb8⟩
   have HX8 := Lib.hid ((HX7.out.step (below_alloc (Below.refl _ _) _)).step hb8)
   rw [right_self]
   rw [hxy]
   simp only [Bool.false_eq_true, if_false, if_true, Bool.true_or, Bool.false_or, ite_true, ite_false]
   clear x0 x1 q0 q1 z0 z1 z2 z3 z4 z5 HX7 hb8
   have x0 : w8.cell? ⟨w2.heap.size, 0, none⟩ = some (.string d1) := blk_cell (HX8.out.at 0 rfl) 0
   have x1 : w8.cell? ⟨w2.heap.size, 1, none⟩ = some (.slice A1 n1 c1) := blk_cell (HX8.out.at 0 rfl) 1
   have q0 : ∀ o : Obj, (w8.alloc o).cell? ⟨w2.heap.size, 0, none⟩ = some (.string d1) := fun o => cell_alloc x0 o
   have q1 : ∀ o : Obj, (w8.alloc o).cell? ⟨w2.heap.size, 1, none⟩ = some (.slice A1 n1 c1) := fun o => cell_alloc x1 o
   have z0 : w8.cell? ⟨wc.heap.size + 1 + 1, 0, none⟩ = some (.int .i64 4) := blk_cell (HX8.out.at 4 rfl) 0
   have z1 : w8.cell? ⟨wc.heap.size + 1 + 1, 1, none⟩ = some (.string d2) := blk_cell (HX8.out.at 4 rfl) 1
   have z2 : w8.cell? ⟨wc.heap.size + 1 + 1, 2, none⟩ = some (.string ⟨#[]⟩) := blk_cell (HX8.out.at 4 rfl) 2
   have z3 : w8.cell? ⟨wc.heap.size + 1 + 1, 3, none⟩ = some (.bool true) := blk_cell (HX8.out.at 4 rfl) 3
   have z4 : w8.cell? ⟨wc.heap.size + 1 + 1, 4, none⟩ = some (.slice none 0 0) := blk_cell (HX8.out.at 4 rfl) 4
   have z5 : w8.cell? ⟨wc.heap.size + 1 + 1, 5, none⟩ = some (.int .i64 1) := blk_cell (HX8.out.at 4 rfl) 5
   go_wp2_with fail
   refine (right_c [⟨4, d2, ⟨#[]⟩, true, [], 1⟩] _ 1 (keyB d1).1 d1 ⟨#[99, 110]⟩ (.slice A1 n1 c1) _ (rule_one (heap_alloc_new w8 _)) (Nat.le_refl _) (one_ok hs2 (by decide)) (by omega) (by decide) rfl).mono ?_
   rintro e w9 ⟨rfl, hb9⟩
   have HX9 := Lib.hid ((HX8.out.step (below_alloc (Below.refl _ _) _)).step hb9)
   rw [right_name]
   rw [hxy]
   simp only [Bool.false_eq_true, if_false, if_true, Bool.true_or, Bool.false_or, ite_true, ite_false]
   clear x0 x1 q0 q1 z0 z1 z2 z3 z4 z5 HX8 hb9
   have x0 : w9.cell? ⟨w2.heap.size, 0, none⟩ = some (.string d1) := blk_cell (HX9.out.at 0 rfl) 0
   have x1 : w9.cell? ⟨w2.heap.size, 1, none⟩ = some (.slice A1 n1 c1) := blk_cell (HX9.out.at 0 rfl) 1
   have q0 : ∀ o : Obj, (w9.alloc o).cell? ⟨w2.heap.size, 0, none⟩ = some (.string d1) := fun o => cell_alloc x0 o
   have q1 : ∀ o : Obj, (w9.alloc o).cell? ⟨w2.heap.size, 1, none⟩ = some (.slice A1 n1 c1) := fun o => cell_alloc x1 o
   have z0 : w9.cell? ⟨wc.heap.size + 1 + 1 + 1, 0, none⟩ = some (.int .i64 1) := blk_cell (HX9.out.at 5 rfl) 0
   have z1 : w9.cell? ⟨wc.heap.size + 1 + 1 + 1, 1, none⟩ = some (.string ⟨#[]⟩) := blk_cell (HX9.out.at 5 rfl) 1
   have z2 : w9.cell? ⟨wc.heap.size + 1 + 1 + 1, 2, none⟩ = some (.string d2) := blk_cell (HX9.out.at 5 rfl) 2
   have z3 : w9.cell? ⟨wc.heap.size + 1 + 1 + 1, 3, none⟩ = some (.bool deep) := blk_cell (HX9.out.at 5 rfl) 3
   have z4 : w9.cell? ⟨wc.heap.size + 1 + 1 + 1, 4, none⟩ = some (.slice none 0 0) := blk_cell (HX9.out.at 5 rfl) 4
   have z5 : w9.cell? ⟨wc.heap.size + 1 + 1 + 1, 5, none⟩ = some (.int .i64 1) := blk_cell (HX9.out.at 5 rfl) 5
   go_wp2_with fail
   refine (right_c [⟨1, ⟨#[]⟩, d2, deep, [], 1⟩] _ 1 ⟨#[]⟩ d1 ⟨#[99, 110]⟩ (.slice A1 n1 c1) _ (rule_one (heap_alloc_new w9 _)) (Nat.le_refl _) (one_ok (by decide) hs2) (by omega) (by decide) rfl).mono ?_
   rintro e w10 ⟨rfl, hb10⟩
   have HX10 := Lib.hid ((HX9.out.step (below_alloc (Below.refl _ _) _)).step hb10)
   rw [right_at]
   rw [hxy]
   simp only [Bool.false_eq_true, if_false, if_true, Bool.true_or, Bool.false_or, ite_true, ite_false]
   clear x0 x1 q0 q1 z0 z1 z2 z3 z4 z5 HX9 hb10
   cases deep
   ·simp only [Bool.false_eq_true, if_false, if_true, Bool.true_or, Bool.false_or, Bool.false_and, Bool.true_and, ite_true, ite_false]
    go_wp2_with fail
    refine (awake_c _).mono ?_
    rintro e w11 ⟨rfl, hb11⟩
    have HX11 := Lib.hid (HX10.out.step hb11)
    clear HX10 hb11
    go_wp2
    go_ret
    exact ⟨rfl, below_step HB2.out HX11.out.2⟩
   ·cases hu : underB (keyB d1).1 (keyB d2).1
    ·simp only [Bool.false_eq_true, if_false, if_true, Bool.true_or, Bool.false_or, Bool.false_and, Bool.true_and, ite_true, ite_false]
     go_wp2_with fail
     refine (runder_c _ _ (keyB_size d1) _).mono ?_
     rintro e w11 ⟨rfl, hb11⟩
     rw [hu]
     have HX11 := Lib.hid (HX10.out.step hb11.below)
     clear HX10 hb11
     go_wp2_with fail
     refine (awake_c _).mono ?_
     rintro e w12 ⟨rfl, hb12⟩
     have HX12 := Lib.hid (HX11.out.step hb12)
     clear HX11 hb12
     go_wp2
     go_ret
     exact ⟨rfl, below_step HB2.out HX12.out.2⟩
    ·simp only [Bool.false_eq_true, if_false, if_true, Bool.true_or, Bool.false_or, Bool.false_and, Bool.true_and, ite_true, ite_false]
     go_wp2_with fail
     refine (runder_c _ _ (keyB_size d1) _).mono ?_
     rintro e w11 ⟨rfl, hb11⟩
     rw [hu]
     have HX11 := Lib.hid (HX10.out.step hb11.below)
     clear HX10 hb11
     go_wp2_with fail
     refine (awake_c _).mono ?_
     rintro e w12 ⟨rfl, hb12⟩
     have HX12 := Lib.hid (HX11.out.step hb12)
     clear HX11 hb12
     go_wp2
     go_ret
     exact ⟨rfl, below_step HB2.out HX12.out.2⟩
  ·have x0 : w5.cell? ⟨w2.heap.size, 0, none⟩ = some (.string d1) := blk_cell (HX1.out.at 0 rfl) 0
   have x1 : w5.cell? ⟨w2.heap.size, 1, none⟩ = some (.slice A1 n1 c1) := blk_cell (HX1.out.at 0 rfl) 1
   have q0 : ∀ o : Obj, (w5.alloc o).cell? ⟨w2.heap.size, 0, none⟩ = some (.string d1) := fun o => cell_alloc x0 o
   have q1 : ∀ o : Obj, (w5.alloc o).cell? ⟨w2.heap.size, 1, none⟩ = some (.slice A1 n1 c1) := fun o => cell_alloc x1 o
   have z0 : w5.cell? ⟨wc.heap.size, 0, none⟩ = some (.int .i64 2) := blk_cell (HX1.out.at 2 rfl) 0
   have z1 : w5.cell? ⟨wc.heap.size, 1, none⟩ = some (.string ⟨#[]⟩) := blk_cell (HX1.out.at 2 rfl) 1
   have z2 : w5.cell? ⟨wc.heap.size, 2, none⟩ = some (.string ⟨#[]⟩) := blk_cell (HX1.out.at 2 rfl) 2
   have z3 : w5.cell? ⟨wc.heap.size, 3, none⟩ = some (.bool true) := blk_cell (HX1.out.at 2 rfl) 3
   have z4 : w5.cell? ⟨wc.heap.size, 4, none⟩ = some (.slice none 0 0) := blk_cell (HX1.out.at 2 rfl) 4
   have z5 : w5.cell? ⟨wc.heap.size, 5, none⟩ = some (.int .i64 1) := blk_cell (HX1.out.at 2 rfl) 5
   go_wp2_with fail
   refine (right_c [⟨2, ⟨#[]⟩, ⟨#[]⟩, true, [], 1⟩] _ 1 ⟨#[]⟩ d1 ⟨#[99, 110]⟩ (.slice A1 n1 c1) _ (rule_one (heap_alloc_new w5 _)) (Nat.le_refl _) (one_ok (by decide) (by decide)) (by omega) (by decide) rfl).mono ?_
   rintro e w6 ⟨rfl, hb6⟩
   have HX6 := Lib.hid ((HX1.out.step (below_alloc (Below.refl _ _) _)).step hb6)
   rw [right_users]
   clear x0 x1 q0 q1 z0 z1 z2 z3 z4 z5 HX1 hb6
   have x0 : w6.cell? ⟨w2.heap.size, 0, none⟩ = some (.string d1) := blk_cell (HX6.out.at 0 rfl) 0
   have x1 : w6.cell? ⟨w2.heap.size, 1, none⟩ = some (.slice A1 n1 c1) := blk_cell (HX6.out.at 0 rfl) 1
   have q0 : ∀ o : Obj, (w6.alloc o).cell? ⟨w2.heap.size, 0, none⟩ = some (.string d1) := fun o => cell_alloc x0 o
   have q1 : ∀ o : Obj, (w6.alloc o).cell? ⟨w2.heap.size, 1, none⟩ = some (.slice A1 n1 c1) := fun o => cell_alloc x1 o
   have z0 : w6.cell? ⟨wc.heap.size, 0, none⟩ = some (.int .i64 2) := blk_cell (HX6.out.at 2 rfl) 0
   have z1 : w6.cell? ⟨wc.heap.size, 1, none⟩ = some (.string ⟨#[]⟩) := blk_cell (HX6.out.at 2 rfl) 1
   have z2 : w6.cell? ⟨wc.heap.size, 2, none⟩ = some (.string ⟨#[]⟩) := blk_cell (HX6.out.at 2 rfl) 2
   have z3 : w6.cell? ⟨wc.heap.size, 3, none⟩ = some (.bool true) := blk_cell (HX6.out.at 2 rfl) 3
   have z4 : w6.cell? ⟨wc.heap.size, 4, none⟩ = some (.slice none 0 0) := blk_cell (HX6.out.at 2 rfl) 4
   have z5 : w6.cell? ⟨wc.heap.size, 5, none⟩ = some (.int .i64 1) := blk_cell (HX6.out.at 2 rfl) 5
   go_wp2_with fail
   refine (right_c [⟨2, ⟨#[]⟩, ⟨#[]⟩, true, [], 1⟩] _ 1 (keyB d2).1 d1 ⟨#[99, 110]⟩ (.slice A1 n1 c1) _ (rule_one (heap_alloc_new w6 _)) (Nat.le_refl _) (one_ok (by decide) (by decide)) (by omega) (by decide) rfl).mono ?_
   rintro e w7 ⟨rfl, hb7⟩
   have HX7 := Lib.hid ((HX6.out.step (below_alloc (Below.refl _ _) _)).step hb7)
   rw [right_user _ _ _ HK2.out]
   clear x0 x1 q0 q1 z0 z1 z2 z3 z4 z5 HX6 hb7
   have x0 : w7.cell? ⟨w2.heap.size, 0, none⟩ = some (.string d1) := blk_cell (HX7.out.at 0 rfl) 0
   have x1 : w7.cell? ⟨w2.heap.size, 1, none⟩ = some (.slice A1 n1 c1) := blk_cell (HX7.out.at 0 rfl) 1
   have q0 : ∀ o : Obj, (w7.alloc o).cell? ⟨w2.heap.size, 0, none⟩ = some (.string d1) := fun o => cell_alloc x0 o
   have q1 : ∀ o : Obj, (w7.alloc o).cell? ⟨w2.heap.size, 1, none⟩ = some (.slice A1 n1 c1) := fun o => cell_alloc x1 o
   have z0 : w7.cell? ⟨wc.heap.size + 1, 0, none⟩ = some (.int .i64 3) := blk_cell (HX7.out.at 3 rfl) 0
   have z1 : w7.cell? ⟨wc.heap.size + 1, 1, none⟩ = some (.string ⟨#[]⟩) := blk_cell (HX7.out.at 3 rfl) 1
   have z2 : w7.cell? ⟨wc.heap.size + 1, 2, none⟩ = some (.string ⟨#[]⟩) := blk_cell (HX7.out.at 3 rfl) 2
   have z3 : w7.cell? ⟨wc.heap.size + 1, 3, none⟩ = some (.bool true) := blk_cell (HX7.out.at 3 rfl) 3
   have z4 : w7.cell? ⟨wc.heap.size + 1, 4, none⟩ = some (.slice none 0 0) := blk_cell (HX7.out.at 3 rfl) 4
   have z5 : w7.cell? ⟨wc.heap.size + 1, 5, none⟩ = some (.int .i64 2) := blk_cell (HX7.out.at 3 rfl) 5
   go_wp2_with fail
   refine (right_c [⟨3, ⟨#[]⟩, ⟨#[]⟩, true, [], 2⟩] _ 1 (keyB d2).1 d1 ⟨#[99, 110]⟩ (.slice A1 n1 c1) _ (rule_one (heap_alloc_new w7 _)) (Nat.le_refl _) (one_ok (by decide) (by decide)) (by omega) (by decide) rfl).mono ?_
   rintro e w8 ⟨rfl, hb8⟩
   have HX8 := Lib.hid ((HX7.out.step (below_alloc (Below.refl _ _) _)).step hb8)
   rw [right_self]
   rw [hxy]
   simp only [Bool.false_eq_true, if_false, if_true, Bool.true_or, Bool.false_or, ite_true, ite_false]
   clear x0 x1 q0 q1 z0 z1 z2 z3 z4 z5 HX7 hb8
   have x0 : w8.cell? ⟨w2.heap.size, 0, none⟩ = some (.string d1) := blk_cell (HX8.out.at 0 rfl) 0
   have x1 : w8.cell? ⟨w2.heap.size, 1, none⟩ = some (.slice A1 n1 c1) := blk_cell (HX8.out.at 0 rfl) 1
   have q0 : ∀ o : Obj, (w8.alloc o).cell? ⟨w2.heap.size, 0, none⟩ = some (.string d1) := fun o => cell_alloc x0 o
   have q1 : ∀ o : Obj, (w8.alloc o).cell? ⟨w2.heap.size, 1, none⟩ = some (.slice A1 n1 c1) := fun o => cell_alloc x1 o
   have z0 : w8.cell? ⟨wc.heap.size + 1 + 1, 0, none⟩ = some (.int .i64 4) := blk_cell (HX8.out.at 4 rfl) 0
   have z1 : w8.cell? ⟨wc.heap.size + 1 + 1, 1, none⟩ = some (.string d2) := blk_cell (HX8.out.at 4 rfl) 1
   have z2 : w8.cell? ⟨wc.heap.size + 1 + 1, 2, none⟩ = some (.string ⟨#[]⟩) := blk_cell (HX8.out.at 4 rfl) 2
   have z3 : w8.cell? ⟨wc.heap.size + 1 + 1, 3, none⟩ = some (.bool true) := blk_cell (HX8.out.at 4 rfl) 3
   have z4 : w8.cell? ⟨wc.heap.size + 1 + 1, 4, none⟩ = some (.slice none 0 0) := blk_cell (HX8.out.at 4 rfl) 4
   have z5 : w8.cell? ⟨wc.heap.size + 1 + 1, 5, none⟩ = some (.int .i64 1) := blk_cell (HX8.out.at 4 rfl) 5
   go_wp2_with fail
   refine (right_c [⟨4, d2, ⟨#[]⟩, true, [], 1⟩] _ 1 (keyB d1).1 d1 ⟨#[99, 110]⟩ (.slice A1 n1 c1) _ (rule_one (heap_alloc_new w8 _)) (Nat.le_refl _) (one_ok hs2 (by decide)) (by omega) (by decide) rfl).mono ?_
   rintro e w9 ⟨rfl, hb9⟩
   have HX9 := Lib.hid ((HX8.out.step (below_alloc (Below.refl _ _) _)).step hb9)
   rw [right_name]
   rw [hxy]
   simp only [Bool.false_eq_true, if_false, if_true, Bool.true_or, Bool.false_or, ite_true, ite_false]
   clear x0 x1 q0 q1 z0 z1 z2 z3 z4 z5 HX8 hb9
   have x0 : w9.cell? ⟨w2.heap.size, 0, none⟩ = some (.string d1) := blk_cell (HX9.out.at 0 rfl) 0
   have x1 : w9.cell? ⟨w2.heap.size, 1, none⟩ = some (.slice A1 n1 c1) := blk_cell (HX9.out.at 0 rfl) 1
   have q0 : ∀ o : Obj, (w9.alloc o).cell? ⟨w2.heap.size, 0, none⟩ = some (.string d1) := fun o => cell_alloc x0 o
   have q1 : ∀ o : Obj, (w9.alloc o).cell? ⟨w2.heap.size, 1, none⟩ = some (.slice A1 n1 c1) := fun o => cell_alloc x1 o
   have z0 : w9.cell? ⟨wc.heap.size + 1 + 1 + 1, 0, none⟩ = some (.int .i64 1) := blk_cell (HX9.out.at 5 rfl) 0
   have z1 : w9.cell? ⟨wc.heap.size + 1 + 1 + 1, 1, none⟩ = some (.string ⟨#[]⟩) := blk_cell (HX9.out.at 5 rfl) 1
   have z2 : w9.cell? ⟨wc.heap.size + 1 + 1 + 1, 2, none⟩ = some (.string d2) := blk_cell (HX9.out.at 5 rfl) 2
   have z3 : w9.cell? ⟨wc.heap.size + 1 + 1 + 1, 3, none⟩ = some (.bool deep) := blk_cell (HX9.out.at 5 rfl) 3
   have z4 : w9.cell? ⟨wc.heap.size + 1 + 1 + 1, 4, none⟩ = some (.slice none 0 0) := blk_cell (HX9.out.at 5 rfl) 4
   have z5 : w9.cell? ⟨wc.heap.size + 1 + 1 + 1, 5, none⟩ = some (.int .i64 1) := blk_cell (HX9.out.at 5 rfl) 5
   go_wp2_with fail
   refine (right_c [⟨1, ⟨#[]⟩, d2, deep, [], 1⟩] _ 1 ⟨#[]⟩ d1 ⟨#[99, 110]⟩ (.slice A1 n1 c1) _ (rule_one (heap_alloc_new w9 _)) (Nat.le_refl _) (one_ok (by decide) hs2) (by omega) (by decide) rfl).mono ?_
   rintro e w10 ⟨rfl, hb10⟩
   have HX10 := Lib.hid ((HX9.out.step (below_alloc (Below.refl _ _) _)).step hb10)
   rw [right_at]
   rw [hxy]
   simp only [Bool.false_eq_true, if_false, if_true, Bool.true_or, Bool.false_or, ite_true, ite_false]
   clear x0 x1 q0 q1 z0 z1 z2 z3 z4 z5 HX9 hb10
   go_wp2_with fail
   refine (awake_c _).mono ?_
   rintro e w11 ⟨rfl, hb11⟩
   have HX11 := Lib.hid (HX10.out.step hb11)
   clear HX10 hb11
   go_wp2
   go_ret
   exact ⟨rfl, below_step HB2.out HX11.out.2⟩
end Go.Proofs.YtflkghdndffacaaDoor.C
namespace Go.Proofs.YtflkghdndffacaaDoor.RowS
open Go.ChangeShapes Go.WideShapes Go.ChangeAt Go.RowKit Go.Proofs.YtflkghdndffacaaDoor.PD Go.Proofs.YtflkghdndffacaaDoorW.PrintWords
section
variable {H : Type} {enc : TypeId × Value → H} {W : World} {base : Nat} {v : Value} {d : DataW H} {ps : List MemPlace}
theorem u8_in {n : Int} (h : (Lit.int .u8 n).wf = true) : 0 ≤ n ∧ n ≤ 255 := by
  simp [Lit.wf, IntKind.min, IntKind.max, IntKind.bits, IntKind.signed] at h
  omega
end
end Go.Proofs.YtflkghdndffacaaDoor.RowS
