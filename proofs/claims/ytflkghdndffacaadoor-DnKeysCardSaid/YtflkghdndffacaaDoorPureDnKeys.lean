/- The statement DnKeys as the printed functions reckon it: with enough rounds the answer is true at all values, type numbers and cases. -/
import Derived.Test.YtflkghdndffacaaDoorPDx17
import Derived.Test.YtflkghdndffacaaDoorPureG
namespace Go.Proofs.YtflkghdndffacaaDoor.Pure
open Go.RowKit Go.Proofs.YtflkghdndffacaaDoor.PD Go.Proofs.YtflkghdndffacaaDoor.H Go.Proofs.YtflkghdndffacaaDoorW.PrintWords Go.Proofs.YtflkghdndffacaaDoorW.PrintLast
theorem awake_60 : brooklaw2_awake.f 60 = some true := by decide +kernel
theorem awake_ev : Ev (fun k => brooklaw2_awake.f k) true := Ev.of (fun k => brooklaw2_awake.mono k) awake_60
def hexU (n : Nat) : UInt8 := if n < 10 then (48 + n).toUInt8 else (55 + n).toUInt8
def escX : List UInt8 → List UInt8
  | [] => []
  | c :: v => 92 :: hexU (c.toNat / 16) :: hexD (c.toNat % 16) :: escX v
def typX (up : Bool) (r : S25) : List UInt8 := if up = true then lowL r.f0.data.toList else r.f0.data.toList
def segX (up : Bool) (r : S25) : List UInt8 := typX up r ++ 61 :: 92 :: 50 :: 48 :: escX r.f1.data.toList
def textX (up : Bool) : Bool → List S25 → List UInt8
  | _, [] => []
  | b, r :: rs => (if b = true then [44] else []) ++ segX up r ++ textX up true rs
def partX (up : Bool) (r : S25) : S25 := ⟨B (typX up r), B (32 :: r.f1.data.toList)⟩
theorem hexX_fin : ∀ n : Fin 256, oneB (hexU ((UInt8.ofNat n.val).toNat / 16)) = false ∧ 0 ≤ digB (hexU ((UInt8.ofNat n.val).toNat / 16)) ∧ 0 ≤ digB (hexD ((UInt8.ofNat n.val).toNat % 16)) ∧ ((digB (hexU ((UInt8.ofNat n.val).toNat / 16))).toNat * 16 + (digB (hexD ((UInt8.ofNat n.val).toNat % 16))).toNat).toUInt8 = UInt8.ofNat n.val := by decide +kernel
theorem hexX_back (c : UInt8) (R : List UInt8) : escAt (hexU (c.toNat / 16) :: hexD (c.toNat % 16) :: R) = some (c, 2) := by
  obtain ⟨h1, h2, h3, h4⟩ := u8_all (P := fun c => oneB (hexU (c.toNat / 16)) = false ∧ 0 ≤ digB (hexU (c.toNat / 16)) ∧ 0 ≤ digB (hexD (c.toNat % 16)) ∧ ((digB (hexU (c.toNat / 16))).toNat * 16 + (digB (hexD (c.toNat % 16))).toNat).toUInt8 = c) hexX_fin c
  rw [escAt_two (by simp [h1]) ⟨h2, h3⟩, h4]
theorem valS_escX (rest : List UInt8) (h : rest = [] ∨ rest.head? = some 44) : ∀ (v acc : List UInt8), valS false acc false (escX v ++ rest) = (acc ++ v, rest, true) := by
  intro v
  induction v with
  | nil => intro acc; simpa [escX] using valS_rest false acc rest h
  | cons c v ih =>
    intro acc
    have e : escX (c :: v) ++ rest = 92 :: hexU (c.toNat / 16) :: hexD (c.toNat % 16) :: (escX v ++ rest) := rfl
    rw [e, valS, if_neg (by decide), if_pos rfl, hexX_back]
    have := ih (acc ++ [c])
    simpa using this
theorem valS_blank (v rest : List UInt8) (h : rest = [] ∨ rest.head? = some 44) : valS true [] false (92 :: 50 :: 48 :: escX v ++ rest) = (32 :: v, rest, true) := by
  have e : (92 :: 50 :: 48 :: escX v ++ rest : List UInt8) = 92 :: 50 :: 48 :: (escX v ++ rest) := rfl
  have e2 : escAt (50 :: 48 :: (escX v ++ rest)) = some (32, 2) := escAt_two (by decide) (by decide)
  rw [e, valS, if_neg (by decide), if_pos rfl, e2]
  exact valS_escX rest h v [32]
theorem textX_head (up : Bool) (rs : List S25) : textX up true rs = [] ∨ (textX up true rs).head? = some 44 := by
  cases rs with
  | nil => exact .inl rfl
  | cons r rs => exact .inr (by simp [textX])
theorem textX_drop (up : Bool) (rs : List S25) : (textX up true rs).drop 1 = textX up false rs := by
  cases rs with
  | nil => rfl
  | cons r rs => simp [textX]
theorem textX_ne (up b : Bool) (rs : List S25) : (textX up b rs != []) = (!rs.isEmpty) := by
  cases rs with
  | nil => rfl
  | cons r rs => simp [textX, segX]
theorem parseX (up : Bool) : ∀ (rs acc : List S25) (n : Nat), acc.length + n = 8 → mayB (acc ++ rs.map (partX up)) = true → parseS n (textX up false rs) acc (!rs.isEmpty) = (acc ++ rs.map (partX up), true) := by
  intro rs
  induction rs with
  | nil =>
    intro acc n hn hm
    rw [show (!([] : List S25).isEmpty) = false from rfl, parseS_done, if_pos (by simpa using hm)]; simp
  | cons r rs ih =>
    intro acc n hn hm
    obtain ⟨h1, h2⟩ := mayB_iff.1 hm
    have hr := h1 (partX up r) (by simp)
    obtain ⟨n, rfl⟩ : ∃ m, n = m + 1 := ⟨n - 1, by simp at h2; omega⟩
    have ht := part_typed hr
    simp only [partX, B_data] at ht
    have e : textX up false (r :: rs) = typX up r ++ 61 :: (92 :: 50 :: 48 :: escX r.f1.data.toList ++ textX up true rs) := by simp [textX, segX]
    rw [show (!(r :: rs).isEmpty) = true from rfl, e, parseS_some _ _ _ _ _ (cutS_at _ _ (typed_61 ht)), if_neg (by simp [ht]), valS_blank _ _ (textX_head up rs)]
    simp only [textX_drop, textX_ne]
    rw [if_neg (by simp)]
    have := ih (acc ++ [partX up r]) n (by simp; omega) (by simpa using hm)
    simpa [partX] using this
theorem madeX_may (up : Bool) {l : List S25} (h : Made l) : mayB (l.map (partX up)) = true := by
  refine mayB_iff.2 ⟨fun r hr => ?_, by rw [List.length_map]; have := h.1; omega⟩
  obtain ⟨s, hs, rfl⟩ := List.mem_map.1 hr
  obtain ⟨t, w, ht, hw, rfl⟩ := h.2 s hs
  have : typedB (if up = true then lowL t else t) = true := by
    cases up with
    | true => exact low_types t ht
    | false => exact types_typed t ht
  unfold partB partX typX
  simp only [B_data, this, Bool.true_and, Bool.and_eq_true, decide_eq_true_eq]
  exact ⟨by simp, by simp; omega⟩
theorem key_partX (up : Bool) (r : S25) : keyR (partX up r) = keyR r := by
  have h1 : lowL (typX up r) = lowL r.f0.data.toList := by
    unfold typX; split
    · exact lowL_lowL _
    · rfl
  have h2 : foldL (32 :: r.f1.data.toList) = foldL r.f1.data.toList := by
    have := foldL_rep 1 0 r.f1.data.toList
    simpa using this
  simp only [keyR, partX, B_data, h1, h2]
theorem keyL_partX (up : Bool) (l : List S25) : keyL (l.map (partX up)) = keyL l := by
  simp only [keyL, List.map_map]
  congr 1
  funext r
  exact key_partX up r
theorem keyS_textX (up : Bool) {l : List S25} (h : Made l) : keyS (textX up false l) = (B (text (keyL l)), true) := by
  unfold keyS parseL
  have hp := parseX up l [] 8 rfl (by simpa using madeX_may up h)
  rw [textX_ne, hp]
  have hf : (l.map (partX up)).all foldOk = true := by
    rw [List.all_eq_true]
    intro r hr
    obtain ⟨s, hs, rfl⟩ := List.mem_map.1 hr
    rw [← foldOk_key, key_partX, foldOk_key]
    exact List.all_eq_true.1 (made_fold h) s hs
  simp only [List.nil_append, if_true, hf, keyL_partX]
theorem cutU_fin : ∀ n : Fin 16, ((⟨#[48, 49, 50, 51, 52, 53, 54, 55, 56, 57, 65, 66, 67, 68, 69, 70]⟩ : ByteArray).extract n.val (n.val + 1)).data = #[hexU n.val] := by decide
theorem cutU {i : Int} (h0 : 0 ≤ i) (h1 : i < 16) : (⟨#[48, 49, 50, 51, 52, 53, 54, 55, 56, 57, 65, 66, 67, 68, 69, 70]⟩ : ByteArray).extract i.toNat (i + 1).toNat = B [hexU i.toNat] := by
  have h := cutU_fin ⟨i.toNat, by omega⟩
  simp only at h
  rw [show (i + 1).toNat = i.toNat + 1 by omega]
  exact congrArg ByteArray.mk h
theorem escX_length (v : List UInt8) : (escX v).length = 3 * v.length := by
  induction v with
  | nil => rfl
  | cons c v ih => simp [escX, ih]; omega
section
variable (up : Bool) (l : List S25) (hl : Made l) (y9 y11 : ByteArray) (y10 y12 : Bool)
include hl
theorem keys_l1 (v : List UInt8) (i : Nat) (hi : i < l.length) (hv : (rd_T25 l (i : Int)).f1 = B v) (hvl : v.length ≤ 100) (out : List UInt8) (hout : out.length ≤ 10000) (r : Bool)
    (h : Ev (fun k => brooklaw2_DnKeys.l0 k up l y9 y10 y11 y12 (B (out ++ escX v)) ((i + 1 : Nat) : Int)) r) :
    ∀ q p : List UInt8, v = p ++ q → Ev (fun k => brooklaw2_DnKeys.l1 k up l y9 y10 y11 y12 (B (out ++ escX p)) (i : Int) (p.length : Int)) r := by
  have hl5 := hl.1
  intro q
  induction q with
  | nil =>
    intro p hp
    obtain rfl : v = p := by simpa using hp
    refine Ev.step (fun k => by rw [brooklaw2_DnKeys.l1]) ?_
    refine Ev.pos (by omega) ?_
    refine Ev.pos (by omega) ?_
    rw [hv]
    refine Ev.neg (by rw [B_size]; omega) ?_
    rw [wrap_succ (by omega)]
    exact h
  | cons c q ih =>
    intro p hp
    have hlen : p.length + 1 + q.length = v.length := by rw [hp]; simp; omega
    have hb : bt (B v) (p.length : Int) = (c.toNat : Int) := by rw [hp]; exact bt_pre p c q
    have hi2 := ih (p ++ [c]) (by rw [hp]; simp)
    rw [show (p ++ [c]).length = p.length + 1 by simp] at hi2
    have hc := UInt8.toNat_lt c
    have e1 : (Int.tdiv (c.toNat : Int) 16) % 256 = (c.toNat : Int) / 16 := by rw [Int.tdiv_eq_ediv_of_nonneg (by omega)]; omega
    have e2 : Int.tmod (c.toNat : Int) 16 = (c.toNat : Int) % 16 := Int.tmod_eq_emod_of_nonneg (by omega)
    have e3 : ((c.toNat : Int) / 16 + 1) % 256 = (c.toNat : Int) / 16 + 1 := by omega
    have e4 : ((c.toNat : Int) % 16 + 1) % 256 = (c.toNat : Int) % 16 + 1 := by omega
    have e8 : ((c.toNat : Int) / 16).toNat = c.toNat / 16 := by omega
    have e5 := cutU (i := (c.toNat : Int) / 16) (by omega) (by omega)
    rw [e8] at e5
    have e6 := hex_cut_at ((c.toNat : Int) % 16) (by omega) (by omega)
    have e7 : (⟨#[hexD ((c.toNat : Int) % 16).toNat]⟩ : ByteArray) = B [hexD (c.toNat % 16)] := by rw [show ((c.toNat : Int) % 16).toNat = c.toNat % 16 by omega]; rfl
    have e9 : (⟨#[92]⟩ : ByteArray) = B [92] := rfl
    have hx := escX_length p
    refine Ev.step (fun k => by rw [brooklaw2_DnKeys.l1]) ?_
    rw [hv, hb, wrap_succ (by omega)]
    simp only [e1, e2, e3, e4, e8, e5, e6, e7, e9, B_append]
    refine Ev.pos (by omega) ?_
    refine Ev.pos (by omega) ?_
    refine Ev.pos (by rw [B_size]; omega) ?_
    refine Ev.pos (by omega) ?_
    refine Ev.pos (by rw [B_size]; simp; omega) ?_
    refine Ev.pos (by omega) ?_
    refine Ev.pos (by omega) ?_
    refine Ev.pos (by omega) ?_
    refine Ev.pos (by simp only [B_size, List.length_append, List.length_cons, List.length_nil]; omega) ?_
    refine Ev.pos (by omega) ?_
    refine Ev.pos (by omega) ?_
    refine Ev.pos (by omega) ?_
    refine Ev.pos (by simp only [B_size, List.length_append, List.length_cons, List.length_nil]; omega) ?_
    have ee : out ++ escX p ++ [92] ++ [hexU (c.toNat / 16)] ++ [hexD (c.toNat % 16)] = out ++ escX (p ++ [c]) := by
      have : ∀ p : List UInt8, escX (p ++ [c]) = escX p ++ [92, hexU (c.toNat / 16), hexD (c.toNat % 16)] := by
        intro p
        induction p with
        | nil => rfl
        | cons d p ih => simp [escX, ih]
      rw [this]; simp
    rw [ee]
    exact hi2
end
theorem textX_snoc (up : Bool) (r : S25) : ∀ (p : List S25) (b : Bool), textX up b (p ++ [r]) = textX up b p ++ (if (b || decide (p ≠ [])) = true then [44] else []) ++ segX up r := by
  intro p
  induction p with
  | nil => intro b; simp [textX]
  | cons s p ih =>
    intro b
    rw [List.cons_append, textX, textX, ih true]
    simp
theorem textX_len (up : Bool) : ∀ (p : List S25) (b : Bool), (∀ r ∈ p, Good r) → (textX up b p).length ≤ 300 * p.length := by
  intro p
  induction p with
  | nil => intro b _; simp [textX]
  | cons r p ih =>
    intro b h
    have hi := ih true (fun s hs => h s (by simp [hs]))
    obtain ⟨t, w, ht, hw, rfl⟩ := h r (by simp)
    have h3 := types_len t ht
    have h4 : (typX up ⟨B t, B (118 :: w)⟩).length = t.length := by unfold typX; split <;> simp [B_data, lowL_length]
    have h5 := escX_length (118 :: w)
    have h6 : (if b = true then ([44] : List UInt8) else []).length ≤ 1 := by split <;> simp
    simp only [textX, segX, B_data, List.length_append, List.length_cons] at *
    omega
theorem keys_l0 (up : Bool) (l : List S25) (hl : Made l) (K : ByteArray) (hK : K = B (text (keyL l))) : ∀ q p : List S25, l = p ++ q →
    Ev (fun k => brooklaw2_DnKeys.l0 k up l K true K true (B (textX up false p)) (p.length : Int)) true := by
  have hl5 := hl.1
  intro q
  induction q with
  | nil =>
    intro p hp
    obtain rfl : l = p := by simpa using hp
    have hlen := textX_len up l false hl.2
    refine Ev.step (fun k => by rw [brooklaw2_DnKeys.l0]) ?_
    refine Ev.neg (by omega) ?_
    refine Ev.bind (key_ev (textX up false l) (by omega)) ?_
    rw [keyS_textX up hl]
    refine Ev.pos rfl ?_
    refine Ev.pos rfl ?_
    refine Ev.pos rfl ?_
    refine Ev.pos rfl ?_
    refine Ev.pos (by rw [hK]) ?_
    exact Ev.bind awake_ev (Ev.now true)
  | cons r q ih =>
    intro p hp
    have hlen : p.length + 1 + q.length = l.length := by rw [hp]; simp; omega
    have hgp : ∀ s ∈ p, Good s := fun s hs => hl.2 s (by rw [hp]; simp [hs])
    have htl := textX_len up p false hgp
    have hi := ih (p ++ [r]) (by rw [hp]; simp)
    have hb : rd_T25 l (p.length : Int) = r := by rw [hp]; exact rd_pre p r q
    rw [show (p ++ [r]).length = p.length + 1 by simp, textX_snoc] at hi
    obtain ⟨t, w, ht, hw, hr⟩ := hl.2 r (by rw [hp]; simp)
    have ht3 := types_len t ht
    have hf1 : r.f1.data.toList = 118 :: w := by rw [hr, B_data]
    have hf0 : r.f0.data.toList = t := by rw [hr, B_data]
    have htx : (typX up r).length ≤ 3 := by
      unfold typX
      rw [hf0]
      split
      · rw [lowL_length]; omega
      · omega
    -- the type's text, behind the comma
    have hj2 : ∀ out : List UInt8, out.length ≤ 2000 → out = textX up false p ++ (if 0 < p.length then [44] else []) → Ev (fun k => brooklaw2_DnKeys.j2 k up l K true K true (B out) (p.length : Int) (B (typX up r))) true := by
      intro out ho heq
      refine Ev.step (fun k => by rw [brooklaw2_DnKeys.j2]) ?_
      rw [show (⟨#[61, 92, 50, 48]⟩ : ByteArray) = B [61, 92, 50, 48] from rfl]
      simp only [B_append]
      refine Ev.pos (by rw [B_size, B_size]; omega) ?_
      refine Ev.pos (by rw [B_size]; simp; omega) ?_
      have h0 := keys_l1 up l hl K K true true (118 :: w) p.length (by omega) (by rw [hb, hr]) (by simp; omega) (out ++ typX up r ++ [61, 92, 50, 48]) (by simp; omega) true (by
        have e : out ++ typX up r ++ [61, 92, 50, 48] ++ escX (118 :: w) = textX up false p ++ (if (false || decide (p ≠ [])) = true then [44] else []) ++ segX up r := by
          have e3 : (false || decide (p ≠ [])) = true ↔ 0 < p.length := by simp [List.length_pos_iff]
          simp only [e3, heq, segX, hf1]
          simp
        rw [e]
        exact hi) (118 :: w) [] rfl
      simpa [escX] using h0
    have hj1 : ∀ out : List UInt8, out.length ≤ 2000 → out = textX up false p ++ (if 0 < p.length then [44] else []) → Ev (fun k => brooklaw2_DnKeys.j1 k up l K true K true (B out) (p.length : Int)) true := by
      intro out ho heq
      refine Ev.step (fun k => by rw [brooklaw2_DnKeys.j1]) ?_
      refine Ev.pos (by omega) ?_
      refine Ev.pos (by omega) ?_
      rw [hb]
      have h2 := hj2 out ho heq
      cases up with
      | true =>
        refine Ev.pos rfl ?_
        refine Ev.fix (v := B (lowL r.f0.data.toList)) (by rw [← lower_B (by rw [hf0]; omega), B_of]) ?_
        exact h2
      | false =>
        refine Ev.neg (by simp) ?_
        have : r.f0 = B (typX false r) := by unfold typX; rw [if_neg (by simp), B_of]
        rw [this]
        exact h2
    refine Ev.step (fun k => by rw [brooklaw2_DnKeys.l0]) ?_
    refine Ev.pos (by omega) ?_
    by_cases h0 : 0 < p.length
    · refine Ev.pos (by omega) ?_
      refine Ev.pos (by rw [B_size]; omega) ?_
      rw [show (⟨#[44]⟩ : ByteArray) = B [44] from rfl, B_append]
      exact hj1 _ (by simp; omega) (by rw [if_pos h0])
    · refine Ev.neg (by omega) ?_
      exact hj1 _ (by omega) (by rw [if_neg h0]; simp)
theorem DnKeys (l0 : List ByteArray) (l1 : List Int) (up : Bool) (_ : ∀ s ∈ l0, s.size ≤ 9223372036854775807) (h1 : ∀ n ∈ l1, (Lit.int .u8 n).wf = true) : ∃ k, brooklaw2_DnKeys.f k l0 l1 up = some true := by
  refine Ev.rounds (g := fun k => brooklaw2_DnKeys.f k l0 l1 up) ?_
  obtain ⟨l, hl, hm⟩ := make_ev l0 l1 h1
  have h2 := text_small (made_may hm)
  have h3 := text_small (made_key hm)
  unfold brooklaw2_DnKeys.f
  refine Ev.bind hl ?_
  refine Ev.fix (text_ev (made_modest hm)) ?_
  refine Ev.bind (key_ev (text l) (by omega)) ?_
  rw [keyS_made hm]
  refine Ev.bind (key_ev (text (keyL l)) (by omega)) ?_
  rw [keyS_key hm]
  exact keys_l0 up l hm _ rfl l [] rfl
end Go.Proofs.YtflkghdndffacaaDoor.Pure
