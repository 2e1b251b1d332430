/- What the document reads in a text: a value, just if its text is this text. Conditions: as each theorem states them (enough rounds). -/
import Derived.Test.YtddmllocjocipaaDoorBack
import Derived.Test.YtddmllocjocipaaDoorNum
import Derived.Test.YtddmllocjocipaaDoorDx32
namespace Go.Proofs.YtddmllocjocipaaDoor.D
open Go.RowKit Go.Proofs.YtddmllocjocipaaDoorW.PrintWords Go.Proofs.YtddmllocjocipaaDoorW.PrintLast Go.Proofs.YtddmllocjocipaaDoorW.PrintMore
set_option linter.unusedSimpArgs false
set_option linter.unusedVariables false
/-- What stands between the quotes, a doubled one once. -/
def unq : List UInt8 → List UInt8
  | c :: d :: t => c :: (if c = 39 then unq t else unq (d :: t))
  | _ => []
theorem unq_len : ∀ (n : Nat) (l : List UInt8), l.length ≤ n → (unq l).length ≤ l.length
  | _, [], _ => by simp [unq]
  | _, [c], _ => by simp [unq]
  | 0, c :: d :: t, h => by simp at h
  | n + 1, c :: d :: t, h => by
    unfold unq
    simp only [List.length_cons] at h ⊢
    split
    · have := unq_len n t (by omega); omega
    · have := unq_len n (d :: t) (by simp only [List.length_cons]; omega); simp only [List.length_cons] at this; omega
theorem unq_dbl : ∀ t : List UInt8, unq (dbl t ++ [39]) = t
  | [] => by simp [dbl, unq]
  | c :: t => by
    by_cases h : c = 39
    · subst h
      rw [dbl_quote]
      show unq (39 :: 39 :: (dbl t ++ [39])) = _
      rw [unq, if_pos rfl, unq_dbl t]
    · rw [dbl_other t h]
      cases e : dbl t ++ [39] with
      | nil => simp at e
      | cons d u =>
        show unq (c :: (dbl t ++ [39])) = _
        rw [e, unq, if_neg h, ← e, unq_dbl t]
/-- What comes of a candidate. -/
def fin (s : ByteArray) (x : S23) : Int × Int × Int × ByteArray × Int := if textV x = s.data.toList then (x.f0, x.f1, x.f2, x.f3, 0) else (0, 0, 0, ⟨#[]⟩, 4)
theorem fit_mk {a b c : Int} {s : ByteArray} (ha : 0 ≤ a ∧ a ≤ 255) (hb : Rng b) (hc : Rng c) (hs : s.size ≤ 1000000000) : FitV ⟨a, b, c, s⟩ := by
  unfold Rng at hb hc
  refine ⟨?_, ?_, ?_, Nat.le_trans hs (by decide)⟩
  · simp [Lit.wf, IntKind.min, IntKind.max, IntKind.signed, IntKind.bits]; omega
  · simp [Lit.wf, IntKind.min, IntKind.max, IntKind.signed, IntKind.bits]; omega
  · simp [Lit.wf, IntKind.min, IntKind.max, IntKind.signed, IntKind.bits]; omega
theorem rng0 : Rng 0 := by unfold Rng; omega
theorem ref_fin (k : Nat) (s : ByteArray) (x : S23) (hf : FitV x) (hk : 400 ≤ k) : ((covenantref01_Text.f k x.f0 x.f1 x.f2 x.f3).bind fun t => (if t.toList = s.toList then (some (x.f0, x.f1, x.f2, x.f3, (0 : Int))) else (some ((0 : Int), (0 : Int), (0 : Int), (⟨#[]⟩ : ByteArray), (4 : Int))))) = some (fin s x) := by
  rw [ref_text_spec k x hf hk, Option.bind_some, tl_eq, tl_eq]
  unfold fin
  by_cases h : textV x = s.data.toList
  · rw [if_pos (by simpa using h), if_pos h]
  · rw [if_neg (by simpa using h), if_neg h]
theorem parse_l0 (s : ByteArray) (hz : s.size ≤ 100000) : ∀ (d k i : Nat) (x : ByteArray), i + d = s.size → x.size ≤ i → 402 + d ≤ k →
    covenantref01_Parse.l0 k s (i : Int) 3 0 0 x = some (fin s ⟨3, 0, 0, ⟨(x.data.toList ++ unq (s.data.toList.drop i)).toArray⟩⟩) := by
  intro d
  induction d using Nat.strongRecOn with
  | _ d ih =>
    intro k i x h hx hk
    obtain ⟨k, rfl⟩ : ∃ j, k = j + 1 := ⟨k - 1, by omega⟩
    have hsl : s.data.toList.length = s.size := by simp
    have w1 : wrap64 ((i : Int) + 1) = ((i + 1 : Nat) : Int) := by unfold wrap64; omega
    have w2 : wrap64 (((i + 1 : Nat) : Int) + 1) = ((i + 2 : Nat) : Int) := by unfold wrap64; omega
    simp only [covenantref01_Parse.l0]
    rw [w1]
    by_cases hi : i + 1 < s.size
    · have he := ext_one s i (by omega)
      have hz1 : (s.extract i (i + 1)).size = 1 := by
        have h2 : (s.extract i (i + 1)).data.toList.length = 1 := by rw [he]; rfl
        rw [Array.length_toList] at h2
        exact h2
      rw [if_pos (by omega), if_pos (by omega), if_pos (by omega), if_pos (by omega)]
      simp only [Int.toNat_natCast]
      rw [hz1, if_pos (by omega), if_pos (by omega), bt_nat (by omega : i < s.size), w2]
      have e1 : s.data.toList.drop i = s.data.toList[i] :: s.data.toList[i + 1] :: s.data.toList.drop (i + 2) := by
        rw [List.drop_eq_getElem_cons (by omega), List.drop_eq_getElem_cons (by omega : i + 1 < s.data.toList.length)]
      have e2 : s.data.toList.drop (i + 1) = s.data.toList[i + 1] :: s.data.toList.drop (i + 2) := List.drop_eq_getElem_cons (by omega)
      have e3 : (x ++ s.extract i (i + 1)).data.toList = x.data.toList ++ [s.data.toList[i]] := by
        simp only [ByteArray.data_append, Array.toList_append, he]
      have hx2 : (x ++ s.extract i (i + 1)).size ≤ i + 1 := by rw [ByteArray.size_append, hz1]; omega
      by_cases c39 : s.data.toList[i] = 39
      · rw [if_pos (by rw [c39]; rfl), ih (d - 2) (by omega) k (i + 2) _ (by omega) (by omega) (by omega), e3, e1, unq, if_pos c39]
        simp only [List.append_assoc, List.singleton_append]
      · rw [if_neg (fun e => c39 (UInt8.toNat_inj.1 (show s.data.toList[i].toNat = (39 : UInt8).toNat from Int.ofNat.inj e)))]
        rw [ih (d - 1) (by omega) k (i + 1) _ (by omega) (by omega) (by omega), e3, e1, unq, if_neg c39, ← e2]
        simp only [List.append_assoc, List.singleton_append]
    · rw [if_neg (by omega)]
      have e0 : unq (s.data.toList.drop i) = [] := by
        match hd : s.data.toList.drop i with
        | [] => rfl
        | [c] => rfl
        | c :: d :: t =>
          have := congrArg List.length hd
          simp only [List.length_drop, List.length_cons] at this
          omega
      have e4 : (⟨(x.data.toList ++ ([] : List UInt8)).toArray⟩ : ByteArray) = x := ba_eq (by simp)
      rw [e0, e4]
      exact ref_fin k s ⟨3, 0, 0, x⟩ (fit_mk (by omega) rng0 rng0 (by omega)) (by omega)
/-- The one value that a text may tell. -/
def candV (L : List UInt8) : S23 :=
  if L = [110, 117, 108, 108] then ⟨0, 0, 0, ⟨#[]⟩⟩ else if L = [121, 101, 115] then ⟨2, 1, 0, ⟨#[]⟩⟩ else if L = [110, 111] then ⟨2, 0, 0, ⟨#[]⟩⟩ else
  if L.head? = some 39 then ⟨3, 0, 0, ⟨(unq (L.drop 1)).toArray⟩⟩ else if L.head? = some 91 then
    ⟨4, (numN (L.drop 1) (capN (L.drop 1))).1, if 1 + (numN (L.drop 1) (capN (L.drop 1))).2 < (L.length : Int) then (numN (L.drop (2 + (numN (L.drop 1) (capN (L.drop 1))).2).toNat) (capN (L.drop (2 + (numN (L.drop 1) (capN (L.drop 1))).2).toNat))).1 else 0, ⟨#[]⟩⟩ else
  ⟨1, (numN L (capN L)).1, 0, ⟨#[]⟩⟩
theorem cand_fit (L : List UInt8) (h : L.length ≤ 100000) : FitV (candV L) := by
  have em : (⟨#[]⟩ : ByteArray).size ≤ 1000000000 := by decide
  unfold candV
  split
  · exact fit_mk (by omega) rng0 rng0 em
  split
  · exact fit_mk (by omega) (by unfold Rng; omega) rng0 em
  split
  · exact fit_mk (by omega) rng0 rng0 em
  split
  · refine fit_mk (by omega) rng0 rng0 ?_
    have := unq_len _ (L.drop 1) (Nat.le_refl _)
    rw [mk_size]
    rw [List.length_drop] at this
    omega
  split
  · refine fit_mk (by omega) (num_rng _ _).1 ?_ em
    split
    · exact (num_rng _ _).1
    · exact rng0
  · exact fit_mk (by omega) (num_rng _ _).1 rng0 em
theorem ext_from (s : ByteArray) (i : Nat) : (s.extract i s.size).data.toList = s.data.toList.drop i := by
  rw [ByteArray.data_extract, Array.toList_extract, List.extract_eq_take_drop]
  exact List.take_of_length_le (by simp)
theorem ref_parse_fin (k : Nat) (s : ByteArray) (hz : s.size ≤ 100000) (hk : 1300 + s.size ≤ k) (hn : s.data.toList ≠ []) : covenantref01_Parse.f k s = some (fin s (candV s.data.toList)) := by
  have hsl : s.data.toList.length = s.size := by simp
  have hf := cand_fit s.data.toList (by omega)
  unfold covenantref01_Parse.f
  unfold candV at hf ⊢
  have h1 : 0 < s.size := by
    rw [← hsl]; exact List.length_pos_iff.2 hn
  have h0 : bt s 0 = s.data.toList[0].toNat := bt_nat h1
  have hh : s.data.toList.head? = some s.data.toList[0] := List.head?_eq_getElem? ▸ List.getElem?_eq_getElem (by omega)
  have e1 : (s.extract 1 s.size).data.toList = s.data.toList.drop 1 := ext_from s 1
  have z1 : ∀ i, (s.extract i s.size).size ≤ 1000000000 := fun i => by rw [ByteArray.size_extract]; omega
  rw [if_neg (by rw [tl_eq]; exact hn)]
  simp only [tl_eq]
  by_cases c1 : s.data.toList = [110, 117, 108, 108]
  · rw [if_pos c1] at hf ⊢
    rw [if_pos c1]
    exact (by simpa only [tl_eq] using ref_fin k s _ hf (by omega))
  rw [if_neg c1] at hf ⊢
  rw [if_neg c1]
  by_cases c2 : s.data.toList = [121, 101, 115]
  · rw [if_pos c2] at hf ⊢
    rw [if_pos c2]
    exact (by simpa only [tl_eq] using ref_fin k s _ hf (by omega))
  rw [if_neg c2] at hf ⊢
  rw [if_neg c2]
  by_cases c3 : s.data.toList = [110, 111]
  · rw [if_pos c3] at hf ⊢
    rw [if_pos c3]
    exact (by simpa only [tl_eq] using ref_fin k s _ hf (by omega))
  rw [if_neg c3] at hf ⊢
  rw [if_neg c3, if_pos (by omega), h0, hh]
  rw [hh] at hf
  by_cases c4 : s.data.toList[0] = 39
  · rw [if_pos (by rw [c4]; rfl), if_pos (by rw [c4])]
    rw [show (1 : Int) = ((1 : Nat) : Int) from rfl, parse_l0 s hz (s.size - 1) k 1 ⟨#[]⟩ (by omega) (by decide) (by omega)]
    rfl
  rw [if_neg (fun e => c4 (Option.some.inj e))] at hf ⊢
  rw [if_neg (fun e => c4 (UInt8.toNat_inj.1 (show s.data.toList[0].toNat = (39 : UInt8).toNat from Int.ofNat.inj e)))]
  by_cases c5 : s.data.toList[0] = 91
  · rw [if_pos (by rw [c5])] at hf
    rw [if_pos (by rw [c5]; rfl), if_pos (by omega), if_pos (by rw [c5]), number_spec k _ (z1 1) (by omega), Option.bind_some, e1]
    have b := num_rng (s.data.toList.drop 1) (capN (s.data.toList.drop 1))
    have cb : capN (s.data.toList.drop 1) ≤ 20 := by unfold capN; omega
    generalize numN (s.data.toList.drop 1) (capN (s.data.toList.drop 1)) = nu at b hf ⊢
    obtain ⟨n, u⟩ := nu
    simp only at b hf ⊢
    have w1 : wrap64 (1 + u) = 1 + u := by unfold wrap64; omega
    have w2 : wrap64 (2 + u) = 2 + u := by unfold wrap64; omega
    rw [w1, w2, hsl]
    rw [hsl] at hf
    by_cases c6 : 1 + u < (s.size : Int)
    · rw [if_pos c6] at hf
      rw [if_pos c6, if_pos c6, if_pos (by omega), if_pos (by omega), number_spec k _ (z1 _) (by omega), Option.bind_some, ext_from]
      exact (by simpa only [tl_eq] using ref_fin k s _ hf (by omega))
    · rw [if_neg c6] at hf
      rw [if_neg c6, if_neg c6]
      exact (by simpa only [tl_eq] using ref_fin k s _ hf (by omega))
  · rw [if_neg (fun e => c5 (Option.some.inj e))] at hf ⊢
    rw [if_neg (fun e => c5 (UInt8.toNat_inj.1 (show s.data.toList[0].toNat = (91 : UInt8).toNat from Int.ofNat.inj e)))]
    rw [number_spec k s (by omega) (by omega), Option.bind_some]
    exact (by simpa only [tl_eq] using ref_fin k s _ hf (by omega))
theorem fit_rng {x : S23} (h : FitV x) : Rng x.f1 ∧ Rng x.f2 := by
  obtain ⟨_, w1, w2, _⟩ := h
  unfold Rng
  exact ⟨by simpa [Lit.wf, IntKind.min, IntKind.max, IntKind.signed, IntKind.bits] using w1, by simpa [Lit.wf, IntKind.min, IntKind.max, IntKind.signed, IntKind.bits] using w2⟩
theorem cap_le (n : Int) (hn : Rng n) (r : List UInt8) : (Lib.itoa n).length ≤ capN (Lib.itoa n ++ r) := by
  unfold capN
  rw [List.length_append]
  have : (Lib.itoa n).length ≤ 20 := by
    unfold Rng at hn
    unfold Lib.itoa
    split
    · have := dig_len 18 n.natAbs (Nat.lt_of_le_of_lt (by omega : n.natAbs ≤ 9223372036854775808) (by decide))
      rw [List.length_cons]; omega
    · have := dig_len 18 n.toNat (Nat.lt_of_le_of_lt (by omega : n.toNat ≤ 9223372036854775807) (by decide))
      omega
  omega
theorem cand_text {x : S23} (hf : FitV x) (h : MayV x.f0 x.f1 x.f2 x.f3) : candV (textV x) = x := by
  obtain ⟨r1, r2⟩ := fit_rng hf
  rcases may_cases h with ⟨rfl, e⟩ | ⟨n, rfl, e⟩ | ⟨rfl, e⟩ | ⟨rfl, e⟩ | ⟨s, rfl, e⟩ | ⟨n, m, rfl, e⟩
  · rw [e]; rfl
  · rw [e]
    have nh : ∀ c : UInt8, ¬ (c.toNat = 45 ∨ (48 ≤ c.toNat ∧ c.toNat ≤ 57)) → (Lib.itoa n).head? ≠ some c := by
      intro c hc h2
      cases hi : Lib.itoa n with
      | nil => exact itoa_ne n hi
      | cons d t => rw [hi] at h2; have := Option.some.inj h2; subst this; exact hc (itoa_head hi)
    unfold candV
    rw [if_neg (itoa_not n _ _ (by decide)), if_neg (itoa_not n _ _ (by decide)), if_neg (itoa_not n _ _ (by decide)), if_neg (nh 39 (by decide)), if_neg (nh 91 (by decide))]
    have := num_hit n r1 [] (by intro c hc; cases hc) (capN (Lib.itoa n)) (by simpa using cap_le n r1 [])
    rw [List.append_nil] at this
    rw [this]
  · rw [e]; rfl
  · rw [e]; rfl
  · rw [e]
    unfold candV
    rw [if_neg (by simp), if_neg (by simp), if_neg (by simp), if_pos (by simp), List.cons_append, List.drop_one, List.tail_cons, unq_dbl]
  · rw [e]
    have a1 : ∀ c : UInt8, ((44 :: (Lib.itoa m ++ [41])).head? = some c) → ¬ (48 ≤ c.toNat ∧ c.toNat ≤ 57) := by
      intro c hc; rw [← Option.some.inj hc]; decide
    have a2 : ∀ c : UInt8, (([41] : List UInt8).head? = some c) → ¬ (48 ≤ c.toNat ∧ c.toNat ≤ 57) := by
      intro c hc; rw [← Option.some.inj hc]; decide
    have e2 : (91 :: Lib.itoa n ++ [44] ++ Lib.itoa m ++ [41] : List UInt8) = 91 :: (Lib.itoa n ++ 44 :: (Lib.itoa m ++ [41])) := by simp
    rw [e2]
    unfold candV
    rw [if_neg (by simp), if_neg (by simp), if_neg (by simp), if_neg (by simp), if_pos (by simp)]
    simp only [List.drop_one, List.tail_cons]
    rw [num_hit n r1 _ a1 _ (cap_le n r1 _)]
    simp only
    rw [if_pos (by simp only [List.length_cons, List.length_append]; omega)]
    have e3 : (91 :: (Lib.itoa n ++ 44 :: (Lib.itoa m ++ [41])) : List UInt8).drop (2 + ((Lib.itoa n).length : Int)).toNat = Lib.itoa m ++ [41] := by
      rw [show (2 + ((Lib.itoa n).length : Int)).toNat = (Lib.itoa n).length + 1 + 1 by omega, List.drop_succ_cons, List.drop_append, List.drop_of_length_le (by omega), show (Lib.itoa n).length + 1 - (Lib.itoa n).length = 1 by omega]
      rfl
    rw [e3, num_hit m r2 _ a2 _ (cap_le m r2 _)]
theorem ref_parse_spec (k : Nat) (s : ByteArray) (hz : s.size ≤ 100000) (hk : 1300 + s.size ≤ k) : covenantref01_Parse.f k s = some (if isText s.data.toList then ((readV s.data.toList).f0, (readV s.data.toList).f1, (readV s.data.toList).f2, (readV s.data.toList).f3, 0) else (0, 0, 0, ⟨#[]⟩, 4)) := by
  have hsl : s.data.toList.length = s.size := by simp
  by_cases hn : s.data.toList = []
  · unfold covenantref01_Parse.f
    rw [if_pos (by rw [tl_eq]; exact hn), hn, show isText [] = false by unfold isText; simp]
    rfl
  · rw [ref_parse_fin k s hz hk hn]
    unfold fin
    have hf := cand_fit s.data.toList (by omega)
    by_cases e : textV (candV s.data.toList) = s.data.toList
    · rw [if_pos e]
      have hm : MayV (candV s.data.toList).f0 (candV s.data.toList).f1 (candV s.data.toList).f2 (candV s.data.toList).f3 := Classical.byContradiction fun hm => hn (by rw [← e, textV_none hm])
      have h1 := isText_text hf hm
      have h2 := read_text hf hm
      rw [e] at h1 h2
      rw [if_pos h1, h2]
    · rw [if_neg e]
      have : ¬ isText s.data.toList = true := by
        intro h
        have h3 := isText_may h
        have h4 := cand_text (read_fit s.data.toList (by omega)) h3.1
        rw [h3.2] at h4
        rw [h4] at e
        exact e h3.2
      rw [if_neg this]
end Go.Proofs.YtddmllocjocipaaDoor.D
