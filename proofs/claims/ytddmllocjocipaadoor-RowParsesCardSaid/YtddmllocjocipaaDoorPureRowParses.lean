/- The document's reading of a row's text is the program's; the law RowParses, over a text alone. Conditions: as each theorem states them. -/
import Derived.Test.YtddmllocjocipaaDoorPrs
import Derived.Test.YtddmllocjocipaaDoorRowBk
import Derived.Test.YtddmllocjocipaaDoorPureRowTells
import Derived.Test.YtddmllocjocipaaDoorDx34
namespace Go.Proofs.YtddmllocjocipaaDoor.D
open Go.RowKit Go.Proofs.YtddmllocjocipaaDoorW.PrintWords Go.Proofs.YtddmllocjocipaaDoorW.PrintLast Go.Proofs.YtddmllocjocipaaDoorW.PrintMore
set_option linter.unusedSimpArgs false
set_option linter.unusedVariables false
/-- How many bytes a part has. -/
def pieceN : Bool → List UInt8 → Nat
  | _, [] => 0
  | q, c :: t => if q = false ∧ c = 44 ∧ t.head? = some 32 then 0 else pieceN (flip q c) t + 1
theorem piece_le : ∀ (q : Bool) (l : List UInt8), pieceN q l ≤ l.length ∧ (pieceN q l < l.length → pieceN q l + 2 ≤ l.length)
  | _, [] => by simp [pieceN]
  | q, c :: t => by
    have ih := piece_le (flip q c) t
    unfold pieceN
    split
    · next h =>
      refine ⟨Nat.zero_le _, fun _ => ?_⟩
      cases t with
      | nil => simp at h
      | cons d t => simp
    · simp only [List.length_cons]; exact ⟨by omega, fun h => by omega⟩
theorem parts_piece : ∀ (q : Bool) (l : List UInt8), partsS false q l = l.take (pieceN q l) :: (if pieceN q l < l.length then partsS false false (l.drop (pieceN q l + 2)) else [])
  | _, [] => by simp [pieceN, partsS]
  | q, c :: t => by
    rw [partsS]
    unfold pieceN
    by_cases h : q = false ∧ c = 44 ∧ t.head? = some 32
    · obtain ⟨rfl, rfl, h3⟩ := h
      rw [if_pos ⟨rfl, rfl, h3⟩, if_pos ⟨rfl, rfl, h3⟩, show flip false 44 = false from rfl]
      cases t with
      | nil => cases h3
      | cons d t => simp [partsS]
    · have h' : ¬ (flip q c = false ∧ c = 44 ∧ t.head? = some 32) := by
        rintro ⟨h1, rfl, h3⟩
        exact h ⟨h1, rfl, h3⟩
      rw [if_neg h, if_neg h', parts_piece (flip q c) t, consHead]
      simp only [List.take_succ_cons, List.length_cons, Nat.add_lt_add_iff_right, List.drop_succ_cons]
/-- The document's way through what stands between the brackets. -/
def resR (L : List UInt8) : Nat → List S23 → List UInt8 → List S23 × Int
  | 0, _, _ => ([], 4)
  | f + 1, out, R => if R = [] then (if textR out = L then (out, 0) else ([], 4)) else if isText (R.take (pieceN false R)) = true then resR L f (out ++ [readV (R.take (pieceN false R))]) (R.drop (pieceN false R + 2)) else ([], 4)
theorem res_or (L : List UInt8) : ∀ (f : Nat) (out : List S23) (R : List UInt8), R.length ≤ 100000 → (∀ x ∈ out, FitV x) → resR L f out R = ([], 4) ∨ ((resR L f out R).2 = 0 ∧ textR (resR L f out R).1 = L ∧ ∀ x ∈ (resR L f out R).1, FitV x)
  | 0, _, _, _, _ => .inl rfl
  | f + 1, out, R, hR, hf => by
    unfold resR
    by_cases h : R = []
    · rw [if_pos h]
      by_cases e : textR out = L
      · rw [if_pos e]; exact .inr ⟨rfl, e, hf⟩
      · rw [if_neg e]; exact .inl rfl
    · rw [if_neg h]
      by_cases e : isText (R.take (pieceN false R)) = true
      · rw [if_pos e]
        refine res_or L f _ _ (by rw [List.length_drop]; omega) (fun x hx => ?_)
        rcases List.mem_append.1 hx with hx | hx
        · exact hf x hx
        · rw [List.mem_singleton.1 hx]
          exact read_fit _ (by rw [List.length_take]; omega)
      · rw [if_neg e]; exact .inl rfl
theorem res_all (L : List UInt8) : ∀ (f : Nat) (out : List S23) (R : List UInt8), R.length < f → R ≠ [] → (∀ p ∈ partsS false false R, isText p = true) → textR (out ++ (partsS false false R).map readV) = L → resR L f out R = (out ++ (partsS false false R).map readV, 0)
  | 0, _, _, h, _, _, _ => absurd h (by omega)
  | f + 1, out, R, h, hR, hp, ht => by
    have pl := piece_le false R
    have pp := parts_piece false R
    have r0 : 0 < R.length := List.length_pos_iff.2 hR
    unfold resR
    rw [if_neg hR, if_pos (hp _ (by rw [pp]; simp))]
    by_cases c : pieceN false R < R.length
    · rw [if_pos c] at pp
      have h2 : R.drop (pieceN false R + 2) ≠ [] := by
        intro e
        have := hp [] (by rw [pp, e]; simp [partsS])
        exact absurd this (by unfold isText; simp)
      have ih := res_all L f (out ++ [readV (R.take (pieceN false R))]) (R.drop (pieceN false R + 2)) (by rw [List.length_drop]; omega) h2 (fun p hx => hp p (by rw [pp]; exact List.mem_cons_of_mem _ hx))
      rw [pp, List.map_cons] at ht ⊢
      rw [List.append_assoc, List.singleton_append] at ih
      exact ih ht
    · rw [if_neg c] at pp
      have h2 : R.drop (pieceN false R + 2) = [] := List.drop_of_length_le (by omega)
      rw [pp, List.map_cons, List.map_nil] at ht ⊢
      rw [h2]
      cases f with
      | zero => omega
      | succ f => unfold resR; rw [if_pos rfl, if_pos ht]
/-- The bytes ahead of the last one, from one on. -/
def rest (s : ByteArray) (i : Nat) : List UInt8 := (s.data.toList.take (s.size - 1)).drop i
theorem rest_cons (s : ByteArray) (i : Nat) (h : i < s.size - 1) : rest s i = s.data.toList[i]'(by simp; omega) :: rest s (i + 1) := by
  have hsl : s.data.toList.length = s.size := by simp
  unfold rest
  rw [List.drop_eq_getElem_cons (by rw [List.length_take]; omega), List.getElem_take]
theorem rest_len (s : ByteArray) (i : Nat) : (rest s i).length = s.size - 1 - i := by
  have hsl : s.data.toList.length = s.size := by simp
  unfold rest; rw [List.length_drop, List.length_take]; omega
theorem rest_take (s : ByteArray) (i n : Nat) (h : n ≤ (rest s i).length) : (s.extract i (i + n)).data.toList = (rest s i).take n := by
  have hsl : s.data.toList.length = s.size := by simp
  rw [rest_len] at h
  unfold rest
  rw [ByteArray.data_extract, Array.toList_extract, List.extract_eq_take_drop, show i + n - i = n by omega, List.drop_take, List.take_take]
  congr 1
  omega
theorem scan_l1 (s : ByteArray) (hz : s.size ≤ 100000) (hs : 2 ≤ s.size) (h41 : s.data.toList[s.size - 1]? = some 41) (out : List S23) (ad : Int) (r : List S23 × Int) (K : Nat) : ∀ (Q : List UInt8) (i : Nat) (q : Bool), rest s i = Q → i ≤ s.size - 1 →
    (∀ k, K ≤ k → ∀ q', covenantref05_Parse.j3 k s out ad ((i + pieceN q Q : Nat) : Int) q' false = some r) → ∀ k, K + 2 * pieceN q Q + 1 ≤ k → covenantref05_Parse.l1 k s out ad (i : Int) q = some r
  | Q, i, q, hQ, hi, hj, k, hk => by
    have hsl : s.data.toList.length = s.size := by simp
    obtain ⟨k, rfl⟩ : ∃ j, k = j + 1 := ⟨k - 1, by omega⟩
    have w1 : wrap64 ((s.size : Int) - 1) = ((s.size - 1 : Nat) : Int) := by unfold wrap64; omega
    have w2 : wrap64 ((i : Int) + 1) = ((i + 1 : Nat) : Int) := by unfold wrap64; omega
    simp only [covenantref05_Parse.l1]
    rw [w1]
    match Q, hQ with
    | [], hQ =>
      have := congrArg List.length hQ
      rw [rest_len] at this
      simp only [List.length_nil] at this
      rw [if_neg (by omega)]
      exact hj k (by unfold pieceN at hk; omega) q
    | c :: t, hQ =>
      have hl := congrArg List.length hQ
      rw [rest_len] at hl
      simp only [List.length_cons] at hl
      have hi' : i < s.size - 1 := by omega
      have hc := hQ
      rw [rest_cons s i hi'] at hc
      obtain ⟨hc1, hc2⟩ := List.cons.inj hc
      have b1 : bt s (i : Int) = c.toNat := by rw [bt_nat (by omega : i < s.size), hc1]
      -- what stands behind
      have b2 : bt s ((i + 1 : Nat) : Int) = 32 ↔ t.head? = some 32 := by
        have hlt : i + 1 < s.data.toList.length := by omega
        rw [bt_nat (by omega : i + 1 < s.size)]
        by_cases e : i + 1 < s.size - 1
        · have e6 : t.head? = some (s.data.toList[i + 1]'hlt) := by rw [← hc2, rest_cons s (i + 1) e]; rfl
          rw [e6]
          exact ⟨fun h => by rw [UInt8.toNat_inj.1 (show s.data.toList[i + 1].toNat = (32 : UInt8).toNat from Int.ofNat.inj h)], fun h => by rw [Option.some.inj h]; rfl⟩
        · have e2 : i + 1 = s.size - 1 := by omega
          have e3 : s.data.toList[i + 1]'(by omega) = 41 := by
            have := h41
            rw [← e2, List.getElem?_eq_getElem (by omega)] at this
            exact Option.some.inj this
          rw [e3]
          have e4 : t = [] := List.eq_nil_of_length_eq_zero (by omega)
          rw [e4]
          exact ⟨fun h => by exact absurd h (by decide), fun h => by cases h⟩
      have step : ¬ (q = false ∧ c = 44 ∧ t.head? = some 32) → covenantref05_Parse.j3 k s out ad (i : Int) q true = some r := by
        intro hn
        have hp : pieceN q (c :: t) = pieceN (flip q c) t + 1 := by rw [pieceN, if_neg hn]
        rw [hp] at hj hk
        obtain ⟨k, rfl⟩ : ∃ j, k = j + 1 := ⟨k - 1, by omega⟩
        have ih := scan_l1 s hz hs h41 out ad r K t (i + 1) (flip q c) hc2 (by omega) (fun k hk q' => by
          have := hj k hk q'
          rw [show i + (pieceN (flip q c) t + 1) = i + 1 + pieceN (flip q c) t by omega] at this
          exact this) k (by omega)
        simp only [covenantref05_Parse.j3]
        rw [if_pos trivial, if_pos (by omega), if_pos (by omega), b1, w2]
        unfold flip at ih
        by_cases e : c = 39
        · rw [if_pos e] at ih
          rw [if_pos (by rw [e]; rfl)]
          exact ih
        · rw [if_neg e] at ih
          rw [if_neg (show ¬ (c.toNat : Int) = 39 from fun h => e (UInt8.toNat_inj.1 (show c.toNat = (39 : UInt8).toNat from Int.ofNat.inj h)))]
          exact ih
      rw [if_pos (by omega)]
      cases q with
      | true => rw [if_pos rfl]; exact step (fun h => by cases h.1)
      | false =>
        rw [if_neg (by decide), if_pos (by omega), if_pos (by omega), b1]
        by_cases e : c = 44
        · rw [if_pos (by rw [e]; rfl), w2, if_pos (by omega), if_pos (by omega)]
          by_cases e2 : t.head? = some 32
          · have hp : pieceN false (c :: t) = 0 := by rw [pieceN, if_pos ⟨rfl, e, e2⟩]
            rw [hp] at hj
            rw [beq_iff_eq.2 (b2.2 e2)]
            exact hj k (by omega) false
          · rw [beq_eq_false_iff_ne.2 (mt b2.1 e2)]
            exact step (fun h => e2 h.2.2)
        · rw [if_neg (show ¬ (c.toNat : Int) = 44 from fun h => e (UInt8.toNat_inj.1 (show c.toNat = (44 : UInt8).toNat from Int.ofNat.inj h)))]
          exact step (fun h => e h.2.1)
theorem piece_j3 (s : ByteArray) (hz : s.size ≤ 10000) (hs : 2 ≤ s.size) (L : List UInt8) {f : Nat}
    (go : ∀ (out : List S23) (i k : Nat), (rest s i).length < f → (∀ x ∈ out, FitV x) → out.length + (rest s i).length ≤ 10000 → 20000 + 6 * (rest s i).length ≤ k → i ≤ s.size + 1 → covenantref05_Parse.l0 k s out (i : Int) = some (resR L f out (rest s i)))
    (out : List S23) (i n : Nat) (R : List UInt8) (hf : ∀ x ∈ out, FitV x) (hi : i ≤ s.size - 1) (pl : n ≤ R.length ∧ (n < R.length → n + 2 ≤ R.length)) (p0 : isText (R.take n) = true → 0 < n) (he : (s.extract i (i + n)).data.toList = R.take n) (hr : rest s (i + (n + 2)) = R.drop (n + 2)) (h : R.length < f + 1) (ho : out.length + R.length ≤ 10000) (rl : R.length = s.size - 1 - i) :
    ∀ (k : Nat), 20001 + 6 * (R.length - (n + 2)) ≤ k → ∀ q', covenantref05_Parse.j3 k s out (i : Int) ((i + n : Nat) : Int) q' false = some (if isText (R.take n) = true then resR L f (out ++ [readV (R.take n)]) (R.drop (n + 2)) else ([], 4)) := by
  intro k hk q'
  obtain ⟨k, rfl⟩ : ∃ j, k = j + 1 := ⟨k - 1, by omega⟩
  have w2 : wrap64 (((i + n : Nat) : Int) + 2) = ((i + (n + 2) : Nat) : Int) := by unfold wrap64; omega
  simp only [covenantref05_Parse.j3]
  rw [w2]
  clear w2
  rw [if_neg (by simp), if_pos (by omega), if_pos (by omega), if_pos (by omega), Int.toNat_natCast, Int.toNat_natCast]
  rw [ref_parse_spec k _ (by rw [ByteArray.size_extract]; omega) (by rw [ByteArray.size_extract]; omega), Option.bind_some, he]
  by_cases e : isText (R.take n) = true
  · have n0 := p0 e
    rw [if_pos e, if_pos e, if_pos rfl, if_pos (by omega)]
    have := go (out ++ [readV (R.take n)]) (i + (n + 2)) k (by rw [hr, List.length_drop]; omega) (fun x hx => by
      rcases List.mem_append.1 hx with hx | hx
      · exact hf x hx
      · rw [List.mem_singleton.1 hx]
        exact read_fit _ (by rw [List.length_take]; omega)) (by rw [hr, List.length_drop, List.length_append, List.length_singleton]; omega) (by rw [hr, List.length_drop]; omega) (by omega)
    rw [hr] at this
    exact this
  · rw [if_neg e, if_neg e, if_neg (by decide)]
theorem loop_l0 (s : ByteArray) (hz : s.size ≤ 10000) (hs : 2 ≤ s.size) (h41 : s.data.toList[s.size - 1]? = some 41) : ∀ (f : Nat) (out : List S23) (i k : Nat), (rest s i).length < f → (∀ x ∈ out, FitV x) → out.length + (rest s i).length ≤ 10000 → 20000 + 6 * (rest s i).length ≤ k → i ≤ s.size + 1 →
    covenantref05_Parse.l0 k s out (i : Int) = some (resR s.data.toList f out (rest s i))
  | 0, _, _, _, h, _, _, _, _ => absurd h (by omega)
  | f + 1, out, i, k, h, hf, ho, hk, hi => by
    have hsl : s.data.toList.length = s.size := by simp
    obtain ⟨k, rfl⟩ : ∃ j, k = j + 1 := ⟨k - 1, by omega⟩
    have w1 : wrap64 ((s.size : Int) - 1) = ((s.size - 1 : Nat) : Int) := by unfold wrap64; omega
    have rl := rest_len s i
    simp only [covenantref05_Parse.l0]
    rw [w1]
    by_cases c : i < s.size - 1
    · rw [if_pos (by omega)]
      have hne : rest s i ≠ [] := fun e => by rw [e] at rl; simp only [List.length_nil] at rl; omega
      have pl := piece_le false (rest s i)
      have p0 : isText (rest s i |>.take (pieceN false (rest s i))) = true → 0 < pieceN false (rest s i) := by
        intro h
        cases hp : pieceN false (rest s i) with
        | zero => rw [hp] at h; exact absurd h (by unfold isText; simp)
        | succ n => omega
      have he := rest_take s i (pieceN false (rest s i)) pl.1
      have hr : rest s (i + (pieceN false (rest s i) + 2)) = (rest s i).drop (pieceN false (rest s i) + 2) := by unfold rest; rw [List.drop_drop]
      rw [resR, if_neg hne]
      refine scan_l1 s (by omega) hs h41 out (i : Int) _ (20001 + 6 * ((rest s i).length - (pieceN false (rest s i) + 2))) (rest s i) i false rfl (by omega) ?_ k (by omega)
      generalize pieceN false (rest s i) = n at pl p0 he hr ⊢
      generalize hR : rest s i = R at pl p0 he hr h ho hk rl hne ⊢
      exact piece_j3 s hz hs (s.data.toList) (fun out i k h1 h2 h3 h4 h5 => loop_l0 s hz hs h41 f out i k h1 h2 h3 h4 h5) out i n R hf (by omega) pl p0 he hr h ho rl
    · rw [if_neg (by omega)]
      have hne : rest s i = [] := List.eq_nil_of_length_eq_zero (by omega)
      rw [ref_text out hf (by omega) k (by omega), Option.bind_some, hne, resR, if_pos rfl, tl_eq, tl_eq]
      by_cases e : textR out = s.data.toList
      · rw [if_pos (by simpa using e), if_pos e]
      · rw [if_neg (by simpa using e), if_neg e]
theorem ref05_parse (k : Nat) (s : ByteArray) (hz : s.size ≤ 3000) (hk : 40000 ≤ k) : covenantref05_Parse.f k s = some (parseRow s) := by
  have hsl : s.data.toList.length = s.size := by simp
  have err : (∀ h : 1 < s.size, ¬ (s.data.toList[0] = 40 ∧ s.data.toList[s.size - 1]'(by omega) = 41)) → parseRow s = ([], 4) := by
    intro h
    unfold parseRow
    rw [if_neg]
    rintro ⟨h1, h2⟩
    rw [ext_from] at h2
    by_cases c : 1 < s.size
    · refine h c ⟨?_, ?_⟩
      · rw [List.head?_eq_getElem?, List.getElem?_eq_getElem (by omega)] at h1
        exact Option.some.inj h1
      · rw [List.getLast?_eq_getElem?, List.getElem?_drop, List.length_drop, hsl, show 1 + (s.size - 1 - 1) = s.size - 1 by omega, List.getElem?_eq_getElem (by omega)] at h2
        exact Option.some.inj h2
    · rw [List.drop_of_length_le (by omega)] at h2
      cases h2
  have j0 : ∀ k, 1 ≤ k → covenantref05_Parse.j0 k s ([] : List S23) true = some ([], 4) := by
    intro k hk
    obtain ⟨k, rfl⟩ : ∃ j, k = j + 1 := ⟨k - 1, by omega⟩
    simp only [covenantref05_Parse.j0]
    rw [if_pos trivial]
  unfold covenantref05_Parse.f
  by_cases c : (s.size : Int) < 2
  · rw [if_pos c, j0 k (by omega), err (fun h => by omega)]
  · have w1 : wrap64 ((s.size : Int) - 1) = ((s.size - 1 : Nat) : Int) := by unfold wrap64; omega
    have b0 : bt s 0 = s.data.toList[0].toNat := bt_nat (by omega : 0 < s.size)
    have b1 : bt s ((s.size - 1 : Nat) : Int) = s.data.toList[s.size - 1].toNat := bt_nat (by omega)
    rw [if_neg c, if_pos (by omega), b0]
    by_cases c0 : s.data.toList[0] = 40
    · rw [if_pos (by rw [c0]; rfl), w1, if_pos (by omega), if_pos (by omega), b1]
      by_cases c1 : s.data.toList[s.size - 1] = 41
      · have h41 : s.data.toList[s.size - 1]? = some 41 := by rw [List.getElem?_eq_getElem (by omega), c1]
        obtain ⟨k, rfl⟩ : ∃ j, k = j + 1 := ⟨k - 1, by omega⟩
        simp only [covenantref05_Parse.j0]
        rw [if_neg (by rw [c1]; decide), show (1 : Int) = ((1 : Nat) : Int) from rfl]
        have rl := rest_len s 1
        rw [loop_l0 s (by omega) (by omega) h41 (s.size + 1) [] 1 k (by omega) (fun x hx => by cases hx) (by simp; omega) (by omega) (by omega)]
        congr 1
        have hne : s.data.toList ≠ [] := fun e => by rw [e] at hsl; simp only [List.length_nil] at hsl; omega
        rcases parse_back s (by omega) with hp | ⟨h0, ht, hm, hf, _⟩
        · rw [hp]
          rcases res_or s.data.toList (s.size + 1) [] (rest s 1) (by omega) (fun x hx => by cases hx) with h | ⟨g0, gt, gf⟩
          · exact h
          · exfalso
            have gm : MayR (resR s.data.toList (s.size + 1) [] (rest s 1)).1 := Classical.byContradiction fun hm => hne (by rw [← gt]; unfold textR; rw [if_neg hm])
            have := parse_textR _ gf gm
            rw [gt] at this
            have e : (⟨s.data.toList.toArray⟩ : ByteArray) = s := ba_eq (by simp)
            rw [e, hp] at this
            have := congrArg Prod.snd this
            simp at this
        · generalize hl : (parseRow s).1 = l at ht hm hf
          have e0 : parseRow s = (l, 0) := by rw [← hl, ← h0]
          rw [e0]
          have e : textR l = 40 :: (glue (l.map textV) ++ [41]) := by unfold textR; rw [if_pos hm, join_glue]; rfl
          have hr : rest s 1 = glue (l.map textV) := by
            unfold rest
            rw [← hsl, ← ht, e]
            simp only [List.length_cons, List.length_append, List.length_nil, Nat.add_sub_cancel]
            rw [show (glue (l.map textV)).length + (0 + 1) = (glue (l.map textV)).length + 1 by omega, List.take_succ_cons, List.take_append_of_le_length (Nat.le_refl _), List.take_of_length_le (Nat.le_refl _), List.drop_one, List.tail_cons]
          cases l with
          | nil => rw [hr, List.map_nil, glue, resR, if_pos rfl, if_pos ht]
          | cons x l =>
            have hpg := parts_glue ((x :: l).map textV) (by simp) (fun p hp => by obtain ⟨y, hy, rfl⟩ := List.mem_map.1 hp; exact whole_text (hm y hy))
            have hb : ((x :: l).map textV).map readV = x :: l := by
              rw [List.map_map]
              have : (x :: l).map (readV ∘ textV) = (x :: l).map id := List.map_congr_left fun y hy => read_text (hf y hy) (hm y hy)
              rw [this, List.map_id]
            have := res_all s.data.toList (s.size + 1) [] (glue ((x :: l).map textV)) (by rw [← hr]; omega) (glue_ne (textV_ne (hm x (by simp)))) (fun p hp => by
              rw [hpg] at hp
              obtain ⟨y, hy, rfl⟩ := List.mem_map.1 hp
              exact isText_text (hf y hy) (hm y hy)) (by rw [hpg, hb, List.nil_append]; exact ht)
            rw [hr, this, hpg, hb, List.nil_append]
      · rw [show ((s.data.toList[s.size - 1].toNat : Int) != 41) = true from bne_iff_ne.2 (fun h => c1 (UInt8.toNat_inj.1 (show s.data.toList[s.size - 1].toNat = (41 : UInt8).toNat from Int.ofNat.inj h)))]
        rw [j0 k (by omega), err (fun h h2 => c1 h2.2)]
    · rw [if_neg (fun h => c0 (UInt8.toNat_inj.1 (show s.data.toList[0].toNat = (40 : UInt8).toNat from Int.ofNat.inj h))), j0 k (by omega), err (fun h h2 => c0 h2.1)]
theorem set_l1 (s : ByteArray) (want : List S23) (e n : Int) (r : Bool) (K : Nat) (h : ∀ k, K ≤ k → covenantlaw05_RowParses.l0 k s want e (wrap64 (n + 1)) = some r) : ∀ (d i : Nat) (l : List S23), i + d = l.length → l.length < 100000 → ∀ k, K + d + 1 ≤ k → covenantlaw05_RowParses.l1 k s want e n l (i : Int) = some r
  | d, i, l, hd, hl, k, hk => by
    obtain ⟨k, rfl⟩ : ∃ j, k = j + 1 := ⟨k - 1, by omega⟩
    simp only [covenantlaw05_RowParses.l1]
    match d, hd with
    | 0, hd => rw [if_neg (by omega)]; exact h k (by omega)
    | d + 1, hd =>
      rw [if_pos (by omega), if_pos (by omega), show wrap64 ((i : Int) + 1) = ((i + 1 : Nat) : Int) by unfold wrap64; omega]
      exact set_l1 s want e n r K h d (i + 1) _ (by rw [List.length_set]; omega) (by rw [List.length_set]; omega) k (by omega)
theorem RowParses_pure (s : ByteArray) : covenantlaw05_RowParses.f 50000 s = some true := by
  unfold covenantlaw05_RowParses.f
  by_cases h : (s.size : Int) > 3000
  · rw [if_pos h]
  · rw [if_neg h, ref05_parse 50000 s (by omega) (by omega), Option.bind_some]
    have hln : (parseRow s).1.length ≤ 3001 := by
      rcases parse_back s (by omega) with hp | ⟨_, _, _, _, hn⟩
      · rw [hp]; simp
      · omega
    have row : ∀ (n : Int) (K : Nat), n < 2 → (∀ k, K ≤ k → covenantlaw05_RowParses.l0 k s (parseRow s).1 (parseRow s).2 (wrap64 (n + 1)) = some true) → ∀ k, K + 10000 ≤ k → covenantlaw05_RowParses.l0 k s (parseRow s).1 (parseRow s).2 n = some true := by
      intro n K hn hK k hk
      obtain ⟨k, rfl⟩ : ∃ j, k = j + 2 := ⟨k - 2, by omega⟩
      simp only [covenantlaw05_RowParses.l0]
      rw [if_pos hn]
      unfold row_Parse.f
      rw [if_pos ⟨by omega, by omega⟩, Option.bind_some, if_pos rfl, ref_same_spec _ _ _ (by omega) (by omega), Option.bind_some]
      simp only [covenantlaw05_RowParses.j1]
      rw [if_neg (by simp), show (0 : Int) = ((0 : Nat) : Int) from rfl]
      exact set_l1 s _ _ n true K hK (parseRow s).1.length 0 _ (by omega) (by omega) k (by omega)
    have last : ∀ k, 2 ≤ k → covenantlaw05_RowParses.l0 k s (parseRow s).1 (parseRow s).2 (wrap64 (1 + 1)) = some true := by
      intro k hk
      obtain ⟨k, rfl⟩ : ∃ j, k = j + 1 := ⟨k - 1, by omega⟩
      simp only [covenantlaw05_RowParses.l0]
      rw [if_neg (by unfold wrap64; omega)]
    exact row 0 10002 (by decide) (fun k hk => by rw [show wrap64 (0 + 1) = 1 by unfold wrap64; omega]; exact row 1 2 (by decide) last k (by omega)) 50000 (by omega)
end Go.Proofs.YtddmllocjocipaaDoor.D
