/- A row's text is read back as the row, and a text's row has that text. Conditions: as each theorem states them. -/
import Derived.Test.YtddmllocjocipaaDoorRow
import Derived.Test.YtddmllocjocipaaDoorDx20
namespace Go.Proofs.YtddmllocjocipaaDoor.D
open Go.RowKit Go.Proofs.YtddmllocjocipaaDoorW.PrintWords Go.Proofs.YtddmllocjocipaaDoorW.PrintLast Go.Proofs.YtddmllocjocipaaDoorW.PrintMore
set_option linter.unusedSimpArgs false
set_option linter.unusedVariables false
theorem attach_cons (c : UInt8) (a : List UInt8) (l : List (List UInt8)) : consHead c (attach a l) = attach (c :: a) l := by
  cases l <;> rfl
/-! ### the parts of texts put together -/
/-- What stands ahead of whatever without parting it. -/
def Shut1 (q : Bool) (a : List UInt8) (q' : Bool) : Prop := ∀ r : List UInt8, partsS false q (a ++ r) = attach a (partsS false q' r)
theorem whole_nil (q : Bool) : Shut1 q [] q := fun r => (attach_nil (partsS_ne _ _ _)).symm
theorem whole_app {q q1 q2 : Bool} {a b : List UInt8} (h : Shut1 q a q1) (k : Shut1 q1 b q2) : Shut1 q (a ++ b) q2 := by
  intro r
  rw [List.append_assoc, h (b ++ r), k r]
  have := partsS_ne false q2 r
  cases hp : partsS false q2 r with
  | nil => exact absurd hp this
  | cons p ps => simp [attach]
theorem whole_byte (q : Bool) (c : UInt8) (h : flip q c = false → c ≠ 44) : Shut1 q [c] (flip q c) := by
  intro r
  rw [List.cons_append, List.nil_append, partsS, if_neg (fun hc => h hc.1 hc.2.1)]
  have := partsS_ne false (flip q c) r
  cases hp : partsS false (flip q c) r with
  | nil => exact absurd hp this
  | cons p ps => simp [attach, consHead]
theorem whole_plain : ∀ (a : List UInt8), (∀ c ∈ a, c ≠ 39 ∧ c ≠ 44) → Shut1 false a false
  | [], _ => whole_nil _
  | c :: a, h => by
    have h1 := h c (by simp)
    have e : flip false c = false := by simp [flip, h1.1]
    have h2 := whole_byte false c (fun _ => h1.2)
    rw [e] at h2
    exact whole_app (a := [c]) h2 (whole_plain a (fun x hx => h x (List.mem_cons_of_mem _ hx)))
theorem whole_quoted : ∀ (l : List UInt8), Shut1 true (dbl l) true
  | [] => whole_nil _
  | c :: l => by
    have ih := whole_quoted l
    by_cases hc : c = 39
    · subst hc
      rw [dbl_quote]
      have h1 := whole_byte true 39 (by decide)
      have h2 := whole_byte false 39 (by decide)
      exact whole_app (a := [39]) h1 (whole_app (a := [39]) h2 ih)
    · rw [dbl_other l hc]
      have e : flip true c = true := by simp [flip, hc]
      have h1 := whole_byte true c (by rw [e]; intro h; cases h)
      rw [e] at h1
      exact whole_app (a := [c]) h1 ih
theorem whole_comma (b : List UInt8) (hb : b.head? ≠ some 32) (hn : b ≠ []) (h : Shut1 false b false) : Shut1 false (44 :: b) false := by
  intro r
  have hh : (b ++ r).head? ≠ some 32 := by
    cases b with
    | nil => exact absurd rfl hn
    | cons x b => simpa using hb
  rw [List.cons_append, partsS, if_neg (fun hc => hh hc.2.2), show flip false 44 = false from rfl, h r, attach_cons]
theorem itoa_plain (n : Int) : ∀ c ∈ Lib.itoa n, c ≠ 39 ∧ c ≠ 44 := by
  intro c hc
  have := itoa_mem n c hc
  constructor <;> (intro e; subst e; simp at this)
theorem itoa_head_ne (n : Int) : (Lib.itoa n).head? ≠ some 32 := by
  intro e
  cases h : Lib.itoa n with
  | nil => exact itoa_ne n h
  | cons c l =>
    rw [h] at e
    have := itoa_head h
    simp at e; subst e; simp at this
theorem whole_text {x : S23} (h : MayV x.f0 x.f1 x.f2 x.f3) : Shut1 false (textV x) false := by
  rcases may_cases h with ⟨rfl, e⟩ | ⟨n, rfl, e⟩ | ⟨rfl, e⟩ | ⟨rfl, e⟩ | ⟨s, rfl, e⟩ | ⟨n, m, rfl, e⟩ <;> rw [e]
  · exact whole_plain _ (by decide)
  · exact whole_plain _ (itoa_plain n)
  · exact whole_plain _ (by decide)
  · exact whole_plain _ (by decide)
  · have h1 := whole_byte false 39 (by decide)
    have h2 := whole_byte true 39 (by decide)
    rw [show (39 :: dbl s.data.toList ++ [39] : List UInt8) = [39] ++ (dbl s.data.toList ++ [39]) by simp]
    exact whole_app h1 (whole_app (whole_quoted _) h2)
  · rw [show (91 :: Lib.itoa n ++ [44] ++ Lib.itoa m ++ [41] : List UInt8) = ([91] ++ Lib.itoa n) ++ (44 :: (Lib.itoa m ++ [41])) by simp]
    refine whole_app (whole_plain _ ?_) (whole_comma _ ?_ (by simp) (whole_plain _ ?_))
    · intro c hc
      rcases List.mem_append.1 hc with h | h
      · have : c = 91 := by simpa using h
        subst this; decide
      · exact itoa_plain n c h
    · cases h : Lib.itoa m with
      | nil => exact absurd h (itoa_ne m)
      | cons c l => have := itoa_head_ne m; rw [h] at this; simpa using this
    · intro c hc
      rcases List.mem_append.1 hc with h | h
      · exact itoa_plain m c h
      · have : c = 41 := by simpa using h
        subst this; decide
/-- The texts, put together by commas and blanks. -/
def glue : List (List UInt8) → List UInt8
  | [] => []
  | [p] => p
  | p :: r :: rs => p ++ 44 :: 32 :: glue (r :: rs)
theorem parts_glue : ∀ (ps : List (List UInt8)), ps ≠ [] → (∀ p ∈ ps, Shut1 false p false) → partsS false false (glue ps) = ps
  | [], h, _ => absurd rfl h
  | [p], _, h => by
    have := h p (by simp) []
    rw [List.append_nil] at this
    rw [glue, this]; simp [partsS, attach]
  | p :: r :: rs, _, h => by
    rw [glue, h p (by simp) _, partsS, if_pos ⟨rfl, rfl, rfl⟩, partsS, show flip false 44 = false from rfl, parts_glue (r :: rs) (by simp) (fun x hx => h x (List.mem_cons_of_mem _ hx))]
    simp [attach]
theorem glue_cons {p : List UInt8} {l : List (List UInt8)} (h : l ≠ []) : glue (p :: l) = p ++ 44 :: 32 :: glue l := by
  cases l with
  | nil => exact absurd rfl h
  | cons r rs => rfl
theorem glue_consHead (c : UInt8) (l : List (List UInt8)) : glue (consHead c l) = c :: glue l := by
  cases l with
  | nil => rfl
  | cons p ps =>
    cases ps with
    | nil => rfl
    | cons r rs => simp [consHead, glue]
theorem glue_parts : ∀ (q : Bool) (l : List UInt8), glue (partsS false q l) = l ∧ (l.head? = some 32 → glue (partsS true q l) = l.tail)
  | q, [] => by simp [partsS, glue]
  | q, c :: t => by
    have ih := glue_parts (flip q c) t
    have ih2 := glue_parts q t
    refine ⟨?_, fun _ => by rw [partsS]; exact ih2.1⟩
    rw [partsS]
    split
    · next h =>
      rw [glue_cons (partsS_ne _ _ _), ih.2 h.2.2, h.2.1]
      cases t with
      | nil => simp at h
      | cons d t => have := h.2.2; simp at this; subst this; rfl
    · rw [glue_consHead, ih.1]
theorem join_glue : ∀ l : List (List UInt8), Lib.join l [44, 32] = glue l
  | [] => rfl
  | [p] => by simp [Lib.join, glue]
  | p :: q :: l => by rw [join_cons2, join_glue (q :: l), glue]; simp
theorem glue_ne {p : List UInt8} {l : List (List UInt8)} (h : p ≠ []) : glue (p :: l) ≠ [] := by
  cases l with
  | nil => rw [glue]; exact h
  | cons q l => rw [glue]; simp
theorem mk_list (l : List UInt8) : (⟨l.toArray⟩ : ByteArray).data.toList = l := by simp
theorem inner_list (s : ByteArray) : ((s.extract 1 s.size).extract 0 ((s.extract 1 s.size).size - 1)).data.toList = (s.data.toList.drop 1).take (s.data.toList.length - 2) := by
  rw [extract_list, extract_list, List.drop_zero, size_list, ByteArray.size_extract]
  rw [List.take_take]
  congr 1
  omega
theorem inner_list' (s : ByteArray) (L : List UInt8) (h : s.data.toList = L) : ((s.extract 1 s.size).extract 0 ((s.extract 1 s.size).size - 1)).data.toList = (L.drop 1).take (L.length - 2) := by
  subst h; exact inner_list s
/-- The row of a row's text is the row. -/
theorem parse_textR (l : List S23) (hf : ∀ x ∈ l, FitV x) (hm : MayR l) : parseRow ⟨(textR l).toArray⟩ = (l, 0) := by
  have e : textR l = 40 :: (glue (l.map textV) ++ [41]) := by unfold textR; rw [if_pos hm, join_glue]; rfl
  unfold parseRow
  have hin := inner_list' ⟨(textR l).toArray⟩ _ ((mk_list (textR l)).trans e)
  have hin2 : ((40 :: (glue (l.map textV) ++ [41])).drop 1).take ((40 :: (glue (l.map textV) ++ [41])).length - 2) = glue (l.map textV) := by
    rw [List.drop_one, List.tail_cons, List.take_append_of_le_length (by simp), List.take_of_length_le (by simp)]
  rw [hin2] at hin
  have hlast : ((⟨(textR l).toArray⟩ : ByteArray).extract 1 (⟨(textR l).toArray⟩ : ByteArray).size).data.toList.getLast? = some 41 := by
    rw [extract_list, mk_list, e, List.drop_one, List.tail_cons, List.take_of_length_le (by rw [mk_size]; simp)]
    simp
  rw [if_pos ⟨by rw [mk_list, e]; rfl, hlast⟩]
  rw [hin]
  cases l with
  | nil => rw [if_pos (by rfl)]
  | cons x l =>
    rw [if_neg (show ¬ glue ((x :: l).map textV) = [] from glue_ne (textV_ne (hm x (by simp))))]
    have hp : (partsB (((⟨(textR (x :: l)).toArray⟩ : ByteArray).extract 1 (⟨(textR (x :: l)).toArray⟩ : ByteArray).size).extract 0 (((⟨(textR (x :: l)).toArray⟩ : ByteArray).extract 1 (⟨(textR (x :: l)).toArray⟩ : ByteArray).size).size - 1))) = ((x :: l).map textV).map (fun p => (⟨p.toArray⟩ : ByteArray)) := by
      unfold partsB
      rw [hin, parts_glue _ (by simp) (fun p hp => by obtain ⟨y, hy, rfl⟩ := List.mem_map.1 hp; exact whole_text (hm y hy))]
    rw [hp]
    have hr : (((x :: l).map textV).map (fun p => (⟨p.toArray⟩ : ByteArray))).map (fun p => readV p.data.toList) = x :: l := by
      rw [List.map_map, List.map_map]
      have : (x :: l).map (((fun p : ByteArray => readV p.data.toList) ∘ fun p : List UInt8 => (⟨p.toArray⟩ : ByteArray)) ∘ textV) = (x :: l).map id := List.map_congr_left fun y hy => by
        show readV (⟨(textV y).toArray⟩ : ByteArray).data.toList = y
        rw [mk_list, read_text (hf y hy) (hm y hy)]
      rw [this, List.map_id]
    unfold rowOf
    rw [if_pos, hr]
    · rw [List.all_eq_true]
      intro p hp
      obtain ⟨q, hq, rfl⟩ := List.mem_map.1 hp
      obtain ⟨y, hy, rfl⟩ := List.mem_map.1 hq
      rw [mk_list]
      exact isText_text (hf y hy) (hm y hy)
/-- What a text's row is: either none, or one whose text it is. -/
theorem parse_back (s : ByteArray) (hs : s.size ≤ 1000000000) : parseRow s = ([], 4) ∨ ((parseRow s).2 = 0 ∧ textR (parseRow s).1 = s.data.toList ∧ MayR (parseRow s).1 ∧ (∀ x ∈ (parseRow s).1, FitV x) ∧ (parseRow s).1.length ≤ s.size + 1) := by
  unfold parseRow
  have hin := inner_list s
  generalize ((s.extract 1 s.size).extract 0 ((s.extract 1 s.size).size - 1)) = T at hin ⊢
  by_cases h : s.data.toList.head? = some 40 ∧ (s.extract 1 s.size).data.toList.getLast? = some 41
  · rw [if_pos h]
    have hsplit : s.data.toList = 40 :: (T.data.toList ++ [41]) := by
      obtain ⟨h1, h2⟩ := h
      rw [extract_list] at h2
      rw [hin]
      cases hl : s.data.toList with
      | nil => rw [hl] at h1; cases h1
      | cons c t =>
        rw [hl] at h1 h2
        have hc : c = 40 := by simpa using h1
        rw [List.drop_one, List.tail_cons, List.take_of_length_le (by have := size_list s; rw [hl] at this; simp at this; omega)] at h2
        subst hc
        congr 1
        rw [List.drop_one, List.tail_cons]
        have ht : t ≠ [] := by intro e; rw [e] at h2; cases h2
        have h3 := List.dropLast_concat_getLast ht
        have h4 : t.getLast ht = 41 := by
          rw [List.getLast?_eq_some_getLast ht] at h2
          exact Option.some.inj h2
        rw [h4] at h3
        conv => lhs; rw [← h3]
        congr 1
        rw [List.dropLast_eq_take]
        simp
    have hT : T.data.toList.length ≤ s.size := by rw [← size_list, hsplit]; simp; omega
    by_cases e : T.data.toList = []
    · rw [if_pos e]
      refine .inr ⟨rfl, ?_, (fun x hx => by cases hx), (fun x hx => by cases hx), Nat.zero_le _⟩
      rw [hsplit, e]; rfl
    · rw [if_neg e]
      unfold rowOf
      by_cases ha : ((partsB T).all fun p => isText p.data.toList) = true
      · rw [if_pos ha]
        have hall := List.all_eq_true.1 ha
        refine .inr ⟨rfl, ?_, ?_, ?_, ?_⟩
        · have hm : MayR ((partsB T).map fun p => readV p.data.toList) := by
            intro x hx
            obtain ⟨p, hp, rfl⟩ := List.mem_map.1 hx
            exact (isText_may (hall p hp)).1
          show textR ((partsB T).map fun p => readV p.data.toList) = _
          unfold textR
          rw [if_pos hm, join_glue, List.map_map]
          have : (partsB T).map (textV ∘ fun p => readV p.data.toList) = (partsB T).map (·.data.toList) := List.map_congr_left fun p hp => (isText_may (hall p hp)).2
          rw [this, hsplit]
          have h2 : (partsB T).map (·.data.toList) = partsS false false T.data.toList := by
            unfold partsB
            rw [List.map_map]
            conv => rhs; rw [← List.map_id (partsS false false T.data.toList)]
            exact List.map_congr_left fun p hp => by simp
          rw [h2, (glue_parts false T.data.toList).1]
          rfl
        · intro x hx
          obtain ⟨p, hp, rfl⟩ := List.mem_map.1 hx
          exact (isText_may (hall p hp)).1
        · intro x hx
          obtain ⟨p, hp, rfl⟩ := List.mem_map.1 hx
          refine read_fit _ ?_
          have hlen : ∀ (k q : Bool) (l : List UInt8), ∀ p ∈ partsS k q l, p.length ≤ l.length := by
            intro k q l
            induction l generalizing k q with
            | nil => intro p hp; simp [partsS] at hp; subst hp; simp
            | cons c t ih =>
              cases k with
              | true => intro p hp; rw [partsS] at hp; have := ih false q p hp; simp; omega
              | false =>
                intro p hp
                rw [partsS] at hp
                split at hp
                · rcases List.mem_cons.1 hp with rfl | hp
                  · simp
                  · have := ih true _ p hp; simp; omega
                · cases hq : partsS false (flip q c) t with
                  | nil => rw [hq] at hp; simp [consHead] at hp; subst hp; simp
                  | cons a r =>
                    rw [hq, consHead] at hp
                    rcases List.mem_cons.1 hp with rfl | hp
                    · have := ih false (flip q c) a (by rw [hq]; simp); simp; omega
                    · have := ih false (flip q c) p (by rw [hq]; exact List.mem_cons_of_mem _ hp); simp; omega
          unfold partsB at hp
          obtain ⟨b, hb, rfl⟩ := List.mem_map.1 hp
          have := hlen false false _ b hb
          rw [mk_list]; omega
        · show ((partsB T).map fun p => readV p.data.toList).length ≤ _
          rw [List.length_map]
          have := partsB_len T
          rw [size_list] at hT
          omega
      · rw [if_neg ha]; exact .inl rfl
  · rw [if_neg h]; exact .inl rfl
end Go.Proofs.YtddmllocjocipaaDoor.D
