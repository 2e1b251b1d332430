/- A row's text is read back as the row, and a text's row has that text. Conditions: as each theorem states them. -/
import Derived.Test.YtddmllocjocipaaDoorRow
import Derived.Test.YtddmllocjocipaaDoorDx20
namespace Go.Proofs.YtddmllocjocipaaDoor.D
open Go.RowKit Go.Proofs.YtddmllocjocipaaDoorW.PrintWords Go.Proofs.YtddmllocjocipaaDoorW.PrintLast Go.Proofs.YtddmllocjocipaaDoorW.PrintMore
set_option linter.unusedSimpArgs false
set_option linter.unusedVariables false
theorem attach_cons (c : UInt8) (a : List UInt8) (l : List (List UInt8)) : consHead c (attach a l) = attach (c :: a) l := by
  cases l <;> rfl
/-! ### the parts of texts put together -/
/-- What stands ahead of whatever without parting it. -/
def Shut1 (q : Bool) (a : List UInt8) (q' : Bool) : Prop := ∀ r : List UInt8, partsS false q (a ++ r) = attach a (partsS false q' r)
theorem whole_nil (q : Bool) : Shut1 q [] q := fun r => (attach_nil (partsS_ne _ _ _)).symm
theorem whole_app {q q1 q2 : Bool} {a b : List UInt8} (h : Shut1 q a q1) (k : Shut1 q1 b q2) : Shut1 q (a ++ b) q2 := by
  intro r
  rw [List.append_assoc, h (b ++ r), k r]
  have := partsS_ne false q2 r
  cases hp : partsS false q2 r with
  | nil => exact absurd hp this
  | cons p ps => simp [attach]
theorem whole_byte (q : Bool) (c : UInt8) (h : flip q c = false → c ≠ 44) : Shut1 q [c] (flip q c) := by
  intro r
  rw [List.cons_append, List.nil_append, partsS, if_neg (fun hc => h hc.1 hc.2.1)]
  have := partsS_ne false (flip q c) r
  cases hp : partsS false (flip q c) r with
  | nil => exact absurd hp this
  | cons p ps => simp [attach, consHead]
theorem whole_plain : ∀ (a : List UInt8), (∀ c ∈ a, c ≠ 39 ∧ c ≠ 44) → Shut1 false a false
  | [], _ => whole_nil _
  | c :: a, h => by
    have h1 := h c (by simp)
    have e : flip false c = false := by simp [flip, h1.1]
    have h2 := whole_byte false c (fun _ => h1.2)
    rw [e] at h2
    exact whole_app (a := [c]) h2 (whole_plain a (fun x hx => h x (List.mem_cons_of_mem _ hx)))
theorem whole_quoted : ∀ (l : List UInt8), Shut1 true (dbl l) true
  | [] => whole_nil _
  | c :: l => by
    have ih := whole_quoted l
    by_cases hc : c = 39
    · subst hc
      rw [dbl_quote]
      have h1 := whole_byte true 39 (by decide)
      have h2 := whole_byte false 39 (by decide)
      exact whole_app (a := [39]) h1 (whole_app (a := [39]) h2 ih)
    · rw [dbl_other l hc]
      have e : flip true c = true := by simp [flip, hc]
      have h1 := whole_byte true c (by rw [e]; intro h; cases h)
      rw [e] at h1
      exact whole_app (a := [c]) h1 ih
theorem whole_comma (b : List UInt8) (hb : b.head? ≠ some 32) (hn : b ≠ []) (h : Shut1 false b false) : Shut1 false (44 :: b) false := by
  intro r
  have hh : (b ++ r).head? ≠ some 32 := by
    cases b with
    | nil => exact absurd rfl hn
    | cons x b => simpa using hb
  rw [List.cons_append, partsS, if_neg (fun hc => hh hc.2.2), show flip false 44 = false from rfl, h r, attach_cons]
theorem itoa_plain (n : Int) : ∀ c ∈ Lib.itoa n, c ≠ 39 ∧ c ≠ 44 := by
  intro c hc
  have := itoa_mem n c hc
  constructor <;> (intro e; subst e; simp at this)
theorem itoa_head_ne (n : Int) : (Lib.itoa n).head? ≠ some 32 := by
  intro e
  cases h : Lib.itoa n with
  | nil => exact itoa_ne n h
  | cons c l =>
    rw [h] at e
    have := itoa_head h
    simp at e; subst e; simp at this
theorem whole_text {x : S23} (h : MayV x.f0 x.f1 x.f2 x.f3) : Shut1 false (textV x) false := by
  rcases may_cases h with ⟨rfl, e⟩ | ⟨n, rfl, e⟩ | ⟨rfl, e⟩ | ⟨rfl, e⟩ | ⟨s, rfl, e⟩ | ⟨n, m, rfl, e⟩ <;> rw [e]
  · exact whole_plain _ (by decide)
  · exact whole_plain _ (itoa_plain n)
  · exact whole_plain _ (by decide)
  · exact whole_plain _ (by decide)
  · have h1 := whole_byte false 39 (by decide)
    have h2 := whole_byte true 39 (by decide)
    rw [show (39 :: dbl s.data.toList ++ [39] : List UInt8) = [39] ++ (dbl s.data.toList ++ [39]) by simp]
    exact whole_app h1 (whole_app (whole_quoted _) h2)
  · rw [show (91 :: Lib.itoa n ++ [44] ++ Lib.itoa m ++ [41] : List UInt8) = ([91] ++ Lib.itoa n) ++ (44 :: (Lib.itoa m ++ [41])) by simp]
    refine whole_app (whole_plain _ ?_) (whole_comma _ ?_ (by simp) (whole_plain _ ?_))
    · intro c hc
      rcases List.mem_append.1 hc with h | h
      · have : c = 91 := by simpa using h
        subst this; decide
      · exact itoa_plain n c h
    · cases h : Lib.itoa m with
      | nil => exact absurd h (itoa_ne m)
      | cons c l => have := itoa_head_ne m; rw [h] at this; simpa using this
    · intro c hc
      rcases List.mem_append.1 hc with h | h
      · exact itoa_plain m c h
      · have : c = 41 := by simpa using h
        subst this; decide
/-- The texts, put together by commas and blanks. -/
def glue : List (List UInt8) → List UInt8
  | [] => []
  | [p] => p
  | p :: r :: rs => p ++ 44 :: 32 :: glue (r :: rs)
theorem parts_glue : ∀ (ps : List (List UInt8)), ps ≠ [] → (∀ p ∈ ps, Shut1 false p false) → partsS false false (glue ps) = ps
  | [], h, _ => absurd rfl h
  | [p], _, h => by
    have := h p (by simp) []
    rw [List.append_nil] at this
    rw [glue, this]; simp [partsS, attach]
  | p :: r :: rs, _, h => by
    rw [glue, h p (by simp) _, partsS, if_pos ⟨rfl, rfl, rfl⟩, partsS, show flip false 44 = false from rfl, parts_glue (r :: rs) (by simp) (fun x hx => h x (List.mem_cons_of_mem _ hx))]
    simp [attach]
theorem join_glue : ∀ l : List (List UInt8), Lib.join l [44, 32] = glue l
  | [] => rfl
  | [p] => by simp [Lib.join, glue]
  | p :: q :: l => by rw [join_cons2, join_glue (q :: l), glue]; simp
theorem glue_ne {p : List UInt8} {l : List (List UInt8)} (h : p ≠ []) : glue (p :: l) ≠ [] := by
  cases l with
  | nil => rw [glue]; exact h
  | cons q l => rw [glue]; simp
theorem mk_list (l : List UInt8) : (⟨l.toArray⟩ : ByteArray).data.toList = l := by simp
theorem inner_list (s : ByteArray) : ((s.extract 1 s.size).extract 0 ((s.extract 1 s.size).size - 1)).data.toList = (s.data.toList.drop 1).take (s.data.toList.length - 2) := by
  rw [extract_list, extract_list, List.drop_zero, size_list, ByteArray.size_extract]
  rw [List.take_take]
  congr 1
  omega
theorem inner_list' (s : ByteArray) (L : List UInt8) (h : s.data.toList = L) : ((s.extract 1 s.size).extract 0 ((s.extract 1 s.size).size - 1)).data.toList = (L.drop 1).take (L.length - 2) := by
  subst h; exact inner_list s
/-- The row of a row's text is the row. -/
theorem parse_textR (l : List S23) (hf : ∀ x ∈ l, FitV x) (hm : MayR l) : parseRow ⟨(textR l).toArray⟩ = (l, 0) := by
  have e : textR l = 40 :: (glue (l.map textV) ++ [41]) := by unfold textR; rw [if_pos hm, join_glue]; rfl
  unfold parseRow
  have hin := inner_list' ⟨(textR l).toArray⟩ _ ((mk_list (textR l)).trans e)
  have hin2 : ((40 :: (glue (l.map textV) ++ [41])).drop 1).take ((40 :: (glue (l.map textV) ++ [41])).length - 2) = glue (l.map textV) := by
    rw [List.drop_one, List.tail_cons, List.take_append_of_le_length (by simp), List.take_of_length_le (by simp)]
  rw [hin2] at hin
  have hlast : ((⟨(textR l).toArray⟩ : ByteArray).extract 1 (⟨(textR l).toArray⟩ : ByteArray).size).data.toList.getLast? = some 41 := by
    rw [extract_list, mk_list, e, List.drop_one, List.tail_cons, List.take_of_length_le (by rw [mk_size]; simp)]
    simp
  rw [if_pos ⟨by rw [mk_list, e]; rfl, hlast⟩]
  rw [hin]
  cases l with
  | nil => rw [if_pos (by rfl)]
  | cons x l =>
    rw [if_neg (show ¬ glue ((x :: l).map textV) = [] from glue_ne (textV_ne (hm x (by simp))))]
    have hp : (partsB (((⟨(textR (x :: l)).toArray⟩ : ByteArray).extract 1 (⟨(textR (x :: l)).toArray⟩ : ByteArray).size).extract 0 (((⟨(textR (x :: l)).toArray⟩ : ByteArray).extract 1 (⟨(textR (x :: l)).toArray⟩ : ByteArray).size).size - 1))) = ((x :: l).map textV).map (fun p => (⟨p.toArray⟩ : ByteArray)) := by
      unfold partsB
      rw [hin, parts_glue _ (by simp) (fun p hp => by obtain ⟨y, hy, rfl⟩ := List.mem_map.1 hp; exact whole_text (hm y hy))]
    rw [hp]
    have hr : (((x :: l).map textV).map (fun p => (⟨p.toArray⟩ : ByteArray))).map (fun p => readV p.data.toList) = x :: l := by
      rw [List.map_map, List.map_map]
      have : (x :: l).map (((fun p : ByteArray => readV p.data.toList) ∘ fun p : List UInt8 => (⟨p.toArray⟩ : ByteArray)) ∘ textV) = (x :: l).map id := List.map_congr_left fun y hy => by
        show readV (⟨(textV y).toArray⟩ : ByteArray).data.toList = y
        rw [mk_list, read_text (hf y hy) (hm y hy)]
      rw [this, List.map_id]
    unfold rowOf
    rw [if_pos, hr]
    · rw [List.all_eq_true]
      intro p hp
      obtain ⟨q, hq, rfl⟩ := List.mem_map.1 hp
      obtain ⟨y, hy, rfl⟩ := List.mem_map.1 hq
      rw [mk_list]
      exact isText_text (hf y hy) (hm y hy)
end Go.Proofs.YtddmllocjocipaaDoor.D
