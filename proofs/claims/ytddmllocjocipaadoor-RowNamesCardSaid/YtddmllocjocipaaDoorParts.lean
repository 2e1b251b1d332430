/- The iterator over a row's parts: it hands out the texts between which commas and blanks stand that are not within quotes. Conditions: as each theorem states them. -/
import Derived.RangeFuncNested
import Derived.RangeFuncBound
import Derived.RangeFuncCalls
import Derived.RangeFuncLeaves
import Derived.RangeFuncBox
import Derived.Shelf.Abstract
import Derived.Shelf.RegionOpen
import Derived.WalkKit
import Derived.OwnWalkIn
import Derived.TacticsInMore
import Derived.LoopNIn
import Derived.LoopIn
import Derived.Test.YtddmllocjocipaaDoorDx10
namespace Go.Proofs.YtddmllocjocipaaDoor.D
open Go.RowKit Go.Shelf Go.Proofs.YtddmllocjocipaaDoorW.PrintWords Go.Proofs.YtddmllocjocipaaDoorW.PrintLast Go.Proofs.YtddmllocjocipaaDoorW.PrintMore
attribute [local go_sem] Oper.semAt_some
set_option linter.unusedVariables false
set_option linter.unusedSimpArgs false
def flip (q : Bool) (c : UInt8) : Bool := if c = 39 then !q else q
def consHead (c : UInt8) : List (List UInt8) → List (List UInt8)
  | [] => [[c]]
  | p :: ps => (c :: p) :: ps
def attach (a : List UInt8) : List (List UInt8) → List (List UInt8)
  | [] => [a]
  | p :: ps => (a ++ p) :: ps
def partsS : Bool → Bool → List UInt8 → List (List UInt8)
  | _, _, [] => [[]]
  | true, q, _ :: t => partsS false q t
  | false, q, c :: t => if flip q c = false ∧ c = 44 ∧ t.head? = some 32 then [] :: partsS true (flip q c) t else consHead c (partsS false (flip q c) t)
def partsB (s : ByteArray) : List ByteArray := (partsS false false s.data.toList).map fun p => ⟨p.toArray⟩
def PInv (s : ByteArray) (i fr : Nat) (q k : Bool) (pre : List ByteArray) : Prop := i ≤ s.size ∧ (k = false → fr ≤ i) ∧ (k = true → fr = i + 1 ∧ i < s.size ∧ s.data.toList[i]? = some 32) ∧
  partsS false false s.data.toList = pre.map (·.data.toList) ++ attach ((s.data.toList.drop fr).take (i - fr)) (partsS k q (s.data.toList.drop i))
def parts2 (s : ByteArray) (i : Nat) : Bool := s.data.toList[i]? == some 44 && s.data.toList[i + 1]? == some 32
theorem partsS_ne : ∀ (k q : Bool) (l : List UInt8), partsS k q l ≠ []
  | _, _, [] => by simp [partsS]
  | true, q, c :: t => by rw [partsS]; exact partsS_ne false q t
  | false, q, c :: t => by
    rw [partsS]
    split
    · simp
    · cases h : partsS false (flip q c) t <;> simp [consHead]
theorem attach_nil {l : List (List UInt8)} (h : l ≠ []) : attach [] l = l := by
  cases l with
  | nil => exact absurd rfl h
  | cons p ps => rfl
theorem attach_snoc (a : List UInt8) (c : UInt8) (l : List (List UInt8)) (h : l ≠ []) : attach a (consHead c l) = attach (a ++ [c]) l := by
  cases l with
  | nil => exact absurd rfl h
  | cons p ps => simp [attach, consHead]
theorem extract_list (s : ByteArray) (a b : Nat) : (s.extract a b).data.toList = (s.data.toList.drop a).take (b - a) := by
  rw [ByteArray.data_extract]
  simp only [Array.toList_extract, List.extract_eq_take_drop]
theorem mk_toList (s : ByteArray) : (⟨s.data.toList.toArray⟩ : ByteArray) = s := by cases s; rfl
theorem mk_map (l : List ByteArray) : (l.map (·.data.toList)).map (fun p => (⟨p.toArray⟩ : ByteArray)) = l := by
  rw [List.map_map]
  conv => rhs; rw [← List.map_id l]
  exact List.map_congr_left fun x _ => mk_toList x
theorem size_list (s : ByteArray) : s.data.toList.length = s.size := by simp
theorem at_list (s : ByteArray) (i : Nat) (hi : i < s.size) : s.data.toList[i]'(by rw [size_list]; exact hi) = s[i] := by simp; rfl
theorem drop_list (s : ByteArray) (i : Nat) (hi : i < s.size) : s.data.toList.drop i = s[i] :: s.data.toList.drop (i + 1) := by
  rw [List.drop_eq_getElem_cons (by rw [size_list]; exact hi), at_list s i hi]
theorem pinv_start (s : ByteArray) : PInv s 0 0 false false [] := by
  refine ⟨Nat.zero_le _, fun _ => Nat.le_refl _, fun h => (by cases h), ?_⟩
  simp [attach_nil (partsS_ne _ _ _)]
theorem pinv_fr {s : ByteArray} {i fr : Nat} {q k : Bool} {pre : List ByteArray} (h : PInv s i fr q k pre) : fr ≤ s.size := by
  obtain ⟨h1, h2, h3, -⟩ := h
  cases k with
  | false => have := h2 rfl; omega
  | true => have := h3 rfl; omega
theorem parts2_iff {s : ByteArray} {i : Nat} (hi : i < s.size) : parts2 s i = true ↔ s[i] = 44 ∧ s.data.toList[i + 1]? = some 32 := by
  unfold parts2
  rw [List.getElem?_eq_getElem (by rw [size_list]; exact hi), at_list s i hi]
  simp
theorem parts2_ne {s : ByteArray} {i : Nat} (h : parts2 s i = true) (hi : i < s.size) : ¬ s[i] = 39 := by
  rw [parts2_iff hi] at h
  rw [h.1]; decide
/-- A round that hands nothing out. -/
theorem pinv_go {s : ByteArray} {i fr : Nat} {q k : Bool} {pre : List ByteArray} (h : PInv s i fr q k pre) (hi : i < s.size) (hn : flip q s[i] = true ∨ parts2 s i = false) : PInv s (i + 1) fr (flip q s[i]) false pre := by
  obtain ⟨h1, h2, h3, h4⟩ := h
  rw [drop_list s i hi] at h4
  cases k with
  | false =>
    have h5 := h2 rfl
    refine ⟨by omega, fun _ => by omega, fun h => (by cases h), ?_⟩
    rw [h4, partsS, if_neg, attach_snoc _ _ _ (partsS_ne _ _ _)]
    · congr 2
      have e : i + 1 - fr = (i - fr) + 1 := by omega
      rw [e, List.take_add_one]
      congr 1
      rw [List.getElem?_drop, show fr + (i - fr) = i by omega, List.getElem?_eq_getElem (by rw [size_list]; exact hi), at_list s i hi]
      rfl
    · rintro ⟨a, b, c⟩
      rcases hn with h | h
      · rw [a] at h; cases h
      · rw [List.head?_drop] at c
        have := (parts2_iff hi).2 ⟨b, c⟩
        rw [h] at this; cases this
  | true =>
    obtain ⟨h5, h6, h7⟩ := h3 rfl
    have hc : s[i] = 32 := by
      rw [List.getElem?_eq_getElem (by rw [size_list]; exact hi), at_list s i hi] at h7
      exact Option.some.inj h7
    have hf : flip q s[i] = q := by rw [hc]; rfl
    rw [hf]
    refine ⟨by omega, fun _ => by omega, fun h => (by cases h), ?_⟩
    rw [h4, partsS]
    congr 2
    rw [show i - fr = 0 by omega, show i + 1 - fr = 0 by omega]
/-- A round that hands out what stands ahead of a comma and a blank. -/
theorem pinv_cut {s : ByteArray} {i fr : Nat} {k : Bool} {pre : List ByteArray} (h : PInv s i fr false k pre) (hi : i < s.size) (hp : parts2 s i = true) :
    fr ≤ i ∧ pre.length < (partsB s).length ∧ PInv s (i + 1) (i + 2) false true (pre ++ [s.extract fr i]) ∧ pre ++ [s.extract fr i] <+: partsB s := by
  obtain ⟨h1, h2, h3, h4⟩ := h
  obtain ⟨hc, hd⟩ := (parts2_iff hi).1 hp
  have hk : k = false := by
    cases k with
    | false => rfl
    | true =>
      have h7 := (h3 rfl).2.2
      rw [List.getElem?_eq_getElem (by rw [size_list]; exact hi), at_list s i hi, hc] at h7
      cases h7
  subst hk
  have h5 := h2 rfl
  have hi1 : i + 1 < s.size := by
    rcases Nat.lt_or_ge (i + 1) s.size with h | h
    · exact h
    · rw [List.getElem?_eq_none (by rw [size_list]; exact h)] at hd; cases hd
  rw [drop_list s i hi, partsS, if_pos ⟨by rw [hc]; rfl, hc, by rw [List.head?_drop]; exact hd⟩] at h4
  have hf : flip false s[i] = false := by rw [hc]; rfl
  rw [hf] at h4
  have h6 : partsS false false s.data.toList = (pre ++ [s.extract fr i]).map (·.data.toList) ++ partsS true false (s.data.toList.drop (i + 1)) := by
    rw [h4, List.map_append, List.append_assoc]
    congr 1
    simp [attach, extract_list]
  have h7 : partsB s = (pre ++ [s.extract fr i]) ++ (partsS true false (s.data.toList.drop (i + 1))).map (fun p => (⟨p.toArray⟩ : ByteArray)) := by
    unfold partsB
    rw [h6, List.map_append, mk_map]
  refine ⟨h5, by rw [h7]; simp, ⟨by omega, fun h => (by cases h), fun _ => ⟨rfl, hi1, hd⟩, ?_⟩, ⟨_, h7.symm⟩⟩
  rw [h6, show i + 1 - (i + 2) = 0 by omega, List.take_zero, attach_nil (partsS_ne _ _ _)]
theorem pinv_last {s : ByteArray} {i fr : Nat} {q k : Bool} {pre : List ByteArray} (h : PInv s i fr q k pre) (hi : ¬ i < s.size) :
    pre.length < (partsB s).length ∧ pre ++ [s.extract fr s.size] = partsB s := by
  obtain ⟨h1, h2, h3, h4⟩ := h
  have hk : k = false := by
    cases k with
    | false => rfl
    | true => exact absurd (h3 rfl).2.1 hi
  subst hk
  have e : i = s.size := by omega
  subst e
  have h6 : partsS false false s.data.toList = (pre ++ [s.extract fr s.size]).map (·.data.toList) := by
    have hz : s.data.toList.drop s.size = [] := List.drop_of_length_le (by rw [size_list]; exact Nat.le_refl _)
    rw [h4, List.map_append, hz]
    congr 1
    simp [attach, partsS, extract_list]
  have h7 : partsB s = pre ++ [s.extract fr s.size] := by unfold partsB; rw [h6, mk_map]
  exact ⟨by rw [h7]; simp, h7.symm⟩
theorem prefix2 (s : ByteArray) (i : Nat) (hi : i < s.size) : strings_HasPrefix.f (s.extract i s.size) ⟨#[44, 32]⟩ = some (parts2 s i) := by
  unfold strings_HasPrefix.f stringslite_HasPrefix.f
  have e1 : ((⟨#[44, 32]⟩ : ByteArray).size : Int) = 2 := rfl
  have e2 : ((s.extract i s.size).size : Int) = (s.size : Int) - i := by simp only [ByteArray.size_extract]; omega
  rw [e1, e2]
  by_cases h2 : (s.size : Int) - i ≥ 2
  · rw [if_pos h2, if_pos (by omega), if_pos (by omega), Option.bind_some]
    congr 1
    rw [Bool.eq_iff_iff, beq_iff_eq, ByteArray.toList_eq, ByteArray.toList_eq, parts2_iff hi]
    rw [extract_list, extract_list, drop_list s i hi, drop_list s (i + 1) (by omega), List.getElem?_eq_getElem (by rw [size_list]; omega), at_list s (i + 1) (by omega)]
    have e3 : s.size - i = (s.size - i - 2) + 1 + 1 := by omega
    rw [e3]
    simp
  · rw [if_neg h2, Option.bind_some]
    congr 1
    rw [eq_comm, Bool.eq_false_iff]
    intro h
    have := ((parts2_iff hi).1 h).2
    rw [List.getElem?_eq_none (by rw [size_list]; omega)] at this
    cases this
theorem extract_le (s : ByteArray) (a b : Nat) : (s.extract a b).size ≤ s.size := by simp only [ByteArray.size_extract]; omega
theorem cell_same {W W' : World} {B : Nat} {v : Value} (h : W'.heap[B]? = W.heap[B]?) (hc : W.cell? ⟨B, 0, none⟩ = some v) : W'.cell? ⟨B, 0, none⟩ = some v := by
  unfold World.cell? at hc ⊢
  rw [h]; exact hc
theorem byte_is (c : UInt8) : ((((c.toNat : Nat) : Int)) == 39) = decide (c = 39) := by
  rw [Bool.eq_iff_iff]
  simp only [beq_iff_eq, decide_eq_true_eq]
  constructor
  · intro h; exact UInt8.toNat_inj.1 (by rw [show (39 : UInt8).toNat = 39 from rfl]; omega)
  · rintro rfl; rfl
set_option maxRecDepth 100000 in
set_option maxHeartbeats 4000000 in
theorem parts_in (n : Nat) (hn : 2 ≤ n) (l Bn : Nat) (s : ByteArray) (hs : s.size ≤ 1000000000) (J Jx : List ByteArray → World → Prop)
    (hY : ∀ pre x W, J pre W → pre.length < (partsB s).length → x.size ≤ s.size → YieldAt Fence.wide (n - 1) Tryd.prog l #[.string x] W fun e W' =>
      (e = .returned (.bool true) ∧ J (pre ++ [x]) W' ∧ W'.heap[Bn]? = W.heap[Bn]?) ∨ (e = .returned (.bool false) ∧ Jx (pre ++ [x]) W'))
    (W : World) (hBn : W.cell? ⟨Bn, 0, none⟩ = some (.string s)) (hJd : ∀ pre W k, J pre W → J pre (W.drewN k)) (h0 : J [] W) :
    CallsIn Fence.wide n Tryd.prog 105 #[.func (.yield l) #[] #[], .pointer (some ⟨Bn, 0, none⟩)] W fun e W' => (∃ v, e = .returned v) ∧
      ((∃ ys, ys = partsB s ∧ J ys W') ∨ (∃ pre, pre <+: partsB s ∧ Jx pre W')) := by
  have h1n : 1 ≤ n := by omega
  refine callsIn_of_wp Tryd.func105 rfl trivial ?_ rfl
  simp only [Tryd.ntmps105, List.size_toArray, List.length_cons, List.length_nil, Nat.reduceAdd, Nat.reduceSub, Array.replicate_succ, Array.replicate_zero, List.push_toArray, List.append_toArray, List.nil_append, List.cons_append]
  gi_wp2
  gi_loopw [3, 4, 5] (fun v3 v4 v5 wr => ∃ (i fr : Nat) (q k : Bool) (pre : List ByteArray), v3 = .int .i64 fr ∧ v4 = .bool q ∧ v5 = .int .i64 i ∧ PInv s i fr q k pre ∧ wr.cell? ⟨Bn, 0, none⟩ = some (.string s) ∧ J pre wr)
    (fun _ _ v5 wr => s.size - (intOf v5).toNat)
  case atStart => exact ⟨0, 0, false, false, [], rfl, rfl, rfl, pinv_start s, hBn, h0⟩
  case round =>
    obtain ⟨i, fr, q, k, pre, rfl, rfl, rfl, hP, hB, hJ⟩ := hrel
    have hfr : fr ≤ s.size := pinv_fr hP
    by_cases hi : i < s.size
    · have hm : (intOf (Value.int .i64 ((i : Int) + 1))) = (i : Int) + 1 := rfl
      have hm2 : (intOf (Value.int .i64 (i : Int))) = (i : Int) := rfl
      have hcb : (((s[i].toNat : Nat) : Int) == 39) = decide (s[i] = 39) := byte_is s[i]
      cases hq : flip q s[i] with
      | true =>
        have h1 := pinv_go hP hi (Or.inl hq)
        rw [hq] at h1
        by_cases hc : s[i] = 39
        · rw [decide_eq_true hc] at hcb
          obtain rfl : q = false := by simpa [flip, hc] using hq
          gi_wp2_with (refine ⟨trivial, ?_⟩)
          exact ⟨⟨i + 1, fr, true, false, pre, rfl, rfl, by rw [Int.natCast_add]; rfl, h1, hB, hJ⟩, by rw [hm, hm2]; omega⟩
        · rw [decide_eq_false hc] at hcb
          obtain rfl : q = true := by simpa [flip, hc] using hq
          gi_wp2_with (refine ⟨trivial, ?_⟩)
          exact ⟨⟨i + 1, fr, true, false, pre, rfl, rfl, by rw [Int.natCast_add]; rfl, h1, hB, hJ⟩, by rw [hm, hm2]; omega⟩
      | false =>
        have hpre := prefix2 s i hi
        cases hp : parts2 s i with
        | false =>
          have h1 := pinv_go hP hi (Or.inr hp)
          rw [hq] at h1
          rw [hp] at hpre
          by_cases hc : s[i] = 39
          · rw [decide_eq_true hc] at hcb
            obtain rfl : q = true := by simpa [flip, hc] using hq
            gi_wp2_with (refine ⟨trivial, ?_⟩; gi_at_call 100; refine (callsIn_wide.2 (strings_HasPrefix.calls _ _ _ _ hpre)).mono ?_; rintro e w' ⟨rfl, ⟨⟨kd, rfl⟩⟩⟩)
            exact ⟨⟨i + 1, fr, false, false, pre, rfl, rfl, by rw [Int.natCast_add]; rfl, h1, hB, hJd _ _ _ hJ⟩, by rw [hm, hm2]; omega⟩
          · rw [decide_eq_false hc] at hcb
            obtain rfl : q = false := by simpa [flip, hc] using hq
            gi_wp2_with (refine ⟨trivial, ?_⟩; gi_at_call 100; refine (callsIn_wide.2 (strings_HasPrefix.calls _ _ _ _ hpre)).mono ?_; rintro e w' ⟨rfl, ⟨⟨kd, rfl⟩⟩⟩)
            exact ⟨⟨i + 1, fr, false, false, pre, rfl, rfl, by rw [Int.natCast_add]; rfl, h1, hB, hJd _ _ _ hJ⟩, by rw [hm, hm2]; omega⟩
        | true =>
          rw [hp] at hpre
          have hc : ¬ s[i] = 39 := parts2_ne hp hi
          rw [decide_eq_false hc] at hcb
          obtain rfl : q = false := by simpa [flip, hc] using hq
          obtain ⟨hfi, hlen, h1, hx⟩ := pinv_cut hP hi hp
          have hi2 : i ≤ s.size := by omega
          have hg2 : wr.cell? ⟨Bn, 0, none⟩ = some (.string s) := hB
          gi_wp2_with (refine ⟨trivial, ?_⟩; gi_at_call 100; refine (callsIn_wide.2 (strings_HasPrefix.calls _ _ _ _ hpre)).mono ?_; rintro e w' ⟨rfl, ⟨⟨kd, rfl⟩⟩⟩; obtain ⟨fn, tmps, assign, body, hy, hR⟩ := hY pre (s.extract fr i) _ (hJd pre wr kd hJ) hlen (extract_le s fr i))
          refine hR.mono ?_
          rintro e W3 (⟨rfl, hJ3, hk3⟩ | ⟨rfl, hJx3⟩)
          · have hB3 : W3.cell? ⟨Bn, 0, none⟩ = some (.string s) := cell_same hk3 hB
            gi_wp2
            exact ⟨⟨i + 1, i + 2, false, true, _, by rw [Int.natCast_add]; rfl, rfl, by rw [Int.natCast_add]; rfl, h1, hB3, hJ3⟩, by rw [hm, hm2]; omega⟩
          · gi_wp2
            refine bodyPost_ret (results_none rfl _ _ _) rfl ?_
            exact ⟨⟨_, rfl⟩, .inr ⟨_, hx, hJx3⟩⟩
    · obtain ⟨hlen, hall⟩ := pinv_last hP hi
      obtain ⟨fn, tmps, assign, body, hy, hR⟩ := hY pre (s.extract fr s.size) wr hJ hlen (extract_le s fr _)
      gi_wp2
      refine hR.mono ?_
      rintro e W3 (⟨rfl, hJ3, hk3⟩ | ⟨rfl, hJx3⟩)
      · gi_wp2
        go_end0
        exact ⟨⟨_, rfl⟩, .inl ⟨_, hall, hJ3⟩⟩
      · gi_wp2
        go_end0
        exact ⟨⟨_, rfl⟩, .inr ⟨_, by rw [hall]; exact List.prefix_refl _, hJx3⟩⟩
/-- A text of no more than a thousand million bytes. -/
abbrev Txt1 := { x : ByteArray // x.size ≤ 1000000000 }
theorem parts_stops (n : Nat) (hn : 2 ≤ n) (Bn : Nat) (s : ByteArray) (hs : s.size ≤ 1000000000) (w : World) (hBn : Bn < w.heap.size) (hc : w.cell? ⟨Bn, 0, none⟩ = some (.string s)) :
    SeqStopsK Fence.wide n Tryd.prog 105 #[.pointer (some ⟨Bn, 0, none⟩)] (fun x : Txt1 => #[Value.string x.1]) (fun W W' => W'.heap[Bn]? = W.heap[Bn]?) (fun ys => ys.map (·.1) = partsB s) (fun pre => pre.map (·.1) <+: partsB s) (partsB s).length w := by
  intro l J Jx W hW hJ hJx hY h0
  refine (parts_in n hn l Bn s hs (fun pre W => ∃ p : List Txt1, p.map (·.1) = pre ∧ J p W) (fun pre W => ∃ p : List Txt1, p.map (·.1) = pre ∧ Jx p W) ?_ W ((hW.cell (p := ⟨Bn, 0, none⟩) hBn).trans hc) ?_ ⟨[], rfl, h0⟩).mono ?_
  · rintro pre x W1 ⟨p, rfl, hp⟩ hlen hx
    refine (hY p ⟨x, by omega⟩ W1 hp (by simpa using hlen)).mono ?_
    rintro e W2 (⟨rfl, h1, h2⟩ | ⟨rfl, h1⟩)
    · exact .inl ⟨rfl, ⟨_, by simp, h1⟩, h2⟩
    · exact .inr ⟨rfl, ⟨_, by simp, h1⟩⟩
  · rintro pre W1 k ⟨p, hp, hq⟩
    exact ⟨p, hp, hJ p W1 _ none hq ⟨rfl, rfl, rfl, Nat.le_refl _, fun _ _ _ => rfl⟩ (fun r e => by cases e)⟩
  · rintro e W2 ⟨h1, h2⟩
    refine ⟨h1, ?_⟩
    rcases h2 with ⟨ys, rfl, p, hp, hq⟩ | ⟨pre, h3, p, rfl, hq⟩
    · exact .inl ⟨p, hp, hq⟩
    · exact .inr ⟨p, h3, hq⟩
set_option maxHeartbeats 4000000 in
/-- What the parts are told by: the text in a box of its own. -/
theorem parts_made (n : Nat) (s : ByteArray) (w : World) :
    CallsIn Fence.wide n Tryd.prog 89 #[.string s] w fun e w' => e = .returned (.func (.func 105) #[] #[.pointer (some ⟨w.heap.size, 0, none⟩)]) ∧ w' = w.alloc (.cells #[.string s] 9) := by
  refine callsIn_of_wp Tryd.func89 rfl trivial ?_ rfl
  simp only [Tryd.ntmps89, List.size_toArray, List.length_cons, List.length_nil, Nat.reduceAdd, Nat.reduceSub, Array.replicate_succ, Array.replicate_zero, List.push_toArray, List.append_toArray, List.nil_append, List.cons_append]
  gi_wp2
  go_ret
  exact ⟨rfl, rfl⟩
end Go.Proofs.YtddmllocjocipaaDoor.D
