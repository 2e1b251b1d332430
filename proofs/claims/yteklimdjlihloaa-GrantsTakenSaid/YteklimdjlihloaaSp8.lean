/- What Take leaves, as a set of grants. Conditions: as each theorem states them. -/
import Derived.Test.YteklimdjlihloaaSp6
namespace Go.Proofs.Yteklimdjlihloaa.G
open Go.RowKit Go.Proofs.YteklimdjlihloaaW.PrintWords
open Classical
theorem zip_self {α β : Type} (f : α → β) : ∀ l : List α, l.zip (l.map f) = l.map fun x => (x, f x)
  | [] => rfl
  | x :: l => by rw [List.map_cons, List.zip_cons_cons, zip_self f l, List.map_cons]
section
variable (T : List S71) (N : List ByteArray) (P : List S66) (l : List S43) (g : S43)
/-- All grants but one. -/
noncomputable def but : List S43 := l.filter fun x => decide (x ≠ g)
/-- Whether Take leaves a grant. -/
noncomputable def keepT (x : S43) : Bool := decide (x ≠ g ∧ (CV T N P (but l g) x ∨ ¬ CV T N P l x))
theorem but_mem {x : S43} : x ∈ but l g ↔ x ∈ l ∧ x ≠ g := by unfold but; rw [List.mem_filter]; simp
theorem leftZ_eq : leftZ T N P l g = (but l g).map fun x => (x, decide (CV T N P l x)) := by
  unfold leftZ but
  rw [counts_map, zip_self, List.filter_map]
  rfl
theorem nowZ_eq : nowZ T N P l g = (but l g).map fun x => ((x, decide (CV T N P l x)), decide (CV T N P (but l g) x)) := by
  unfold nowZ
  have e : (leftZ T N P l g).map (·.1) = but l g := by
    rw [leftZ_eq, List.map_map]
    exact List.map_id _
  rw [e, counts_map, leftZ_eq]
  have : ∀ (f : S43 → S43 × Bool) (h : S43 → Bool) (m : List S43), (m.map f).zip (m.map h) = m.map fun x => (f x, h x) := by
    intro f h m
    induction m with
    | nil => rfl
    | cons x m ih => rw [List.map_cons, List.map_cons, List.zip_cons_cons, ih, List.map_cons]
  exact this _ _ _
theorem kept_eq : ((nowZ T N P l g).filter fun x => x.2 || !x.1.2).map (·.1.1) = l.filter (keepT T N P l g) := by
  rw [nowZ_eq, List.filter_map, List.map_map]
  have : ((fun x : (S43 × Bool) × Bool => x.1.1) ∘ fun x => ((x, decide (CV T N P l x)), decide (CV T N P (but l g) x))) = id := rfl
  rw [this, List.map_id]
  unfold but
  rw [List.filter_filter]
  refine List.filter_congr fun x _ => ?_
  unfold keepT
  show ((decide (CV T N P (but l g) x) || !decide (CV T N P l x)) && decide (x ≠ g)) = _
  rw [Bool.and_comm]
  by_cases h1 : x = g
  · simp [h1]
  · by_cases h2 : CV T N P (but l g) x <;> by_cases h3 : CV T N P l x <;> simp [h1, h2, h3]
/-- Take that goes through. -/
theorem take_ok {role : ByteArray} {all : Bool} (h : (takeP T N P l role g all).2 = 0) : (takeP T N P l role g all).1 = l.filter (keepT T N P l g) ∧ (all = true ∨ ∀ x ∈ l, x ≠ g → CV T N P l x → CV T N P (but l g) x) := by
  unfold takeP at h ⊢
  split at h
  · cases h
  split at h
  · cases h
  split at h
  · cases h
  rename_i h1 h2 h3
  rw [if_neg h1, if_neg h2, if_neg h3]
  refine ⟨kept_eq T N P l g, ?_⟩
  cases all with
  | true => exact Or.inl rfl
  | false =>
    refine Or.inr fun x hx hg hw => ?_
    apply byContradiction
    intro hn
    refine h3 ⟨rfl, ((x, decide (CV T N P l x)), decide (CV T N P (but l g) x)), ?_, decide_eq_false hn, decide_eq_true hw⟩
    rw [nowZ_eq]
    exact List.mem_map.2 ⟨x, (but_mem l g).2 ⟨hx, hg⟩, rfl⟩
theorem take_bad {role : ByteArray} {all : Bool} (h : (takeP T N P l role g all).2 ≠ 0) : (takeP T N P l role g all).1 = [] := by
  unfold takeP at h ⊢
  split
  · rfl
  split
  · rfl
  split
  · rfl
  · rename_i h1 h2 h3
    rw [if_neg h1, if_neg h2, if_neg h3] at h
    exact absurd rfl h
/-- What is left counts just if it counts without the one grant. -/
theorem kept_cv (x : S43) : CV T N P (but l g) x ↔ CV T N P (l.filter (keepT T N P l g)) x := by
  refine CV.kept T N P (fun y hy => ?_) (fun y hy => ?_) x
  · obtain ⟨h1, h2⟩ := List.mem_filter.1 hy
    exact (but_mem l g).2 ⟨h1, (of_decide_eq_true h2).1⟩
  · have := (but_mem l g).1 (CV.mem T N P hy)
    exact List.mem_filter.2 ⟨this.1, decide_eq_true ⟨this.2, Or.inl hy⟩⟩
theorem kept_same {x : S43} (hx : x ∈ l.filter (keepT T N P l g)) : CV T N P l x ↔ CV T N P (l.filter (keepT T N P l g)) x := by
  rw [← kept_cv]
  constructor
  · intro h
    exact (of_decide_eq_true (List.mem_filter.1 hx).2).2.resolve_right (fun hn => hn h)
  · exact CV.sub T N P fun y hy => ((but_mem l g).1 hy).1
end
end Go.Proofs.Yteklimdjlihloaa.G
