/- Grants that count, as a set: what a list's set does not depend on, what more grants bring, what is left without some. Conditions: as each theorem states them. -/
import Derived.Test.YteklimdjlihloaaSp4
namespace Go.Proofs.Yteklimdjlihloaa.G
open Go.RowKit Go.Proofs.YteklimdjlihloaaW.PrintWords
open Classical
set_option linter.unusedSectionVars false
section
variable (T : List S71) (N : List ByteArray) (P : List S66)
/-- Some grants give a role these rights on a table. -/
def CovV (M : S43 → Prop) (q : Bool) (role table : ByteArray) (rights : Int) : Prop := ∀ b, b < 8 → bit rights b = true → ∃ h, M h ∧ (q = true → h.f4 = true) ∧ h.f2 = table ∧ IsP N P role h.f1 ∧ bit h.f3 b = true
/-- A grant counts by some others. -/
def StepV (M : S43 → Prop) (g : S43) : Prop := FormedP T N g ∧ (AllP T N P g.f0 g.f2 ∨ CovV N P M true g.f0 g.f2 g.f3)
/-- The grants of a list that count. -/
def CV (l : List S43) (g : S43) : Prop := ∀ M : S43 → Prop, (∀ h ∈ l, StepV T N P M h → M h) → M g
theorem CovV.mono {M M' : S43 → Prop} {q : Bool} {role table : ByteArray} {rights : Int} (h : ∀ g, M g → M' g) (hc : CovV N P M q role table rights) : CovV N P M' q role table rights := by
  intro b hb hr
  obtain ⟨g, h1, h2⟩ := hc b hb hr
  exact ⟨g, h g h1, h2⟩
theorem StepV.mono {M M' : S43 → Prop} {g : S43} (h : ∀ g, M g → M' g) (hs : StepV T N P M g) : StepV T N P M' g := ⟨hs.1, hs.2.imp id (CovV.mono N P h)⟩
theorem CV.step {l : List S43} {g : S43} (hm : g ∈ l) (h : StepV T N P (CV T N P l) g) : CV T N P l g := fun M hM => hM g hm (h.mono T N P fun _ hx => hx M hM)
theorem CV.mem {l : List S43} {g : S43} (h : CV T N P l g) : g ∈ l := h (· ∈ l) fun _ hm _ => hm
/-- More grants: what counted counts. -/
theorem CV.sub {l l' : List S43} (h : ∀ x ∈ l, x ∈ l') {g : S43} (hg : CV T N P l g) : CV T N P l' g := hg (CV T N P l') fun x hx hs => CV.step T N P (h x hx) hs
/-- What is left, if all that counted is left, counts as it did. -/
theorem CV.kept {l l' : List S43} (h : ∀ x ∈ l', x ∈ l) (hk : ∀ x, CV T N P l x → x ∈ l') (g : S43) : CV T N P l g ↔ CV T N P l' g := by
  refine ⟨fun hg => ?_, CV.sub T N P h⟩
  refine (hg (fun x => CV T N P l x ∧ CV T N P l' x) fun x hx hs => ?_).2
  have h1 : CV T N P l x := CV.step T N P hx (hs.mono T N P fun _ hy => hy.1)
  exact ⟨h1, CV.step T N P (hk x h1) (hs.mono T N P fun _ hy => hy.2)⟩
theorem step_iff (l : List S43) (M : S43 → Prop) (i : Nat) (hi : i < l.length) : StepP T N P l (fun j => ∃ g, l[j]? = some g ∧ M g) i ↔ FormedP T N l[i] ∧ (AllP T N P l[i].f0 l[i].f2 ∨ CovV N P (fun g => g ∈ l ∧ M g) true l[i].f0 l[i].f2 l[i].f3) := by
  have hgi : l[i]? = some l[i] := List.getElem?_eq_getElem hi
  constructor
  · rintro ⟨g, h1, h2, h3⟩
    rw [hgi] at h1
    obtain rfl := Option.some.inj h1
    refine ⟨h2, h3.imp id fun hc b hb hr => ?_⟩
    obtain ⟨m, x, h4, ⟨x', h5, h6⟩, h7⟩ := hc b hb hr
    rw [h4] at h5
    obtain rfl := Option.some.inj h5
    exact ⟨x, ⟨List.mem_of_getElem? h4, h6⟩, h7⟩
  · rintro ⟨h2, h3⟩
    refine ⟨l[i], hgi, h2, h3.imp id fun hc b hb hr => ?_⟩
    obtain ⟨x, ⟨h4, h5⟩, h6⟩ := hc b hb hr
    obtain ⟨m, hm, rfl⟩ := List.getElem_of_mem h4
    exact ⟨m, l[m], List.getElem?_eq_getElem hm, ⟨l[m], List.getElem?_eq_getElem hm, h5⟩, h6⟩
/-- The place counts just if the grant there does. -/
theorem cnt_iff (l : List S43) (i : Nat) (hi : i < l.length) : CntP T N P l i ↔ CV T N P l l[i] := by
  constructor
  · intro h
    have := h (fun j => ∃ g, l[j]? = some g ∧ CV T N P l g) fun j hj => by
      obtain ⟨g, hg, _⟩ := id hj
      obtain ⟨hjl, rfl⟩ := List.getElem?_eq_some_iff.1 hg
      have hs := (step_iff T N P l _ j hjl).1 hj
      exact ⟨l[j], List.getElem?_eq_getElem hjl, CV.step T N P (List.getElem_mem hjl) ⟨hs.1, hs.2.imp id (CovV.mono N P fun _ hy => hy.2)⟩⟩
    obtain ⟨g, h1, h2⟩ := this
    rw [List.getElem?_eq_getElem hi] at h1
    rw [Option.some.inj h1]
    exact h2
  · intro h
    have all : ∀ g, CV T N P l g → g ∈ l ∧ ∀ j, l[j]? = some g → CntP T N P l j := by
      intro g hg
      refine hg (fun x => x ∈ l ∧ ∀ j, l[j]? = some x → CntP T N P l j) fun x hx hs => ⟨hx, fun j hj => ?_⟩
      refine CntP.step T N P ⟨x, hj, hs.1, hs.2.imp id fun hc b hb hr => ?_⟩
      obtain ⟨y, ⟨h4, h5⟩, h6⟩ := hc b hb hr
      obtain ⟨m, hm, rfl⟩ := List.getElem_of_mem h4
      exact ⟨m, l[m], List.getElem?_eq_getElem hm, h5 m (List.getElem?_eq_getElem hm), h6⟩
    exact (all _ h).2 i (List.getElem?_eq_getElem hi)
theorem counts_get (l : List S43) (i : Nat) (hi : i < l.length) : (countsP T N P l)[i]'(by rw [countsP_length]; exact hi) = decide (CV T N P l l[i]) := by
  have := countsP_get T N P l i hi
  rw [List.getElem?_eq_getElem (by rw [countsP_length]; exact hi)] at this
  rw [Option.some.inj this]
  exact decide_eq_decide.2 (cnt_iff T N P l i hi)
theorem counts_map (l : List S43) : countsP T N P l = l.map fun g => decide (CV T N P l g) := by
  refine List.ext_getElem (by rw [countsP_length, List.length_map]) fun i h1 h2 => ?_
  rw [counts_get T N P l i (by rw [List.length_map] at h2; exact h2), List.getElem_map]
end
end Go.Proofs.Yteklimdjlihloaa.G
