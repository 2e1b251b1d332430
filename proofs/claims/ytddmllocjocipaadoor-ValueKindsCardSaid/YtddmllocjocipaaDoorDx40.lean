/- What the functions that a law reaches come to, as plain Lean functions, and the law's row: written by a session's own program over the kit's print.py, some functions proved by hand. Conditions: as each theorem states them. -/
import Derived.Test.YtddmllocjocipaaDoorDx0
import Derived.Test.YtddmllocjocipaaDoorDx2
import Derived.Test.YtddmllocjocipaaDoorDx3
import Derived.Test.YtddmllocjocipaaDoorDx12
import Derived.Test.YtddmllocjocipaaDoorGw
namespace Go.Proofs.YtddmllocjocipaaDoor.D
open Go.RowKit Go.Proofs.YtddmllocjocipaaDoorW.PrintWords Go.Proofs.YtddmllocjocipaaDoorW.PrintLast Go.Proofs.YtddmllocjocipaaDoorW.PrintMore
attribute [local go_sem] max2_int min2_int max_two min_two max_three min_three max_four min_four   -- for this text's walks alone
set_option linter.unusedVariables false
set_option linter.unusedSimpArgs false

attribute [local go_sem high] eqA23
/-! ### covenantlaw01_ValueKinds_1: function 59 -/
def covenantlaw01_ValueKinds_1.f (a0 : Bool) (a1 : Bool) : Option (Int) := if a0 = true then (some (-1)) else (if a1 = true then (some 0) else (some 1))
set_option maxHeartbeats 8000000 in
set_option maxRecDepth 100000 in
theorem covenantlaw01_ValueKinds_1.calls (a0 : Bool) (a1 : Bool) (r : Int) (w : World) (h : covenantlaw01_ValueKinds_1.f a0 a1 = some r) :
    Calls Tryd.prog 59 #[.bool a0, .bool a1] w fun e w' => e = .returned (.int .i64 r) ∧ Drawn0 w w' := by
  have H : (if a0 = true then (some (-1)) else (if a1 = true then (some 0) else (some 1))) = some r := h
  clear h
  by_cases c3 : a0 = true
  · subst c3
    have H1 : (some (-1)) = some r := by rw [if_pos rfl] at H; exact H
    clear H
    have H := H1
    clear H1
    obtain rfl := Option.some.inj H
    go_enter Tryd.func59, Tryd.ntmps59
    go_wp2
    go_ret
    exact ⟨by first | rfl | (simp; done) | (simp [*]; done), by repeat (first | exact Drawn0.refl _ | apply Drawn0.step)⟩
  · replace c3 := Bool.eq_false_iff.mpr c3
    subst c3
    have H1 : (if a1 = true then (some 0) else (some 1)) = some r := by rw [if_neg (show ¬ (false = true) by decide)] at H; exact H
    clear H
    have H := H1
    clear H1
    by_cases c4 : a1 = true
    · subst c4
      have H1 : (some 0) = some r := by rw [if_pos rfl] at H; exact H
      clear H
      have H := H1
      clear H1
      obtain rfl := Option.some.inj H
      go_enter Tryd.func59, Tryd.ntmps59
      go_wp2
      go_ret
      exact ⟨by first | rfl | (simp; done) | (simp [*]; done), by repeat (first | exact Drawn0.refl _ | apply Drawn0.step)⟩
    · replace c4 := Bool.eq_false_iff.mpr c4
      subst c4
      have H1 : (some 1) = some r := by rw [if_neg (show ¬ (false = true) by decide)] at H; exact H
      clear H
      have H := H1
      clear H1
      obtain rfl := Option.some.inj H
      go_enter Tryd.func59, Tryd.ntmps59
      go_wp2
      go_ret
      exact ⟨by first | rfl | (simp; done) | (simp [*]; done), by repeat (first | exact Drawn0.refl _ | apply Drawn0.step)⟩

/-! ### covenantlaw01_ValueKinds: function 10 -/
mutual
def covenantlaw01_ValueKinds.j0 : Nat → Int → Int → Int → ByteArray → ByteArray → Bool → Option (Bool)
  | 0, _, _, _, _, _, _ => none
  | k + 1, x0, x1, x2, x3, x4, x23 => if x23 = true then ((covenantlaw01_works.f k).bind fun t214 => (some t214)) else ((value_Compare.f k 1 x0 0 (⟨#[]⟩ : ByteArray) 1 x1 0 (⟨#[]⟩ : ByteArray)).bind fun t215 => ((covenantlaw01_ValueKinds_1.f (decide (x0 < x1)) (x0 == x1)).bind fun t216 => (if t215 = t216 then ((value_Compare.f k 3 0 0 x3 3 0 0 x4).bind fun t217 => ((covenantlaw01_ValueKinds_1.f (Op.bytesLess x3.toList x4.toList) (x3.toList == x4.toList)).bind fun t218 => (covenantlaw01_ValueKinds.j1 k x0 x1 x2 x3 (t217 != t218)))) else (covenantlaw01_ValueKinds.j1 k x0 x1 x2 x3 true))))
def covenantlaw01_ValueKinds.j1 : Nat → Int → Int → Int → ByteArray → Bool → Option (Bool)
  | 0, _, _, _, _, _ => none
  | k + 1, x0, x1, x2, x3, x54 => if x54 = true then (some false) else ((value_Compare.f k 4 x0 x1 (⟨#[]⟩ : ByteArray) 4 x0 x2 (⟨#[]⟩ : ByteArray)).bind fun t219 => ((covenantlaw01_ValueKinds_1.f (decide (x1 < x2)) (x1 == x2)).bind fun t220 => (if t219 = t220 then ((value_Compare.f k 2 0 0 (⟨#[]⟩ : ByteArray) 2 1 0 (⟨#[]⟩ : ByteArray)).bind fun t221 => (covenantlaw01_ValueKinds.j2 k x0 x1 x3 (t221 != (-1)))) else (covenantlaw01_ValueKinds.j2 k x0 x1 x3 true))))
def covenantlaw01_ValueKinds.j2 : Nat → Int → Int → ByteArray → Bool → Option (Bool)
  | 0, _, _, _, _ => none
  | k + 1, x0, x1, x3, x76 => if x76 = true then (some false) else ((some (([(⟨1, x0, 0, (⟨#[]⟩ : ByteArray)⟩ : S23), (⟨2, 0, 0, (⟨#[]⟩ : ByteArray)⟩ : S23), (⟨3, 0, 0, x3⟩ : S23), (⟨4, x0, x1, (⟨#[]⟩ : ByteArray)⟩ : S23)] : List (S23)) : List (S23))).bind fun y222 => (covenantlaw01_ValueKinds.l0 k y222 (y222.length : Int) 0))
def covenantlaw01_ValueKinds.l0 : Nat → List (S23) → Int → Int → Option (Bool)
  | 0, _, _, _ => none
  | k + 1, x85, x86, x87 => if x87 < x86 then (if 0 ≤ x87 then (if x87 < (x85.length : Int) then ((value_Compare.f k 0 0 0 (⟨#[]⟩ : ByteArray) ((rd_T23 x85 x87).f0) ((rd_T23 x85 x87).f1) ((rd_T23 x85 x87).f2) ((rd_T23 x85 x87).f3)).bind fun t227 => (if t227 = (-1) then ((value_Compare.f k ((rd_T23 x85 x87).f0) ((rd_T23 x85 x87).f1) ((rd_T23 x85 x87).f2) ((rd_T23 x85 x87).f3) 0 0 0 (⟨#[]⟩ : ByteArray)).bind fun t228 => (if t228 = 1 then (covenantlaw01_ValueKinds.l0 k x85 x86 (wrap64 (x87 + 1))) else (some false))) else (some false))) else (none)) else (none)) else (some true)
end
def covenantlaw01_ValueKinds.f (k : Nat) (a0 : Int) (a1 : Int) (a2 : Int) (a3 : ByteArray) (a4 : ByteArray) : Option (Bool) := (covenantlaw01_works.f k).bind fun t213 => (if t213 = true then (covenantlaw01_ValueKinds.j0 k a0 a1 a2 a3 a4 (decide ((wrap64 ((a3.size : Int) + (a4.size : Int))) > 10000))) else (covenantlaw01_ValueKinds.j0 k a0 a1 a2 a3 a4 true))
theorem covenantlaw01_ValueKinds.mono_l : ∀ k, (∀ y0 y1 y2 y3 y4 y5, LeO (covenantlaw01_ValueKinds.j0 k y0 y1 y2 y3 y4 y5) (covenantlaw01_ValueKinds.j0 (k + 1) y0 y1 y2 y3 y4 y5)) ∧ (∀ y0 y1 y2 y3 y4, LeO (covenantlaw01_ValueKinds.j1 k y0 y1 y2 y3 y4) (covenantlaw01_ValueKinds.j1 (k + 1) y0 y1 y2 y3 y4)) ∧ (∀ y0 y1 y2 y3, LeO (covenantlaw01_ValueKinds.j2 k y0 y1 y2 y3) (covenantlaw01_ValueKinds.j2 (k + 1) y0 y1 y2 y3)) ∧ (∀ y0 y1 y2, LeO (covenantlaw01_ValueKinds.l0 k y0 y1 y2) (covenantlaw01_ValueKinds.l0 (k + 1) y0 y1 y2))
  | 0 => ⟨fun _ _ _ _ _ _ r h => by simp [covenantlaw01_ValueKinds.j0] at h, fun _ _ _ _ _ r h => by simp [covenantlaw01_ValueKinds.j1] at h, fun _ _ _ _ r h => by simp [covenantlaw01_ValueKinds.j2] at h, fun _ _ _ r h => by simp [covenantlaw01_ValueKinds.l0] at h⟩
  | k + 1 => by
    obtain ⟨ih0, ih1, ih2, ih3⟩ := covenantlaw01_ValueKinds.mono_l k
    refine ⟨?_, ?_, ?_, ?_⟩
    · intro y0 y1 y2 y3 y4 y5
      unfold covenantlaw01_ValueKinds.j0
      repeat' first
      | (with_reducible exact ih0 _ _ _ _ _ _)
      | (with_reducible exact ih1 _ _ _ _ _)
      | (with_reducible exact ih2 _ _ _ _)
      | (with_reducible exact ih3 _ _ _)
      | (with_reducible exact covenantlaw01_works.mono _)
      | (with_reducible exact value_Compare.mono _ _ _ _ _ _ _ _ _)
      | (with_reducible exact LeO.refl _)
      | (with_reducible exact LeO.none _)
      | (with_reducible refine LeO.ite ?_ ?_)
      | (with_reducible refine LeO.bind ?_ (fun _ => ?_))
      | exact ih0 _ _ _ _ _ _
      | exact ih1 _ _ _ _ _
      | exact ih2 _ _ _ _
      | exact ih3 _ _ _
      | exact covenantlaw01_works.mono _
      | exact value_Compare.mono _ _ _ _ _ _ _ _ _
      | exact LeO.none _
      | refine LeO.ite ?_ ?_
      | refine LeO.bind ?_ (fun _ => ?_)
    · intro y0 y1 y2 y3 y4
      unfold covenantlaw01_ValueKinds.j1
      repeat' first
      | (with_reducible exact ih0 _ _ _ _ _ _)
      | (with_reducible exact ih1 _ _ _ _ _)
      | (with_reducible exact ih2 _ _ _ _)
      | (with_reducible exact ih3 _ _ _)
      | (with_reducible exact covenantlaw01_works.mono _)
      | (with_reducible exact value_Compare.mono _ _ _ _ _ _ _ _ _)
      | (with_reducible exact LeO.refl _)
      | (with_reducible exact LeO.none _)
      | (with_reducible refine LeO.ite ?_ ?_)
      | (with_reducible refine LeO.bind ?_ (fun _ => ?_))
      | exact ih0 _ _ _ _ _ _
      | exact ih1 _ _ _ _ _
      | exact ih2 _ _ _ _
      | exact ih3 _ _ _
      | exact covenantlaw01_works.mono _
      | exact value_Compare.mono _ _ _ _ _ _ _ _ _
      | exact LeO.none _
      | refine LeO.ite ?_ ?_
      | refine LeO.bind ?_ (fun _ => ?_)
    · intro y0 y1 y2 y3
      unfold covenantlaw01_ValueKinds.j2
      repeat' first
      | (with_reducible exact ih0 _ _ _ _ _ _)
      | (with_reducible exact ih1 _ _ _ _ _)
      | (with_reducible exact ih2 _ _ _ _)
      | (with_reducible exact ih3 _ _ _)
      | (with_reducible exact covenantlaw01_works.mono _)
      | (with_reducible exact value_Compare.mono _ _ _ _ _ _ _ _ _)
      | (with_reducible exact LeO.refl _)
      | (with_reducible exact LeO.none _)
      | (with_reducible refine LeO.ite ?_ ?_)
      | (with_reducible refine LeO.bind ?_ (fun _ => ?_))
      | exact ih0 _ _ _ _ _ _
      | exact ih1 _ _ _ _ _
      | exact ih2 _ _ _ _
      | exact ih3 _ _ _
      | exact covenantlaw01_works.mono _
      | exact value_Compare.mono _ _ _ _ _ _ _ _ _
      | exact LeO.none _
      | refine LeO.ite ?_ ?_
      | refine LeO.bind ?_ (fun _ => ?_)
    · intro y0 y1 y2
      unfold covenantlaw01_ValueKinds.l0
      repeat' first
      | (with_reducible exact ih0 _ _ _ _ _ _)
      | (with_reducible exact ih1 _ _ _ _ _)
      | (with_reducible exact ih2 _ _ _ _)
      | (with_reducible exact ih3 _ _ _)
      | (with_reducible exact covenantlaw01_works.mono _)
      | (with_reducible exact value_Compare.mono _ _ _ _ _ _ _ _ _)
      | (with_reducible exact LeO.refl _)
      | (with_reducible exact LeO.none _)
      | (with_reducible refine LeO.ite ?_ ?_)
      | (with_reducible refine LeO.bind ?_ (fun _ => ?_))
      | exact ih0 _ _ _ _ _ _
      | exact ih1 _ _ _ _ _
      | exact ih2 _ _ _ _
      | exact ih3 _ _ _
      | exact covenantlaw01_works.mono _
      | exact value_Compare.mono _ _ _ _ _ _ _ _ _
      | exact LeO.none _
      | refine LeO.ite ?_ ?_
      | refine LeO.bind ?_ (fun _ => ?_)
theorem covenantlaw01_ValueKinds.mono : ∀ a0 a1 a2 a3 a4 k, LeO (covenantlaw01_ValueKinds.f k a0 a1 a2 a3 a4) (covenantlaw01_ValueKinds.f (k + 1) a0 a1 a2 a3 a4) := by
  intro a0 a1 a2 a3 a4 k
  obtain ⟨ih0, ih1, ih2, ih3⟩ := covenantlaw01_ValueKinds.mono_l k
  unfold covenantlaw01_ValueKinds.f
  repeat' first
      | (with_reducible exact ih0 _ _ _ _ _ _)
      | (with_reducible exact ih1 _ _ _ _ _)
      | (with_reducible exact ih2 _ _ _ _)
      | (with_reducible exact ih3 _ _ _)
      | (with_reducible exact covenantlaw01_works.mono _)
      | (with_reducible exact value_Compare.mono _ _ _ _ _ _ _ _ _)
      | (with_reducible exact LeO.refl _)
      | (with_reducible exact LeO.none _)
      | (with_reducible refine LeO.ite ?_ ?_)
      | (with_reducible refine LeO.bind ?_ (fun _ => ?_))
      | exact ih0 _ _ _ _ _ _
      | exact ih1 _ _ _ _ _
      | exact ih2 _ _ _ _
      | exact ih3 _ _ _
      | exact covenantlaw01_works.mono _
      | exact value_Compare.mono _ _ _ _ _ _ _ _ _
      | exact LeO.none _
      | refine LeO.ite ?_ ?_
      | refine LeO.bind ?_ (fun _ => ?_)
set_option maxHeartbeats 8000000 in
set_option maxRecDepth 100000 in
theorem covenantlaw01_ValueKinds.calls (k : Nat) (a0 : Int) (a1 : Int) (a2 : Int) (a3 : ByteArray) (a4 : ByteArray) (r : Bool) (w : World) (h : covenantlaw01_ValueKinds.f k a0 a1 a2 a3 a4 = some r) (hG : GW true w) :
    Calls Tryd.prog 10 #[.int .i64 a0, .int .i64 a1, .int .i64 a2, .string a3, .string a4] w fun e w' => e = .returned (.bool r) ∧ Below w.heap.size w w' := by
  have HG := Aside0.mk hG
  clear hG
  have hu23 := Tryd.underlying23
  have HB := Aside0.mk (Below.refl w.heap.size w)
  have H : ((covenantlaw01_works.f k).bind fun t213 => (if t213 = true then (covenantlaw01_ValueKinds.j0 k a0 a1 a2 a3 a4 (decide ((wrap64 ((a3.size : Int) + (a4.size : Int))) > 10000))) else (covenantlaw01_ValueKinds.j0 k a0 a1 a2 a3 a4 true))) = some r := h
  clear h
  have HC6 := Aside0.mk H
  clear H
  go_enter Tryd.func10, Tryd.ntmps10
  go_upto_region 1 with (fail)
  go_cut [23] (fun v23 wc => ∃ (kq : Nat) (x23_5 : Bool), v23 = .bool x23_5 ∧ Aside0 (covenantlaw01_ValueKinds.j0 kq a0 a1 a2 a3 a4 x23_5 = some r) ∧ Aside0 (kq ≤ k) ∧ Aside0 (Below w.heap.size w wc))
  case first =>
    have H := HC6.out
    clear HC6
    replace H := Option.bind_eq_some_iff.mp H
    obtain ⟨t213, A70, H⟩ := H
    replace H : (if t213 = true then (covenantlaw01_ValueKinds.j0 k a0 a1 a2 a3 a4 (decide ((wrap64 ((a3.size : Int) + (a4.size : Int))) > 10000))) else (covenantlaw01_ValueKinds.j0 k a0 a1 a2 a3 a4 true)) = some r := H
    have A7 := Aside0.mk A70
    clear A70
    by_cases c8 : t213 = true
    · subst c8
      have H1 : (covenantlaw01_ValueKinds.j0 k a0 a1 a2 a3 a4 (decide ((wrap64 ((a3.size : Int) + (a4.size : Int))) > 10000))) = some r := by rw [if_pos rfl] at H; exact H
      clear H
      have H := H1
      clear H1
      have H' := Aside0.mk H
      clear H
      go_wp2_with (first | ((with_reducible refine gate_callee (f := 58) rfl ?_); refine goesL_ (some 14) rfl rfl Tryd.func58 (by kernel_rfl) rfl #[] rfl (by (try simp only [List.map_toArray, List.map_cons, List.map_nil]); first | done | rfl | (simp only [List.length_drop, List.length_take]; rfl)) ?_; (with_reducible refine (covenantlaw01_works.calls k  true _ A7.out ?sideG).mono ?_); (case sideG => exact GW.keep HG.out (by repeat (first | (with_reducible first | exact HB.out | apply below_alloc | apply pw_below_drewN | apply below_drew1 | refine below_set ?_ GE226.out) | exact HB.out))); rintro e w9 ⟨rfl, hb⟩; refine ⟨_, rfl, ?_⟩; have n0_ := Aside0.mk (below_step (by repeat (first | (with_reducible first | exact HB.out | apply below_alloc | apply pw_below_drewN | apply below_drew1) | exact HB.out)) hb); clear HB; have HB := n0_; clear n0_; (try clear hb); (try clear hb2); (try clear hk); (try clear hi)))
      go_meet
      case rel => exact ⟨_, (decide ((wrap64 ((a3.size : Int) + (a4.size : Int))) > 10000)), (by first | rfl | (simp; done) | (simp [*]; done)), H', ⟨by first | omega | exact Nat.le_refl _⟩, ⟨by repeat (first | (with_reducible first | exact HB.out | apply below_alloc | apply pw_below_drewN | apply below_drew1) | exact HB.out)⟩⟩
    · replace c8 := Bool.eq_false_iff.mpr c8
      subst c8
      have H1 : (covenantlaw01_ValueKinds.j0 k a0 a1 a2 a3 a4 true) = some r := by rw [if_neg (show ¬ (false = true) by decide)] at H; exact H
      clear H
      have H := H1
      clear H1
      have H' := Aside0.mk H
      clear H
      go_wp2_with (first | ((with_reducible refine gate_callee (f := 58) rfl ?_); refine goesL_ (some 14) rfl rfl Tryd.func58 (by kernel_rfl) rfl #[] rfl (by (try simp only [List.map_toArray, List.map_cons, List.map_nil]); first | done | rfl | (simp only [List.length_drop, List.length_take]; rfl)) ?_; (with_reducible refine (covenantlaw01_works.calls k  false _ A7.out ?sideG).mono ?_); (case sideG => exact GW.keep HG.out (by repeat (first | (with_reducible first | exact HB.out | apply below_alloc | apply pw_below_drewN | apply below_drew1 | refine below_set ?_ GE226.out) | exact HB.out))); rintro e w10 ⟨rfl, hb⟩; refine ⟨_, rfl, ?_⟩; have n0_ := Aside0.mk (below_step (by repeat (first | (with_reducible first | exact HB.out | apply below_alloc | apply pw_below_drewN | apply below_drew1) | exact HB.out)) hb); clear HB; have HB := n0_; clear n0_; (try clear hb); (try clear hb2); (try clear hk); (try clear hi)))
      go_meet
      case rel => exact ⟨_, (true), (by first | rfl | (simp; done) | (simp [*]; done)), H', ⟨by first | omega | exact Nat.le_refl _⟩, ⟨by repeat (first | (with_reducible first | exact HB.out | apply below_alloc | apply pw_below_drewN | apply below_drew1) | exact HB.out)⟩⟩
  case rest =>
    clear HC6
    try clear c1
    try clear p2
    try clear c5
    try clear p6
    try clear c8
    try clear c10
    obtain ⟨kq, x23_5, rfl, HA, HJ5, HB⟩ := hcut
    cases kq with
    | zero => exact absurd HA.out (by simp [covenantlaw01_ValueKinds.j0])
    | succ kj5 =>
      have H := HA.out
      clear HA
      simp only [covenantlaw01_ValueKinds.j0] at H
      by_cases c11 : x23_5 = true
      · subst c11
        have H1 : ((covenantlaw01_works.f kj5).bind fun t214 => (some t214)) = some r := by rw [if_pos rfl] at H; exact H
        clear H
        have H := H1
        clear H1
        replace H := Option.bind_eq_some_iff.mp H
        obtain ⟨t214, A120, H⟩ := H
        replace H : (some t214) = some r := H
        have A12 := Aside0.mk A120
        clear A120
        obtain rfl := Option.some.inj H
        go_wp2_with (first | ((with_reducible refine gate_callee (f := 58) rfl ?_); refine goesL_ (some 24) rfl rfl Tryd.func58 (by kernel_rfl) rfl #[] rfl (by (try simp only [List.map_toArray, List.map_cons, List.map_nil]); first | done | rfl | (simp only [List.length_drop, List.length_take]; rfl)) ?_; (with_reducible refine (covenantlaw01_works.calls kj5  t214 _ A12.out ?sideG).mono ?_); (case sideG => exact GW.keep HG.out (by repeat (first | (with_reducible first | exact HB.out | apply below_alloc | apply pw_below_drewN | apply below_drew1 | refine below_set ?_ GE226.out) | exact HB.out))); rintro e w13 ⟨rfl, hb⟩; refine ⟨_, rfl, ?_⟩; have n0_ := Aside0.mk (below_step (by repeat (first | (with_reducible first | exact HB.out | apply below_alloc | apply pw_below_drewN | apply below_drew1) | exact HB.out)) hb); clear HB; have HB := n0_; clear n0_; (try clear hb); (try clear hb2); (try clear hk); (try clear hi)))
        go_ret
        exact ⟨by first | rfl | (simp [errW_none, errW_some] <;> rfl) | (simp [*, errW_none, errW_some] <;> rfl), by repeat (first | (with_reducible first | exact HB.out | apply below_alloc | apply pw_below_drewN | apply below_drew1) | exact HB.out)⟩
      · replace c11 := Bool.eq_false_iff.mpr c11
        subst c11
        have H1 : ((value_Compare.f kj5 1 a0 0 (⟨#[]⟩ : ByteArray) 1 a1 0 (⟨#[]⟩ : ByteArray)).bind fun t215 => ((covenantlaw01_ValueKinds_1.f (decide (a0 < a1)) (a0 == a1)).bind fun t216 => (if t215 = t216 then ((value_Compare.f kj5 3 0 0 a3 3 0 0 a4).bind fun t217 => ((covenantlaw01_ValueKinds_1.f (Op.bytesLess a3.toList a4.toList) (a3.toList == a4.toList)).bind fun t218 => (covenantlaw01_ValueKinds.j1 kj5 a0 a1 a2 a3 (t217 != t218)))) else (covenantlaw01_ValueKinds.j1 kj5 a0 a1 a2 a3 true)))) = some r := by rw [if_neg (show ¬ (false = true) by decide)] at H; exact H
        clear H
        have H := H1
        clear H1
        have HC14 := Aside0.mk H
        clear H
        go_upto_region 4 with (fail)
        go_cut [54] (fun v54 wc => ∃ (kq : Nat) (x54_13 : Bool), v54 = .bool x54_13 ∧ Aside0 (covenantlaw01_ValueKinds.j1 kq a0 a1 a2 a3 x54_13 = some r) ∧ Aside0 (kq ≤ kj5) ∧ Aside0 (Below w.heap.size w wc))
        case first =>
          have H := HC14.out
          clear HC14
          replace H := Option.bind_eq_some_iff.mp H
          obtain ⟨t215, A150, H⟩ := H
          replace H : ((covenantlaw01_ValueKinds_1.f (decide (a0 < a1)) (a0 == a1)).bind fun t216 => (if t215 = t216 then ((value_Compare.f kj5 3 0 0 a3 3 0 0 a4).bind fun t217 => ((covenantlaw01_ValueKinds_1.f (Op.bytesLess a3.toList a4.toList) (a3.toList == a4.toList)).bind fun t218 => (covenantlaw01_ValueKinds.j1 kj5 a0 a1 a2 a3 (t217 != t218)))) else (covenantlaw01_ValueKinds.j1 kj5 a0 a1 a2 a3 true))) = some r := H
          have A15 := Aside0.mk A150
          clear A150
          replace H := Option.bind_eq_some_iff.mp H
          obtain ⟨t216, A160, H⟩ := H
          replace H : (if t215 = t216 then ((value_Compare.f kj5 3 0 0 a3 3 0 0 a4).bind fun t217 => ((covenantlaw01_ValueKinds_1.f (Op.bytesLess a3.toList a4.toList) (a3.toList == a4.toList)).bind fun t218 => (covenantlaw01_ValueKinds.j1 kj5 a0 a1 a2 a3 (t217 != t218)))) else (covenantlaw01_ValueKinds.j1 kj5 a0 a1 a2 a3 true)) = some r := H
          have A16 := Aside0.mk A160
          clear A160
          by_cases c17 : t215 = t216
          · rw [if_pos c17] at H
            have c17b0 : (t215 == t216) = true := beq_iff_eq.mpr c17
            have c17b1 : (t215 != t216) = false := bne_eq_false_iff_eq.mpr c17
            clear c17
            (first | rw [c17b0] | (simp only [i64_w, i32_w]; rw [c17b0]) | skip)
            replace H := Option.bind_eq_some_iff.mp H
            obtain ⟨t217, A180, H⟩ := H
            replace H : ((covenantlaw01_ValueKinds_1.f (Op.bytesLess a3.toList a4.toList) (a3.toList == a4.toList)).bind fun t218 => (covenantlaw01_ValueKinds.j1 kj5 a0 a1 a2 a3 (t217 != t218))) = some r := H
            have A18 := Aside0.mk A180
            clear A180
            replace H := Option.bind_eq_some_iff.mp H
            obtain ⟨t218, A190, H⟩ := H
            replace H : (covenantlaw01_ValueKinds.j1 kj5 a0 a1 a2 a3 (t217 != t218)) = some r := H
            have A19 := Aside0.mk A190
            clear A190
            have H' := Aside0.mk H
            clear H
            go_wp2_with (first | ((with_reducible refine gate_callee (f := 25) rfl ?_); refine goesL_ (some 29) rfl rfl Tryd.func25 (by kernel_rfl) rfl #[.agg #[.int .u8 1, .int .i64 a0, .int .i64 0, .string (⟨#[]⟩ : ByteArray)], .agg #[.int .u8 1, .int .i64 a1, .int .i64 0, .string (⟨#[]⟩ : ByteArray)]] rfl (by (try simp only [List.map_toArray, List.map_cons, List.map_nil]); first | done | rfl | (simp only [List.length_drop, List.length_take]; rfl)) ?_; (with_reducible refine (value_Compare.calls kj5 1 a0 0 (⟨#[]⟩ : ByteArray) 1 a1 0 (⟨#[]⟩ : ByteArray) t215 _ A15.out).mono ?_); rintro e w20 ⟨rfl, hb⟩; refine ⟨_, rfl, ?_⟩; have n0_ := Aside0.mk (below_step (by repeat (first | (with_reducible first | exact HB.out | apply below_alloc | apply pw_below_drewN | apply below_drew1) | exact HB.out)) hb); clear HB; have HB := n0_; clear n0_; (try clear hb); (try clear hb2); (try clear hk); (try clear hi)) | (go_at_call 59; (with_reducible refine (covenantlaw01_ValueKinds_1.calls (decide (a0 < a1)) (a0 == a1) t216 _ A16.out).mono ?_); rintro e w' ⟨rfl, ⟨nd, rfl⟩⟩) | (go_at_call 25; (with_reducible refine (value_Compare.calls kj5 3 0 0 a3 3 0 0 a4 t217 _ A18.out).mono ?_); rintro e w21 ⟨rfl, hb⟩; have n0_ := Aside0.mk (below_step (by repeat (first | (with_reducible first | exact HB.out | apply below_alloc | apply pw_below_drewN | apply below_drew1) | exact HB.out)) hb); clear HB; have HB := n0_; clear n0_; (try clear hb); (try clear hb2); (try clear hk); (try clear hi)) | (go_at_call 59; (with_reducible refine (covenantlaw01_ValueKinds_1.calls (Op.bytesLess a3.toList a4.toList) (a3.toList == a4.toList) t218 _ A19.out).mono ?_); rintro e w' ⟨rfl, ⟨nd, rfl⟩⟩))
            go_meet
            case rel => exact ⟨_, ((t217 != t218)), (by first | rfl | (simp; done) | (simp [*]; done)), H', ⟨by have := HJ5.out; first | omega | exact Nat.le_refl _⟩, ⟨by repeat (first | (with_reducible first | exact HB.out | apply below_alloc | apply pw_below_drewN | apply below_drew1) | exact HB.out)⟩⟩
          · rw [if_neg c17] at H
            have c17b0 : (t215 == t216) = false := beq_eq_false_iff_ne.mpr c17
            have c17b1 : (t215 != t216) = true := bne_iff_ne.mpr c17
            (first | rw [c17b0] | (simp only [i64_w, i32_w]; rw [c17b0]) | skip)
            have H' := Aside0.mk H
            clear H
            go_wp2_with (first | ((with_reducible refine gate_callee (f := 25) rfl ?_); refine goesL_ (some 29) rfl rfl Tryd.func25 (by kernel_rfl) rfl #[.agg #[.int .u8 1, .int .i64 a0, .int .i64 0, .string (⟨#[]⟩ : ByteArray)], .agg #[.int .u8 1, .int .i64 a1, .int .i64 0, .string (⟨#[]⟩ : ByteArray)]] rfl (by (try simp only [List.map_toArray, List.map_cons, List.map_nil]); first | done | rfl | (simp only [List.length_drop, List.length_take]; rfl)) ?_; (with_reducible refine (value_Compare.calls kj5 1 a0 0 (⟨#[]⟩ : ByteArray) 1 a1 0 (⟨#[]⟩ : ByteArray) t215 _ A15.out).mono ?_); rintro e w22 ⟨rfl, hb⟩; refine ⟨_, rfl, ?_⟩; have n0_ := Aside0.mk (below_step (by repeat (first | (with_reducible first | exact HB.out | apply below_alloc | apply pw_below_drewN | apply below_drew1) | exact HB.out)) hb); clear HB; have HB := n0_; clear n0_; (try clear hb); (try clear hb2); (try clear hk); (try clear hi)) | (go_at_call 59; (with_reducible refine (covenantlaw01_ValueKinds_1.calls (decide (a0 < a1)) (a0 == a1) t216 _ A16.out).mono ?_); rintro e w' ⟨rfl, ⟨nd, rfl⟩⟩))
            go_meet
            case rel => exact ⟨_, (true), (by first | rfl | (simp; done) | (simp [*]; done)), H', ⟨by have := HJ5.out; first | omega | exact Nat.le_refl _⟩, ⟨by repeat (first | (with_reducible first | exact HB.out | apply below_alloc | apply pw_below_drewN | apply below_drew1) | exact HB.out)⟩⟩
        case rest =>
          clear HC14
          try clear c1
          try clear c2
          try clear p2
          try clear c5
          try clear p6
          try clear c8
          try clear c10
          try clear c11
          try clear c17
          try clear c17b0
          try clear c17b1
          try clear p2
          try clear p6
          obtain ⟨kq, x54_13, rfl, HA, HJ13, HB⟩ := hcut
          cases kq with
          | zero => exact absurd HA.out (by simp [covenantlaw01_ValueKinds.j1])
          | succ kj13 =>
            have H := HA.out
            clear HA
            simp only [covenantlaw01_ValueKinds.j1] at H
            by_cases c23 : x54_13 = true
            · subst c23
              have H1 : (some false) = some r := by rw [if_pos rfl] at H; exact H
              clear H
              have H := H1
              clear H1
              obtain rfl := Option.some.inj H
              go_wp2
              go_ret
              exact ⟨by first | rfl | (simp [errW_none, errW_some] <;> rfl) | (simp [*, errW_none, errW_some] <;> rfl), by repeat (first | (with_reducible first | exact HB.out | apply below_alloc | apply pw_below_drewN | apply below_drew1) | exact HB.out)⟩
            · replace c23 := Bool.eq_false_iff.mpr c23
              subst c23
              have H1 : ((value_Compare.f kj13 4 a0 a1 (⟨#[]⟩ : ByteArray) 4 a0 a2 (⟨#[]⟩ : ByteArray)).bind fun t219 => ((covenantlaw01_ValueKinds_1.f (decide (a1 < a2)) (a1 == a2)).bind fun t220 => (if t219 = t220 then ((value_Compare.f kj13 2 0 0 (⟨#[]⟩ : ByteArray) 2 1 0 (⟨#[]⟩ : ByteArray)).bind fun t221 => (covenantlaw01_ValueKinds.j2 kj13 a0 a1 a3 (t221 != (-1)))) else (covenantlaw01_ValueKinds.j2 kj13 a0 a1 a3 true)))) = some r := by rw [if_neg (show ¬ (false = true) by decide)] at H; exact H
              clear H
              have H := H1
              clear H1
              have HC24 := Aside0.mk H
              clear H
              go_upto_region 6 with (fail)
              go_cut [76] (fun v76 wc => ∃ (kq : Nat) (x76_23 : Bool), v76 = .bool x76_23 ∧ Aside0 (covenantlaw01_ValueKinds.j2 kq a0 a1 a3 x76_23 = some r) ∧ Aside0 (kq ≤ kj13) ∧ Aside0 (Below w.heap.size w wc))
              case first =>
                have H := HC24.out
                clear HC24
                replace H := Option.bind_eq_some_iff.mp H
                obtain ⟨t219, A250, H⟩ := H
                replace H : ((covenantlaw01_ValueKinds_1.f (decide (a1 < a2)) (a1 == a2)).bind fun t220 => (if t219 = t220 then ((value_Compare.f kj13 2 0 0 (⟨#[]⟩ : ByteArray) 2 1 0 (⟨#[]⟩ : ByteArray)).bind fun t221 => (covenantlaw01_ValueKinds.j2 kj13 a0 a1 a3 (t221 != (-1)))) else (covenantlaw01_ValueKinds.j2 kj13 a0 a1 a3 true))) = some r := H
                have A25 := Aside0.mk A250
                clear A250
                replace H := Option.bind_eq_some_iff.mp H
                obtain ⟨t220, A260, H⟩ := H
                replace H : (if t219 = t220 then ((value_Compare.f kj13 2 0 0 (⟨#[]⟩ : ByteArray) 2 1 0 (⟨#[]⟩ : ByteArray)).bind fun t221 => (covenantlaw01_ValueKinds.j2 kj13 a0 a1 a3 (t221 != (-1)))) else (covenantlaw01_ValueKinds.j2 kj13 a0 a1 a3 true)) = some r := H
                have A26 := Aside0.mk A260
                clear A260
                by_cases c27 : t219 = t220
                · rw [if_pos c27] at H
                  have c27b0 : (t219 == t220) = true := beq_iff_eq.mpr c27
                  have c27b1 : (t219 != t220) = false := bne_eq_false_iff_eq.mpr c27
                  clear c27
                  (first | rw [c27b0] | (simp only [i64_w, i32_w]; rw [c27b0]) | skip)
                  replace H := Option.bind_eq_some_iff.mp H
                  obtain ⟨t221, A280, H⟩ := H
                  replace H : (covenantlaw01_ValueKinds.j2 kj13 a0 a1 a3 (t221 != (-1))) = some r := H
                  have A28 := Aside0.mk A280
                  clear A280
                  have H' := Aside0.mk H
                  clear H
                  go_wp2_with (first | ((with_reducible refine gate_callee (f := 25) rfl ?_); refine goesL_ (some 61) rfl rfl Tryd.func25 (by kernel_rfl) rfl #[.agg #[.int .u8 4, .int .i64 a0, .int .i64 a1, .string (⟨#[]⟩ : ByteArray)], .agg #[.int .u8 4, .int .i64 a0, .int .i64 a2, .string (⟨#[]⟩ : ByteArray)]] rfl (by (try simp only [List.map_toArray, List.map_cons, List.map_nil]); first | done | rfl | (simp only [List.length_drop, List.length_take]; rfl)) ?_; (with_reducible refine (value_Compare.calls kj13 4 a0 a1 (⟨#[]⟩ : ByteArray) 4 a0 a2 (⟨#[]⟩ : ByteArray) t219 _ A25.out).mono ?_); rintro e w29 ⟨rfl, hb⟩; refine ⟨_, rfl, ?_⟩; have n0_ := Aside0.mk (below_step (by repeat (first | (with_reducible first | exact HB.out | apply below_alloc | apply pw_below_drewN | apply below_drew1) | exact HB.out)) hb); clear HB; have HB := n0_; clear n0_; (try clear hb); (try clear hb2); (try clear hk); (try clear hi)) | (go_at_call 59; (with_reducible refine (covenantlaw01_ValueKinds_1.calls (decide (a1 < a2)) (a1 == a2) t220 _ A26.out).mono ?_); rintro e w' ⟨rfl, ⟨nd, rfl⟩⟩) | (go_at_call 25; (with_reducible refine (value_Compare.calls kj13 2 0 0 (⟨#[]⟩ : ByteArray) 2 1 0 (⟨#[]⟩ : ByteArray) t221 _ A28.out).mono ?_); rintro e w30 ⟨rfl, hb⟩; have n0_ := Aside0.mk (below_step (by repeat (first | (with_reducible first | exact HB.out | apply below_alloc | apply pw_below_drewN | apply below_drew1) | exact HB.out)) hb); clear HB; have HB := n0_; clear n0_; (try clear hb); (try clear hb2); (try clear hk); (try clear hi)))
                  go_meet
                  case rel => exact ⟨_, ((t221 != (-1))), (by first | rfl | (simp; done) | (simp [*]; done)), H', ⟨by have := HJ5.out; have := HJ13.out; first | omega | exact Nat.le_refl _⟩, ⟨by repeat (first | (with_reducible first | exact HB.out | apply below_alloc | apply pw_below_drewN | apply below_drew1) | exact HB.out)⟩⟩
                · rw [if_neg c27] at H
                  have c27b0 : (t219 == t220) = false := beq_eq_false_iff_ne.mpr c27
                  have c27b1 : (t219 != t220) = true := bne_iff_ne.mpr c27
                  (first | rw [c27b0] | (simp only [i64_w, i32_w]; rw [c27b0]) | skip)
                  have H' := Aside0.mk H
                  clear H
                  go_wp2_with (first | ((with_reducible refine gate_callee (f := 25) rfl ?_); refine goesL_ (some 61) rfl rfl Tryd.func25 (by kernel_rfl) rfl #[.agg #[.int .u8 4, .int .i64 a0, .int .i64 a1, .string (⟨#[]⟩ : ByteArray)], .agg #[.int .u8 4, .int .i64 a0, .int .i64 a2, .string (⟨#[]⟩ : ByteArray)]] rfl (by (try simp only [List.map_toArray, List.map_cons, List.map_nil]); first | done | rfl | (simp only [List.length_drop, List.length_take]; rfl)) ?_; (with_reducible refine (value_Compare.calls kj13 4 a0 a1 (⟨#[]⟩ : ByteArray) 4 a0 a2 (⟨#[]⟩ : ByteArray) t219 _ A25.out).mono ?_); rintro e w31 ⟨rfl, hb⟩; refine ⟨_, rfl, ?_⟩; have n0_ := Aside0.mk (below_step (by repeat (first | (with_reducible first | exact HB.out | apply below_alloc | apply pw_below_drewN | apply below_drew1) | exact HB.out)) hb); clear HB; have HB := n0_; clear n0_; (try clear hb); (try clear hb2); (try clear hk); (try clear hi)) | (go_at_call 59; (with_reducible refine (covenantlaw01_ValueKinds_1.calls (decide (a1 < a2)) (a1 == a2) t220 _ A26.out).mono ?_); rintro e w' ⟨rfl, ⟨nd, rfl⟩⟩))
                  go_meet
                  case rel => exact ⟨_, (true), (by first | rfl | (simp; done) | (simp [*]; done)), H', ⟨by have := HJ5.out; have := HJ13.out; first | omega | exact Nat.le_refl _⟩, ⟨by repeat (first | (with_reducible first | exact HB.out | apply below_alloc | apply pw_below_drewN | apply below_drew1) | exact HB.out)⟩⟩
              case rest =>
                clear HC24
                try clear c1
                try clear c2
                try clear p2
                try clear c5
                try clear p6
                try clear c8
                try clear c10
                try clear c11
                try clear c17
                try clear c17b0
                try clear c17b1
                try clear c23
                try clear c25
                try clear c27
                try clear c27b0
                try clear c27b1
                try clear p2
                try clear p6
                obtain ⟨kq, x76_23, rfl, HA, HJ23, HB⟩ := hcut
                cases kq with
                | zero => exact absurd HA.out (by simp [covenantlaw01_ValueKinds.j2])
                | succ kj23 =>
                  have H := HA.out
                  clear HA
                  simp only [covenantlaw01_ValueKinds.j2] at H
                  by_cases c32 : x76_23 = true
                  · subst c32
                    have H1 : (some false) = some r := by rw [if_pos rfl] at H; exact H
                    clear H
                    have H := H1
                    clear H1
                    obtain rfl := Option.some.inj H
                    go_wp2
                    go_ret
                    exact ⟨by first | rfl | (simp [errW_none, errW_some] <;> rfl) | (simp [*, errW_none, errW_some] <;> rfl), by repeat (first | (with_reducible first | exact HB.out | apply below_alloc | apply pw_below_drewN | apply below_drew1) | exact HB.out)⟩
                  · replace c32 := Bool.eq_false_iff.mpr c32
                    subst c32
                    have H1 : ((some (([(⟨1, a0, 0, (⟨#[]⟩ : ByteArray)⟩ : S23), (⟨2, 0, 0, (⟨#[]⟩ : ByteArray)⟩ : S23), (⟨3, 0, 0, a3⟩ : S23), (⟨4, a0, a1, (⟨#[]⟩ : ByteArray)⟩ : S23)] : List (S23)) : List (S23))).bind fun y222 => (covenantlaw01_ValueKinds.l0 kj23 y222 (y222.length : Int) 0)) = some r := by rw [if_neg (show ¬ (false = true) by decide)] at H; exact H
                    clear H
                    have H := H1
                    clear H1
                    obtain ⟨y222, hy222⟩ : ∃ y_ : List (S23), y_ = (([(⟨1, a0, 0, (⟨#[]⟩ : ByteArray)⟩ : S23), (⟨2, 0, 0, (⟨#[]⟩ : ByteArray)⟩ : S23), (⟨3, 0, 0, a3⟩ : S23), (⟨4, a0, a1, (⟨#[]⟩ : ByteArray)⟩ : S23)] : List (S23))) := ⟨_, rfl⟩
                    replace H : (covenantlaw01_ValueKinds.l0 kj23 y222 (y222.length : Int) 0) = some r := by first | (rw [hy222]; with_reducible exact H) | (have H2_ := (Option.bind_some _ _).symm.trans H; rw [hy222]; with_reducible exact H2_) | (have H2_ := (Option.bind_some _ _).symm.trans H; with_reducible exact H2_) | with_reducible exact H | (rw [hy222]; exact H) | exact H
                    have Ny222 := Aside0.mk hy222
                    clear hy222
                    have H' := Aside0.mk H
                    clear H
                    go_wp2_with (first | ((with_reducible refine gate_dst (N := 85) rfl ?_); (try (refine gate_guard (by rfl) ?_; dsimp only)); refine Kd.R_lit k23 _ 23 ?hg (N := 85) ?hd (xs := ([(⟨1, a0, 0, (⟨#[]⟩ : ByteArray)⟩ : S23), (⟨2, 0, 0, (⟨#[]⟩ : ByteArray)⟩ : S23), (⟨3, 0, 0, a3⟩ : S23), (⟨4, a0, a1, (⟨#[]⟩ : ByteArray)⟩ : S23)] : List (S23))) (inner := [.int .u8 1, .int .i64 a0, .int .i64 0, .string (⟨#[]⟩ : ByteArray), .int .u8 2, .int .i64 0, .int .i64 0, .string (⟨#[]⟩ : ByteArray), .int .u8 3, .int .i64 0, .int .i64 0, .string a3, .int .u8 4, .int .i64 a0, .int .i64 a1, .string (⟨#[]⟩ : ByteArray)]) (ok := fun _ => True) (okp := fun _ => True) ?hr ?hp (fun _ hk => hk) trivial (Below.refl _ _) (Nat.le_refl _) (by simp) ?_; (case hd => rfl); (case hg => rfl); (case hr => first | (go_simp; done) | (go_simp; rfl)); (case hp => exact (Reps.c4 (show Kd.M k23 _ _ _ (⟨1, a0, 0, (⟨#[]⟩ : ByteArray)⟩ : S23) [.int .u8 1, .int .i64 a0, .int .i64 0, .string (⟨#[]⟩ : ByteArray)] from (k23_mkM _ _ _ (⟨1, a0, 0, (⟨#[]⟩ : ByteArray)⟩ : S23) )) (Reps.c4 (show Kd.M k23 _ _ _ (⟨2, 0, 0, (⟨#[]⟩ : ByteArray)⟩ : S23) [.int .u8 2, .int .i64 0, .int .i64 0, .string (⟨#[]⟩ : ByteArray)] from (k23_mkM _ _ _ (⟨2, 0, 0, (⟨#[]⟩ : ByteArray)⟩ : S23) )) (Reps.c4 (show Kd.M k23 _ _ _ (⟨3, 0, 0, a3⟩ : S23) [.int .u8 3, .int .i64 0, .int .i64 0, .string a3] from (k23_mkM _ _ _ (⟨3, 0, 0, a3⟩ : S23) )) (Reps.c4 (show Kd.M k23 _ _ _ (⟨4, a0, a1, (⟨#[]⟩ : ByteArray)⟩ : S23) [.int .u8 4, .int .i64 a0, .int .i64 a1, .string (⟨#[]⟩ : ByteArray)] from (k23_mkM _ _ _ (⟨4, a0, a1, (⟨#[]⟩ : ByteArray)⟩ : S23) )) (Reps.none _ _)))))); intro v223 w33 ho34 hb hg_ hnew_; clear hg_ hnew_; (first | rw [← Ny222.out] at ho34 | (simp only [Int.reduceToNat] at ho34; rw [← Ny222.out] at ho34)); have n0_ := Aside0.mk (Kd.R_lower ho34 (below_size (by repeat (first | (with_reducible first | exact HB.out | apply below_alloc | apply pw_below_drewN | apply below_drew1) | exact HB.out)))); have n1_ := Aside0.mk (below_step (by repeat (first | (with_reducible first | exact HB.out | apply below_alloc | apply pw_below_drewN | apply below_drew1) | exact HB.out)) hb); clear HB; have HO224 := n0_; have HB := n1_; clear n0_ n1_; clear hb ho34; obtain ⟨Ao35, co35, eo35⟩ := Kd.R_slice HO224.out; subst eo35))
                    go_loopg [87] kj23 (fun kq v87 w' => ∃ (x87_4 : Int), v87 = .int .i64 x87_4 ∧ Aside0 (covenantlaw01_ValueKinds.l0 kq y222 (y222.length : Int) x87_4 = some r) ∧ Aside0 (kq ≤ kj23) ∧ Aside0 (Kd.R k23 23 w' w.heap.size (fun _ => True) (.slice Ao35 y222.length co35) y222) ∧ Aside0 (Below w.heap.size w w'))
                    case atStart => exact ⟨(0), (by first | rfl | (simp; done) | (simp [*]; done)), H', ⟨Nat.le_refl _⟩, ⟨by (with_reducible repeat (first | apply Kd.R_alloc | apply Kd.R_drewN | apply Kd.R_drew)); exact HO224.out⟩, ⟨by repeat (first | (with_reducible first | exact HB.out | apply below_alloc | apply pw_below_drewN | apply below_drew1) | exact HB.out)⟩⟩
                    case round =>
                      clear H'
                      try clear c1
                      try clear c2
                      try clear p2
                      try clear c3
                      try clear c4
                      try clear c5
                      try clear p6
                      try clear c8
                      try clear c10
                      try clear c11
                      try clear c17
                      try clear c17b0
                      try clear c17b1
                      try clear c23
                      try clear c25
                      try clear c27
                      try clear c27b0
                      try clear c27b1
                      try clear c32
                      try clear p2
                      try clear p6
                      obtain ⟨x87_4, rfl, HA, HK4, HO_85, HB⟩ := hrel
                      cases gk with
                      | zero => exact absurd HA.out (by simp [covenantlaw01_ValueKinds.l0])
                      | succ k4 =>
                        have H := HA.out
                        clear HA
                        simp only [covenantlaw01_ValueKinds.l0] at H
                        by_cases c36 : x87_4 < (y222.length : Int)
                        · rw [if_pos c36] at H
                          have c36b0 : decide (x87_4 < (y222.length : Int)) = true := decide_eq_true c36
                          clear c36
                          by_cases c37 : 0 ≤ x87_4
                          · rw [if_pos c37] at H
                            have c37b0 : decide (0 ≤ x87_4) = true := decide_eq_true c37
                            clear c37
                            by_cases c38 : x87_4 < (y222.length : Int)
                            · rw [if_pos c38] at H
                              have c38b0 : decide (x87_4 < (y222.length : Int)) = true := decide_eq_true c38
                              clear c38
                              replace H := Option.bind_eq_some_iff.mp H
                              obtain ⟨t227, A390, H⟩ := H
                              replace H : (if t227 = (-1) then ((value_Compare.f k4 ((rd_T23 y222 x87_4).f0) ((rd_T23 y222 x87_4).f1) ((rd_T23 y222 x87_4).f2) ((rd_T23 y222 x87_4).f3) 0 0 0 (⟨#[]⟩ : ByteArray)).bind fun t228 => (if t228 = 1 then (covenantlaw01_ValueKinds.l0 k4 y222 (y222.length : Int) (wrap64 (x87_4 + 1))) else (some false))) else (some false)) = some r := H
                              have A39 := Aside0.mk A390
                              clear A390
                              by_cases c40 : t227 = (-1)
                              · rw [if_pos c40] at H
                                have c40b0 : (t227 == (-1)) = true := beq_iff_eq.mpr c40
                                have c40b1 : (t227 != (-1)) = false := bne_eq_false_iff_eq.mpr c40
                                clear c40
                                replace H := Option.bind_eq_some_iff.mp H
                                obtain ⟨t228, A410, H⟩ := H
                                replace H : (if t228 = 1 then (covenantlaw01_ValueKinds.l0 k4 y222 (y222.length : Int) (wrap64 (x87_4 + 1))) else (some false)) = some r := H
                                have A41 := Aside0.mk A410
                                clear A410
                                by_cases c42 : t228 = 1
                                · rw [if_pos c42] at H
                                  have c42b0 : (t228 == 1) = true := beq_iff_eq.mpr c42
                                  have c42b1 : (t228 != 1) = false := bne_eq_false_iff_eq.mpr c42
                                  clear c42
                                  have H' := Aside0.mk H
                                  clear H
                                  have p225 : 0 ≤ (x87_4 : Int) := of_decide_eq_true (by first | (with_reducible assumption) | assumption)
                                  have q225 : x87_4 < (y222.length : Int) := of_decide_eq_true (by first | (with_reducible assumption) | assumption)
                                  obtain ⟨ad225, e225, hx225_0, hx225_1, hx225_2, hx225_3⟩ := at_T23 (Kd.R_reads' HO_85.out).2.2 x87_4 p225 q225
                                  cases e225
                                  replace p225 := eq_true p225
                                  replace q225 := eq_true q225
                                  go_wp2_with (first | ((with_reducible refine gate_dst (N := 13) rfl ?_); (try (refine gate_guard (by rfl) ?_; dsimp only)); refine box_event ?hg (N := 13) ?hd (cs := #[.int .u8 0, .int .i64 0, .int .i64 0, .string (⟨#[]⟩ : ByteArray)]) (t := 23) ?hr ?_; (case hd => rfl); (case hg => rfl); (case hr => first | (go_simp; done) | (go_simp; rfl)); intro gb226 hg w43 hbox hb; have n0_ := Aside0.mk (Kd.R_below (Kd.R_elderB (by (with_reducible repeat (first | apply Kd.R_alloc | apply Kd.R_drewN | apply Kd.R_drew)); exact HO_85.out) gb226 (Nat.le_of_eq hg.symm)) hb); have n1_ := Aside0.mk (below_step (by repeat (first | (with_reducible first | exact HB.out | apply below_alloc | apply pw_below_drewN | apply below_drew1) | exact HB.out)) hb); have n2_ := Aside0.mk (hbox); have n3_ := Aside0.mk ((by rw [hg]; exact (below_size (by repeat (first | (with_reducible first | exact HB.out | apply below_alloc | apply pw_below_drewN | apply below_drew1) | exact HB.out))) : w.heap.size ≤ gb226)); have n4_ := Aside0.mk ((by rw [hg]; exact (below_size (by repeat (first | (with_reducible first | exact HB.out | apply below_alloc | apply pw_below_drewN | apply below_drew1) | exact HB.out))) : w.heap.size ≤ gb226)); clear HO_85; clear HB; have HO_85 := n0_; have HB := n1_; have BK226 := n2_; have GW226 := n3_; have GE226 := n4_; clear n0_ n1_ n2_ n3_ n4_; clear hb hbox hg; have hcz44_0 : w43.cell? ⟨gb226, 0, none⟩ = some (.int .u8 0) := (blk_cell BK226.out 0).trans rfl; have hcz44_1 : w43.cell? ⟨gb226, 1, none⟩ = some (.int .i64 0) := (blk_cell BK226.out 1).trans rfl; have hcz44_2 : w43.cell? ⟨gb226, 2, none⟩ = some (.int .i64 0) := (blk_cell BK226.out 2).trans rfl; have hcz44_3 : w43.cell? ⟨gb226, 3, none⟩ = some (.string (⟨#[]⟩ : ByteArray)) := (blk_cell BK226.out 3).trans rfl; have hfz44_0 := blk_frozen BK226.out 0; have hfz44_1 := blk_frozen BK226.out 1; have hfz44_2 := blk_frozen BK226.out 2; have hfz44_3 := blk_frozen BK226.out 3) | ((with_reducible refine gate_callee (f := 25) rfl ?_); refine goesL_ (some 93) rfl rfl Tryd.func25 (by kernel_rfl) rfl #[.agg #[.int .u8 0, .int .i64 0, .int .i64 0, .string (⟨#[]⟩ : ByteArray)], .agg #[.int .u8 ((rd_T23 y222 x87_4).f0), .int .i64 ((rd_T23 y222 x87_4).f1), .int .i64 ((rd_T23 y222 x87_4).f2), .string ((rd_T23 y222 x87_4).f3)]] rfl (by (try simp only [List.map_toArray, List.map_cons, List.map_nil]); first | done | rfl | (simp only [List.length_drop, List.length_take]; rfl)) ?_; (with_reducible refine (value_Compare.calls k4 0 0 0 (⟨#[]⟩ : ByteArray) ((rd_T23 y222 x87_4).f0) ((rd_T23 y222 x87_4).f1) ((rd_T23 y222 x87_4).f2) ((rd_T23 y222 x87_4).f3) t227 _ A39.out).mono ?_); rintro e w45 ⟨rfl, hb⟩; refine ⟨_, rfl, ?_⟩; have n0_ := Aside0.mk (Kd.R_below (by (with_reducible repeat (first | apply Kd.R_alloc | apply Kd.R_drewN | apply Kd.R_drew)); exact (Kd.R_mono (Kd.R_far (p := ⟨gb226, 3, none⟩) (Kd.R_far (p := ⟨gb226, 2, none⟩) (Kd.R_far (p := ⟨gb226, 1, none⟩) (Kd.R_far (p := ⟨gb226, 0, none⟩) (Kd.R_mono HO_85.out (fun k_ hk => (⟨hk, hk.2⟩ : _ ∧ k_ ≠ gb226))) (fun _ hk => hk.2) (.int .u8 ((rd_T23 y222 x87_4).f0))) (fun _ hk => hk.2) (.int .i64 ((rd_T23 y222 x87_4).f1))) (fun _ hk => hk.2) (.int .i64 ((rd_T23 y222 x87_4).f2))) (fun _ hk => hk.2) (.string ((rd_T23 y222 x87_4).f3))) (fun _ h_ => h_.1))) hb); have n1_ := Aside0.mk (blk_below (g := gb226) (o := .cells #[.int .u8 ((rd_T23 y222 x87_4).f0), .int .i64 ((rd_T23 y222 x87_4).f1), .int .i64 ((rd_T23 y222 x87_4).f2), .string ((rd_T23 y222 x87_4).f3)] 23 (0, 0)) (by (with_reducible repeat (first | refine blk_drewN ?_ _ | refine blk_drew ?_ | refine blk_alloc ?_ _)); refine blk_put (cs := #[.int .u8 ((rd_T23 y222 x87_4).f0), .int .i64 ((rd_T23 y222 x87_4).f1), .int .i64 ((rd_T23 y222 x87_4).f2), .string (⟨#[]⟩ : ByteArray)]) ?_ 3 _ rfl; (with_reducible repeat (first | refine blk_drewN ?_ _ | refine blk_drew ?_ | refine blk_alloc ?_ _)); refine blk_put (cs := #[.int .u8 ((rd_T23 y222 x87_4).f0), .int .i64 ((rd_T23 y222 x87_4).f1), .int .i64 0, .string (⟨#[]⟩ : ByteArray)]) ?_ 2 _ rfl; (with_reducible repeat (first | refine blk_drewN ?_ _ | refine blk_drew ?_ | refine blk_alloc ?_ _)); refine blk_put (cs := #[.int .u8 ((rd_T23 y222 x87_4).f0), .int .i64 0, .int .i64 0, .string (⟨#[]⟩ : ByteArray)]) ?_ 1 _ rfl; (with_reducible repeat (first | refine blk_drewN ?_ _ | refine blk_drew ?_ | refine blk_alloc ?_ _)); refine blk_put (cs := #[.int .u8 0, .int .i64 0, .int .i64 0, .string (⟨#[]⟩ : ByteArray)]) ?_ 0 _ rfl; (with_reducible repeat (first | refine blk_drewN ?_ _ | refine blk_drew ?_ | refine blk_alloc ?_ _)); exact BK226.out) hb); have n2_ := Aside0.mk (below_step (by repeat (first | (with_reducible first | exact HB.out | apply below_alloc | apply pw_below_drewN | apply below_drew1 | refine below_set ?_ GE226.out) | exact HB.out)) hb); clear HO_85; clear BK226; clear HB; have HO_85 := n0_; have BK226 := n1_; have HB := n2_; clear n0_ n1_ n2_; (try clear hb); (try clear hb2); (try clear hk); (try clear hi); have hcz46_0 : w45.cell? ⟨gb226, 0, none⟩ = some (.int .u8 ((rd_T23 y222 x87_4).f0)) := (blk_cell BK226.out 0).trans rfl; have hcz46_1 : w45.cell? ⟨gb226, 1, none⟩ = some (.int .i64 ((rd_T23 y222 x87_4).f1)) := (blk_cell BK226.out 1).trans rfl; have hcz46_2 : w45.cell? ⟨gb226, 2, none⟩ = some (.int .i64 ((rd_T23 y222 x87_4).f2)) := (blk_cell BK226.out 2).trans rfl; have hcz46_3 : w45.cell? ⟨gb226, 3, none⟩ = some (.string ((rd_T23 y222 x87_4).f3)) := (blk_cell BK226.out 3).trans rfl; have hfz46_0 := blk_frozen BK226.out 0; have hfz46_1 := blk_frozen BK226.out 1; have hfz46_2 := blk_frozen BK226.out 2; have hfz46_3 := blk_frozen BK226.out 3) | (go_at_call 25; (with_reducible refine (value_Compare.calls k4 ((rd_T23 y222 x87_4).f0) ((rd_T23 y222 x87_4).f1) ((rd_T23 y222 x87_4).f2) ((rd_T23 y222 x87_4).f3) 0 0 0 (⟨#[]⟩ : ByteArray) t228 _ A41.out).mono ?_); rintro e w47 ⟨rfl, hb⟩; have n0_ := Aside0.mk (Kd.R_below (by (with_reducible repeat (first | apply Kd.R_alloc | apply Kd.R_drewN | apply Kd.R_drew)); exact HO_85.out) hb); have n1_ := Aside0.mk (blk_below (g := gb226) (o := .cells #[.int .u8 ((rd_T23 y222 x87_4).f0), .int .i64 ((rd_T23 y222 x87_4).f1), .int .i64 ((rd_T23 y222 x87_4).f2), .string ((rd_T23 y222 x87_4).f3)] 23 (0, 0)) (by (with_reducible repeat (first | refine blk_drewN ?_ _ | refine blk_drew ?_ | refine blk_alloc ?_ _)); exact BK226.out) hb); have n2_ := Aside0.mk (below_step (by repeat (first | (with_reducible first | exact HB.out | apply below_alloc | apply pw_below_drewN | apply below_drew1 | refine below_set ?_ GE226.out) | exact HB.out)) hb); clear HO_85; clear BK226; clear HB; have HO_85 := n0_; have BK226 := n1_; have HB := n2_; clear n0_ n1_ n2_; (try clear hb); (try clear hb2); (try clear hk); (try clear hi)))
                                  go_roundg k4
                                  case measure => have := HJ5.out; have := HJ13.out; have := HJ23.out; have := HK4.out; omega
                                  case rel => exact ⟨(wrap64 (x87_4 + 1)), (by first | rfl | (simp; done) | (simp [*]; done)), H', ⟨by have := HJ5.out; have := HJ13.out; have := HJ23.out; have := HK4.out; omega⟩, ⟨by (with_reducible repeat (first | apply Kd.R_alloc | apply Kd.R_drewN | apply Kd.R_drew)); exact Kd.R_mono HO_85.out (fun _ hk => trivial)⟩, ⟨by repeat (first | (with_reducible first | exact HB.out | apply below_alloc | apply pw_below_drewN | apply below_drew1 | refine below_set ?_ GE226.out) | exact HB.out)⟩⟩
                                · rw [if_neg c42] at H
                                  have c42b0 : (t228 == 1) = false := beq_eq_false_iff_ne.mpr c42
                                  have c42b1 : (t228 != 1) = true := bne_iff_ne.mpr c42
                                  obtain rfl := Option.some.inj H
                                  have p225 : 0 ≤ (x87_4 : Int) := of_decide_eq_true (by first | (with_reducible assumption) | assumption)
                                  have q225 : x87_4 < (y222.length : Int) := of_decide_eq_true (by first | (with_reducible assumption) | assumption)
                                  obtain ⟨ad225, e225, hx225_0, hx225_1, hx225_2, hx225_3⟩ := at_T23 (Kd.R_reads' HO_85.out).2.2 x87_4 p225 q225
                                  cases e225
                                  replace p225 := eq_true p225
                                  replace q225 := eq_true q225
                                  go_wp2_with (first | ((with_reducible refine gate_dst (N := 13) rfl ?_); (try (refine gate_guard (by rfl) ?_; dsimp only)); refine box_event ?hg (N := 13) ?hd (cs := #[.int .u8 0, .int .i64 0, .int .i64 0, .string (⟨#[]⟩ : ByteArray)]) (t := 23) ?hr ?_; (case hd => rfl); (case hg => rfl); (case hr => first | (go_simp; done) | (go_simp; rfl)); intro gb226 hg w48 hbox hb; have n0_ := Aside0.mk (Kd.R_below (Kd.R_elderB (by (with_reducible repeat (first | apply Kd.R_alloc | apply Kd.R_drewN | apply Kd.R_drew)); exact HO_85.out) gb226 (Nat.le_of_eq hg.symm)) hb); have n1_ := Aside0.mk (below_step (by repeat (first | (with_reducible first | exact HB.out | apply below_alloc | apply pw_below_drewN | apply below_drew1) | exact HB.out)) hb); have n2_ := Aside0.mk (hbox); have n3_ := Aside0.mk ((by rw [hg]; exact (below_size (by repeat (first | (with_reducible first | exact HB.out | apply below_alloc | apply pw_below_drewN | apply below_drew1) | exact HB.out))) : w.heap.size ≤ gb226)); have n4_ := Aside0.mk ((by rw [hg]; exact (below_size (by repeat (first | (with_reducible first | exact HB.out | apply below_alloc | apply pw_below_drewN | apply below_drew1) | exact HB.out))) : w.heap.size ≤ gb226)); clear HO_85; clear HB; have HO_85 := n0_; have HB := n1_; have BK226 := n2_; have GW226 := n3_; have GE226 := n4_; clear n0_ n1_ n2_ n3_ n4_; clear hb hbox hg; have hcz49_0 : w48.cell? ⟨gb226, 0, none⟩ = some (.int .u8 0) := (blk_cell BK226.out 0).trans rfl; have hcz49_1 : w48.cell? ⟨gb226, 1, none⟩ = some (.int .i64 0) := (blk_cell BK226.out 1).trans rfl; have hcz49_2 : w48.cell? ⟨gb226, 2, none⟩ = some (.int .i64 0) := (blk_cell BK226.out 2).trans rfl; have hcz49_3 : w48.cell? ⟨gb226, 3, none⟩ = some (.string (⟨#[]⟩ : ByteArray)) := (blk_cell BK226.out 3).trans rfl; have hfz49_0 := blk_frozen BK226.out 0; have hfz49_1 := blk_frozen BK226.out 1; have hfz49_2 := blk_frozen BK226.out 2; have hfz49_3 := blk_frozen BK226.out 3) | ((with_reducible refine gate_callee (f := 25) rfl ?_); refine goesL_ (some 93) rfl rfl Tryd.func25 (by kernel_rfl) rfl #[.agg #[.int .u8 0, .int .i64 0, .int .i64 0, .string (⟨#[]⟩ : ByteArray)], .agg #[.int .u8 ((rd_T23 y222 x87_4).f0), .int .i64 ((rd_T23 y222 x87_4).f1), .int .i64 ((rd_T23 y222 x87_4).f2), .string ((rd_T23 y222 x87_4).f3)]] rfl (by (try simp only [List.map_toArray, List.map_cons, List.map_nil]); first | done | rfl | (simp only [List.length_drop, List.length_take]; rfl)) ?_; (with_reducible refine (value_Compare.calls k4 0 0 0 (⟨#[]⟩ : ByteArray) ((rd_T23 y222 x87_4).f0) ((rd_T23 y222 x87_4).f1) ((rd_T23 y222 x87_4).f2) ((rd_T23 y222 x87_4).f3) t227 _ A39.out).mono ?_); rintro e w50 ⟨rfl, hb⟩; refine ⟨_, rfl, ?_⟩; have n0_ := Aside0.mk (Kd.R_below (by (with_reducible repeat (first | apply Kd.R_alloc | apply Kd.R_drewN | apply Kd.R_drew)); exact (Kd.R_mono (Kd.R_far (p := ⟨gb226, 3, none⟩) (Kd.R_far (p := ⟨gb226, 2, none⟩) (Kd.R_far (p := ⟨gb226, 1, none⟩) (Kd.R_far (p := ⟨gb226, 0, none⟩) (Kd.R_mono HO_85.out (fun k_ hk => (⟨hk, hk.2⟩ : _ ∧ k_ ≠ gb226))) (fun _ hk => hk.2) (.int .u8 ((rd_T23 y222 x87_4).f0))) (fun _ hk => hk.2) (.int .i64 ((rd_T23 y222 x87_4).f1))) (fun _ hk => hk.2) (.int .i64 ((rd_T23 y222 x87_4).f2))) (fun _ hk => hk.2) (.string ((rd_T23 y222 x87_4).f3))) (fun _ h_ => h_.1))) hb); have n1_ := Aside0.mk (blk_below (g := gb226) (o := .cells #[.int .u8 ((rd_T23 y222 x87_4).f0), .int .i64 ((rd_T23 y222 x87_4).f1), .int .i64 ((rd_T23 y222 x87_4).f2), .string ((rd_T23 y222 x87_4).f3)] 23 (0, 0)) (by (with_reducible repeat (first | refine blk_drewN ?_ _ | refine blk_drew ?_ | refine blk_alloc ?_ _)); refine blk_put (cs := #[.int .u8 ((rd_T23 y222 x87_4).f0), .int .i64 ((rd_T23 y222 x87_4).f1), .int .i64 ((rd_T23 y222 x87_4).f2), .string (⟨#[]⟩ : ByteArray)]) ?_ 3 _ rfl; (with_reducible repeat (first | refine blk_drewN ?_ _ | refine blk_drew ?_ | refine blk_alloc ?_ _)); refine blk_put (cs := #[.int .u8 ((rd_T23 y222 x87_4).f0), .int .i64 ((rd_T23 y222 x87_4).f1), .int .i64 0, .string (⟨#[]⟩ : ByteArray)]) ?_ 2 _ rfl; (with_reducible repeat (first | refine blk_drewN ?_ _ | refine blk_drew ?_ | refine blk_alloc ?_ _)); refine blk_put (cs := #[.int .u8 ((rd_T23 y222 x87_4).f0), .int .i64 0, .int .i64 0, .string (⟨#[]⟩ : ByteArray)]) ?_ 1 _ rfl; (with_reducible repeat (first | refine blk_drewN ?_ _ | refine blk_drew ?_ | refine blk_alloc ?_ _)); refine blk_put (cs := #[.int .u8 0, .int .i64 0, .int .i64 0, .string (⟨#[]⟩ : ByteArray)]) ?_ 0 _ rfl; (with_reducible repeat (first | refine blk_drewN ?_ _ | refine blk_drew ?_ | refine blk_alloc ?_ _)); exact BK226.out) hb); have n2_ := Aside0.mk (below_step (by repeat (first | (with_reducible first | exact HB.out | apply below_alloc | apply pw_below_drewN | apply below_drew1 | refine below_set ?_ GE226.out) | exact HB.out)) hb); clear HO_85; clear BK226; clear HB; have HO_85 := n0_; have BK226 := n1_; have HB := n2_; clear n0_ n1_ n2_; (try clear hb); (try clear hb2); (try clear hk); (try clear hi); have hcz51_0 : w50.cell? ⟨gb226, 0, none⟩ = some (.int .u8 ((rd_T23 y222 x87_4).f0)) := (blk_cell BK226.out 0).trans rfl; have hcz51_1 : w50.cell? ⟨gb226, 1, none⟩ = some (.int .i64 ((rd_T23 y222 x87_4).f1)) := (blk_cell BK226.out 1).trans rfl; have hcz51_2 : w50.cell? ⟨gb226, 2, none⟩ = some (.int .i64 ((rd_T23 y222 x87_4).f2)) := (blk_cell BK226.out 2).trans rfl; have hcz51_3 : w50.cell? ⟨gb226, 3, none⟩ = some (.string ((rd_T23 y222 x87_4).f3)) := (blk_cell BK226.out 3).trans rfl; have hfz51_0 := blk_frozen BK226.out 0; have hfz51_1 := blk_frozen BK226.out 1; have hfz51_2 := blk_frozen BK226.out 2; have hfz51_3 := blk_frozen BK226.out 3) | (go_at_call 25; (with_reducible refine (value_Compare.calls k4 ((rd_T23 y222 x87_4).f0) ((rd_T23 y222 x87_4).f1) ((rd_T23 y222 x87_4).f2) ((rd_T23 y222 x87_4).f3) 0 0 0 (⟨#[]⟩ : ByteArray) t228 _ A41.out).mono ?_); rintro e w52 ⟨rfl, hb⟩; have n0_ := Aside0.mk (Kd.R_below (by (with_reducible repeat (first | apply Kd.R_alloc | apply Kd.R_drewN | apply Kd.R_drew)); exact HO_85.out) hb); have n1_ := Aside0.mk (blk_below (g := gb226) (o := .cells #[.int .u8 ((rd_T23 y222 x87_4).f0), .int .i64 ((rd_T23 y222 x87_4).f1), .int .i64 ((rd_T23 y222 x87_4).f2), .string ((rd_T23 y222 x87_4).f3)] 23 (0, 0)) (by (with_reducible repeat (first | refine blk_drewN ?_ _ | refine blk_drew ?_ | refine blk_alloc ?_ _)); exact BK226.out) hb); have n2_ := Aside0.mk (below_step (by repeat (first | (with_reducible first | exact HB.out | apply below_alloc | apply pw_below_drewN | apply below_drew1 | refine below_set ?_ GE226.out) | exact HB.out)) hb); clear HO_85; clear BK226; clear HB; have HO_85 := n0_; have BK226 := n1_; have HB := n2_; clear n0_ n1_ n2_; (try clear hb); (try clear hb2); (try clear hk); (try clear hi)))
                                  go_ret
                                  exact ⟨by first | rfl | (simp [errW_none, errW_some] <;> rfl) | (simp [*, errW_none, errW_some] <;> rfl), by repeat (first | (with_reducible first | exact HB.out | apply below_alloc | apply pw_below_drewN | apply below_drew1 | refine below_set ?_ GE226.out) | exact HB.out)⟩
                              · rw [if_neg c40] at H
                                have c40b0 : (t227 == (-1)) = false := beq_eq_false_iff_ne.mpr c40
                                have c40b1 : (t227 != (-1)) = true := bne_iff_ne.mpr c40
                                obtain rfl := Option.some.inj H
                                have p225 : 0 ≤ (x87_4 : Int) := of_decide_eq_true (by first | (with_reducible assumption) | assumption)
                                have q225 : x87_4 < (y222.length : Int) := of_decide_eq_true (by first | (with_reducible assumption) | assumption)
                                obtain ⟨ad225, e225, hx225_0, hx225_1, hx225_2, hx225_3⟩ := at_T23 (Kd.R_reads' HO_85.out).2.2 x87_4 p225 q225
                                cases e225
                                replace p225 := eq_true p225
                                replace q225 := eq_true q225
                                go_wp2_with (first | ((with_reducible refine gate_dst (N := 13) rfl ?_); (try (refine gate_guard (by rfl) ?_; dsimp only)); refine box_event ?hg (N := 13) ?hd (cs := #[.int .u8 0, .int .i64 0, .int .i64 0, .string (⟨#[]⟩ : ByteArray)]) (t := 23) ?hr ?_; (case hd => rfl); (case hg => rfl); (case hr => first | (go_simp; done) | (go_simp; rfl)); intro gb226 hg w53 hbox hb; have n0_ := Aside0.mk (Kd.R_below (Kd.R_elderB (by (with_reducible repeat (first | apply Kd.R_alloc | apply Kd.R_drewN | apply Kd.R_drew)); exact HO_85.out) gb226 (Nat.le_of_eq hg.symm)) hb); have n1_ := Aside0.mk (below_step (by repeat (first | (with_reducible first | exact HB.out | apply below_alloc | apply pw_below_drewN | apply below_drew1) | exact HB.out)) hb); have n2_ := Aside0.mk (hbox); have n3_ := Aside0.mk ((by rw [hg]; exact (below_size (by repeat (first | (with_reducible first | exact HB.out | apply below_alloc | apply pw_below_drewN | apply below_drew1) | exact HB.out))) : w.heap.size ≤ gb226)); have n4_ := Aside0.mk ((by rw [hg]; exact (below_size (by repeat (first | (with_reducible first | exact HB.out | apply below_alloc | apply pw_below_drewN | apply below_drew1) | exact HB.out))) : w.heap.size ≤ gb226)); clear HO_85; clear HB; have HO_85 := n0_; have HB := n1_; have BK226 := n2_; have GW226 := n3_; have GE226 := n4_; clear n0_ n1_ n2_ n3_ n4_; clear hb hbox hg; have hcz54_0 : w53.cell? ⟨gb226, 0, none⟩ = some (.int .u8 0) := (blk_cell BK226.out 0).trans rfl; have hcz54_1 : w53.cell? ⟨gb226, 1, none⟩ = some (.int .i64 0) := (blk_cell BK226.out 1).trans rfl; have hcz54_2 : w53.cell? ⟨gb226, 2, none⟩ = some (.int .i64 0) := (blk_cell BK226.out 2).trans rfl; have hcz54_3 : w53.cell? ⟨gb226, 3, none⟩ = some (.string (⟨#[]⟩ : ByteArray)) := (blk_cell BK226.out 3).trans rfl; have hfz54_0 := blk_frozen BK226.out 0; have hfz54_1 := blk_frozen BK226.out 1; have hfz54_2 := blk_frozen BK226.out 2; have hfz54_3 := blk_frozen BK226.out 3) | ((with_reducible refine gate_callee (f := 25) rfl ?_); refine goesL_ (some 93) rfl rfl Tryd.func25 (by kernel_rfl) rfl #[.agg #[.int .u8 0, .int .i64 0, .int .i64 0, .string (⟨#[]⟩ : ByteArray)], .agg #[.int .u8 ((rd_T23 y222 x87_4).f0), .int .i64 ((rd_T23 y222 x87_4).f1), .int .i64 ((rd_T23 y222 x87_4).f2), .string ((rd_T23 y222 x87_4).f3)]] rfl (by (try simp only [List.map_toArray, List.map_cons, List.map_nil]); first | done | rfl | (simp only [List.length_drop, List.length_take]; rfl)) ?_; (with_reducible refine (value_Compare.calls k4 0 0 0 (⟨#[]⟩ : ByteArray) ((rd_T23 y222 x87_4).f0) ((rd_T23 y222 x87_4).f1) ((rd_T23 y222 x87_4).f2) ((rd_T23 y222 x87_4).f3) t227 _ A39.out).mono ?_); rintro e w55 ⟨rfl, hb⟩; refine ⟨_, rfl, ?_⟩; have n0_ := Aside0.mk (Kd.R_below (by (with_reducible repeat (first | apply Kd.R_alloc | apply Kd.R_drewN | apply Kd.R_drew)); exact (Kd.R_mono (Kd.R_far (p := ⟨gb226, 3, none⟩) (Kd.R_far (p := ⟨gb226, 2, none⟩) (Kd.R_far (p := ⟨gb226, 1, none⟩) (Kd.R_far (p := ⟨gb226, 0, none⟩) (Kd.R_mono HO_85.out (fun k_ hk => (⟨hk, hk.2⟩ : _ ∧ k_ ≠ gb226))) (fun _ hk => hk.2) (.int .u8 ((rd_T23 y222 x87_4).f0))) (fun _ hk => hk.2) (.int .i64 ((rd_T23 y222 x87_4).f1))) (fun _ hk => hk.2) (.int .i64 ((rd_T23 y222 x87_4).f2))) (fun _ hk => hk.2) (.string ((rd_T23 y222 x87_4).f3))) (fun _ h_ => h_.1))) hb); have n1_ := Aside0.mk (blk_below (g := gb226) (o := .cells #[.int .u8 ((rd_T23 y222 x87_4).f0), .int .i64 ((rd_T23 y222 x87_4).f1), .int .i64 ((rd_T23 y222 x87_4).f2), .string ((rd_T23 y222 x87_4).f3)] 23 (0, 0)) (by (with_reducible repeat (first | refine blk_drewN ?_ _ | refine blk_drew ?_ | refine blk_alloc ?_ _)); refine blk_put (cs := #[.int .u8 ((rd_T23 y222 x87_4).f0), .int .i64 ((rd_T23 y222 x87_4).f1), .int .i64 ((rd_T23 y222 x87_4).f2), .string (⟨#[]⟩ : ByteArray)]) ?_ 3 _ rfl; (with_reducible repeat (first | refine blk_drewN ?_ _ | refine blk_drew ?_ | refine blk_alloc ?_ _)); refine blk_put (cs := #[.int .u8 ((rd_T23 y222 x87_4).f0), .int .i64 ((rd_T23 y222 x87_4).f1), .int .i64 0, .string (⟨#[]⟩ : ByteArray)]) ?_ 2 _ rfl; (with_reducible repeat (first | refine blk_drewN ?_ _ | refine blk_drew ?_ | refine blk_alloc ?_ _)); refine blk_put (cs := #[.int .u8 ((rd_T23 y222 x87_4).f0), .int .i64 0, .int .i64 0, .string (⟨#[]⟩ : ByteArray)]) ?_ 1 _ rfl; (with_reducible repeat (first | refine blk_drewN ?_ _ | refine blk_drew ?_ | refine blk_alloc ?_ _)); refine blk_put (cs := #[.int .u8 0, .int .i64 0, .int .i64 0, .string (⟨#[]⟩ : ByteArray)]) ?_ 0 _ rfl; (with_reducible repeat (first | refine blk_drewN ?_ _ | refine blk_drew ?_ | refine blk_alloc ?_ _)); exact BK226.out) hb); have n2_ := Aside0.mk (below_step (by repeat (first | (with_reducible first | exact HB.out | apply below_alloc | apply pw_below_drewN | apply below_drew1 | refine below_set ?_ GE226.out) | exact HB.out)) hb); clear HO_85; clear BK226; clear HB; have HO_85 := n0_; have BK226 := n1_; have HB := n2_; clear n0_ n1_ n2_; (try clear hb); (try clear hb2); (try clear hk); (try clear hi)))
                                go_ret
                                exact ⟨by first | rfl | (simp [errW_none, errW_some] <;> rfl) | (simp [*, errW_none, errW_some] <;> rfl), by repeat (first | (with_reducible first | exact HB.out | apply below_alloc | apply pw_below_drewN | apply below_drew1 | refine below_set ?_ GE226.out) | exact HB.out)⟩
                            · rw [if_neg c38] at H
                              exact absurd H (by simp)
                          · rw [if_neg c37] at H
                            exact absurd H (by simp)
                        · rw [if_neg c36] at H
                          have c36b0 : decide (x87_4 < (y222.length : Int)) = false := decide_eq_false c36
                          clear c36
                          obtain rfl := Option.some.inj H
                          go_wp2
                          go_ret
                          exact ⟨by first | rfl | (simp [errW_none, errW_some] <;> rfl) | (simp [*, errW_none, errW_some] <;> rfl), by repeat (first | (with_reducible first | exact HB.out | apply below_alloc | apply pw_below_drewN | apply below_drew1) | exact HB.out)⟩


end Go.Proofs.YtddmllocjocipaaDoor.D
