/- What the functions that a law reaches come to, as plain Lean functions, and the law's row: written by a session's own program over the kit's print.py, some functions proved by hand. Conditions: as each theorem states them. -/
import Derived.Test.YtddmllocjocipaaDoorDx0
import Derived.Test.YtddmllocjocipaaDoorDx2
import Derived.Test.YtddmllocjocipaaDoorDx16
import Derived.Test.YtddmllocjocipaaDoorDx18
import Derived.Test.YtddmllocjocipaaDoorDx20
import Derived.Test.YtddmllocjocipaaDoorGw
namespace Go.Proofs.YtddmllocjocipaaDoor.D
open Go.RowKit Go.Proofs.YtddmllocjocipaaDoorW.PrintWords Go.Proofs.YtddmllocjocipaaDoorW.PrintLast Go.Proofs.YtddmllocjocipaaDoorW.PrintMore
attribute [local go_sem] max2_int min2_int max_two min_two max_three min_three max_four min_four   -- for this text's walks alone
set_option linter.unusedVariables false
set_option linter.unusedSimpArgs false

/-! ### covenantlaw05_RowBack: function 15 -/
mutual
def covenantlaw05_RowBack.j0 : Nat → List (S23) → ByteArray → Bool → Option (Bool)
  | 0, _, _, _ => none
  | k + 1, x0, x1, x20 => if x20 = true then ((covenantlaw05_works.f k).bind fun t462 => (some t462)) else (covenantlaw05_RowBack.l0 k x0 x1 true 0)
def covenantlaw05_RowBack.l0 : Nat → List (S23) → ByteArray → Bool → Int → Option (Bool)
  | 0, _, _, _, _ => none
  | k + 1, x0, x1, x5, x6 => if x6 < (x0.length : Int) then (if x5 = true then (if 0 ≤ x6 then ((value_May.f ((rd_T23 x0 x6).f0) ((rd_T23 x0 x6).f1) ((rd_T23 x0 x6).f2) ((rd_T23 x0 x6).f3)).bind fun t464 => (covenantlaw05_RowBack.l0 k x0 x1 t464 (wrap64 (x6 + 1)))) else (none)) else (covenantlaw05_RowBack.l0 k x0 x1 false (wrap64 (x6 + 1)))) else ((row_Text.f k x0).bind fun t465 => ((row_Parse.f k t465).bind fun bt466 => (if (x5 != (t465.toList != ([] : List UInt8))) = true then (covenantlaw05_RowBack.j2 k x1 true) else (if x5 = true then (if bt466.2 = 0 then ((covenantref05_Same.f k x0 bt466.1).bind fun t470 => (covenantlaw05_RowBack.j2 k x1 (!t470))) else (covenantlaw05_RowBack.j2 k x1 true)) else (covenantlaw05_RowBack.j2 k x1 false)))))
def covenantlaw05_RowBack.j2 : Nat → ByteArray → Bool → Option (Bool)
  | 0, _, _ => none
  | k + 1, x1, x59 => if x59 = true then (some false) else ((row_Parse.f k x1).bind fun bt471 => (if bt471.2 = 0 then ((row_Text.f k bt471.1).bind fun t475 => (some (t475.toList == x1.toList))) else (if (bt471.1.length : Int) = 0 then (some true) else (some false))))
end
def covenantlaw05_RowBack.f (k : Nat) (l0 : List (S23)) (a1 : ByteArray) : Option (Bool) := (covenantlaw05_works.f k).bind fun t460 => (if t460 = true then ((covenantlaw05_large.f k l0).bind fun t461 => (if t461 = true then (covenantlaw05_RowBack.j0 k l0 a1 true) else (covenantlaw05_RowBack.j0 k l0 a1 (decide ((a1.size : Int) > 5000))))) else (covenantlaw05_RowBack.j0 k l0 a1 true))
theorem covenantlaw05_RowBack.mono_l : ∀ k, (∀ y0 y1 y2, LeO (covenantlaw05_RowBack.j0 k y0 y1 y2) (covenantlaw05_RowBack.j0 (k + 1) y0 y1 y2)) ∧ (∀ y0 y1 y2 y3, LeO (covenantlaw05_RowBack.l0 k y0 y1 y2 y3) (covenantlaw05_RowBack.l0 (k + 1) y0 y1 y2 y3)) ∧ (∀ y0 y1, LeO (covenantlaw05_RowBack.j2 k y0 y1) (covenantlaw05_RowBack.j2 (k + 1) y0 y1))
  | 0 => ⟨fun _ _ _ r h => by simp [covenantlaw05_RowBack.j0] at h, fun _ _ _ _ r h => by simp [covenantlaw05_RowBack.l0] at h, fun _ _ r h => by simp [covenantlaw05_RowBack.j2] at h⟩
  | k + 1 => by
    obtain ⟨ih0, ih1, ih2⟩ := covenantlaw05_RowBack.mono_l k
    refine ⟨?_, ?_, ?_⟩
    · intro y0 y1 y2
      unfold covenantlaw05_RowBack.j0
      repeat' first
      | (with_reducible exact ih0 _ _ _)
      | (with_reducible exact ih1 _ _ _ _)
      | (with_reducible exact ih2 _ _)
      | (with_reducible exact covenantlaw05_large.mono _ _)
      | (with_reducible exact covenantlaw05_works.mono _)
      | (with_reducible exact covenantref05_Same.mono _ _ _)
      | (with_reducible exact row_Parse.mono _ _)
      | (with_reducible exact row_Text.mono _ _)
      | (with_reducible exact LeO.refl _)
      | (with_reducible exact LeO.none _)
      | (with_reducible refine LeO.ite ?_ ?_)
      | (with_reducible refine LeO.bind ?_ (fun _ => ?_))
      | exact ih0 _ _ _
      | exact ih1 _ _ _ _
      | exact ih2 _ _
      | exact covenantlaw05_large.mono _ _
      | exact covenantlaw05_works.mono _
      | exact covenantref05_Same.mono _ _ _
      | exact row_Parse.mono _ _
      | exact row_Text.mono _ _
      | exact LeO.none _
      | refine LeO.ite ?_ ?_
      | refine LeO.bind ?_ (fun _ => ?_)
    · intro y0 y1 y2 y3
      unfold covenantlaw05_RowBack.l0
      repeat' first
      | (with_reducible exact ih0 _ _ _)
      | (with_reducible exact ih1 _ _ _ _)
      | (with_reducible exact ih2 _ _)
      | (with_reducible exact covenantlaw05_large.mono _ _)
      | (with_reducible exact covenantlaw05_works.mono _)
      | (with_reducible exact covenantref05_Same.mono _ _ _)
      | (with_reducible exact row_Parse.mono _ _)
      | (with_reducible exact row_Text.mono _ _)
      | (with_reducible exact LeO.refl _)
      | (with_reducible exact LeO.none _)
      | (with_reducible refine LeO.ite ?_ ?_)
      | (with_reducible refine LeO.bind ?_ (fun _ => ?_))
      | exact ih0 _ _ _
      | exact ih1 _ _ _ _
      | exact ih2 _ _
      | exact covenantlaw05_large.mono _ _
      | exact covenantlaw05_works.mono _
      | exact covenantref05_Same.mono _ _ _
      | exact row_Parse.mono _ _
      | exact row_Text.mono _ _
      | exact LeO.none _
      | refine LeO.ite ?_ ?_
      | refine LeO.bind ?_ (fun _ => ?_)
    · intro y0 y1
      unfold covenantlaw05_RowBack.j2
      repeat' first
      | (with_reducible exact ih0 _ _ _)
      | (with_reducible exact ih1 _ _ _ _)
      | (with_reducible exact ih2 _ _)
      | (with_reducible exact covenantlaw05_large.mono _ _)
      | (with_reducible exact covenantlaw05_works.mono _)
      | (with_reducible exact covenantref05_Same.mono _ _ _)
      | (with_reducible exact row_Parse.mono _ _)
      | (with_reducible exact row_Text.mono _ _)
      | (with_reducible exact LeO.refl _)
      | (with_reducible exact LeO.none _)
      | (with_reducible refine LeO.ite ?_ ?_)
      | (with_reducible refine LeO.bind ?_ (fun _ => ?_))
      | exact ih0 _ _ _
      | exact ih1 _ _ _ _
      | exact ih2 _ _
      | exact covenantlaw05_large.mono _ _
      | exact covenantlaw05_works.mono _
      | exact covenantref05_Same.mono _ _ _
      | exact row_Parse.mono _ _
      | exact row_Text.mono _ _
      | exact LeO.none _
      | refine LeO.ite ?_ ?_
      | refine LeO.bind ?_ (fun _ => ?_)
theorem covenantlaw05_RowBack.mono : ∀ a0 a1 k, LeO (covenantlaw05_RowBack.f k a0 a1) (covenantlaw05_RowBack.f (k + 1) a0 a1) := by
  intro a0 a1 k
  obtain ⟨ih0, ih1, ih2⟩ := covenantlaw05_RowBack.mono_l k
  unfold covenantlaw05_RowBack.f
  repeat' first
      | (with_reducible exact ih0 _ _ _)
      | (with_reducible exact ih1 _ _ _ _)
      | (with_reducible exact ih2 _ _)
      | (with_reducible exact covenantlaw05_large.mono _ _)
      | (with_reducible exact covenantlaw05_works.mono _)
      | (with_reducible exact covenantref05_Same.mono _ _ _)
      | (with_reducible exact row_Parse.mono _ _)
      | (with_reducible exact row_Text.mono _ _)
      | (with_reducible exact LeO.refl _)
      | (with_reducible exact LeO.none _)
      | (with_reducible refine LeO.ite ?_ ?_)
      | (with_reducible refine LeO.bind ?_ (fun _ => ?_))
      | exact ih0 _ _ _
      | exact ih1 _ _ _ _
      | exact ih2 _ _
      | exact covenantlaw05_large.mono _ _
      | exact covenantlaw05_works.mono _
      | exact covenantref05_Same.mono _ _ _
      | exact row_Parse.mono _ _
      | exact row_Text.mono _ _
      | exact LeO.none _
      | refine LeO.ite ?_ ?_
      | refine LeO.bind ?_ (fun _ => ?_)
set_option maxHeartbeats 8000000 in
set_option maxRecDepth 100000 in
theorem covenantlaw05_RowBack.calls (k : Nat) (A0 : Option Addr) (c0 : Nat) (l0 : List (S23)) (a1 : ByteArray) (r : Bool) (w : World) (hr0 : Kd.C k23 w A0 l0.length l0) (hc0 : l0.length ≤ c0) (h : covenantlaw05_RowBack.f k l0 a1 = some r) (hG : GW true w) :
    Calls Tryd.prog 15 #[.slice A0 l0.length c0, .string a1] w fun e w' => e = .returned (.bool r) ∧ Below w.heap.size w w' := by
  have HG := Aside0.mk hG
  clear hG
  have hu23 := Tryd.underlying23
  have HR0 := Aside0.mk hr0
  have HC0 := Aside0.mk hc0
  clear hr0 hc0
  have HB := Aside0.mk (Below.refl w.heap.size w)
  have H : ((covenantlaw05_works.f k).bind fun t460 => (if t460 = true then ((covenantlaw05_large.f k l0).bind fun t461 => (if t461 = true then (covenantlaw05_RowBack.j0 k l0 a1 true) else (covenantlaw05_RowBack.j0 k l0 a1 (decide ((a1.size : Int) > 5000))))) else (covenantlaw05_RowBack.j0 k l0 a1 true))) = some r := h
  clear h
  have HC3 := Aside0.mk H
  clear H
  go_enter Tryd.func15, Tryd.ntmps15
  go_upto_region 1 with (fail)
  go_cut [20] (fun v20 wc => ∃ (kq : Nat) (x20_2 : Bool), v20 = .bool x20_2 ∧ Aside0 (covenantlaw05_RowBack.j0 kq l0 a1 x20_2 = some r) ∧ Aside0 (kq ≤ k) ∧ Aside0 (Below w.heap.size w wc))
  case first =>
    have H := HC3.out
    clear HC3
    replace H := Option.bind_eq_some_iff.mp H
    obtain ⟨t460, A40, H⟩ := H
    replace H : (if t460 = true then ((covenantlaw05_large.f k l0).bind fun t461 => (if t461 = true then (covenantlaw05_RowBack.j0 k l0 a1 true) else (covenantlaw05_RowBack.j0 k l0 a1 (decide ((a1.size : Int) > 5000))))) else (covenantlaw05_RowBack.j0 k l0 a1 true)) = some r := H
    have A4 := Aside0.mk A40
    clear A40
    by_cases c5 : t460 = true
    · subst c5
      have H1 : ((covenantlaw05_large.f k l0).bind fun t461 => (if t461 = true then (covenantlaw05_RowBack.j0 k l0 a1 true) else (covenantlaw05_RowBack.j0 k l0 a1 (decide ((a1.size : Int) > 5000))))) = some r := by rw [if_pos rfl] at H; exact H
      clear H
      have H := H1
      clear H1
      replace H := Option.bind_eq_some_iff.mp H
      obtain ⟨t461, A60, H⟩ := H
      replace H : (if t461 = true then (covenantlaw05_RowBack.j0 k l0 a1 true) else (covenantlaw05_RowBack.j0 k l0 a1 (decide ((a1.size : Int) > 5000)))) = some r := H
      have A6 := Aside0.mk A60
      clear A60
      by_cases c7 : t461 = true
      · subst c7
        have H1 : (covenantlaw05_RowBack.j0 k l0 a1 true) = some r := by rw [if_pos rfl] at H; exact H
        clear H
        have H := H1
        clear H1
        have H' := Aside0.mk H
        clear H
        go_wp2_with (first | ((with_reducible refine gate_callee (f := 64) rfl ?_); refine goesL_ (some 10) rfl rfl Tryd.func64 (by kernel_rfl) rfl #[] rfl (by (try simp only [List.map_toArray, List.map_cons, List.map_nil]); first | done | rfl | (simp only [List.length_drop, List.length_take]; rfl)) ?_; (with_reducible refine (covenantlaw05_works.calls k  true _ A4.out ?sideG).mono ?_); (case sideG => exact GW.keep HG.out (by repeat (first | (with_reducible first | exact HB.out | apply below_alloc | apply pw_below_drewN | apply below_drew1) | exact HB.out))); rintro e w8 ⟨rfl, hb⟩; refine ⟨_, rfl, ?_⟩; have n0_ := Aside0.mk (below_step (by repeat (first | (with_reducible first | exact HB.out | apply below_alloc | apply pw_below_drewN | apply below_drew1) | exact HB.out)) hb); clear HB; have HB := n0_; clear n0_; (try clear hb); (try clear hb2); (try clear hk); (try clear hi)) | (go_at_call 29; (with_reducible refine (covenantlaw05_large.calls k _ _ l0 true _ ?side1 ?side2 A6.out).mono ?_); (case side1 => repeat (first | exact (Kd.C_below HR0.out HB.out) | (with_reducible refine Kd.C_alloc ?_ _) | (with_reducible refine Kd.C_drewN ?_ _) | (with_reducible refine Kd.C_drew ?_))); (case side2 => exact HC0.out); rintro e w' ⟨rfl, ⟨nd, rfl⟩⟩))
        go_meet
        case rel => exact ⟨_, (true), (by first | rfl | (simp; done) | (simp [*]; done)), H', ⟨by first | omega | exact Nat.le_refl _⟩, ⟨by repeat (first | (with_reducible first | exact HB.out | apply below_alloc | apply pw_below_drewN | apply below_drew1) | exact HB.out)⟩⟩
      · replace c7 := Bool.eq_false_iff.mpr c7
        subst c7
        have H1 : (covenantlaw05_RowBack.j0 k l0 a1 (decide ((a1.size : Int) > 5000))) = some r := by rw [if_neg (show ¬ (false = true) by decide)] at H; exact H
        clear H
        have H := H1
        clear H1
        have H' := Aside0.mk H
        clear H
        go_wp2_with (first | ((with_reducible refine gate_callee (f := 64) rfl ?_); refine goesL_ (some 10) rfl rfl Tryd.func64 (by kernel_rfl) rfl #[] rfl (by (try simp only [List.map_toArray, List.map_cons, List.map_nil]); first | done | rfl | (simp only [List.length_drop, List.length_take]; rfl)) ?_; (with_reducible refine (covenantlaw05_works.calls k  true _ A4.out ?sideG).mono ?_); (case sideG => exact GW.keep HG.out (by repeat (first | (with_reducible first | exact HB.out | apply below_alloc | apply pw_below_drewN | apply below_drew1) | exact HB.out))); rintro e w9 ⟨rfl, hb⟩; refine ⟨_, rfl, ?_⟩; have n0_ := Aside0.mk (below_step (by repeat (first | (with_reducible first | exact HB.out | apply below_alloc | apply pw_below_drewN | apply below_drew1) | exact HB.out)) hb); clear HB; have HB := n0_; clear n0_; (try clear hb); (try clear hb2); (try clear hk); (try clear hi)) | (go_at_call 29; (with_reducible refine (covenantlaw05_large.calls k _ _ l0 false _ ?side1 ?side2 A6.out).mono ?_); (case side1 => repeat (first | exact (Kd.C_below HR0.out HB.out) | (with_reducible refine Kd.C_alloc ?_ _) | (with_reducible refine Kd.C_drewN ?_ _) | (with_reducible refine Kd.C_drew ?_))); (case side2 => exact HC0.out); rintro e w' ⟨rfl, ⟨nd, rfl⟩⟩))
        go_meet
        case rel => exact ⟨_, (decide ((a1.size : Int) > 5000)), (by first | rfl | (simp; done) | (simp [*]; done)), H', ⟨by first | omega | exact Nat.le_refl _⟩, ⟨by repeat (first | (with_reducible first | exact HB.out | apply below_alloc | apply pw_below_drewN | apply below_drew1) | exact HB.out)⟩⟩
    · replace c5 := Bool.eq_false_iff.mpr c5
      subst c5
      have H1 : (covenantlaw05_RowBack.j0 k l0 a1 true) = some r := by rw [if_neg (show ¬ (false = true) by decide)] at H; exact H
      clear H
      have H := H1
      clear H1
      have H' := Aside0.mk H
      clear H
      go_wp2_with (first | ((with_reducible refine gate_callee (f := 64) rfl ?_); refine goesL_ (some 10) rfl rfl Tryd.func64 (by kernel_rfl) rfl #[] rfl (by (try simp only [List.map_toArray, List.map_cons, List.map_nil]); first | done | rfl | (simp only [List.length_drop, List.length_take]; rfl)) ?_; (with_reducible refine (covenantlaw05_works.calls k  false _ A4.out ?sideG).mono ?_); (case sideG => exact GW.keep HG.out (by repeat (first | (with_reducible first | exact HB.out | apply below_alloc | apply pw_below_drewN | apply below_drew1) | exact HB.out))); rintro e w10 ⟨rfl, hb⟩; refine ⟨_, rfl, ?_⟩; have n0_ := Aside0.mk (below_step (by repeat (first | (with_reducible first | exact HB.out | apply below_alloc | apply pw_below_drewN | apply below_drew1) | exact HB.out)) hb); clear HB; have HB := n0_; clear n0_; (try clear hb); (try clear hb2); (try clear hk); (try clear hi)))
      go_meet
      case rel => exact ⟨_, (true), (by first | rfl | (simp; done) | (simp [*]; done)), H', ⟨by first | omega | exact Nat.le_refl _⟩, ⟨by repeat (first | (with_reducible first | exact HB.out | apply below_alloc | apply pw_below_drewN | apply below_drew1) | exact HB.out)⟩⟩
  case rest =>
    clear HC3
    try clear c1
    try clear p2
    try clear c5
    try clear c6
    try clear c7
    obtain ⟨kq, x20_2, rfl, HA, HJ2, HB⟩ := hcut
    cases kq with
    | zero => exact absurd HA.out (by simp [covenantlaw05_RowBack.j0])
    | succ kj2 =>
      have H := HA.out
      clear HA
      simp only [covenantlaw05_RowBack.j0] at H
      by_cases c11 : x20_2 = true
      · subst c11
        have H1 : ((covenantlaw05_works.f kj2).bind fun t462 => (some t462)) = some r := by rw [if_pos rfl] at H; exact H
        clear H
        have H := H1
        clear H1
        replace H := Option.bind_eq_some_iff.mp H
        obtain ⟨t462, A120, H⟩ := H
        replace H : (some t462) = some r := H
        have A12 := Aside0.mk A120
        clear A120
        obtain rfl := Option.some.inj H
        go_wp2_with (first | ((with_reducible refine gate_callee (f := 64) rfl ?_); refine goesL_ (some 21) rfl rfl Tryd.func64 (by kernel_rfl) rfl #[] rfl (by (try simp only [List.map_toArray, List.map_cons, List.map_nil]); first | done | rfl | (simp only [List.length_drop, List.length_take]; rfl)) ?_; (with_reducible refine (covenantlaw05_works.calls kj2  t462 _ A12.out ?sideG).mono ?_); (case sideG => exact GW.keep HG.out (by repeat (first | (with_reducible first | exact HB.out | apply below_alloc | apply pw_below_drewN | apply below_drew1) | exact HB.out))); rintro e w13 ⟨rfl, hb⟩; refine ⟨_, rfl, ?_⟩; have n0_ := Aside0.mk (below_step (by repeat (first | (with_reducible first | exact HB.out | apply below_alloc | apply pw_below_drewN | apply below_drew1) | exact HB.out)) hb); clear HB; have HB := n0_; clear n0_; (try clear hb); (try clear hb2); (try clear hk); (try clear hi)))
        go_ret
        exact ⟨by first | rfl | (simp [errW_none, errW_some] <;> rfl) | (simp [*, errW_none, errW_some] <;> rfl), by repeat (first | (with_reducible first | exact HB.out | apply below_alloc | apply pw_below_drewN | apply below_drew1) | exact HB.out)⟩
      · replace c11 := Bool.eq_false_iff.mpr c11
        subst c11
        have H1 : (covenantlaw05_RowBack.l0 kj2 l0 a1 true 0) = some r := by rw [if_neg (show ¬ (false = true) by decide)] at H; exact H
        clear H
        have H := H1
        clear H1
        have H' := Aside0.mk H
        clear H
        go_wp2
        go_loopg [5, 6] kj2 (fun kq v5 v6 w' => ∃ (x5_2 : Bool) (x6_2 : Int), v5 = .bool x5_2 ∧ v6 = .int .i64 x6_2 ∧ Aside0 (covenantlaw05_RowBack.l0 kq l0 a1 x5_2 x6_2 = some r) ∧ Aside0 (kq ≤ kj2) ∧ Aside0 (Below w.heap.size w w'))
        case atStart => exact ⟨(true), (0), (by first | rfl | (simp; done) | (simp [*]; done)), (by first | rfl | (simp; done) | (simp [*]; done)), H', ⟨Nat.le_refl _⟩, ⟨by repeat (first | (with_reducible first | exact HB.out | apply below_alloc | apply pw_below_drewN | apply below_drew1) | exact HB.out)⟩⟩
        case round =>
          clear H'
          try clear c1
          try clear p2
          try clear c5
          try clear c6
          try clear c7
          try clear c11
          try clear p2
          obtain ⟨x5_2, x6_2, rfl, rfl, HA, HK2, HB⟩ := hrel
          cases gk with
          | zero => exact absurd HA.out (by simp [covenantlaw05_RowBack.l0])
          | succ k2 =>
            have H := HA.out
            clear HA
            simp only [covenantlaw05_RowBack.l0] at H
            by_cases c14 : x6_2 < (l0.length : Int)
            · rw [if_pos c14] at H
              have c14b0 : decide (x6_2 < (l0.length : Int)) = true := decide_eq_true c14
              clear c14
              by_cases c15 : x5_2 = true
              · subst c15
                have H1 : (if 0 ≤ x6_2 then ((value_May.f ((rd_T23 l0 x6_2).f0) ((rd_T23 l0 x6_2).f1) ((rd_T23 l0 x6_2).f2) ((rd_T23 l0 x6_2).f3)).bind fun t464 => (covenantlaw05_RowBack.l0 k2 l0 a1 t464 (wrap64 (x6_2 + 1)))) else (none)) = some r := by rw [if_pos rfl] at H; exact H
                clear H
                have H := H1
                clear H1
                by_cases c16 : 0 ≤ x6_2
                · rw [if_pos c16] at H
                  have c16b0 : decide (0 ≤ x6_2) = true := decide_eq_true c16
                  clear c16
                  replace H := Option.bind_eq_some_iff.mp H
                  obtain ⟨t464, A170, H⟩ := H
                  replace H : (covenantlaw05_RowBack.l0 k2 l0 a1 t464 (wrap64 (x6_2 + 1))) = some r := H
                  have A17 := Aside0.mk A170
                  clear A170
                  have H' := Aside0.mk H
                  clear H
                  have p463 : 0 ≤ (x6_2 : Int) := of_decide_eq_true (by first | (with_reducible assumption) | assumption)
                  have q463 : x6_2 < (l0.length : Int) := of_decide_eq_true (by first | (with_reducible assumption) | assumption)
                  obtain ⟨ad463, e463, hx463_0, hx463_1, hx463_2, hx463_3⟩ := at_T23 HR0.out x6_2 p463 q463
                  cases e463
                  replace hx463_0 := (HB.out.cell (World.block_lt_of_cell? w _ hx463_0)).trans hx463_0
                  replace hx463_1 := (HB.out.cell (World.block_lt_of_cell? w _ hx463_1)).trans hx463_1
                  replace hx463_2 := (HB.out.cell (World.block_lt_of_cell? w _ hx463_2)).trans hx463_2
                  replace hx463_3 := (HB.out.cell (World.block_lt_of_cell? w _ hx463_3)).trans hx463_3
                  replace p463 := eq_true p463
                  replace q463 := eq_true q463
                  go_wp2_with (first | (go_at_call 21; (with_reducible refine (value_May.calls ((rd_T23 l0 x6_2).f0) ((rd_T23 l0 x6_2).f1) ((rd_T23 l0 x6_2).f2) ((rd_T23 l0 x6_2).f3) t464 _ A17.out).mono ?_); rintro e w18 ⟨rfl, hb⟩; have n0_ := Aside0.mk (below_step (by repeat (first | (with_reducible first | exact HB.out | apply below_alloc | apply pw_below_drewN | apply below_drew1) | exact HB.out)) hb); clear HB; have HB := n0_; clear n0_; (try clear hb); (try clear hb2); (try clear hk); (try clear hi)))
                  go_roundg k2
                  case measure => have := HJ2.out; have := HK2.out; omega
                  case rel => exact ⟨(t464), (wrap64 (x6_2 + 1)), (by first | rfl | (simp; done) | (simp [*]; done)), (by first | rfl | (simp; done) | (simp [*]; done)), H', ⟨by have := HJ2.out; have := HK2.out; omega⟩, ⟨by repeat (first | (with_reducible first | exact HB.out | apply below_alloc | apply pw_below_drewN | apply below_drew1) | exact HB.out)⟩⟩
                · rw [if_neg c16] at H
                  exact absurd H (by simp)
              · replace c15 := Bool.eq_false_iff.mpr c15
                subst c15
                have H1 : (covenantlaw05_RowBack.l0 k2 l0 a1 false (wrap64 (x6_2 + 1))) = some r := by rw [if_neg (show ¬ (false = true) by decide)] at H; exact H
                clear H
                have H := H1
                clear H1
                have H' := Aside0.mk H
                clear H
                go_wp2
                go_roundg k2
                case measure => have := HJ2.out; have := HK2.out; omega
                case rel => exact ⟨(false), (wrap64 (x6_2 + 1)), (by first | rfl | (simp; done) | (simp [*]; done)), (by first | rfl | (simp; done) | (simp [*]; done)), H', ⟨by have := HJ2.out; have := HK2.out; omega⟩, ⟨by repeat (first | (with_reducible first | exact HB.out | apply below_alloc | apply pw_below_drewN | apply below_drew1) | exact HB.out)⟩⟩
            · rw [if_neg c14] at H
              have c14b0 : decide (x6_2 < (l0.length : Int)) = false := decide_eq_false c14
              clear c14
              replace H := Option.bind_eq_some_iff.mp H
              obtain ⟨t465, A190, H⟩ := H
              replace H : ((row_Parse.f k2 t465).bind fun bt466 => (if (x5_2 != (t465.toList != ([] : List UInt8))) = true then (covenantlaw05_RowBack.j2 k2 a1 true) else (if x5_2 = true then (if bt466.2 = 0 then ((covenantref05_Same.f k2 l0 bt466.1).bind fun t470 => (covenantlaw05_RowBack.j2 k2 a1 (!t470))) else (covenantlaw05_RowBack.j2 k2 a1 true)) else (covenantlaw05_RowBack.j2 k2 a1 false)))) = some r := H
              have A19 := Aside0.mk A190
              clear A190
              replace H := Option.bind_eq_some_iff.mp H
              obtain ⟨⟨t466, t467⟩, A200, H⟩ := H
              replace H : (if (x5_2 != (t465.toList != ([] : List UInt8))) = true then (covenantlaw05_RowBack.j2 k2 a1 true) else (if x5_2 = true then (if t467 = 0 then ((covenantref05_Same.f k2 l0 t466).bind fun t470 => (covenantlaw05_RowBack.j2 k2 a1 (!t470))) else (covenantlaw05_RowBack.j2 k2 a1 true)) else (covenantlaw05_RowBack.j2 k2 a1 false))) = some r := H
              have A20 := Aside0.mk A200
              clear A200
              have HC21 := Aside0.mk H
              clear H
              go_upto_region 10 with (first | ((with_reducible refine gate_callee (f := 32) rfl ?_); refine goesL_ (some 37) rfl rfl Tryd.func32 (by kernel_rfl) rfl #[.slice A0 l0.length c0] rfl (by (try simp only [List.map_toArray, List.map_cons, List.map_nil]); first | done | rfl | (simp only [List.length_drop, List.length_take]; rfl)) ?_; (with_reducible refine (row_Text.calls k2 _ _ l0 t465 _ ?side1 ?side2 A19.out ?sideG (q_ := true)).mono ?_); (case sideG => exact GW.keep HG.out (by repeat (first | (with_reducible first | exact HB.out | apply below_alloc | apply pw_below_drewN | apply below_drew1) | exact HB.out))); (case side1 => repeat (first | exact (Kd.C_below HR0.out HB.out) | (with_reducible refine Kd.C_alloc ?_ _) | (with_reducible refine Kd.C_drewN ?_ _) | (with_reducible refine Kd.C_drew ?_))); (case side2 => exact HC0.out); rintro e w22 ⟨rfl, hb⟩; refine ⟨_, rfl, ?_⟩; have n0_ := Aside0.mk (below_step (by repeat (first | (with_reducible first | exact HB.out | apply below_alloc | apply pw_below_drewN | apply below_drew1) | exact HB.out)) hb); clear HB; have HB := n0_; clear n0_; (try clear hb); (try clear hb2); (try clear hk); (try clear hi)) | ((with_reducible refine gate_callee (f := 63) rfl ?_); refine goesL_ (some 40) rfl rfl Tryd.func63 (by kernel_rfl) rfl #[.string t465] rfl (by (try simp only [List.map_toArray, List.map_cons, List.map_nil]); first | done | rfl | (simp only [List.length_drop, List.length_take]; rfl)) ?_; (with_reducible refine (row_Parse.calls k2 t465 t466 t467 _ A20.out ?sideG).mono ?_); (case sideG => exact GW.keep HG.out (by repeat (first | (with_reducible first | exact HB.out | apply below_alloc | apply pw_below_drewN | apply below_drew1) | exact HB.out))); rintro e w23 ⟨v468, rfl, ho0, hb⟩; refine ⟨_, rfl, ?_⟩; have n0_ := Aside0.mk (Kd.R_lower ho0 (below_size (by repeat (first | (with_reducible first | exact HB.out | apply below_alloc | apply pw_below_drewN | apply below_drew1) | exact HB.out)))); have n1_ := Aside0.mk (below_step (by repeat (first | (with_reducible first | exact HB.out | apply below_alloc | apply pw_below_drewN | apply below_drew1) | exact HB.out)) hb); clear HB; have HO469 := n0_; have HB := n1_; clear n0_ n1_; (try clear hb); (try clear hb2); (try clear hk); (try clear hi); (try clear ho0)))
              (try simp only [Act.put, List.setIfInBounds_toArray, List.set_cons_zero, List.set_cons_succ])
              go_cut [59] (fun v59 wc => ∃ (kq : Nat) (x59_20 : Bool), v59 = .bool x59_20 ∧ Aside0 (covenantlaw05_RowBack.j2 kq a1 x59_20 = some r) ∧ Aside0 (kq ≤ k2) ∧ Aside0 (Below w.heap.size w wc))
              case first =>
                have H := HC21.out
                clear HC21
                by_cases c24 : (x5_2 != (t465.toList != ([] : List UInt8))) = true
                · rw [if_pos c24] at H
                  have c24b0 : (x5_2 != (t465.toList != ([] : List UInt8))) = true := c24
                  (try (have c24b1 : decide (x5_2 = (t465.toList != ([] : List UInt8))) = false := by simpa using c24))
                  (try (have c24b2 : (x5_2 == (t465.toList != ([] : List UInt8))) = false := by simpa using c24))
                  (try (have c24b3 : ¬ (x5_2 = (t465.toList != ([] : List UInt8))) := by simpa using c24))
                  clear c24
                  have c24b9 : ¬ (x5_2 = !t465.toList.isEmpty) := by (intro h9; have h8 := c24b0; rw [h9] at h8; cases hq : t465.toList <;> simp [hq] at h8)
                  clear c24b1 c24b2 c24b3
                  (first | rw [c24b0] | (simp only [i64_w, i32_w]; rw [c24b0]) | skip)
                  have H' := Aside0.mk H
                  clear H
                  go_wp2
                  go_meet
                  case rel => exact ⟨_, (true), (by first | rfl | (simp; done) | (simp [*]; done)), H', ⟨by have := HJ2.out; have := HK2.out; first | omega | exact Nat.le_refl _⟩, ⟨by repeat (first | (with_reducible first | exact HB.out | apply below_alloc | apply pw_below_drewN | apply below_drew1) | exact HB.out)⟩⟩
                · rw [if_neg c24] at H
                  have c24b0 : (x5_2 != (t465.toList != ([] : List UInt8))) = false := by simpa using c24
                  (try (have c24b1 : decide (x5_2 = (t465.toList != ([] : List UInt8))) = true := by simpa using c24))
                  (try (have c24b2 : (x5_2 == (t465.toList != ([] : List UInt8))) = true := by simpa using c24))
                  clear c24
                  (first | rw [c24b0] | (simp only [i64_w, i32_w]; rw [c24b0]) | skip)
                  by_cases c25 : x5_2 = true
                  · subst c25
                    have c24b9 : t465.toList.isEmpty = false := by (have h8 := c24b0; cases hq : t465.toList <;> simp [hq] at h8 ⊢)
                    have c24b8 : ¬ t465.toList = [] := by (have h8 := c24b9; cases hq : t465.toList <;> simp [hq] at h8 ⊢)
                    have H1 : (if t467 = 0 then ((covenantref05_Same.f k2 l0 t466).bind fun t470 => (covenantlaw05_RowBack.j2 k2 a1 (!t470))) else (covenantlaw05_RowBack.j2 k2 a1 true)) = some r := by rw [if_pos rfl] at H; exact H
                    clear H
                    have H := H1
                    clear H1
                    by_cases c26 : t467 = 0
                    · rw [if_pos c26] at H
                      have c26b0 : (t467 == 0) = true := beq_iff_eq.mpr c26
                      have c26b1 : (t467 != 0) = false := bne_eq_false_iff_eq.mpr c26
                      clear c26
                      replace H := Option.bind_eq_some_iff.mp H
                      obtain ⟨t470, A270, H⟩ := H
                      replace H : (covenantlaw05_RowBack.j2 k2 a1 (!t470)) = some r := H
                      have A27 := Aside0.mk A270
                      clear A270
                      have H' := Aside0.mk H
                      clear H
                      obtain ⟨Ao28, co28, eo28⟩ := Kd.R_slice HO469.out
                      subst eo28
                      go_wp2_with (first | (go_at_call 35; (with_reducible refine (covenantref05_Same.calls k2 _ _ l0 _ _ t466 t470 _ ?side1 ?side2 ?side3 ?side4 A27.out).mono ?_); (case side1 => repeat (first | exact (Kd.C_below HR0.out HB.out) | (with_reducible refine Kd.C_alloc ?_ _) | (with_reducible refine Kd.C_drewN ?_ _) | (with_reducible refine Kd.C_drew ?_))); (case side2 => exact HC0.out); (case side3 => repeat (first | exact (Kd.R_reads' HO469.out).2.2 | (with_reducible refine Kd.C_alloc ?_ _) | (with_reducible refine Kd.C_drewN ?_ _) | (with_reducible refine Kd.C_drew ?_))); (case side4 => exact (Kd.R_reads' HO469.out).2.1); rintro e w' ⟨rfl, ⟨nd, rfl⟩⟩))
                      go_meet
                      case rel => exact ⟨_, (!t470), (by first | rfl | (simp; done) | (simp [*]; done)), H', ⟨by have := HJ2.out; have := HK2.out; first | omega | exact Nat.le_refl _⟩, ⟨by repeat (first | (with_reducible first | exact HB.out | apply below_alloc | apply pw_below_drewN | apply below_drew1) | exact HB.out)⟩⟩
                    · rw [if_neg c26] at H
                      have c26b0 : (t467 == 0) = false := beq_eq_false_iff_ne.mpr c26
                      have c26b1 : (t467 != 0) = true := bne_iff_ne.mpr c26
                      have H' := Aside0.mk H
                      clear H
                      go_wp2
                      go_meet
                      case rel => exact ⟨_, (true), (by first | rfl | (simp; done) | (simp [*]; done)), H', ⟨by have := HJ2.out; have := HK2.out; first | omega | exact Nat.le_refl _⟩, ⟨by repeat (first | (with_reducible first | exact HB.out | apply below_alloc | apply pw_below_drewN | apply below_drew1) | exact HB.out)⟩⟩
                  · replace c25 := Bool.eq_false_iff.mpr c25
                    subst c25
                    have c24b9 : t465.toList.isEmpty = true := by (have h8 := c24b0; cases hq : t465.toList <;> simp [hq] at h8 ⊢)
                    have c24b8 : t465.toList = [] := by (have h8 := c24b9; cases hq : t465.toList <;> simp [hq] at h8 ⊢)
                    have H1 : (covenantlaw05_RowBack.j2 k2 a1 false) = some r := by rw [if_neg (show ¬ (false = true) by decide)] at H; exact H
                    clear H
                    have H := H1
                    clear H1
                    have H' := Aside0.mk H
                    clear H
                    go_wp2
                    go_meet
                    case rel => exact ⟨_, (false), (by first | rfl | (simp; done) | (simp [*]; done)), H', ⟨by have := HJ2.out; have := HK2.out; first | omega | exact Nat.le_refl _⟩, ⟨by repeat (first | (with_reducible first | exact HB.out | apply below_alloc | apply pw_below_drewN | apply below_drew1) | exact HB.out)⟩⟩
              case rest =>
                clear HC21
                try clear c1
                try clear c2
                try clear p2
                try clear c3
                try clear p4
                try clear q4
                try clear hx4
                try clear c5
                try clear c6
                try clear p6
                try clear c7
                try clear c11
                try clear c14
                try clear c14b0
                try clear c15
                try clear c16
                try clear c16b0
                try clear c24
                try clear c24b0
                try clear c24b1
                try clear c24b2
                try clear c25
                try clear c26
                try clear c26b0
                try clear c26b1
                try clear hx463_0
                try clear hx463_1
                try clear hx463_2
                try clear hx463_3
                try clear p2
                try clear p463
                try clear q463
                obtain ⟨kq, x59_20, rfl, HA, HJ20, HB⟩ := hcut
                cases kq with
                | zero => exact absurd HA.out (by simp [covenantlaw05_RowBack.j2])
                | succ kj20 =>
                  have H := HA.out
                  clear HA
                  simp only [covenantlaw05_RowBack.j2] at H
                  by_cases c29 : x59_20 = true
                  · subst c29
                    have H1 : (some false) = some r := by rw [if_pos rfl] at H; exact H
                    clear H
                    have H := H1
                    clear H1
                    obtain rfl := Option.some.inj H
                    go_wp2
                    go_ret
                    exact ⟨by first | rfl | (simp [errW_none, errW_some] <;> rfl) | (simp [*, errW_none, errW_some] <;> rfl), by repeat (first | (with_reducible first | exact HB.out | apply below_alloc | apply pw_below_drewN | apply below_drew1) | exact HB.out)⟩
                  · replace c29 := Bool.eq_false_iff.mpr c29
                    subst c29
                    have H1 : ((row_Parse.f kj20 a1).bind fun bt471 => (if bt471.2 = 0 then ((row_Text.f kj20 bt471.1).bind fun t475 => (some (t475.toList == a1.toList))) else (if (bt471.1.length : Int) = 0 then (some true) else (some false)))) = some r := by rw [if_neg (show ¬ (false = true) by decide)] at H; exact H
                    clear H
                    have H := H1
                    clear H1
                    replace H := Option.bind_eq_some_iff.mp H
                    obtain ⟨⟨t471, t472⟩, A300, H⟩ := H
                    replace H : (if t472 = 0 then ((row_Text.f kj20 t471).bind fun t475 => (some (t475.toList == a1.toList))) else (if (t471.length : Int) = 0 then (some true) else (some false))) = some r := H
                    have A30 := Aside0.mk A300
                    clear A300
                    by_cases c31 : t472 = 0
                    · rw [if_pos c31] at H
                      have c31b0 : (t472 == 0) = true := beq_iff_eq.mpr c31
                      have c31b1 : (t472 != 0) = false := bne_eq_false_iff_eq.mpr c31
                      clear c31
                      replace H := Option.bind_eq_some_iff.mp H
                      obtain ⟨t475, A320, H⟩ := H
                      replace H : (some (t475.toList == a1.toList)) = some r := H
                      have A32 := Aside0.mk A320
                      clear A320
                      obtain rfl := Option.some.inj H
                      go_wp2_with (first | ((with_reducible refine gate_callee (f := 63) rfl ?_); refine goesL_ (some 62) rfl rfl Tryd.func63 (by kernel_rfl) rfl #[.string a1] rfl (by (try simp only [List.map_toArray, List.map_cons, List.map_nil]); first | done | rfl | (simp only [List.length_drop, List.length_take]; rfl)) ?_; (with_reducible refine (row_Parse.calls kj20 a1 t471 t472 _ A30.out ?sideG).mono ?_); (case sideG => exact GW.keep HG.out (by repeat (first | (with_reducible first | exact HB.out | apply below_alloc | apply pw_below_drewN | apply below_drew1) | exact HB.out))); rintro e w33 ⟨v473, rfl, ho0, hb⟩; refine ⟨_, rfl, ?_⟩; have n0_ := Aside0.mk (Kd.R_lower ho0 (below_size (by repeat (first | (with_reducible first | exact HB.out | apply below_alloc | apply pw_below_drewN | apply below_drew1) | exact HB.out)))); have n1_ := Aside0.mk (below_step (by repeat (first | (with_reducible first | exact HB.out | apply below_alloc | apply pw_below_drewN | apply below_drew1) | exact HB.out)) hb); clear HB; have HO474 := n0_; have HB := n1_; clear n0_ n1_; (try clear hb); (try clear hb2); (try clear hk); (try clear hi); (try clear ho0); obtain ⟨Ao34, co34, eo34⟩ := Kd.R_slice HO474.out; subst eo34) | (go_at_call 32; (with_reducible refine (row_Text.calls kj20 _ _ t471 t475 _ ?side1 ?side2 A32.out ?sideG (q_ := true)).mono ?_); (case sideG => exact GW.keep HG.out (by repeat (first | (with_reducible first | exact HB.out | apply below_alloc | apply pw_below_drewN | apply below_drew1) | exact HB.out))); (case side1 => repeat (first | exact (Kd.R_reads' HO474.out).2.2 | (with_reducible refine Kd.C_alloc ?_ _) | (with_reducible refine Kd.C_drewN ?_ _) | (with_reducible refine Kd.C_drew ?_))); (case side2 => exact (Kd.R_reads' HO474.out).2.1); rintro e w35 ⟨rfl, hb⟩; have n0_ := Aside0.mk (Kd.R_below (by (with_reducible repeat (first | apply Kd.R_alloc | apply Kd.R_drewN | apply Kd.R_drew)); exact HO474.out) hb); have n1_ := Aside0.mk (below_step (by repeat (first | (with_reducible first | exact HB.out | apply below_alloc | apply pw_below_drewN | apply below_drew1) | exact HB.out)) hb); clear HO474; clear HB; have HO474 := n0_; have HB := n1_; clear n0_ n1_; (try clear hb); (try clear hb2); (try clear hk); (try clear hi)))
                      go_ret
                      exact ⟨by first | rfl | (simp [errW_none, errW_some] <;> rfl) | (simp [*, errW_none, errW_some] <;> rfl), by repeat (first | (with_reducible first | exact HB.out | apply below_alloc | apply pw_below_drewN | apply below_drew1) | exact HB.out)⟩
                    · rw [if_neg c31] at H
                      have c31b0 : (t472 == 0) = false := beq_eq_false_iff_ne.mpr c31
                      have c31b1 : (t472 != 0) = true := bne_iff_ne.mpr c31
                      by_cases c36 : (t471.length : Int) = 0
                      · rw [if_pos c36] at H
                        have c36b0 : ((t471.length : Int) == 0) = true := beq_iff_eq.mpr c36
                        have c36b1 : ((t471.length : Int) != 0) = false := bne_eq_false_iff_eq.mpr c36
                        clear c36
                        obtain rfl := Option.some.inj H
                        go_wp2_with (first | ((with_reducible refine gate_callee (f := 63) rfl ?_); refine goesL_ (some 62) rfl rfl Tryd.func63 (by kernel_rfl) rfl #[.string a1] rfl (by (try simp only [List.map_toArray, List.map_cons, List.map_nil]); first | done | rfl | (simp only [List.length_drop, List.length_take]; rfl)) ?_; (with_reducible refine (row_Parse.calls kj20 a1 t471 t472 _ A30.out ?sideG).mono ?_); (case sideG => exact GW.keep HG.out (by repeat (first | (with_reducible first | exact HB.out | apply below_alloc | apply pw_below_drewN | apply below_drew1) | exact HB.out))); rintro e w37 ⟨v473, rfl, ho0, hb⟩; refine ⟨_, rfl, ?_⟩; have n0_ := Aside0.mk (Kd.R_lower ho0 (below_size (by repeat (first | (with_reducible first | exact HB.out | apply below_alloc | apply pw_below_drewN | apply below_drew1) | exact HB.out)))); have n1_ := Aside0.mk (below_step (by repeat (first | (with_reducible first | exact HB.out | apply below_alloc | apply pw_below_drewN | apply below_drew1) | exact HB.out)) hb); clear HB; have HO474 := n0_; have HB := n1_; clear n0_ n1_; (try clear hb); (try clear hb2); (try clear hk); (try clear hi); (try clear ho0); obtain ⟨Ao38, co38, eo38⟩ := Kd.R_slice HO474.out; subst eo38))
                        go_ret
                        exact ⟨by first | rfl | (simp [errW_none, errW_some] <;> rfl) | (simp [*, errW_none, errW_some] <;> rfl), by repeat (first | (with_reducible first | exact HB.out | apply below_alloc | apply pw_below_drewN | apply below_drew1) | exact HB.out)⟩
                      · rw [if_neg c36] at H
                        have c36b0 : ((t471.length : Int) == 0) = false := beq_eq_false_iff_ne.mpr c36
                        have c36b1 : ((t471.length : Int) != 0) = true := bne_iff_ne.mpr c36
                        have c36b2 : ¬ (t471 = []) := fun h_ => c36 (by rw [h_]; rfl)
                        obtain rfl := Option.some.inj H
                        go_wp2_with (first | ((with_reducible refine gate_callee (f := 63) rfl ?_); refine goesL_ (some 62) rfl rfl Tryd.func63 (by kernel_rfl) rfl #[.string a1] rfl (by (try simp only [List.map_toArray, List.map_cons, List.map_nil]); first | done | rfl | (simp only [List.length_drop, List.length_take]; rfl)) ?_; (with_reducible refine (row_Parse.calls kj20 a1 t471 t472 _ A30.out ?sideG).mono ?_); (case sideG => exact GW.keep HG.out (by repeat (first | (with_reducible first | exact HB.out | apply below_alloc | apply pw_below_drewN | apply below_drew1) | exact HB.out))); rintro e w39 ⟨v473, rfl, ho0, hb⟩; refine ⟨_, rfl, ?_⟩; have n0_ := Aside0.mk (Kd.R_lower ho0 (below_size (by repeat (first | (with_reducible first | exact HB.out | apply below_alloc | apply pw_below_drewN | apply below_drew1) | exact HB.out)))); have n1_ := Aside0.mk (below_step (by repeat (first | (with_reducible first | exact HB.out | apply below_alloc | apply pw_below_drewN | apply below_drew1) | exact HB.out)) hb); clear HB; have HO474 := n0_; have HB := n1_; clear n0_ n1_; (try clear hb); (try clear hb2); (try clear hk); (try clear hi); (try clear ho0); obtain ⟨Ao40, co40, eo40⟩ := Kd.R_slice HO474.out; subst eo40))
                        go_ret
                        exact ⟨by first | rfl | (simp [errW_none, errW_some] <;> rfl) | (simp [*, errW_none, errW_some] <;> rfl), by repeat (first | (with_reducible first | exact HB.out | apply below_alloc | apply pw_below_drewN | apply below_drew1) | exact HB.out)⟩

end Go.Proofs.YtddmllocjocipaaDoor.D
