/- What the functions that a law reaches come to, as plain Lean functions, and the law's row: written by a session's own program over the kit's print.py, some functions proved by hand. Conditions: as each theorem states them. -/
import Derived.Test.YtddmllocjocipaaDoorDx0
import Derived.Test.YtddmllocjocipaaDoorDx18
import Derived.Test.YtddmllocjocipaaDoorDx20
import Derived.Test.YtddmllocjocipaaDoorDx33
import Derived.Test.YtddmllocjocipaaDoorGw
namespace Go.Proofs.YtddmllocjocipaaDoor.D
open Go.RowKit Go.Proofs.YtddmllocjocipaaDoorW.PrintWords Go.Proofs.YtddmllocjocipaaDoorW.PrintLast Go.Proofs.YtddmllocjocipaaDoorW.PrintMore
attribute [local go_sem] max2_int min2_int max_two min_two max_three min_three max_four min_four   -- for this text's walks alone
set_option linter.unusedVariables false
set_option linter.unusedSimpArgs false

/-! ### covenantlaw05_RowParses: function 14 -/
mutual
def covenantlaw05_RowParses.l0 : Nat → ByteArray → List (S23) → Int → Int → Option (Bool)
  | 0, _, _, _, _ => none
  | k + 1, x0, x3, x4, x5 => if x5 < 2 then ((row_Parse.f k x0).bind fun bt837 => (if x4 = bt837.2 then ((covenantref05_Same.f k bt837.1 x3).bind fun t841 => (covenantlaw05_RowParses.j1 k x0 x3 x4 x5 bt837.1 (!t841))) else (covenantlaw05_RowParses.j1 k x0 x3 x4 x5 bt837.1 true))) else (some true)
def covenantlaw05_RowParses.j1 : Nat → ByteArray → List (S23) → Int → Int → List (S23) → Bool → Option (Bool)
  | 0, _, _, _, _, _, _ => none
  | k + 1, x0, x3, x4, x5, x6, x34 => if x34 = true then (some false) else (covenantlaw05_RowParses.l1 k x0 x3 x4 x5 x6 0)
def covenantlaw05_RowParses.l1 : Nat → ByteArray → List (S23) → Int → Int → List (S23) → Int → Option (Bool)
  | 0, _, _, _, _, _, _ => none
  | k + 1, x0, x3, x4, x5, x6, x8 => if x8 < (x6.length : Int) then (if 0 ≤ x8 then (covenantlaw05_RowParses.l1 k x0 x3 x4 x5 (x6.set (x8 : Int).toNat (⟨9, 0, 0, (⟨#[]⟩ : ByteArray)⟩ : S23)) (wrap64 (x8 + 1))) else (none)) else (covenantlaw05_RowParses.l0 k x0 x3 x4 (wrap64 (x5 + 1)))
end
def covenantlaw05_RowParses.f (k : Nat) (a0 : ByteArray) : Option (Bool) := if (a0.size : Int) > 3000 then (some true) else ((covenantref05_Parse.f k a0).bind fun bt833 => (covenantlaw05_RowParses.l0 k a0 bt833.1 bt833.2 0))
theorem covenantlaw05_RowParses.mono_l : ∀ k, (∀ y0 y1 y2 y3, LeO (covenantlaw05_RowParses.l0 k y0 y1 y2 y3) (covenantlaw05_RowParses.l0 (k + 1) y0 y1 y2 y3)) ∧ (∀ y0 y1 y2 y3 y4 y5, LeO (covenantlaw05_RowParses.j1 k y0 y1 y2 y3 y4 y5) (covenantlaw05_RowParses.j1 (k + 1) y0 y1 y2 y3 y4 y5)) ∧ (∀ y0 y1 y2 y3 y4 y5, LeO (covenantlaw05_RowParses.l1 k y0 y1 y2 y3 y4 y5) (covenantlaw05_RowParses.l1 (k + 1) y0 y1 y2 y3 y4 y5))
  | 0 => ⟨fun _ _ _ _ r h => by simp [covenantlaw05_RowParses.l0] at h, fun _ _ _ _ _ _ r h => by simp [covenantlaw05_RowParses.j1] at h, fun _ _ _ _ _ _ r h => by simp [covenantlaw05_RowParses.l1] at h⟩
  | k + 1 => by
    obtain ⟨ih0, ih1, ih2⟩ := covenantlaw05_RowParses.mono_l k
    refine ⟨?_, ?_, ?_⟩
    · intro y0 y1 y2 y3
      unfold covenantlaw05_RowParses.l0
      repeat' first
      | (with_reducible exact ih0 _ _ _ _)
      | (with_reducible exact ih1 _ _ _ _ _ _)
      | (with_reducible exact ih2 _ _ _ _ _ _)
      | (with_reducible exact covenantref05_Parse.mono _ _)
      | (with_reducible exact covenantref05_Same.mono _ _ _)
      | (with_reducible exact row_Parse.mono _ _)
      | (with_reducible exact LeO.refl _)
      | (with_reducible exact LeO.none _)
      | (with_reducible refine LeO.ite ?_ ?_)
      | (with_reducible refine LeO.bind ?_ (fun _ => ?_))
      | exact ih0 _ _ _ _
      | exact ih1 _ _ _ _ _ _
      | exact ih2 _ _ _ _ _ _
      | exact covenantref05_Parse.mono _ _
      | exact covenantref05_Same.mono _ _ _
      | exact row_Parse.mono _ _
      | exact LeO.none _
      | refine LeO.ite ?_ ?_
      | refine LeO.bind ?_ (fun _ => ?_)
    · intro y0 y1 y2 y3 y4 y5
      unfold covenantlaw05_RowParses.j1
      repeat' first
      | (with_reducible exact ih0 _ _ _ _)
      | (with_reducible exact ih1 _ _ _ _ _ _)
      | (with_reducible exact ih2 _ _ _ _ _ _)
      | (with_reducible exact covenantref05_Parse.mono _ _)
      | (with_reducible exact covenantref05_Same.mono _ _ _)
      | (with_reducible exact row_Parse.mono _ _)
      | (with_reducible exact LeO.refl _)
      | (with_reducible exact LeO.none _)
      | (with_reducible refine LeO.ite ?_ ?_)
      | (with_reducible refine LeO.bind ?_ (fun _ => ?_))
      | exact ih0 _ _ _ _
      | exact ih1 _ _ _ _ _ _
      | exact ih2 _ _ _ _ _ _
      | exact covenantref05_Parse.mono _ _
      | exact covenantref05_Same.mono _ _ _
      | exact row_Parse.mono _ _
      | exact LeO.none _
      | refine LeO.ite ?_ ?_
      | refine LeO.bind ?_ (fun _ => ?_)
    · intro y0 y1 y2 y3 y4 y5
      unfold covenantlaw05_RowParses.l1
      repeat' first
      | (with_reducible exact ih0 _ _ _ _)
      | (with_reducible exact ih1 _ _ _ _ _ _)
      | (with_reducible exact ih2 _ _ _ _ _ _)
      | (with_reducible exact covenantref05_Parse.mono _ _)
      | (with_reducible exact covenantref05_Same.mono _ _ _)
      | (with_reducible exact row_Parse.mono _ _)
      | (with_reducible exact LeO.refl _)
      | (with_reducible exact LeO.none _)
      | (with_reducible refine LeO.ite ?_ ?_)
      | (with_reducible refine LeO.bind ?_ (fun _ => ?_))
      | exact ih0 _ _ _ _
      | exact ih1 _ _ _ _ _ _
      | exact ih2 _ _ _ _ _ _
      | exact covenantref05_Parse.mono _ _
      | exact covenantref05_Same.mono _ _ _
      | exact row_Parse.mono _ _
      | exact LeO.none _
      | refine LeO.ite ?_ ?_
      | refine LeO.bind ?_ (fun _ => ?_)
theorem covenantlaw05_RowParses.mono : ∀ a0 k, LeO (covenantlaw05_RowParses.f k a0) (covenantlaw05_RowParses.f (k + 1) a0) := by
  intro a0 k
  obtain ⟨ih0, ih1, ih2⟩ := covenantlaw05_RowParses.mono_l k
  unfold covenantlaw05_RowParses.f
  repeat' first
      | (with_reducible exact ih0 _ _ _ _)
      | (with_reducible exact ih1 _ _ _ _ _ _)
      | (with_reducible exact ih2 _ _ _ _ _ _)
      | (with_reducible exact covenantref05_Parse.mono _ _)
      | (with_reducible exact covenantref05_Same.mono _ _ _)
      | (with_reducible exact row_Parse.mono _ _)
      | (with_reducible exact LeO.refl _)
      | (with_reducible exact LeO.none _)
      | (with_reducible refine LeO.ite ?_ ?_)
      | (with_reducible refine LeO.bind ?_ (fun _ => ?_))
      | exact ih0 _ _ _ _
      | exact ih1 _ _ _ _ _ _
      | exact ih2 _ _ _ _ _ _
      | exact covenantref05_Parse.mono _ _
      | exact covenantref05_Same.mono _ _ _
      | exact row_Parse.mono _ _
      | exact LeO.none _
      | refine LeO.ite ?_ ?_
      | refine LeO.bind ?_ (fun _ => ?_)
set_option maxHeartbeats 8000000 in
set_option maxRecDepth 100000 in
theorem covenantlaw05_RowParses.calls (k : Nat) (a0 : ByteArray) (r : Bool) (w : World) (h : covenantlaw05_RowParses.f k a0 = some r) (hG : GW true w) :
    Calls Tryd.prog 14 #[.string a0] w fun e w' => e = .returned (.bool r) ∧ Below w.heap.size w w' := by
  have HG := Aside0.mk hG
  clear hG
  have hu23 := Tryd.underlying23
  have HB := Aside0.mk (Below.refl w.heap.size w)
  have H : (if (a0.size : Int) > 3000 then (some true) else ((covenantref05_Parse.f k a0).bind fun bt833 => (covenantlaw05_RowParses.l0 k a0 bt833.1 bt833.2 0))) = some r := h
  clear h
  by_cases c2 : (a0.size : Int) > 3000
  · rw [if_pos c2] at H
    have c2b0 : decide (3000 < (a0.size : Int)) = true := decide_eq_true c2
    have c2b1 : decide (3000 < a0.size) = true := decide_eq_true (by omega)
    clear c2
    obtain rfl := Option.some.inj H
    go_enter Tryd.func14, Tryd.ntmps14
    go_wp2
    go_ret
    exact ⟨by first | rfl | (simp [errW_none, errW_some] <;> rfl) | (simp [*, errW_none, errW_some] <;> rfl), by repeat (first | (with_reducible first | exact HB.out | apply below_alloc | apply pw_below_drewN | apply below_drew1) | exact HB.out)⟩
  · rw [if_neg c2] at H
    have c2b0 : decide (3000 < (a0.size : Int)) = false := decide_eq_false c2
    have c2b1 : decide (3000 < a0.size) = false := decide_eq_false (by omega)
    clear c2
    replace H := Option.bind_eq_some_iff.mp H
    obtain ⟨⟨t833, t834⟩, A30, H⟩ := H
    replace H : (covenantlaw05_RowParses.l0 k a0 t833 t834 0) = some r := H
    have A3 := Aside0.mk A30
    clear A30
    have H' := Aside0.mk H
    clear H
    go_enter Tryd.func14, Tryd.ntmps14
    go_wp2_with (first | ((with_reducible refine gate_callee (f := 62) rfl ?_); refine goesL_ (some 14) rfl rfl Tryd.func62 (by kernel_rfl) rfl #[.string a0] rfl (by (try simp only [List.map_toArray, List.map_cons, List.map_nil]); first | done | rfl | (simp only [List.length_drop, List.length_take]; rfl)) ?_; (with_reducible refine (covenantref05_Parse.calls k a0 t833 t834 _ A3.out).mono ?_); rintro e w4 ⟨v835, rfl, ho0, hb⟩; refine ⟨_, rfl, ?_⟩; have n0_ := Aside0.mk (Kd.R_lower ho0 (below_size (by repeat (first | (with_reducible first | exact HB.out | apply below_alloc | apply pw_below_drewN | apply below_drew1) | exact HB.out)))); have n1_ := Aside0.mk (below_step (by repeat (first | (with_reducible first | exact HB.out | apply below_alloc | apply pw_below_drewN | apply below_drew1) | exact HB.out)) hb); clear HB; have HO836 := n0_; have HB := n1_; clear n0_ n1_; (try clear hb); (try clear hb2); (try clear hk); (try clear hi); (try clear ho0)))
    go_loopg [5] k (fun kq v5 w' => ∃ (x3_1 : List (S23)) (x5_1 : Int), v5 = .int .i64 x5_1 ∧ Aside0 (covenantlaw05_RowParses.l0 kq a0 x3_1 t834 x5_1 = some r) ∧ Aside0 (kq ≤ k) ∧ Aside0 (Kd.R k23 23 w' w.heap.size (fun _ => True) v835 x3_1) ∧ Aside0 (Below w.heap.size w w'))
    case atStart => exact ⟨(t833), (0), (by first | rfl | (simp; done) | (simp [*]; done)), H', ⟨Nat.le_refl _⟩, ⟨by (with_reducible repeat (first | apply Kd.R_alloc | apply Kd.R_drewN | apply Kd.R_drew)); exact HO836.out⟩, ⟨by repeat (first | (with_reducible first | exact HB.out | apply below_alloc | apply pw_below_drewN | apply below_drew1) | exact HB.out)⟩⟩
    case round =>
      clear H'
      try clear c1
      try clear c2
      try clear c2b0
      try clear c2b1
      try clear p2
      obtain ⟨x3_1, x5_1, rfl, HA, HK1, HO_3, HB⟩ := hrel
      cases gk with
      | zero => exact absurd HA.out (by simp [covenantlaw05_RowParses.l0])
      | succ k1 =>
        have H := HA.out
        clear HA
        simp only [covenantlaw05_RowParses.l0] at H
        by_cases c5 : x5_1 < 2
        · rw [if_pos c5] at H
          have c5b0 : decide (x5_1 < 2) = true := decide_eq_true c5
          clear c5
          replace H := Option.bind_eq_some_iff.mp H
          obtain ⟨⟨t837, t838⟩, A60, H⟩ := H
          replace H : (if t834 = t838 then ((covenantref05_Same.f k1 t837 x3_1).bind fun t841 => (covenantlaw05_RowParses.j1 k1 a0 x3_1 t834 x5_1 t837 (!t841))) else (covenantlaw05_RowParses.j1 k1 a0 x3_1 t834 x5_1 t837 true)) = some r := H
          have A6 := Aside0.mk A60
          clear A60
          have HC7 := Aside0.mk H
          clear H
          go_upto_region 8 with (first | ((with_reducible refine gate_callee (f := 63) rfl ?_); refine goesL_ (some 23) rfl rfl Tryd.func63 (by kernel_rfl) rfl #[.string a0] rfl (by (try simp only [List.map_toArray, List.map_cons, List.map_nil]); first | done | rfl | (simp only [List.length_drop, List.length_take]; rfl)) ?_; (with_reducible refine (row_Parse.calls k1 a0 t837 t838 _ A6.out ?sideG).mono ?_); (case sideG => exact GW.keep HG.out (by repeat (first | (with_reducible first | exact HB.out | apply below_alloc | apply pw_below_drewN | apply below_drew1) | exact HB.out))); rintro e w8 ⟨v839, rfl, ho0, hb⟩; refine ⟨_, rfl, ?_⟩; have n0_ := Aside0.mk (Kd.R_elder' (by (with_reducible repeat (first | apply Kd.R_alloc | apply Kd.R_drewN | apply Kd.R_drew)); exact HO_3.out) (Kd.R_base ho0) hb); have n1_ := Aside0.mk (Kd.R_lower (Kd.R_new' ho0 (Kd.R_lt (by (with_reducible repeat (first | apply Kd.R_alloc | apply Kd.R_drewN | apply Kd.R_drew)); exact HO_3.out))) (below_size (by repeat (first | (with_reducible first | exact HB.out | apply below_alloc | apply pw_below_drewN | apply below_drew1) | exact HB.out)))); have n2_ := Aside0.mk (below_step (by repeat (first | (with_reducible first | exact HB.out | apply below_alloc | apply pw_below_drewN | apply below_drew1) | exact HB.out)) hb); clear HO_3; clear HB; have HO_3 := n0_; have HO840 := n1_; have HB := n2_; clear n0_ n1_ n2_; (try clear hb); (try clear hb2); (try clear hk); (try clear hi); (try clear ho0)))
          (try simp only [Act.put, List.setIfInBounds_toArray, List.set_cons_zero, List.set_cons_succ])
          go_cut [34] (fun v34 wc => ∃ (kq : Nat) (x34_6 : Bool), v34 = .bool x34_6 ∧ Aside0 (covenantlaw05_RowParses.j1 kq a0 x3_1 t834 x5_1 t837 x34_6 = some r) ∧ Aside0 (kq ≤ k1) ∧ Aside0 (Kd.R k23 23 wc w.heap.size (fun k_ => some k_ ≠ (v839 : Value).ownBlock) v835 x3_1) ∧ Aside0 (Kd.R k23 23 wc w.heap.size (fun k_ => some k_ ≠ (v835 : Value).ownBlock) v839 t837) ∧ Aside0 (Below w.heap.size w wc))
          case first =>
            have H := HC7.out
            clear HC7
            by_cases c9 : t834 = t838
            · rw [if_pos c9] at H
              have c9b0 : (t834 == t838) = true := beq_iff_eq.mpr c9
              have c9b1 : (t834 != t838) = false := bne_eq_false_iff_eq.mpr c9
              clear c9
              (first | rw [c9b0] | (simp only [i64_w, i32_w]; rw [c9b0]) | skip)
              replace H := Option.bind_eq_some_iff.mp H
              obtain ⟨t841, A100, H⟩ := H
              replace H : (covenantlaw05_RowParses.j1 k1 a0 x3_1 t834 x5_1 t837 (!t841)) = some r := H
              have A10 := Aside0.mk A100
              clear A100
              have H' := Aside0.mk H
              clear H
              obtain ⟨Ao11, co11, eo11⟩ := Kd.R_slice HO840.out
              subst eo11
              obtain ⟨Ao12, co12, eo12⟩ := Kd.R_slice HO_3.out
              subst eo12
              go_wp2_with (first | (go_at_call 35; (with_reducible refine (covenantref05_Same.calls k1 _ _ t837 _ _ x3_1 t841 _ ?side1 ?side2 ?side3 ?side4 A10.out).mono ?_); (case side1 => repeat (first | exact (Kd.R_reads' HO840.out).2.2 | (with_reducible refine Kd.C_alloc ?_ _) | (with_reducible refine Kd.C_drewN ?_ _) | (with_reducible refine Kd.C_drew ?_))); (case side2 => exact (Kd.R_reads' HO840.out).2.1); (case side3 => repeat (first | exact (Kd.R_reads' HO_3.out).2.2 | (with_reducible refine Kd.C_alloc ?_ _) | (with_reducible refine Kd.C_drewN ?_ _) | (with_reducible refine Kd.C_drew ?_))); (case side4 => exact (Kd.R_reads' HO_3.out).2.1); rintro e w' ⟨rfl, ⟨nd, rfl⟩⟩))
              go_meet
              case rel => exact ⟨_, (!t841), (by first | rfl | (simp; done) | (simp [*]; done)), H', ⟨by have := HK1.out; first | omega | exact Nat.le_refl _⟩, ⟨by (with_reducible repeat (first | apply Kd.R_alloc | apply Kd.R_drewN | apply Kd.R_drew)); exact Kd.R_mono HO_3.out (fun _ hk => hk.2)⟩, ⟨by (with_reducible repeat (first | apply Kd.R_alloc | apply Kd.R_drewN | apply Kd.R_drew)); exact Kd.R_mono HO840.out (fun _ hk => hk.2)⟩, ⟨by repeat (first | (with_reducible first | exact HB.out | apply below_alloc | apply pw_below_drewN | apply below_drew1) | exact HB.out)⟩⟩
            · rw [if_neg c9] at H
              have c9b0 : (t834 == t838) = false := beq_eq_false_iff_ne.mpr c9
              have c9b1 : (t834 != t838) = true := bne_iff_ne.mpr c9
              (first | rw [c9b0] | (simp only [i64_w, i32_w]; rw [c9b0]) | skip)
              have H' := Aside0.mk H
              clear H
              go_wp2
              go_meet
              case rel => exact ⟨_, (true), (by first | rfl | (simp; done) | (simp [*]; done)), H', ⟨by have := HK1.out; first | omega | exact Nat.le_refl _⟩, ⟨by (with_reducible repeat (first | apply Kd.R_alloc | apply Kd.R_drewN | apply Kd.R_drew)); exact Kd.R_mono HO_3.out (fun _ hk => hk.2)⟩, ⟨by (with_reducible repeat (first | apply Kd.R_alloc | apply Kd.R_drewN | apply Kd.R_drew)); exact Kd.R_mono HO840.out (fun _ hk => hk.2)⟩, ⟨by repeat (first | (with_reducible first | exact HB.out | apply below_alloc | apply pw_below_drewN | apply below_drew1) | exact HB.out)⟩⟩
          case rest =>
            clear HC7
            try clear c1
            try clear c2
            try clear c2b0
            try clear c2b1
            try clear p2
            try clear c5
            try clear c5b0
            try clear c6
            try clear c9
            try clear c9b0
            try clear c9b1
            try clear p2
            obtain ⟨kq, x34_6, rfl, HA, HJ6, HO_3, HO_6, HB⟩ := hcut
            cases kq with
            | zero => exact absurd HA.out (by simp [covenantlaw05_RowParses.j1])
            | succ kj6 =>
              have H := HA.out
              clear HA
              simp only [covenantlaw05_RowParses.j1] at H
              by_cases c13 : x34_6 = true
              · subst c13
                have H1 : (some false) = some r := by rw [if_pos rfl] at H; exact H
                clear H
                have H := H1
                clear H1
                obtain rfl := Option.some.inj H
                go_wp2
                go_ret
                exact ⟨by first | rfl | (simp [errW_none, errW_some] <;> rfl) | (simp [*, errW_none, errW_some] <;> rfl), by repeat (first | (with_reducible first | exact HB.out | apply below_alloc | apply pw_below_drewN | apply below_drew1) | exact HB.out)⟩
              · replace c13 := Bool.eq_false_iff.mpr c13
                subst c13
                have H1 : (covenantlaw05_RowParses.l1 kj6 a0 x3_1 t834 x5_1 t837 0) = some r := by rw [if_neg (show ¬ (false = true) by decide)] at H; exact H
                clear H
                have H := H1
                clear H1
                have H' := Aside0.mk H
                clear H
                go_wp2
                go_loopg [8] kj6 (fun kq v8 w' => ∃ (x6_3 : List (S23)) (x8_3 : Int), v8 = .int .i64 x8_3 ∧ Aside0 (covenantlaw05_RowParses.l1 kq a0 x3_1 t834 x5_1 x6_3 x8_3 = some r) ∧ Aside0 (kq ≤ kj6) ∧ Aside0 (Kd.R k23 23 w' w.heap.size (fun k_ => some k_ ≠ (v839 : Value).ownBlock) v835 x3_1) ∧ Aside0 (Kd.R k23 23 w' w.heap.size (fun k_ => some k_ ≠ (v835 : Value).ownBlock) v839 x6_3) ∧ Aside0 (Below w.heap.size w w'))
                case atStart => exact ⟨(t837), (0), (by first | rfl | (simp; done) | (simp [*]; done)), H', ⟨Nat.le_refl _⟩, ⟨by (with_reducible repeat (first | apply Kd.R_alloc | apply Kd.R_drewN | apply Kd.R_drew)); exact HO_3.out⟩, ⟨by (with_reducible repeat (first | apply Kd.R_alloc | apply Kd.R_drewN | apply Kd.R_drew)); exact HO_6.out⟩, ⟨by repeat (first | (with_reducible first | exact HB.out | apply below_alloc | apply pw_below_drewN | apply below_drew1) | exact HB.out)⟩⟩
                case round =>
                  clear H'
                  try clear c1
                  try clear c2
                  try clear c2b0
                  try clear c2b1
                  try clear p2
                  try clear c5
                  try clear c5b0
                  try clear c6
                  try clear c9
                  try clear c9b0
                  try clear c9b1
                  try clear c13
                  try clear p2
                  obtain ⟨x6_3, x8_3, rfl, HA, HK3, HO_3, HO_6, HB⟩ := hrel
                  cases gk with
                  | zero => exact absurd HA.out (by simp [covenantlaw05_RowParses.l1])
                  | succ k3 =>
                    have H := HA.out
                    clear HA
                    simp only [covenantlaw05_RowParses.l1] at H
                    by_cases c14 : x8_3 < (x6_3.length : Int)
                    · rw [if_pos c14] at H
                      have c14b0 : decide (x8_3 < (x6_3.length : Int)) = true := decide_eq_true c14
                      clear c14
                      by_cases c15 : 0 ≤ x8_3
                      · rw [if_pos c15] at H
                        have c15b0 : decide (0 ≤ x8_3) = true := decide_eq_true c15
                        clear c15
                        obtain ⟨y842, hy842⟩ : ∃ y_ : List (S23), y_ = (x6_3.set (x8_3 : Int).toNat (⟨9, 0, 0, (⟨#[]⟩ : ByteArray)⟩ : S23)) := ⟨_, rfl⟩
                        replace H : (covenantlaw05_RowParses.l1 k3 a0 x3_1 t834 x5_1 y842 (wrap64 (x8_3 + 1))) = some r := by first | (rw [hy842]; with_reducible exact H) | (have H2_ := (Option.bind_some _ _).symm.trans H; rw [hy842]; with_reducible exact H2_) | (have H2_ := (Option.bind_some _ _).symm.trans H; with_reducible exact H2_) | with_reducible exact H | (rw [hy842]; exact H) | exact H
                        have Ny842 := Aside0.mk hy842
                        clear hy842
                        have H' := Aside0.mk H
                        clear H
                        obtain ⟨Ao17, co17, eo17⟩ := Kd.R_slice HO_6.out
                        subst eo17
                        have p16 : 0 ≤ (x8_3 : Int) := of_decide_eq_true (by first | (with_reducible assumption) | assumption)
                        have q16 : (x8_3 : Int) < ((x6_3.length : Int) : Int) := of_decide_eq_true (by first | (with_reducible assumption) | assumption)
                        obtain ⟨go16, co16, eo16, gb16, gl16, cl16, HG16⟩ := Kd.R_form HO_6.out (by omega)
                        (first | cases eo16 | (injection eo16 with ea_ en_ ec_; (first | subst ea_ | (injection ea_ with ea_; subst ea_)); subst ec_; clear en_))
                        have GB16 := Aside0.mk gb16
                        have GG16 := Aside0.mk HG16
                        clear gb16 gl16 HG16
                        obtain ⟨ce16, hcl16, hM16, hcc16, hfr16⟩ := Kd.R_elem HO_6.out z23 (x8_3 : Int) p16 q16
                        obtain rfl := k23_openM hM16
                        have hx16_0 : wr.cell? ⟨go16, (x8_3 : Int).toNat * 4, none⟩ = some (.int .u8 ((rd_T23 x6_3 x8_3).f0)) := hcc16 0 _ rfl
                        have hx16_1 : wr.cell? ⟨go16, (x8_3 : Int).toNat * 4 + 1, none⟩ = some (.int .i64 ((rd_T23 x6_3 x8_3).f1)) := hcc16 1 _ rfl
                        have hx16_2 : wr.cell? ⟨go16, (x8_3 : Int).toNat * 4 + 2, none⟩ = some (.int .i64 ((rd_T23 x6_3 x8_3).f2)) := hcc16 2 _ rfl
                        have hx16_3 : wr.cell? ⟨go16, (x8_3 : Int).toNat * 4 + 3, none⟩ = some (.string ((rd_T23 x6_3 x8_3).f3)) := hcc16 3 _ rfl
                        have hf16_0 : wr.frozen? ⟨go16, (x8_3 : Int).toNat * 4, none⟩ = false := hfr16 0
                        have hf16_1 : wr.frozen? ⟨go16, (x8_3 : Int).toNat * 4 + 1, none⟩ = false := hfr16 1
                        have hf16_2 : wr.frozen? ⟨go16, (x8_3 : Int).toNat * 4 + 2, none⟩ = false := hfr16 2
                        have hf16_3 : wr.frozen? ⟨go16, (x8_3 : Int).toNat * 4 + 3, none⟩ = false := hfr16 3
                        clear hcl16 hcc16 hfr16 hM16
                        replace p16 := eq_true p16
                        replace q16 := eq_true q16
                        have HX18 := Aside0.mk (show Kd.R k23 23 wr w.heap.size (fun k_ => some k_ ≠ (v835 : Value).ownBlock) (.slice (some ⟨go16, 0, none⟩) x6_3.length co17) x6_3 from (by (with_reducible repeat (first | apply Kd.R_alloc | apply Kd.R_drewN | apply Kd.R_drew)); exact HO_6.out))
                        obtain ⟨ce18, hcl18, hM18, hcc18, hfr18⟩ := Kd.R_elem HX18.out z23 (x8_3 : Int) (of_decide_eq_true (by first | (with_reducible assumption) | assumption)) (by have h_ : (x8_3 : Int) < ((x6_3.length : Int) : Int) := of_decide_eq_true (by first | (with_reducible assumption) | assumption); first | exact h_ | (have e_ := (Kd.R_reads' HO_6.out).1; omega) | simpa using h_)
                        obtain rfl := k23_openM hM18
                        have HP18 := Kd.R_seg HX18.out (x8_3 : Int) (of_decide_eq_true (by first | (with_reducible assumption) | assumption)) (by have h_ : (x8_3 : Int) < ((x6_3.length : Int) : Int) := of_decide_eq_true (by first | (with_reducible assumption) | assumption); first | exact h_ | (have e_ := (Kd.R_reads' HO_6.out).1; omega) | simpa using h_) (seg := [.int .u8 9, .int .i64 0, .int .i64 0, .string (⟨#[]⟩ : ByteArray)]) (j := 0) hcl18 hcc18 (show 4 ≤ 4 from by decide) (x' := (⟨9, 0, 0, (⟨#[]⟩ : ByteArray)⟩ : S23)) (k23_mkM _ _ _ (⟨9, 0, 0, (⟨#[]⟩ : ByteArray)⟩ : S23) ) (fun _ hk => hk)
                        have hx18_0 := hcc18 0 _ rfl
                        (try simp only [show (k23).sz = 4 from rfl, Nat.mul_one, Nat.add_zero] at hx18_0)
                        have hf18_0 := hfr18 0
                        (try simp only [show (k23).sz = 4 from rfl, Nat.mul_one, Nat.add_zero] at hf18_0)
                        have hx18_1 := hcc18 1 _ rfl
                        (try simp only [show (k23).sz = 4 from rfl, Nat.mul_one, Nat.add_zero] at hx18_1)
                        have hf18_1 := hfr18 1
                        (try simp only [show (k23).sz = 4 from rfl, Nat.mul_one, Nat.add_zero] at hf18_1)
                        have hx18_2 := hcc18 2 _ rfl
                        (try simp only [show (k23).sz = 4 from rfl, Nat.mul_one, Nat.add_zero] at hx18_2)
                        have hf18_2 := hfr18 2
                        (try simp only [show (k23).sz = 4 from rfl, Nat.mul_one, Nat.add_zero] at hf18_2)
                        have hx18_3 := hcc18 3 _ rfl
                        (try simp only [show (k23).sz = 4 from rfl, Nat.mul_one, Nat.add_zero] at hx18_3)
                        have hf18_3 := hfr18 3
                        (try simp only [show (k23).sz = 4 from rfl, Nat.mul_one, Nat.add_zero] at hf18_3)
                        clear hcl18 hcc18 hfr18 hM18
                        go_wp2_with (first | ((with_reducible refine gate_store (t := 23) (p := 44) rfl ?_); refine store_event (t := 23) (p := 44) (v := ?vo_w19) (w1 := ((((wr.setCell ⟨go16, (x8_3 : Int).toNat * 4, none⟩ (.int .u8 9)).setCell ⟨go16, (x8_3 : Int).toNat * 4 + 1, none⟩ (.int .i64 0)).setCell ⟨go16, (x8_3 : Int).toNat * 4 + 2, none⟩ (.int .i64 0)).setCell ⟨go16, (x8_3 : Int).toNat * 4 + 3, none⟩ (.string (⟨#[]⟩ : ByteArray)))) ?hg ?ho ?hn ?hr ?_; (case ho => rfl); (case hg => rfl); (case hn => rfl); (case hr => first | (go_simp; done) | (go_simp; rfl)); intro w19 hw; have hg : wr.grownBy w19 (some go16) := (by rw [hw]; exact HP18.2); have hp_ : Kd.R k23 23 w19 w.heap.size (fun k_ => some k_ ≠ (v835 : Value).ownBlock) (.slice (some ⟨go16, 0, none⟩) x6_3.length co17) y842 := (by rw [hw, Ny842.out]; exact HP18.1); clear HP18; have n0_ := Aside0.mk (Kd.R_after (v := (.slice (some ⟨go16, 0, none⟩) x6_3.length co17)) (v1 := (.slice (some ⟨go16, 0, none⟩) x6_3.length co17)) (ok := (fun _ => True)) (by (with_reducible repeat (first | apply Kd.R_alloc | apply Kd.R_drewN | apply Kd.R_drew)); exact Kd.R_mono HO_3.out (fun _ hk => ⟨trivial, hk⟩)) hg (.inl rfl)); have n1_ := Aside0.mk (hp_); have n2_ := Aside0.mk ((by rw [hw]; exact below_set (below_set (below_set (below_set (HB.out) GB16.out) GB16.out) GB16.out) GB16.out : Below w.heap.size w w19)); clear HO_3; clear HO_6; clear HB; have HO_3 := n0_; have HO_6 := n1_; have HB := n2_; clear n0_ n1_ n2_; clear hg hw hp_))
                        go_roundg k3
                        case measure => have := HK1.out; have := HJ6.out; have := HK3.out; omega
                        case rel => exact ⟨(y842), (wrap64 (x8_3 + 1)), (by first | rfl | (simp; done) | (simp [*]; done)), H', ⟨by have := HK1.out; have := HJ6.out; have := HK3.out; omega⟩, ⟨by (with_reducible repeat (first | apply Kd.R_alloc | apply Kd.R_drewN | apply Kd.R_drew)); exact Kd.R_mono HO_3.out (fun _ hk => hk.2)⟩, ⟨by (with_reducible repeat (first | apply Kd.R_alloc | apply Kd.R_drewN | apply Kd.R_drew)); exact HO_6.out⟩, ⟨by repeat (first | (with_reducible first | exact HB.out | apply below_alloc | apply pw_below_drewN | apply below_drew1) | exact HB.out)⟩⟩
                      · rw [if_neg c15] at H
                        exact absurd H (by simp)
                    · rw [if_neg c14] at H
                      have c14b0 : decide (x8_3 < (x6_3.length : Int)) = false := decide_eq_false c14
                      clear c14
                      have H' := Aside0.mk H
                      clear H
                      obtain ⟨Ao20, co20, eo20⟩ := Kd.R_slice HO_6.out
                      subst eo20
                      go_wp2
                      go_roundg k3
                      case measure => have := HK1.out; have := HJ6.out; have := HK3.out; omega
                      case rel => exact ⟨(x3_1), (wrap64 (x5_1 + 1)), (by first | rfl | (simp; done) | (simp [*]; done)), H', ⟨by have := HK1.out; have := HJ6.out; have := HK3.out; omega⟩, ⟨by (with_reducible repeat (first | apply Kd.R_alloc | apply Kd.R_drewN | apply Kd.R_drew)); exact Kd.R_mono HO_3.out (fun _ hk => trivial)⟩, ⟨by repeat (first | (with_reducible first | exact HB.out | apply below_alloc | apply pw_below_drewN | apply below_drew1) | exact HB.out)⟩⟩
        · rw [if_neg c5] at H
          have c5b0 : decide (x5_1 < 2) = false := decide_eq_false c5
          clear c5
          obtain rfl := Option.some.inj H
          go_wp2
          go_ret
          exact ⟨by first | rfl | (simp [errW_none, errW_some] <;> rfl) | (simp [*, errW_none, errW_some] <;> rfl), by repeat (first | (with_reducible first | exact HB.out | apply below_alloc | apply pw_below_drewN | apply below_drew1) | exact HB.out)⟩


end Go.Proofs.YtddmllocjocipaaDoor.D
