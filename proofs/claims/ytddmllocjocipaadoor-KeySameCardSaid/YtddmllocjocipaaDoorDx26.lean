/- What the functions that a law reaches come to, as plain Lean functions, and the law's row: written by a session's own program over the kit's print.py, some functions proved by hand. Conditions: as each theorem states them. -/
import Derived.Test.YtddmllocjocipaaDoorDx0
import Derived.Test.YtddmllocjocipaaDoorDx1
import Derived.Test.YtddmllocjocipaaDoorDx18
import Derived.Test.YtddmllocjocipaaDoorDx25
import Derived.Test.YtddmllocjocipaaDoorGw
namespace Go.Proofs.YtddmllocjocipaaDoor.D
open Go.RowKit Go.Proofs.YtddmllocjocipaaDoorW.PrintWords Go.Proofs.YtddmllocjocipaaDoorW.PrintLast Go.Proofs.YtddmllocjocipaaDoorW.PrintMore
attribute [local go_sem] max2_int min2_int max_two min_two max_three min_three max_four min_four   -- for this text's walks alone
set_option linter.unusedVariables false
set_option linter.unusedSimpArgs false

attribute [local go_sem high] eqA23
/-! ### key_Set: function 42 -/
mutual
def key_Set.j0 : Nat → List (S23) → List Int → List (S23) → Bool → Option ((List (S23)) × Int)
  | 0, _, _, _, _ => none
  | k + 1, x0, x1, x2, x22 => if x22 = true then (some (([] : List (S23)), 4)) else ((api_Value_81.f x0).bind fun t677 => (key_Set.l0 k x2 t677 x1 (x1.length : Int) 0))
def key_Set.l0 : Nat → List (S23) → List (S23) → List Int → Int → Int → Option ((List (S23)) × Int)
  | 0, _, _, _, _, _ => none
  | k + 1, x2, x8, x25, x26, x27 => if x27 < x26 then (if 0 ≤ x27 then (if x27 < (x25.length : Int) then (if x27 < (x2.length : Int) then (if 0 ≤ (rd x25 x27) then (if (rd x25 x27) < (x8.length : Int) then (key_Set.l0 k x2 (x8.set ((rd x25 x27) : Int).toNat (⟨(rd_T23 x2 x27).f0, (rd_T23 x2 x27).f1, (rd_T23 x2 x27).f2, (rd_T23 x2 x27).f3⟩ : S23)) x25 x26 (wrap64 (x27 + 1))) else (none)) else (none)) else (none)) else (none)) else (none)) else (some (x8, 0))
end
def key_Set.f (k : Nat) (l0 : List (S23)) (l1 : List Int) (l2 : List (S23)) : Option ((List (S23)) × Int) := (key_May.f k l1 (l0.length : Int)).bind fun t676 => (if t676 = true then (key_Set.j0 k l0 l1 l2 ((l2.length : Int) != (l1.length : Int))) else (key_Set.j0 k l0 l1 l2 true))
theorem key_Set.mono_l : ∀ k, (∀ y0 y1 y2 y3, LeO (key_Set.j0 k y0 y1 y2 y3) (key_Set.j0 (k + 1) y0 y1 y2 y3)) ∧ (∀ y0 y1 y2 y3 y4, LeO (key_Set.l0 k y0 y1 y2 y3 y4) (key_Set.l0 (k + 1) y0 y1 y2 y3 y4))
  | 0 => ⟨fun _ _ _ _ r h => by simp [key_Set.j0] at h, fun _ _ _ _ _ r h => by simp [key_Set.l0] at h⟩
  | k + 1 => by
    obtain ⟨ih0, ih1⟩ := key_Set.mono_l k
    refine ⟨?_, ?_⟩
    · intro y0 y1 y2 y3
      unfold key_Set.j0
      repeat' first
      | (with_reducible exact ih0 _ _ _ _)
      | (with_reducible exact ih1 _ _ _ _ _)
      | (with_reducible exact key_May.mono _ _ _)
      | (with_reducible exact LeO.refl _)
      | (with_reducible exact LeO.none _)
      | (with_reducible refine LeO.ite ?_ ?_)
      | (with_reducible refine LeO.bind ?_ (fun _ => ?_))
      | exact ih0 _ _ _ _
      | exact ih1 _ _ _ _ _
      | exact key_May.mono _ _ _
      | exact LeO.none _
      | refine LeO.ite ?_ ?_
      | refine LeO.bind ?_ (fun _ => ?_)
    · intro y0 y1 y2 y3 y4
      unfold key_Set.l0
      repeat' first
      | (with_reducible exact ih0 _ _ _ _)
      | (with_reducible exact ih1 _ _ _ _ _)
      | (with_reducible exact key_May.mono _ _ _)
      | (with_reducible exact LeO.refl _)
      | (with_reducible exact LeO.none _)
      | (with_reducible refine LeO.ite ?_ ?_)
      | (with_reducible refine LeO.bind ?_ (fun _ => ?_))
      | exact ih0 _ _ _ _
      | exact ih1 _ _ _ _ _
      | exact key_May.mono _ _ _
      | exact LeO.none _
      | refine LeO.ite ?_ ?_
      | refine LeO.bind ?_ (fun _ => ?_)
theorem key_Set.mono : ∀ a0 a1 a2 k, LeO (key_Set.f k a0 a1 a2) (key_Set.f (k + 1) a0 a1 a2) := by
  intro a0 a1 a2 k
  obtain ⟨ih0, ih1⟩ := key_Set.mono_l k
  unfold key_Set.f
  repeat' first
      | (with_reducible exact ih0 _ _ _ _)
      | (with_reducible exact ih1 _ _ _ _ _)
      | (with_reducible exact key_May.mono _ _ _)
      | (with_reducible exact LeO.refl _)
      | (with_reducible exact LeO.none _)
      | (with_reducible refine LeO.ite ?_ ?_)
      | (with_reducible refine LeO.bind ?_ (fun _ => ?_))
      | exact ih0 _ _ _ _
      | exact ih1 _ _ _ _ _
      | exact key_May.mono _ _ _
      | exact LeO.none _
      | refine LeO.ite ?_ ?_
      | refine LeO.bind ?_ (fun _ => ?_)
set_option maxHeartbeats 8000000 in
set_option maxRecDepth 100000 in
theorem key_Set.calls (k : Nat) (A0 : Option Addr) (c0 : Nat) (l0 : List (S23)) (A1 : Option Addr) (c1 : Nat) (l1 : List Int) (A2 : Option Addr) (c2 : Nat) (l2 : List (S23)) (r1 : List (S23)) (r2 : Int) (w : World) (hr0 : Kd.C k23 w A0 l0.length l0) (hc0 : l0.length ≤ c0) (hr1 : Kd.C (Kd.int .i64) w A1 l1.length l1) (hc1 : l1.length ≤ c1) (hr2 : Kd.C k23 w A2 l2.length l2) (hc2 : l2.length ≤ c2) (h : key_Set.f k l0 l1 l2 = some (r1, r2)) :
    Calls Tryd.prog 42 #[.slice A0 l0.length c0, .slice A1 l1.length c1, .slice A2 l2.length c2] w fun e w' => ∃ v0_ : Value, e = .returned (.tuple #[v0_, .int .i64 r2]) ∧ Kd.R k23 23 w' w.heap.size (fun _ => True) v0_ r1 ∧ Below w.heap.size w w' := by
  have hu23 := Tryd.underlying23
  have HR0 := Aside0.mk hr0
  have HC0 := Aside0.mk hc0
  clear hr0 hc0
  have HR1 := Aside0.mk hr1
  have HC1 := Aside0.mk hc1
  clear hr1 hc1
  have HR2 := Aside0.mk hr2
  have HC2 := Aside0.mk hc2
  clear hr2 hc2
  have HB := Aside0.mk (Below.refl w.heap.size w)
  have H : ((key_May.f k l1 (l0.length : Int)).bind fun t676 => (if t676 = true then (key_Set.j0 k l0 l1 l2 ((l2.length : Int) != (l1.length : Int))) else (key_Set.j0 k l0 l1 l2 true))) = some (r1, r2) := h
  clear h
  have HC4 := Aside0.mk H
  clear H
  go_enter Tryd.func42, Tryd.ntmps42
  go_upto_region 1 with (fail)
  go_cut [22] (fun v22 wc => ∃ (kq : Nat) (x22_3 : Bool), v22 = .bool x22_3 ∧ Aside0 (key_Set.j0 kq l0 l1 l2 x22_3 = some (r1, r2)) ∧ Aside0 (kq ≤ k) ∧ Aside0 (Below w.heap.size w wc))
  case first =>
    have H := HC4.out
    clear HC4
    replace H := Option.bind_eq_some_iff.mp H
    obtain ⟨t676, A50, H⟩ := H
    replace H : (if t676 = true then (key_Set.j0 k l0 l1 l2 ((l2.length : Int) != (l1.length : Int))) else (key_Set.j0 k l0 l1 l2 true)) = some (r1, r2) := H
    have A5 := Aside0.mk A50
    clear A50
    by_cases c6 : t676 = true
    · subst c6
      have H1 : (key_Set.j0 k l0 l1 l2 ((l2.length : Int) != (l1.length : Int))) = some (r1, r2) := by rw [if_pos rfl] at H; exact H
      clear H
      have H := H1
      clear H1
      have H' := Aside0.mk H
      clear H
      go_wp2_with (first | ((with_reducible refine gate_callee (f := 46) rfl ?_); refine goesL_ (some 14) rfl rfl Tryd.func46 (by kernel_rfl) rfl #[.slice A1 l1.length c1, .int .i64 (l0.length : Int)] rfl (by (try simp only [List.map_toArray, List.map_cons, List.map_nil]); first | done | rfl | (simp only [List.length_drop, List.length_take]; rfl)) ?_; (with_reducible refine (key_May.calls k _ _ l1 (l0.length : Int) true _ ?side1 ?side2 A5.out).mono ?_); (case side1 => repeat (first | exact (Kd.C_below HR1.out HB.out) | (with_reducible refine Kd.C_alloc ?_ _) | (with_reducible refine Kd.C_drewN ?_ _) | (with_reducible refine Kd.C_drew ?_))); (case side2 => exact HC1.out); rintro e w' ⟨rfl, ⟨nd, rfl⟩⟩; refine ⟨_, rfl, ?_⟩))
      go_meet
      case rel => exact ⟨_, (((l2.length : Int) != (l1.length : Int))), (by first | rfl | (simp; done) | (simp [*]; done)), H', ⟨by first | omega | exact Nat.le_refl _⟩, ⟨by repeat (first | (with_reducible first | exact HB.out | apply below_alloc | apply pw_below_drewN | apply below_drew1) | exact HB.out)⟩⟩
    · replace c6 := Bool.eq_false_iff.mpr c6
      subst c6
      have H1 : (key_Set.j0 k l0 l1 l2 true) = some (r1, r2) := by rw [if_neg (show ¬ (false = true) by decide)] at H; exact H
      clear H
      have H := H1
      clear H1
      have H' := Aside0.mk H
      clear H
      go_wp2_with (first | ((with_reducible refine gate_callee (f := 46) rfl ?_); refine goesL_ (some 14) rfl rfl Tryd.func46 (by kernel_rfl) rfl #[.slice A1 l1.length c1, .int .i64 (l0.length : Int)] rfl (by (try simp only [List.map_toArray, List.map_cons, List.map_nil]); first | done | rfl | (simp only [List.length_drop, List.length_take]; rfl)) ?_; (with_reducible refine (key_May.calls k _ _ l1 (l0.length : Int) false _ ?side1 ?side2 A5.out).mono ?_); (case side1 => repeat (first | exact (Kd.C_below HR1.out HB.out) | (with_reducible refine Kd.C_alloc ?_ _) | (with_reducible refine Kd.C_drewN ?_ _) | (with_reducible refine Kd.C_drew ?_))); (case side2 => exact HC1.out); rintro e w' ⟨rfl, ⟨nd, rfl⟩⟩; refine ⟨_, rfl, ?_⟩))
      go_meet
      case rel => exact ⟨_, (true), (by first | rfl | (simp; done) | (simp [*]; done)), H', ⟨by first | omega | exact Nat.le_refl _⟩, ⟨by repeat (first | (with_reducible first | exact HB.out | apply below_alloc | apply pw_below_drewN | apply below_drew1) | exact HB.out)⟩⟩
  case rest =>
    clear HC4
    try clear c1
    try clear c2
    try clear p2
    try clear c4
    try clear c6
    obtain ⟨kq, x22_3, rfl, HA, HJ3, HB⟩ := hcut
    cases kq with
    | zero => exact absurd HA.out (by simp [key_Set.j0])
    | succ kj3 =>
      have H := HA.out
      clear HA
      simp only [key_Set.j0] at H
      by_cases c7 : x22_3 = true
      · subst c7
        have H1 : (some (([] : List (S23)), 4)) = some (r1, r2) := by rw [if_pos rfl] at H; exact H
        clear H
        have H := H1
        clear H1
        simp only [Option.some.injEq, Prod.mk.injEq] at H
        obtain ⟨rfl, rfl⟩ := H
        go_wp2
        go_ret2
        exact ⟨_, by first | rfl | (simp [errW_none, errW_some] <;> rfl) | (simp [*, errW_none, errW_some] <;> rfl), by first | exact Kd.R_nil _ _ _ _ _ | exact Kd.N_nil _ _ _ _ _ | exact Kd.V_nil _ _ _ _ _ | exact Kd.Q_nil _ _ _ _ _ | exact Kd.S_nil _ _ _ _ _, by repeat (first | (with_reducible first | exact HB.out | apply below_alloc | apply pw_below_drewN | apply below_drew1) | exact HB.out)⟩
      · replace c7 := Bool.eq_false_iff.mpr c7
        subst c7
        have H1 : ((api_Value_81.f l0).bind fun t677 => (key_Set.l0 kj3 l2 t677 l1 (l1.length : Int) 0)) = some (r1, r2) := by rw [if_neg (show ¬ (false = true) by decide)] at H; exact H
        clear H
        have H := H1
        clear H1
        replace H := Option.bind_eq_some_iff.mp H
        obtain ⟨t677, A80, H⟩ := H
        replace H : (key_Set.l0 kj3 l2 t677 l1 (l1.length : Int) 0) = some (r1, r2) := H
        have A8 := Aside0.mk A80
        clear A80
        have H' := Aside0.mk H
        clear H
        go_wp2_with (first | ((with_reducible refine gate_callee (f := 81) rfl ?_); refine goesL_ (some 24) rfl rfl Tryd.func81 (by kernel_rfl) rfl #[.slice A0 l0.length c0] rfl (by (try simp only [List.map_toArray, List.map_cons, List.map_nil]); first | done | rfl | (simp only [List.length_drop, List.length_take]; rfl)) ?_; (with_reducible refine (api_Value_81.calls _ _ l0 t677 _ ?side1 ?side2 A8.out).mono ?_); (case side1 => repeat (first | exact (Kd.C_below HR0.out HB.out) | (with_reducible refine Kd.C_alloc ?_ _) | (with_reducible refine Kd.C_drewN ?_ _) | (with_reducible refine Kd.C_drew ?_))); (case side2 => exact HC0.out); rintro e w9 ⟨v678, rfl, ho0, hb⟩; refine ⟨_, rfl, ?_⟩; have n0_ := Aside0.mk (Kd.R_lower ho0 (below_size (by repeat (first | (with_reducible first | exact HB.out | apply below_alloc | apply pw_below_drewN | apply below_drew1) | exact HB.out)))); have n1_ := Aside0.mk (below_step (by repeat (first | (with_reducible first | exact HB.out | apply below_alloc | apply pw_below_drewN | apply below_drew1) | exact HB.out)) hb); clear HB; have HO679 := n0_; have HB := n1_; clear n0_ n1_; (try clear hb); (try clear hb2); (try clear hk); (try clear hi); (try clear ho0)))
        go_loopg [27] kj3 (fun kq v27 w' => ∃ (x8_2 : List (S23)) (x27_2 : Int), v27 = .int .i64 x27_2 ∧ Aside0 (key_Set.l0 kq l2 x8_2 l1 (l1.length : Int) x27_2 = some (r1, r2)) ∧ Aside0 (kq ≤ kj3) ∧ Aside0 (Kd.R k23 23 w' w.heap.size (fun _ => True) v678 x8_2) ∧ Aside0 (Below w.heap.size w w'))
        case atStart => exact ⟨(t677), (0), (by first | rfl | (simp; done) | (simp [*]; done)), H', ⟨Nat.le_refl _⟩, ⟨by (with_reducible repeat (first | apply Kd.R_alloc | apply Kd.R_drewN | apply Kd.R_drew)); exact HO679.out⟩, ⟨by repeat (first | (with_reducible first | exact HB.out | apply below_alloc | apply pw_below_drewN | apply below_drew1) | exact HB.out)⟩⟩
        case round =>
          clear H'
          try clear c1
          try clear c2
          try clear p2
          try clear c4
          try clear c6
          try clear c7
          try clear c8
          try clear p2
          obtain ⟨x8_2, x27_2, rfl, HA, HK2, HO_8, HB⟩ := hrel
          cases gk with
          | zero => exact absurd HA.out (by simp [key_Set.l0])
          | succ k2 =>
            have H := HA.out
            clear HA
            simp only [key_Set.l0] at H
            by_cases c10 : x27_2 < (l1.length : Int)
            · rw [if_pos c10] at H
              have c10b0 : decide (x27_2 < (l1.length : Int)) = true := decide_eq_true c10
              clear c10
              by_cases c11 : 0 ≤ x27_2
              · rw [if_pos c11] at H
                have c11b0 : decide (0 ≤ x27_2) = true := decide_eq_true c11
                clear c11
                by_cases c12 : x27_2 < (l1.length : Int)
                · rw [if_pos c12] at H
                  have c12b0 : decide (x27_2 < (l1.length : Int)) = true := decide_eq_true c12
                  clear c12
                  by_cases c13 : x27_2 < (l2.length : Int)
                  · rw [if_pos c13] at H
                    have c13b0 : decide (x27_2 < (l2.length : Int)) = true := decide_eq_true c13
                    clear c13
                    by_cases c14 : 0 ≤ (rd l1 x27_2)
                    · rw [if_pos c14] at H
                      have c14b0 : decide (0 ≤ (rd l1 x27_2)) = true := decide_eq_true c14
                      clear c14
                      by_cases c15 : (rd l1 x27_2) < (x8_2.length : Int)
                      · rw [if_pos c15] at H
                        have c15b0 : decide ((rd l1 x27_2) < (x8_2.length : Int)) = true := decide_eq_true c15
                        clear c15
                        obtain ⟨y682, hy682⟩ : ∃ y_ : List (S23), y_ = (x8_2.set ((rd l1 x27_2) : Int).toNat (⟨(rd_T23 l2 x27_2).f0, (rd_T23 l2 x27_2).f1, (rd_T23 l2 x27_2).f2, (rd_T23 l2 x27_2).f3⟩ : S23)) := ⟨_, rfl⟩
                        replace H : (key_Set.l0 k2 l2 y682 l1 (l1.length : Int) (wrap64 (x27_2 + 1))) = some (r1, r2) := by first | (rw [hy682]; with_reducible exact H) | (have H2_ := (Option.bind_some _ _).symm.trans H; rw [hy682]; with_reducible exact H2_) | (have H2_ := (Option.bind_some _ _).symm.trans H; with_reducible exact H2_) | with_reducible exact H | (rw [hy682]; exact H) | exact H
                        have Ny682 := Aside0.mk hy682
                        clear hy682
                        have H' := Aside0.mk H
                        clear H
                        have p680 : 0 ≤ (x27_2 : Int) := of_decide_eq_true (by first | (with_reducible assumption) | assumption)
                        have q680 : x27_2 < (l1.length : Int) := of_decide_eq_true (by first | (with_reducible assumption) | assumption)
                        obtain ⟨ad680, e680, hx680_0⟩ := Kd.at_int HR1.out x27_2 p680 q680
                        cases e680
                        replace hx680_0 := (HB.out.cell (World.block_lt_of_cell? w _ hx680_0)).trans hx680_0
                        replace p680 := eq_true p680
                        replace q680 := eq_true q680
                        have p681 : 0 ≤ (x27_2 : Int) := of_decide_eq_true (by first | (with_reducible assumption) | assumption)
                        have q681 : x27_2 < (l2.length : Int) := of_decide_eq_true (by first | (with_reducible assumption) | assumption)
                        obtain ⟨ad681, e681, hx681_0, hx681_1, hx681_2, hx681_3⟩ := at_T23 HR2.out x27_2 p681 q681
                        cases e681
                        replace hx681_0 := (HB.out.cell (World.block_lt_of_cell? w _ hx681_0)).trans hx681_0
                        replace hx681_1 := (HB.out.cell (World.block_lt_of_cell? w _ hx681_1)).trans hx681_1
                        replace hx681_2 := (HB.out.cell (World.block_lt_of_cell? w _ hx681_2)).trans hx681_2
                        replace hx681_3 := (HB.out.cell (World.block_lt_of_cell? w _ hx681_3)).trans hx681_3
                        replace p681 := eq_true p681
                        replace q681 := eq_true q681
                        have p16 : 0 ≤ ((rd l1 x27_2) : Int) := of_decide_eq_true (by first | (with_reducible assumption) | assumption)
                        have q16 : ((rd l1 x27_2) : Int) < ((x8_2.length : Int) : Int) := of_decide_eq_true (by first | (with_reducible assumption) | assumption)
                        obtain ⟨go16, co16, eo16, gb16, gl16, cl16, HG16⟩ := Kd.R_form HO_8.out (by omega)
                        (first | cases eo16 | (injection eo16 with ea_ en_ ec_; (first | subst ea_ | (injection ea_ with ea_; subst ea_)); subst ec_; clear en_))
                        have GB16 := Aside0.mk gb16
                        have GG16 := Aside0.mk HG16
                        clear gb16 gl16 HG16
                        obtain ⟨ce16, hcl16, hM16, hcc16, hfr16⟩ := Kd.R_elem HO_8.out z23 ((rd l1 x27_2) : Int) p16 q16
                        obtain rfl := k23_openM hM16
                        have hx16_0 : wr.cell? ⟨go16, ((rd l1 x27_2) : Int).toNat * 4, none⟩ = some (.int .u8 ((rd_T23 x8_2 (rd l1 x27_2)).f0)) := hcc16 0 _ rfl
                        have hx16_1 : wr.cell? ⟨go16, ((rd l1 x27_2) : Int).toNat * 4 + 1, none⟩ = some (.int .i64 ((rd_T23 x8_2 (rd l1 x27_2)).f1)) := hcc16 1 _ rfl
                        have hx16_2 : wr.cell? ⟨go16, ((rd l1 x27_2) : Int).toNat * 4 + 2, none⟩ = some (.int .i64 ((rd_T23 x8_2 (rd l1 x27_2)).f2)) := hcc16 2 _ rfl
                        have hx16_3 : wr.cell? ⟨go16, ((rd l1 x27_2) : Int).toNat * 4 + 3, none⟩ = some (.string ((rd_T23 x8_2 (rd l1 x27_2)).f3)) := hcc16 3 _ rfl
                        have hf16_0 : wr.frozen? ⟨go16, ((rd l1 x27_2) : Int).toNat * 4, none⟩ = false := hfr16 0
                        have hf16_1 : wr.frozen? ⟨go16, ((rd l1 x27_2) : Int).toNat * 4 + 1, none⟩ = false := hfr16 1
                        have hf16_2 : wr.frozen? ⟨go16, ((rd l1 x27_2) : Int).toNat * 4 + 2, none⟩ = false := hfr16 2
                        have hf16_3 : wr.frozen? ⟨go16, ((rd l1 x27_2) : Int).toNat * 4 + 3, none⟩ = false := hfr16 3
                        clear hcl16 hcc16 hfr16 hM16
                        replace p16 := eq_true p16
                        replace q16 := eq_true q16
                        have HX17 := Aside0.mk (show Kd.R k23 23 wr w.heap.size (fun _ => True) (.slice (some ⟨go16, 0, none⟩) x8_2.length co16) x8_2 from (by (with_reducible repeat (first | apply Kd.R_alloc | apply Kd.R_drewN | apply Kd.R_drew)); exact HO_8.out))
                        obtain ⟨ce17, hcl17, hM17, hcc17, hfr17⟩ := Kd.R_elem HX17.out z23 ((rd l1 x27_2) : Int) (of_decide_eq_true (by first | (with_reducible assumption) | assumption)) (by have h_ : ((rd l1 x27_2) : Int) < ((x8_2.length : Int) : Int) := of_decide_eq_true (by first | (with_reducible assumption) | assumption); first | exact h_ | (have e_ := (Kd.R_reads' HO_8.out).1; omega) | simpa using h_)
                        obtain rfl := k23_openM hM17
                        have HP17 := Kd.R_seg HX17.out ((rd l1 x27_2) : Int) (of_decide_eq_true (by first | (with_reducible assumption) | assumption)) (by have h_ : ((rd l1 x27_2) : Int) < ((x8_2.length : Int) : Int) := of_decide_eq_true (by first | (with_reducible assumption) | assumption); first | exact h_ | (have e_ := (Kd.R_reads' HO_8.out).1; omega) | simpa using h_) (seg := [.int .u8 ((rd_T23 l2 x27_2).f0), .int .i64 ((rd_T23 l2 x27_2).f1), .int .i64 ((rd_T23 l2 x27_2).f2), .string ((rd_T23 l2 x27_2).f3)]) (j := 0) hcl17 hcc17 (show 4 ≤ 4 from by decide) (x' := (⟨(rd_T23 l2 x27_2).f0, (rd_T23 l2 x27_2).f1, (rd_T23 l2 x27_2).f2, (rd_T23 l2 x27_2).f3⟩ : S23)) (k23_mkM _ _ _ (⟨(rd_T23 l2 x27_2).f0, (rd_T23 l2 x27_2).f1, (rd_T23 l2 x27_2).f2, (rd_T23 l2 x27_2).f3⟩ : S23) ) (fun _ hk => hk)
                        have hx17_0 := hcc17 0 _ rfl
                        (try simp only [show (k23).sz = 4 from rfl, Nat.mul_one, Nat.add_zero] at hx17_0)
                        have hf17_0 := hfr17 0
                        (try simp only [show (k23).sz = 4 from rfl, Nat.mul_one, Nat.add_zero] at hf17_0)
                        have hx17_1 := hcc17 1 _ rfl
                        (try simp only [show (k23).sz = 4 from rfl, Nat.mul_one, Nat.add_zero] at hx17_1)
                        have hf17_1 := hfr17 1
                        (try simp only [show (k23).sz = 4 from rfl, Nat.mul_one, Nat.add_zero] at hf17_1)
                        have hx17_2 := hcc17 2 _ rfl
                        (try simp only [show (k23).sz = 4 from rfl, Nat.mul_one, Nat.add_zero] at hx17_2)
                        have hf17_2 := hfr17 2
                        (try simp only [show (k23).sz = 4 from rfl, Nat.mul_one, Nat.add_zero] at hf17_2)
                        have hx17_3 := hcc17 3 _ rfl
                        (try simp only [show (k23).sz = 4 from rfl, Nat.mul_one, Nat.add_zero] at hx17_3)
                        have hf17_3 := hfr17 3
                        (try simp only [show (k23).sz = 4 from rfl, Nat.mul_one, Nat.add_zero] at hf17_3)
                        clear hcl17 hcc17 hfr17 hM17
                        go_wp2_with (first | ((with_reducible refine gate_store (t := 23) (p := 38) rfl ?_); refine store_event (t := 23) (p := 38) (v := ?vo_w18) (w1 := ((((wr.setCell ⟨go16, ((rd l1 x27_2) : Int).toNat * 4, none⟩ (.int .u8 ((rd_T23 l2 x27_2).f0))).setCell ⟨go16, ((rd l1 x27_2) : Int).toNat * 4 + 1, none⟩ (.int .i64 ((rd_T23 l2 x27_2).f1))).setCell ⟨go16, ((rd l1 x27_2) : Int).toNat * 4 + 2, none⟩ (.int .i64 ((rd_T23 l2 x27_2).f2))).setCell ⟨go16, ((rd l1 x27_2) : Int).toNat * 4 + 3, none⟩ (.string ((rd_T23 l2 x27_2).f3)))) ?hg ?ho ?hn ?hr ?_; (case ho => rfl); (case hg => rfl); (case hn => rfl); (case hr => first | (go_simp; done) | (go_simp; rfl)); intro w18 hw; have hg : wr.grownBy w18 (some go16) := (by rw [hw]; exact HP17.2); have hp_ : Kd.R k23 23 w18 w.heap.size (fun _ => True) (.slice (some ⟨go16, 0, none⟩) x8_2.length co16) y682 := (by rw [hw, Ny682.out]; exact HP17.1); clear HP17; have n0_ := Aside0.mk (hp_); have n1_ := Aside0.mk ((by rw [hw]; exact below_set (below_set (below_set (below_set (HB.out) GB16.out) GB16.out) GB16.out) GB16.out : Below w.heap.size w w18)); clear HO_8; clear HB; have HO_8 := n0_; have HB := n1_; clear n0_ n1_; clear hg hw hp_))
                        go_roundg k2
                        case measure => have := HJ3.out; have := HK2.out; omega
                        case rel => exact ⟨(y682), (wrap64 (x27_2 + 1)), (by first | rfl | (simp; done) | (simp [*]; done)), H', ⟨by have := HJ3.out; have := HK2.out; omega⟩, ⟨by (with_reducible repeat (first | apply Kd.R_alloc | apply Kd.R_drewN | apply Kd.R_drew)); exact HO_8.out⟩, ⟨by repeat (first | (with_reducible first | exact HB.out | apply below_alloc | apply pw_below_drewN | apply below_drew1) | exact HB.out)⟩⟩
                      · rw [if_neg c15] at H
                        exact absurd H (by simp)
                    · rw [if_neg c14] at H
                      exact absurd H (by simp)
                  · rw [if_neg c13] at H
                    exact absurd H (by simp)
                · rw [if_neg c12] at H
                  exact absurd H (by simp)
              · rw [if_neg c11] at H
                exact absurd H (by simp)
            · rw [if_neg c10] at H
              have c10b0 : decide (x27_2 < (l1.length : Int)) = false := decide_eq_false c10
              clear c10
              simp only [Option.some.injEq, Prod.mk.injEq] at H
              obtain ⟨rfl, rfl⟩ := H
              go_wp2
              go_ret2
              exact ⟨_, by first | rfl | (simp [errW_none, errW_some] <;> rfl) | (simp [*, errW_none, errW_some] <;> rfl), by (with_reducible repeat (first | apply Kd.R_alloc | apply Kd.R_drewN | apply Kd.R_drew)); exact HO_8.out, by repeat (first | (with_reducible first | exact HB.out | apply below_alloc | apply pw_below_drewN | apply below_drew1) | exact HB.out)⟩

/-! ### covenantref04_Same: function 44 -/
def covenantref04_Same.l0 : Nat → List (S23) → List (S23) → Int → Option (Bool)
  | 0, _, _, _ => none
  | k + 1, x0, x1, x5 => if x5 < (x0.length : Int) then (if 0 ≤ x5 then (if x5 < (x1.length : Int) then (if (!(((rd_T23 x0 x5).f0) == ((rd_T23 x1 x5).f0)) || (!(((rd_T23 x0 x5).f1) == ((rd_T23 x1 x5).f1)) || (!(((rd_T23 x0 x5).f2) == ((rd_T23 x1 x5).f2)) || (!((((rd_T23 x0 x5).f3).toList) == (((rd_T23 x1 x5).f3).toList)))))) = true then (some false) else (covenantref04_Same.l0 k x0 x1 (wrap64 (x5 + 1)))) else (none)) else (none)) else (some true)
def covenantref04_Same.f (k : Nat) (l0 : List (S23)) (l1 : List (S23)) : Option (Bool) := if (l0.length : Int) = (l1.length : Int) then (covenantref04_Same.l0 k l0 l1 0) else (some false)
theorem covenantref04_Same.mono_l : ∀ k, (∀ y0 y1 y2, LeO (covenantref04_Same.l0 k y0 y1 y2) (covenantref04_Same.l0 (k + 1) y0 y1 y2))
  | 0 => fun _ _ _ r h => by simp [covenantref04_Same.l0] at h
  | k + 1 => by
    have ih0 := covenantref04_Same.mono_l k
    · intro y0 y1 y2
      unfold covenantref04_Same.l0
      repeat' first
      | (with_reducible exact ih0 _ _ _)
      | (with_reducible exact LeO.refl _)
      | (with_reducible exact LeO.none _)
      | (with_reducible refine LeO.ite ?_ ?_)
      | (with_reducible refine LeO.bind ?_ (fun _ => ?_))
      | exact ih0 _ _ _
      | exact LeO.none _
      | refine LeO.ite ?_ ?_
      | refine LeO.bind ?_ (fun _ => ?_)
theorem covenantref04_Same.mono : ∀ a0 a1 k, LeO (covenantref04_Same.f k a0 a1) (covenantref04_Same.f (k + 1) a0 a1) := by
  intro a0 a1 k
  have ih0 := covenantref04_Same.mono_l k
  unfold covenantref04_Same.f
  repeat' first
      | (with_reducible exact ih0 _ _ _)
      | (with_reducible exact LeO.refl _)
      | (with_reducible exact LeO.none _)
      | (with_reducible refine LeO.ite ?_ ?_)
      | (with_reducible refine LeO.bind ?_ (fun _ => ?_))
      | exact ih0 _ _ _
      | exact LeO.none _
      | refine LeO.ite ?_ ?_
      | refine LeO.bind ?_ (fun _ => ?_)
set_option maxHeartbeats 8000000 in
set_option maxRecDepth 100000 in
theorem covenantref04_Same.calls (k : Nat) (A0 : Option Addr) (c0 : Nat) (l0 : List (S23)) (A1 : Option Addr) (c1 : Nat) (l1 : List (S23)) (r : Bool) (w : World) (hr0 : Kd.C k23 w A0 l0.length l0) (hc0 : l0.length ≤ c0) (hr1 : Kd.C k23 w A1 l1.length l1) (hc1 : l1.length ≤ c1) (h : covenantref04_Same.f k l0 l1 = some r) :
    Calls Tryd.prog 44 #[.slice A0 l0.length c0, .slice A1 l1.length c1] w fun e w' => e = .returned (.bool r) ∧ Drawn0 w w' := by
  have hu23 := Tryd.underlying23
  have HR0 := Aside0.mk hr0
  have HC0 := Aside0.mk hc0
  clear hr0 hc0
  have HR1 := Aside0.mk hr1
  have HC1 := Aside0.mk hc1
  clear hr1 hc1
  have H : (if (l0.length : Int) = (l1.length : Int) then (covenantref04_Same.l0 k l0 l1 0) else (some false)) = some r := h
  clear h
  by_cases c3 : (l0.length : Int) = (l1.length : Int)
  · rw [if_pos c3] at H
    have c3b0 : ((l0.length : Int) == (l1.length : Int)) = true := beq_iff_eq.mpr c3
    have c3b1 : ((l0.length : Int) != (l1.length : Int)) = false := bne_eq_false_iff_eq.mpr c3
    have c3b2 : (l0.length == l1.length) = true := by first | simpa using c3 | (simp at c3 ⊢; omega)
    clear c3
    have H' := Aside0.mk H
    clear H
    go_enter Tryd.func44, Tryd.ntmps44
    go_wp2
    repeat (go_quiet (fail); try go_wp2)
    go_loopg [5] k (fun kq v5 w' => ∃ (x5_1 : Int), v5 = .int .i64 x5_1 ∧ Aside0 (covenantref04_Same.l0 kq l0 l1 x5_1 = some r) ∧ Aside0 (kq ≤ k) ∧ Drawn0 w w')
    case atStart => exact ⟨(0), (by first | rfl | (simp; done) | (simp [*]; done)), H', ⟨Nat.le_refl _⟩, by repeat (first | exact Drawn0.refl _ | apply Drawn0.step)⟩
    case round =>
      clear H'
      try clear c1
      try clear p2
      try clear c3
      try clear c3b0
      try clear c3b1
      try clear c3b2
      obtain ⟨x5_1, rfl, HA, HK1, ⟨m1, rfl⟩⟩ := hrel
      cases gk with
      | zero => exact absurd HA.out (by simp [covenantref04_Same.l0])
      | succ k1 =>
        have H := HA.out
        clear HA
        simp only [covenantref04_Same.l0] at H
        by_cases c4 : x5_1 < (l0.length : Int)
        · rw [if_pos c4] at H
          have c4b0 : decide (x5_1 < (l0.length : Int)) = true := decide_eq_true c4
          clear c4
          by_cases c5 : 0 ≤ x5_1
          · rw [if_pos c5] at H
            have c5b0 : decide (0 ≤ x5_1) = true := decide_eq_true c5
            clear c5
            by_cases c6 : x5_1 < (l1.length : Int)
            · rw [if_pos c6] at H
              have c6b0 : decide (x5_1 < (l1.length : Int)) = true := decide_eq_true c6
              clear c6
              by_cases c7 : (!(((rd_T23 l0 x5_1).f0) == ((rd_T23 l1 x5_1).f0)) || (!(((rd_T23 l0 x5_1).f1) == ((rd_T23 l1 x5_1).f1)) || (!(((rd_T23 l0 x5_1).f2) == ((rd_T23 l1 x5_1).f2)) || (!((((rd_T23 l0 x5_1).f3).toList) == (((rd_T23 l1 x5_1).f3).toList)))))) = true
              · rw [if_pos c7] at H
                have c7b0 : (!(((rd_T23 l0 x5_1).f0) == ((rd_T23 l1 x5_1).f0)) || (!(((rd_T23 l0 x5_1).f1) == ((rd_T23 l1 x5_1).f1)) || (!(((rd_T23 l0 x5_1).f2) == ((rd_T23 l1 x5_1).f2)) || (!((((rd_T23 l0 x5_1).f3).toList) == (((rd_T23 l1 x5_1).f3).toList)))))) = true := c7
                clear c7
                obtain rfl := Option.some.inj H
                have p683 : 0 ≤ (x5_1 : Int) := of_decide_eq_true (by first | (with_reducible assumption) | assumption)
                have q683 : x5_1 < (l0.length : Int) := of_decide_eq_true (by first | (with_reducible assumption) | assumption)
                obtain ⟨ad683, e683, hx683_0, hx683_1, hx683_2, hx683_3⟩ := at_T23 HR0.out x5_1 p683 q683
                cases e683
                replace p683 := eq_true p683
                replace q683 := eq_true q683
                have p684 : 0 ≤ (x5_1 : Int) := of_decide_eq_true (by first | (with_reducible assumption) | assumption)
                have q684 : x5_1 < (l1.length : Int) := of_decide_eq_true (by first | (with_reducible assumption) | assumption)
                obtain ⟨ad684, e684, hx684_0, hx684_1, hx684_2, hx684_3⟩ := at_T23 HR1.out x5_1 p684 q684
                cases e684
                replace p684 := eq_true p684
                replace q684 := eq_true q684
                go_wp2
                repeat (go_quiet (fail); try go_wp2)
                go_ret
                exact ⟨by first | rfl | (simp; done) | (simp [*]; done), by repeat (first | exact Drawn0.refl _ | apply Drawn0.step)⟩
              · rw [if_neg c7] at H
                have c7b0 : (!(((rd_T23 l0 x5_1).f0) == ((rd_T23 l1 x5_1).f0)) || (!(((rd_T23 l0 x5_1).f1) == ((rd_T23 l1 x5_1).f1)) || (!(((rd_T23 l0 x5_1).f2) == ((rd_T23 l1 x5_1).f2)) || (!((((rd_T23 l0 x5_1).f3).toList) == (((rd_T23 l1 x5_1).f3).toList)))))) = false := by simpa using c7
                clear c7
                have H' := Aside0.mk H
                clear H
                have p683 : 0 ≤ (x5_1 : Int) := of_decide_eq_true (by first | (with_reducible assumption) | assumption)
                have q683 : x5_1 < (l0.length : Int) := of_decide_eq_true (by first | (with_reducible assumption) | assumption)
                obtain ⟨ad683, e683, hx683_0, hx683_1, hx683_2, hx683_3⟩ := at_T23 HR0.out x5_1 p683 q683
                cases e683
                replace p683 := eq_true p683
                replace q683 := eq_true q683
                have p684 : 0 ≤ (x5_1 : Int) := of_decide_eq_true (by first | (with_reducible assumption) | assumption)
                have q684 : x5_1 < (l1.length : Int) := of_decide_eq_true (by first | (with_reducible assumption) | assumption)
                obtain ⟨ad684, e684, hx684_0, hx684_1, hx684_2, hx684_3⟩ := at_T23 HR1.out x5_1 p684 q684
                cases e684
                replace p684 := eq_true p684
                replace q684 := eq_true q684
                go_wp2
                repeat (go_quiet (fail); try go_wp2)
                go_roundg k1
                case measure => have := HK1.out; omega
                case rel => exact ⟨(wrap64 (x5_1 + 1)), (by first | rfl | (simp; done) | (simp [*]; done)), H', ⟨by have := HK1.out; omega⟩, by repeat (first | exact Drawn0.refl _ | apply Drawn0.step)⟩
            · rw [if_neg c6] at H
              exact absurd H (by simp)
          · rw [if_neg c5] at H
            exact absurd H (by simp)
        · rw [if_neg c4] at H
          have c4b0 : decide (x5_1 < (l0.length : Int)) = false := decide_eq_false c4
          clear c4
          obtain rfl := Option.some.inj H
          go_wp2
          repeat (go_quiet (fail); try go_wp2)
          go_ret
          exact ⟨by first | rfl | (simp; done) | (simp [*]; done), by repeat (first | exact Drawn0.refl _ | apply Drawn0.step)⟩
  · rw [if_neg c3] at H
    have c3b0 : ((l0.length : Int) == (l1.length : Int)) = false := beq_eq_false_iff_ne.mpr c3
    have c3b1 : ((l0.length : Int) != (l1.length : Int)) = true := bne_iff_ne.mpr c3
    have c3b2 : (l0.length == l1.length) = false := by first | simpa using c3 | (simp at c3 ⊢; omega)
    obtain rfl := Option.some.inj H
    go_enter Tryd.func44, Tryd.ntmps44
    go_wp2
    repeat (go_quiet (fail); try go_wp2)
    go_ret
    exact ⟨by first | rfl | (simp; done) | (simp [*]; done), by repeat (first | exact Drawn0.refl _ | apply Drawn0.step)⟩

/-! ### key_Whole: function 48: by hand -/
/-! the closure -/
set_option maxHeartbeats 400000 in
theorem whole_fn (x0 x1 x2 : Int) (x3 : ByteArray) (w : World) :
    Calls Tryd.prog 84 #[.agg #[.int .u8 x0, .int .i64 x1, .int .i64 x2, .string x3]] w fun e w' => e = .returned (.bool (x0 == 0)) ∧ Below w.heap.size w w' := by
  go_enter Tryd.func84, Tryd.ntmps84
  go_wp2
  go_ret
  exact ⟨rfl, (Below.refl _ _).alloc (Nat.le_refl _) _⟩
def nullFrom (l : List S23) : Nat → Nat → Int
  | 0, _ => -1
  | d + 1, k => if (rd_T23 l (k : Int)).f0 = 0 then k else nullFrom l d (k + 1)
theorem ret_int' {k : IntKind} {a b : Int} (h : a = b) : Ending.returned (.int k a) = .returned (.int k b) := by rw [h]
set_option maxHeartbeats 1000000 in
theorem whole_idx (A0 : Option Addr) (c0 : Nat) (l0 : List (S23)) (w : World) (hr0 : Kd.C k23 w A0 l0.length l0) (hc0 : l0.length ≤ c0) :
    Calls Tryd.prog 99 #[.slice A0 l0.length c0, .func (.func 84) #[] #[]] w fun e w' => e = .returned (.int .i64 (nullFrom l0 l0.length 0)) ∧ Below w.heap.size w w' := by
  have hl := hr0.2.1
  have HR0 := Aside0.mk hr0
  have HC0 := Aside0.mk hc0
  clear hr0 hc0
  go_enter Tryd.func99, Tryd.ntmps99
  go_wp2
  go_loopw [8] (fun i W => ∃ k : Nat, i = .int .i64 k ∧ Aside0 (k ≤ l0.length ∧ nullFrom l0 l0.length 0 = nullFrom l0 (l0.length - k) k) ∧ Aside0 (Below w.heap.size w W)) (fun i _ => l0.length - (intOf i).toNat)
  case atStart => exact ⟨0, rfl, ⟨Nat.zero_le _, rfl⟩, ⟨Below.refl _ _⟩⟩
  case round =>
    obtain ⟨k, rfl, HK, HB⟩ := hrel
    by_cases hlt : k < l0.length
    · obtain ⟨ad, hA, hc1, hc2, hc3, hc4⟩ := at_T23 (Kd.C_below HR0.out HB.out) (k : Int) (by omega) (by omega)
      simp only [Int.toNat_natCast] at hc1 hc2 hc3 hc4
      subst hA
      cases hz : ((rd_T23 l0 (k : Int)).f0 == 0) with
      | true =>
        have HZ := Aside0.mk hz
        go_wp2_with (go_at_call 84; refine (whole_fn _ _ _ _ _).mono ?_; rintro e w' ⟨rfl, hb⟩)
        go_ret
        exact ⟨ret_int' (by rw [HK.out.2, show l0.length - k = (l0.length - k - 1) + 1 by omega, nullFrom, if_pos (eq_of_beq HZ.out)]), below_step HB.out (by assumption)⟩
      | false =>
        have HZ := Aside0.mk hz
        go_wp2_with (go_at_call 84; refine (whole_fn _ _ _ _ _).mono ?_; rintro e w' ⟨rfl, hb⟩)
        go_roundw
        case rel => exact ⟨k + 1, by go_num, ⟨by omega, by rw [HK.out.2, show l0.length - k = (l0.length - (k + 1)) + 1 by omega, nullFrom, if_neg (by have := HZ.out; simpa using this)]⟩, ⟨below_step HB.out (by assumption)⟩⟩
        case measure => simp [intOf]; omega
    · have hk : k = l0.length := by have := HK.out.1; omega
      go_wp2
      go_ret
      exact ⟨ret_int' (by rw [HK.out.2, show l0.length - k = 0 by omega]; rfl), HB.out⟩
def wholeB (l : List S23) : Bool := decide (0 < l.length) && l.all (fun v => v.f0 != 0)
theorem null_from (l : List S23) : ∀ d k, k + d = l.length → (0 ≤ nullFrom l d k ↔ (l.drop k).all (fun v => v.f0 != 0) = false)
  | 0, k, h => by
    rw [List.drop_of_length_le (by omega)]; simp [nullFrom]
  | d + 1, k, h => by
    have hk : k < l.length := by omega
    rw [List.drop_eq_getElem_cons hk, List.all_cons]
    have hr : rd_T23 l (k : Int) = l[k] := by simp [rd_T23, List.getD, hk]
    unfold nullFrom
    rw [hr]
    by_cases hz : l[k].f0 = 0
    · rw [if_pos hz]; simp [hz]
    · rw [if_neg hz, null_from l d (k + 1) (by omega)]; simp [hz]
theorem whole_null {l : List S23} (h : 0 < l.length) : (!decide (0 ≤ nullFrom l l.length 0)) = wholeB l := by
  have := null_from l l.length 0 (by omega)
  rw [List.drop_zero] at this
  unfold wholeB
  cases ha : l.all (fun v => v.f0 != 0) with
  | true => rw [ha] at this; simp at this; simp [h]; omega
  | false => rw [ha] at this; simp at this; simp [this]
def key_Whole.f (l0 : List (S23)) : Option (Bool) := some (wholeB l0)
set_option maxHeartbeats 1000000 in
theorem key_Whole.calls (A0 : Option Addr) (c0 : Nat) (l0 : List (S23)) (r : Bool) (w : World) (hr0 : Kd.C k23 w A0 l0.length l0) (hc0 : l0.length ≤ c0) (h : key_Whole.f l0 = some r) :
    Calls Tryd.prog 48 #[.slice A0 l0.length c0] w fun e w' => e = .returned (.bool r) ∧ Below w.heap.size w w' := by
  obtain rfl := Option.some.inj h
  clear h
  have HR0 := Aside0.mk hr0
  have HC0 := Aside0.mk hc0
  clear hr0 hc0
  by_cases hp : 0 < l0.length
  · have HW := Aside0.mk (whole_null hp)
    go_enter Tryd.func48, Tryd.ntmps48
    go_wp2_with fail
    refine Calls.mono (R := fun e w' => e = .returned (.bool (decide (0 ≤ nullFrom l0 l0.length 0))) ∧ Below w.heap.size w w') ?_ ?_
    · go_enter Tryd.func83, Tryd.ntmps83
      go_wp2_with (go_at_call 99; refine (whole_idx _ _ _ _ HR0.out HC0.out).mono ?_; rintro e w' ⟨rfl, hb⟩)
      go_ret
      exact ⟨rfl, by assumption⟩
    · rintro e w' ⟨rfl, hb⟩
      go_wp2
      go_ret
      exact ⟨by rw [← HW.out]; rfl, by assumption⟩
  · have hz : l0 = [] := List.length_eq_zero_iff.1 (by omega)
    subst hz
    go_enter Tryd.func48, Tryd.ntmps48
    go_wp2
    go_ret
    exact ⟨rfl, Below.refl _ _⟩

/-! ### key_Same: function 52 -/
def key_Same.f (k : Nat) (l0 : List (S23)) (l1 : List (S23)) : Option (Bool) := (key_Whole.f l0).bind fun t688 => (if t688 = true then ((key_Whole.f l1).bind fun t689 => (if t689 = true then ((row_Same.f k l0 l1).bind fun t690 => (some t690)) else (some false))) else (some false))
theorem key_Same.mono : ∀ a0 a1 k, LeO (key_Same.f k a0 a1) (key_Same.f (k + 1) a0 a1) := by
  intro a0 a1 k
  unfold key_Same.f
  repeat' first
      | (with_reducible exact row_Same.mono _ _ _)
      | (with_reducible exact LeO.refl _)
      | (with_reducible exact LeO.none _)
      | (with_reducible refine LeO.ite ?_ ?_)
      | (with_reducible refine LeO.bind ?_ (fun _ => ?_))
      | exact row_Same.mono _ _ _
      | exact LeO.none _
      | refine LeO.ite ?_ ?_
      | refine LeO.bind ?_ (fun _ => ?_)
set_option maxHeartbeats 8000000 in
set_option maxRecDepth 100000 in
theorem key_Same.calls (k : Nat) (A0 : Option Addr) (c0 : Nat) (l0 : List (S23)) (A1 : Option Addr) (c1 : Nat) (l1 : List (S23)) (r : Bool) (w : World) (hr0 : Kd.C k23 w A0 l0.length l0) (hc0 : l0.length ≤ c0) (hr1 : Kd.C k23 w A1 l1.length l1) (hc1 : l1.length ≤ c1) (h : key_Same.f k l0 l1 = some r) :
    Calls Tryd.prog 52 #[.slice A0 l0.length c0, .slice A1 l1.length c1] w fun e w' => e = .returned (.bool r) ∧ Below w.heap.size w w' := by
  have HR0 := Aside0.mk hr0
  have HC0 := Aside0.mk hc0
  clear hr0 hc0
  have HR1 := Aside0.mk hr1
  have HC1 := Aside0.mk hc1
  clear hr1 hc1
  have HB := Aside0.mk (Below.refl w.heap.size w)
  have H : ((key_Whole.f l0).bind fun t688 => (if t688 = true then ((key_Whole.f l1).bind fun t689 => (if t689 = true then ((row_Same.f k l0 l1).bind fun t690 => (some t690)) else (some false))) else (some false))) = some r := h
  clear h
  replace H := Option.bind_eq_some_iff.mp H
  obtain ⟨t688, A30, H⟩ := H
  replace H : (if t688 = true then ((key_Whole.f l1).bind fun t689 => (if t689 = true then ((row_Same.f k l0 l1).bind fun t690 => (some t690)) else (some false))) else (some false)) = some r := H
  have A3 := Aside0.mk A30
  clear A30
  by_cases c4 : t688 = true
  · subst c4
    have H1 : ((key_Whole.f l1).bind fun t689 => (if t689 = true then ((row_Same.f k l0 l1).bind fun t690 => (some t690)) else (some false))) = some r := by rw [if_pos rfl] at H; exact H
    clear H
    have H := H1
    clear H1
    replace H := Option.bind_eq_some_iff.mp H
    obtain ⟨t689, A50, H⟩ := H
    replace H : (if t689 = true then ((row_Same.f k l0 l1).bind fun t690 => (some t690)) else (some false)) = some r := H
    have A5 := Aside0.mk A50
    clear A50
    by_cases c6 : t689 = true
    · subst c6
      have H1 : ((row_Same.f k l0 l1).bind fun t690 => (some t690)) = some r := by rw [if_pos rfl] at H; exact H
      clear H
      have H := H1
      clear H1
      replace H := Option.bind_eq_some_iff.mp H
      obtain ⟨t690, A70, H⟩ := H
      replace H : (some t690) = some r := H
      have A7 := Aside0.mk A70
      clear A70
      obtain rfl := Option.some.inj H
      go_enter Tryd.func52, Tryd.ntmps52
      go_wp2_with (first | ((with_reducible refine gate_callee (f := 48) rfl ?_); refine goesL_ (some 6) rfl rfl Tryd.func48 (by kernel_rfl) rfl #[.slice A0 l0.length c0] rfl (by (try simp only [List.map_toArray, List.map_cons, List.map_nil]); first | done | rfl | (simp only [List.length_drop, List.length_take]; rfl)) ?_; (with_reducible refine (key_Whole.calls _ _ l0 true _ ?side1 ?side2 A3.out).mono ?_); (case side1 => repeat (first | exact HR0.out | (with_reducible refine Kd.C_alloc ?_ _) | (with_reducible refine Kd.C_drewN ?_ _) | (with_reducible refine Kd.C_drew ?_))); (case side2 => exact HC0.out); rintro e w8 ⟨rfl, hb⟩; refine ⟨_, rfl, ?_⟩; have n0_ := Aside0.mk (below_step (by repeat (first | (with_reducible first | exact HB.out | apply below_alloc | apply pw_below_drewN | apply below_drew1) | exact HB.out)) hb); clear HB; have HB := n0_; clear n0_; (try clear hb); (try clear hb2); (try clear hk); (try clear hi)) | (go_at_call 48; (with_reducible refine (key_Whole.calls _ _ l1 true _ ?side1 ?side2 A5.out).mono ?_); (case side1 => repeat (first | exact (Kd.C_below HR1.out HB.out) | (with_reducible refine Kd.C_alloc ?_ _) | (with_reducible refine Kd.C_drewN ?_ _) | (with_reducible refine Kd.C_drew ?_))); (case side2 => exact HC1.out); rintro e w9 ⟨rfl, hb⟩; have n0_ := Aside0.mk (below_step (by repeat (first | (with_reducible first | exact HB.out | apply below_alloc | apply pw_below_drewN | apply below_drew1) | exact HB.out)) hb); clear HB; have HB := n0_; clear n0_; (try clear hb); (try clear hb2); (try clear hk); (try clear hi)) | (go_at_call 34; (with_reducible refine (row_Same.calls k _ _ l0 _ _ l1 t690 _ ?side1 ?side2 ?side3 ?side4 A7.out).mono ?_); (case side1 => repeat (first | exact (Kd.C_below HR0.out HB.out) | (with_reducible refine Kd.C_alloc ?_ _) | (with_reducible refine Kd.C_drewN ?_ _) | (with_reducible refine Kd.C_drew ?_))); (case side2 => exact HC0.out); (case side3 => repeat (first | exact (Kd.C_below HR1.out HB.out) | (with_reducible refine Kd.C_alloc ?_ _) | (with_reducible refine Kd.C_drewN ?_ _) | (with_reducible refine Kd.C_drew ?_))); (case side4 => exact HC1.out); rintro e w' ⟨rfl, ⟨nd, rfl⟩⟩))
      go_ret
      exact ⟨by first | rfl | (simp [errW_none, errW_some] <;> rfl) | (simp [*, errW_none, errW_some] <;> rfl), by repeat (first | (with_reducible first | exact HB.out | apply below_alloc | apply pw_below_drewN | apply below_drew1) | exact HB.out)⟩
    · replace c6 := Bool.eq_false_iff.mpr c6
      subst c6
      have H1 : (some false) = some r := by rw [if_neg (show ¬ (false = true) by decide)] at H; exact H
      clear H
      have H := H1
      clear H1
      obtain rfl := Option.some.inj H
      go_enter Tryd.func52, Tryd.ntmps52
      go_wp2_with (first | ((with_reducible refine gate_callee (f := 48) rfl ?_); refine goesL_ (some 6) rfl rfl Tryd.func48 (by kernel_rfl) rfl #[.slice A0 l0.length c0] rfl (by (try simp only [List.map_toArray, List.map_cons, List.map_nil]); first | done | rfl | (simp only [List.length_drop, List.length_take]; rfl)) ?_; (with_reducible refine (key_Whole.calls _ _ l0 true _ ?side1 ?side2 A3.out).mono ?_); (case side1 => repeat (first | exact HR0.out | (with_reducible refine Kd.C_alloc ?_ _) | (with_reducible refine Kd.C_drewN ?_ _) | (with_reducible refine Kd.C_drew ?_))); (case side2 => exact HC0.out); rintro e w10 ⟨rfl, hb⟩; refine ⟨_, rfl, ?_⟩; have n0_ := Aside0.mk (below_step (by repeat (first | (with_reducible first | exact HB.out | apply below_alloc | apply pw_below_drewN | apply below_drew1) | exact HB.out)) hb); clear HB; have HB := n0_; clear n0_; (try clear hb); (try clear hb2); (try clear hk); (try clear hi)) | (go_at_call 48; (with_reducible refine (key_Whole.calls _ _ l1 false _ ?side1 ?side2 A5.out).mono ?_); (case side1 => repeat (first | exact (Kd.C_below HR1.out HB.out) | (with_reducible refine Kd.C_alloc ?_ _) | (with_reducible refine Kd.C_drewN ?_ _) | (with_reducible refine Kd.C_drew ?_))); (case side2 => exact HC1.out); rintro e w11 ⟨rfl, hb⟩; have n0_ := Aside0.mk (below_step (by repeat (first | (with_reducible first | exact HB.out | apply below_alloc | apply pw_below_drewN | apply below_drew1) | exact HB.out)) hb); clear HB; have HB := n0_; clear n0_; (try clear hb); (try clear hb2); (try clear hk); (try clear hi)))
      go_ret
      exact ⟨by first | rfl | (simp [errW_none, errW_some] <;> rfl) | (simp [*, errW_none, errW_some] <;> rfl), by repeat (first | (with_reducible first | exact HB.out | apply below_alloc | apply pw_below_drewN | apply below_drew1) | exact HB.out)⟩
  · replace c4 := Bool.eq_false_iff.mpr c4
    subst c4
    have H1 : (some false) = some r := by rw [if_neg (show ¬ (false = true) by decide)] at H; exact H
    clear H
    have H := H1
    clear H1
    obtain rfl := Option.some.inj H
    go_enter Tryd.func52, Tryd.ntmps52
    go_wp2_with (first | ((with_reducible refine gate_callee (f := 48) rfl ?_); refine goesL_ (some 6) rfl rfl Tryd.func48 (by kernel_rfl) rfl #[.slice A0 l0.length c0] rfl (by (try simp only [List.map_toArray, List.map_cons, List.map_nil]); first | done | rfl | (simp only [List.length_drop, List.length_take]; rfl)) ?_; (with_reducible refine (key_Whole.calls _ _ l0 false _ ?side1 ?side2 A3.out).mono ?_); (case side1 => repeat (first | exact HR0.out | (with_reducible refine Kd.C_alloc ?_ _) | (with_reducible refine Kd.C_drewN ?_ _) | (with_reducible refine Kd.C_drew ?_))); (case side2 => exact HC0.out); rintro e w12 ⟨rfl, hb⟩; refine ⟨_, rfl, ?_⟩; have n0_ := Aside0.mk (below_step (by repeat (first | (with_reducible first | exact HB.out | apply below_alloc | apply pw_below_drewN | apply below_drew1) | exact HB.out)) hb); clear HB; have HB := n0_; clear n0_; (try clear hb); (try clear hb2); (try clear hk); (try clear hi)))
    go_ret
    exact ⟨by first | rfl | (simp [errW_none, errW_some] <;> rfl) | (simp [*, errW_none, errW_some] <;> rfl), by repeat (first | (with_reducible first | exact HB.out | apply below_alloc | apply pw_below_drewN | apply below_drew1) | exact HB.out)⟩

/-! ### key_Refers: function 50 -/
def key_Refers.f (k : Nat) (l0 : List (S23)) (l1 : List Int) (l2 : List (S23)) : Option (Bool) := (key_Of.f k l0 l1).bind fun bt691 => (if bt691.2 = 0 then ((key_Same.f k bt691.1 l2).bind fun t695 => (some t695)) else (some false))
theorem key_Refers.mono : ∀ a0 a1 a2 k, LeO (key_Refers.f k a0 a1 a2) (key_Refers.f (k + 1) a0 a1 a2) := by
  intro a0 a1 a2 k
  unfold key_Refers.f
  repeat' first
      | (with_reducible exact key_Of.mono _ _ _)
      | (with_reducible exact key_Same.mono _ _ _)
      | (with_reducible exact LeO.refl _)
      | (with_reducible exact LeO.none _)
      | (with_reducible refine LeO.ite ?_ ?_)
      | (with_reducible refine LeO.bind ?_ (fun _ => ?_))
      | exact key_Of.mono _ _ _
      | exact key_Same.mono _ _ _
      | exact LeO.none _
      | refine LeO.ite ?_ ?_
      | refine LeO.bind ?_ (fun _ => ?_)
set_option maxHeartbeats 8000000 in
set_option maxRecDepth 100000 in
theorem key_Refers.calls (k : Nat) (A0 : Option Addr) (c0 : Nat) (l0 : List (S23)) (A1 : Option Addr) (c1 : Nat) (l1 : List Int) (A2 : Option Addr) (c2 : Nat) (l2 : List (S23)) (r : Bool) (w : World) (hr0 : Kd.C k23 w A0 l0.length l0) (hc0 : l0.length ≤ c0) (hr1 : Kd.C (Kd.int .i64) w A1 l1.length l1) (hc1 : l1.length ≤ c1) (hr2 : Kd.C k23 w A2 l2.length l2) (hc2 : l2.length ≤ c2) (h : key_Refers.f k l0 l1 l2 = some r) :
    Calls Tryd.prog 50 #[.slice A0 l0.length c0, .slice A1 l1.length c1, .slice A2 l2.length c2] w fun e w' => e = .returned (.bool r) ∧ Below w.heap.size w w' := by
  have HR0 := Aside0.mk hr0
  have HC0 := Aside0.mk hc0
  clear hr0 hc0
  have HR1 := Aside0.mk hr1
  have HC1 := Aside0.mk hc1
  clear hr1 hc1
  have HR2 := Aside0.mk hr2
  have HC2 := Aside0.mk hc2
  clear hr2 hc2
  have HB := Aside0.mk (Below.refl w.heap.size w)
  have H : ((key_Of.f k l0 l1).bind fun bt691 => (if bt691.2 = 0 then ((key_Same.f k bt691.1 l2).bind fun t695 => (some t695)) else (some false))) = some r := h
  clear h
  replace H := Option.bind_eq_some_iff.mp H
  obtain ⟨⟨t691, t692⟩, A40, H⟩ := H
  replace H : (if t692 = 0 then ((key_Same.f k t691 l2).bind fun t695 => (some t695)) else (some false)) = some r := H
  have A4 := Aside0.mk A40
  clear A40
  by_cases c5 : t692 = 0
  · rw [if_pos c5] at H
    have c5b0 : (t692 == 0) = true := beq_iff_eq.mpr c5
    have c5b1 : (t692 != 0) = false := bne_eq_false_iff_eq.mpr c5
    clear c5
    replace H := Option.bind_eq_some_iff.mp H
    obtain ⟨t695, A60, H⟩ := H
    replace H : (some t695) = some r := H
    have A6 := Aside0.mk A60
    clear A60
    obtain rfl := Option.some.inj H
    go_enter Tryd.func50, Tryd.ntmps50
    go_wp2_with (first | ((with_reducible refine gate_callee (f := 40) rfl ?_); refine goesL_ (some 12) rfl rfl Tryd.func40 (by kernel_rfl) rfl #[.slice A0 l0.length c0, .slice A1 l1.length c1] rfl (by (try simp only [List.map_toArray, List.map_cons, List.map_nil]); first | done | rfl | (simp only [List.length_drop, List.length_take]; rfl)) ?_; (with_reducible refine (key_Of.calls k _ _ l0 _ _ l1 t691 t692 _ ?side1 ?side2 ?side3 ?side4 A4.out).mono ?_); (case side1 => repeat (first | exact HR0.out | (with_reducible refine Kd.C_alloc ?_ _) | (with_reducible refine Kd.C_drewN ?_ _) | (with_reducible refine Kd.C_drew ?_))); (case side2 => exact HC0.out); (case side3 => repeat (first | exact HR1.out | (with_reducible refine Kd.C_alloc ?_ _) | (with_reducible refine Kd.C_drewN ?_ _) | (with_reducible refine Kd.C_drew ?_))); (case side4 => exact HC1.out); rintro e w7 ⟨v693, rfl, ho0, hb⟩; refine ⟨_, rfl, ?_⟩; have n0_ := Aside0.mk (Kd.R_lower ho0 (below_size (by repeat (first | (with_reducible first | exact HB.out | apply below_alloc | apply pw_below_drewN | apply below_drew1) | exact HB.out)))); have n1_ := Aside0.mk (below_step (by repeat (first | (with_reducible first | exact HB.out | apply below_alloc | apply pw_below_drewN | apply below_drew1) | exact HB.out)) hb); clear HB; have HO694 := n0_; have HB := n1_; clear n0_ n1_; (try clear hb); (try clear hb2); (try clear hk); (try clear hi); (try clear ho0); obtain ⟨Ao8, co8, eo8⟩ := Kd.R_slice HO694.out; subst eo8) | (go_at_call 52; (with_reducible refine (key_Same.calls k _ _ t691 _ _ l2 t695 _ ?side1 ?side2 ?side3 ?side4 A6.out).mono ?_); (case side1 => repeat (first | exact (Kd.R_reads' HO694.out).2.2 | (with_reducible refine Kd.C_alloc ?_ _) | (with_reducible refine Kd.C_drewN ?_ _) | (with_reducible refine Kd.C_drew ?_))); (case side2 => exact (Kd.R_reads' HO694.out).2.1); (case side3 => repeat (first | exact (Kd.C_below HR2.out HB.out) | (with_reducible refine Kd.C_alloc ?_ _) | (with_reducible refine Kd.C_drewN ?_ _) | (with_reducible refine Kd.C_drew ?_))); (case side4 => exact HC2.out); rintro e w9 ⟨rfl, hb⟩; have n0_ := Aside0.mk (Kd.R_below (by (with_reducible repeat (first | apply Kd.R_alloc | apply Kd.R_drewN | apply Kd.R_drew)); exact HO694.out) hb); have n1_ := Aside0.mk (below_step (by repeat (first | (with_reducible first | exact HB.out | apply below_alloc | apply pw_below_drewN | apply below_drew1) | exact HB.out)) hb); clear HO694; clear HB; have HO694 := n0_; have HB := n1_; clear n0_ n1_; (try clear hb); (try clear hb2); (try clear hk); (try clear hi)))
    go_ret
    exact ⟨by first | rfl | (simp [errW_none, errW_some] <;> rfl) | (simp [*, errW_none, errW_some] <;> rfl), by repeat (first | (with_reducible first | exact HB.out | apply below_alloc | apply pw_below_drewN | apply below_drew1) | exact HB.out)⟩
  · rw [if_neg c5] at H
    have c5b0 : (t692 == 0) = false := beq_eq_false_iff_ne.mpr c5
    have c5b1 : (t692 != 0) = true := bne_iff_ne.mpr c5
    obtain rfl := Option.some.inj H
    go_enter Tryd.func50, Tryd.ntmps50
    go_wp2_with (first | ((with_reducible refine gate_callee (f := 40) rfl ?_); refine goesL_ (some 12) rfl rfl Tryd.func40 (by kernel_rfl) rfl #[.slice A0 l0.length c0, .slice A1 l1.length c1] rfl (by (try simp only [List.map_toArray, List.map_cons, List.map_nil]); first | done | rfl | (simp only [List.length_drop, List.length_take]; rfl)) ?_; (with_reducible refine (key_Of.calls k _ _ l0 _ _ l1 t691 t692 _ ?side1 ?side2 ?side3 ?side4 A4.out).mono ?_); (case side1 => repeat (first | exact HR0.out | (with_reducible refine Kd.C_alloc ?_ _) | (with_reducible refine Kd.C_drewN ?_ _) | (with_reducible refine Kd.C_drew ?_))); (case side2 => exact HC0.out); (case side3 => repeat (first | exact HR1.out | (with_reducible refine Kd.C_alloc ?_ _) | (with_reducible refine Kd.C_drewN ?_ _) | (with_reducible refine Kd.C_drew ?_))); (case side4 => exact HC1.out); rintro e w10 ⟨v693, rfl, ho0, hb⟩; refine ⟨_, rfl, ?_⟩; have n0_ := Aside0.mk (Kd.R_lower ho0 (below_size (by repeat (first | (with_reducible first | exact HB.out | apply below_alloc | apply pw_below_drewN | apply below_drew1) | exact HB.out)))); have n1_ := Aside0.mk (below_step (by repeat (first | (with_reducible first | exact HB.out | apply below_alloc | apply pw_below_drewN | apply below_drew1) | exact HB.out)) hb); clear HB; have HO694 := n0_; have HB := n1_; clear n0_ n1_; (try clear hb); (try clear hb2); (try clear hk); (try clear hi); (try clear ho0)))
    go_ret
    exact ⟨by first | rfl | (simp [errW_none, errW_some] <;> rfl) | (simp [*, errW_none, errW_some] <;> rfl), by repeat (first | (with_reducible first | exact HB.out | apply below_alloc | apply pw_below_drewN | apply below_drew1) | exact HB.out)⟩

/-! ### covenantlaw06_num: function 79 -/
def covenantlaw06_num.f (a0 : Int) : Option (Int × Int × Int × ByteArray) := some (1, a0, 0, (⟨#[]⟩ : ByteArray))
set_option maxHeartbeats 8000000 in
set_option maxRecDepth 100000 in
theorem covenantlaw06_num.calls (a0 : Int) (r1 : Int) (r2 : Int) (r3 : Int) (r4 : ByteArray) (w : World) (h : covenantlaw06_num.f a0 = some (r1, r2, r3, r4)) :
    Calls Tryd.prog 79 #[.int .i64 a0] w fun e w' => e = .returned (.agg #[.int .u8 r1, .int .i64 r2, .int .i64 r3, .string r4]) ∧ Below w.heap.size w w' := by
  have hu23 := Tryd.underlying23
  have HB := Aside0.mk (Below.refl w.heap.size w)
  have H : (some (1, a0, 0, (⟨#[]⟩ : ByteArray))) = some (r1, r2, r3, r4) := h
  clear h
  simp only [Option.some.injEq, Prod.mk.injEq] at H
  obtain ⟨rfl, rfl, rfl, rfl⟩ := H
  go_enter Tryd.func79, Tryd.ntmps79
  go_wp2_with (first | ((with_reducible refine gate_dst (N := 2) rfl ?_); refine box_event ?hg (N := 2) ?hd (cs := #[.int .u8 0, .int .i64 0, .int .i64 0, .string (⟨#[]⟩ : ByteArray)]) (t := 23) ?hr ?_; (case hd => rfl); (case hg => rfl); (case hr => first | (go_simp; done) | (go_simp; rfl)); intro gb696 hg w2 hbox hb; have n0_ := Aside0.mk (below_step (by repeat (first | (with_reducible first | exact HB.out | apply below_alloc | apply pw_below_drewN | apply below_drew1) | exact HB.out)) hb); have n1_ := Aside0.mk (hbox); have n2_ := Aside0.mk ((by rw [hg]; exact (below_size (by repeat (first | (with_reducible first | exact HB.out | apply below_alloc | apply pw_below_drewN | apply below_drew1) | exact HB.out))) : w.heap.size ≤ gb696)); have n3_ := Aside0.mk ((by rw [hg]; exact (below_size (by repeat (first | (with_reducible first | exact HB.out | apply below_alloc | apply pw_below_drewN | apply below_drew1) | exact HB.out))) : w.heap.size ≤ gb696)); clear HB; have HB := n0_; have BK696 := n1_; have GW696 := n2_; have GE696 := n3_; clear n0_ n1_ n2_ n3_; clear hb hbox hg; have hcz3_0 : w2.cell? ⟨gb696, 0, none⟩ = some (.int .u8 0) := (blk_cell BK696.out 0).trans rfl; have hcz3_1 : w2.cell? ⟨gb696, 1, none⟩ = some (.int .i64 0) := (blk_cell BK696.out 1).trans rfl; have hcz3_2 : w2.cell? ⟨gb696, 2, none⟩ = some (.int .i64 0) := (blk_cell BK696.out 2).trans rfl; have hcz3_3 : w2.cell? ⟨gb696, 3, none⟩ = some (.string (⟨#[]⟩ : ByteArray)) := (blk_cell BK696.out 3).trans rfl; have hfz3_0 := blk_frozen BK696.out 0; have hfz3_1 := blk_frozen BK696.out 1; have hfz3_2 := blk_frozen BK696.out 2; have hfz3_3 := blk_frozen BK696.out 3))
  refine bodyPost_ret (results_cell_row rfl _ _ gb696 23 #[.int .u8 1, .int .i64 a0, .int .i64 0, .string (⟨#[]⟩ : ByteArray)] (0, 0) _ rfl (by (with_reducible repeat (first | refine blk_drewN ?_ _ | refine blk_drew ?_ | refine blk_alloc ?_ _)); refine blk_put (cs := #[.int .u8 1, .int .i64 a0, .int .i64 0, .string (⟨#[]⟩ : ByteArray)]) ?_ 3 _ rfl; (with_reducible repeat (first | refine blk_drewN ?_ _ | refine blk_drew ?_ | refine blk_alloc ?_ _)); refine blk_put (cs := #[.int .u8 1, .int .i64 a0, .int .i64 0, .string (⟨#[]⟩ : ByteArray)]) ?_ 2 _ rfl; (with_reducible repeat (first | refine blk_drewN ?_ _ | refine blk_drew ?_ | refine blk_alloc ?_ _)); refine blk_put (cs := #[.int .u8 1, .int .i64 0, .int .i64 0, .string (⟨#[]⟩ : ByteArray)]) ?_ 1 _ rfl; (with_reducible repeat (first | refine blk_drewN ?_ _ | refine blk_drew ?_ | refine blk_alloc ?_ _)); refine blk_put (cs := #[.int .u8 0, .int .i64 0, .int .i64 0, .string (⟨#[]⟩ : ByteArray)]) ?_ 0 _ rfl; (with_reducible repeat (first | refine blk_drewN ?_ _ | refine blk_drew ?_ | refine blk_alloc ?_ _)); exact BK696.out) Tryd.underlying23 rfl (by kernel_rfl)) rfl ?_
  exact ⟨by first | rfl | (simp [errW_none, errW_some] <;> rfl) | (simp [*, errW_none, errW_some] <;> rfl), by repeat (first | (with_reducible first | exact HB.out | apply below_alloc | apply pw_below_drewN | apply below_drew1 | refine below_set ?_ GE696.out) | exact HB.out)⟩

/-! ### covenantlaw06_text: function 80 -/
def covenantlaw06_text.f (a0 : ByteArray) : Option (Int × Int × Int × ByteArray) := some (3, 0, 0, a0)
set_option maxHeartbeats 8000000 in
set_option maxRecDepth 100000 in
theorem covenantlaw06_text.calls (a0 : ByteArray) (r1 : Int) (r2 : Int) (r3 : Int) (r4 : ByteArray) (w : World) (h : covenantlaw06_text.f a0 = some (r1, r2, r3, r4)) :
    Calls Tryd.prog 80 #[.string a0] w fun e w' => e = .returned (.agg #[.int .u8 r1, .int .i64 r2, .int .i64 r3, .string r4]) ∧ Below w.heap.size w w' := by
  have hu23 := Tryd.underlying23
  have HB := Aside0.mk (Below.refl w.heap.size w)
  have H : (some (3, 0, 0, a0)) = some (r1, r2, r3, r4) := h
  clear h
  simp only [Option.some.injEq, Prod.mk.injEq] at H
  obtain ⟨rfl, rfl, rfl, rfl⟩ := H
  go_enter Tryd.func80, Tryd.ntmps80
  go_wp2_with (first | ((with_reducible refine gate_dst (N := 2) rfl ?_); refine box_event ?hg (N := 2) ?hd (cs := #[.int .u8 0, .int .i64 0, .int .i64 0, .string (⟨#[]⟩ : ByteArray)]) (t := 23) ?hr ?_; (case hd => rfl); (case hg => rfl); (case hr => first | (go_simp; done) | (go_simp; rfl)); intro gb697 hg w2 hbox hb; have n0_ := Aside0.mk (below_step (by repeat (first | (with_reducible first | exact HB.out | apply below_alloc | apply pw_below_drewN | apply below_drew1) | exact HB.out)) hb); have n1_ := Aside0.mk (hbox); have n2_ := Aside0.mk ((by rw [hg]; exact (below_size (by repeat (first | (with_reducible first | exact HB.out | apply below_alloc | apply pw_below_drewN | apply below_drew1) | exact HB.out))) : w.heap.size ≤ gb697)); have n3_ := Aside0.mk ((by rw [hg]; exact (below_size (by repeat (first | (with_reducible first | exact HB.out | apply below_alloc | apply pw_below_drewN | apply below_drew1) | exact HB.out))) : w.heap.size ≤ gb697)); clear HB; have HB := n0_; have BK697 := n1_; have GW697 := n2_; have GE697 := n3_; clear n0_ n1_ n2_ n3_; clear hb hbox hg; have hcz3_0 : w2.cell? ⟨gb697, 0, none⟩ = some (.int .u8 0) := (blk_cell BK697.out 0).trans rfl; have hcz3_1 : w2.cell? ⟨gb697, 1, none⟩ = some (.int .i64 0) := (blk_cell BK697.out 1).trans rfl; have hcz3_2 : w2.cell? ⟨gb697, 2, none⟩ = some (.int .i64 0) := (blk_cell BK697.out 2).trans rfl; have hcz3_3 : w2.cell? ⟨gb697, 3, none⟩ = some (.string (⟨#[]⟩ : ByteArray)) := (blk_cell BK697.out 3).trans rfl; have hfz3_0 := blk_frozen BK697.out 0; have hfz3_1 := blk_frozen BK697.out 1; have hfz3_2 := blk_frozen BK697.out 2; have hfz3_3 := blk_frozen BK697.out 3))
  refine bodyPost_ret (results_cell_row rfl _ _ gb697 23 #[.int .u8 3, .int .i64 0, .int .i64 0, .string a0] (0, 0) _ rfl (by (with_reducible repeat (first | refine blk_drewN ?_ _ | refine blk_drew ?_ | refine blk_alloc ?_ _)); refine blk_put (cs := #[.int .u8 3, .int .i64 0, .int .i64 0, .string (⟨#[]⟩ : ByteArray)]) ?_ 3 _ rfl; (with_reducible repeat (first | refine blk_drewN ?_ _ | refine blk_drew ?_ | refine blk_alloc ?_ _)); refine blk_put (cs := #[.int .u8 3, .int .i64 0, .int .i64 0, .string (⟨#[]⟩ : ByteArray)]) ?_ 2 _ rfl; (with_reducible repeat (first | refine blk_drewN ?_ _ | refine blk_drew ?_ | refine blk_alloc ?_ _)); refine blk_put (cs := #[.int .u8 3, .int .i64 0, .int .i64 0, .string (⟨#[]⟩ : ByteArray)]) ?_ 1 _ rfl; (with_reducible repeat (first | refine blk_drewN ?_ _ | refine blk_drew ?_ | refine blk_alloc ?_ _)); refine blk_put (cs := #[.int .u8 0, .int .i64 0, .int .i64 0, .string (⟨#[]⟩ : ByteArray)]) ?_ 0 _ rfl; (with_reducible repeat (first | refine blk_drewN ?_ _ | refine blk_drew ?_ | refine blk_alloc ?_ _)); exact BK697.out) Tryd.underlying23 rfl (by kernel_rfl)) rfl ?_
  exact ⟨by first | rfl | (simp [errW_none, errW_some] <;> rfl) | (simp [*, errW_none, errW_some] <;> rfl), by repeat (first | (with_reducible first | exact HB.out | apply below_alloc | apply pw_below_drewN | apply below_drew1 | refine below_set ?_ GE697.out) | exact HB.out)⟩

/-! ### covenantlaw06_awake: function 39: by hand -/
theorem num_any (n : Int) (w : World) : Calls Tryd.prog 79 #[.int .i64 n] w fun e w' => e = .returned (.agg #[.int .u8 1, .int .i64 n, .int .i64 0, .string ⟨#[]⟩]) ∧ Below w.heap.size w w' :=
  covenantlaw06_num.calls n 1 n 0 ⟨#[]⟩ w rfl
theorem text_any (s : ByteArray) (w : World) : Calls Tryd.prog 80 #[.string s] w fun e w' => e = .returned (.agg #[.int .u8 3, .int .i64 0, .int .i64 0, .string s]) ∧ Below w.heap.size w w' :=
  covenantlaw06_text.calls s 3 0 0 s w rfl
def cellsOf (x : S23) : List Value := [.int .u8 x.f0, .int .i64 x.f1, .int .i64 x.f2, .string x.f3]
theorem flat_at : ∀ (xs : List S23) (j : Nat) (p : S23) (i : Nat) (u : Value), xs[j]? = some p → (cellsOf p)[i]? = some u → (xs.flatMap cellsOf)[j * 4 + i]? = some u
  | [], j, p, i, u, hp, _ => by simp at hp
  | x :: r, 0, p, i, u, hp, hu => by
    have hx : x = p := by simpa using hp
    subst hx
    have hi : i < 4 := by
      have := (List.getElem?_eq_some_iff.1 hu).1
      simpa [cellsOf] using this
    rw [List.flatMap_cons, List.getElem?_append_left (by simp [cellsOf]; omega), Nat.zero_mul, Nat.zero_add]
    exact hu
  | x :: r, j + 1, p, i, u, hp, hu => by
    rw [List.flatMap_cons, List.getElem?_append_right (by simp [cellsOf]; omega)]
    have := flat_at r j p i u (by simpa using hp) hu
    rw [← this]
    congr 1
    simp [cellsOf]
    omega
theorem C_new (W : World) (b : Nat) (cs : Array Value) (xs : List S23) (n : Nat) (hb : b = W.heap.size) (hn : xs.length = n) (hl : n ≤ 1000) (hcs : cs.toList = xs.flatMap cellsOf) : Kd.C k23 (W.alloc (.cells cs 23)) (some ⟨b, 0, none⟩) n xs := by
  subst hb
  refine ⟨hn, by omega, fun _ => ⟨_, rfl, fun j p hp => ⟨cellsOf p, rfl, k23_mk _ p, fun i u hu => ?_⟩⟩⟩
  rw [add_plain]
  have := flat_at xs j p i u hp hu
  rw [← hcs, Array.getElem?_toList] at this
  rw [show k23.sz = 4 from rfl]
  simp [go_sem]
  exact this
theorem I_new (W : World) (b : Nat) (cs : Array Value) (zs : List Int) (n : Nat) (hb : b = W.heap.size) (hn : zs.length = n) (hl : n ≤ 1000) (hcs : cs.toList = zs.map (Value.int .i64)) : Kd.C (Kd.int .i64) (W.alloc (.cells cs 3)) (some ⟨b, 0, none⟩) n zs := by
  subst hb
  refine ⟨hn, by omega, fun _ => ⟨_, rfl, fun j p hp => ⟨[.int .i64 p], rfl, rfl, fun i u hu => ?_⟩⟩⟩
  rw [add_plain]
  have hi : i = 0 := by
    have := (List.getElem?_eq_some_iff.1 hu).1
    simp at this
    exact this
  subst hi
  have hu' : u = .int .i64 p := by simpa using hu.symm
  subst hu'
  rw [show (Kd.int .i64).sz = 1 from rfl]
  have h2 : cs[j]? = some (.int .i64 p) := by rw [← Array.getElem?_toList, hcs]; simp [hp]
  simp [go_sem]
  exact h2
theorem bAlloc {w W : World} (h : Below w.heap.size w W) (o : Obj) : Below w.heap.size w (W.alloc o) := h.alloc h.size o
theorem bOne (W : World) (o : Obj) : Below W.heap.size W (W.alloc o) := (Below.refl _ _).alloc (Nat.le_refl _) o
theorem key_Of.at_ (k n0 n1 : Nat) (l0 : List S23) (l1 : List Int) (r1 : List (S23)) (r2 : Int) (A0 : Option Addr) (c0 : Nat) (A1 : Option Addr) (c1 : Nat) (w : World) (h0 : l0.length = n0) (h1 : l1.length = n1) (hr0 : Kd.C k23 w A0 n0 l0) (hc0 : n0 ≤ c0) (hr1 : Kd.C (Kd.int .i64) w A1 n1 l1) (hc1 : n1 ≤ c1) (h : key_Of.f k l0 l1 = some (r1, r2)) :
    Calls Tryd.prog 40 #[.slice A0 n0 c0, .slice A1 n1 c1] w fun e w' => ∃ v0_ : Value, e = .returned (.tuple #[v0_, .int .i64 r2]) ∧ Kd.R k23 23 w' w.heap.size (fun _ => True) v0_ r1 ∧ Below w.heap.size w w' := by
  subst h0 h1; exact key_Of.calls k A0 c0 l0 A1 c1 l1 r1 r2 w hr0 hc0 hr1 hc1 h
theorem key_Set.at_ (k n0 n1 n2 : Nat) (l0 : List S23) (l1 : List Int) (l2 : List S23) (r1 : List (S23)) (r2 : Int) (A0 : Option Addr) (c0 : Nat) (A1 : Option Addr) (c1 : Nat) (A2 : Option Addr) (c2 : Nat) (w : World) (h0 : l0.length = n0) (h1 : l1.length = n1) (h2 : l2.length = n2) (hr0 : Kd.C k23 w A0 n0 l0) (hc0 : n0 ≤ c0) (hr1 : Kd.C (Kd.int .i64) w A1 n1 l1) (hc1 : n1 ≤ c1) (hr2 : Kd.C k23 w A2 n2 l2) (hc2 : n2 ≤ c2) (h : key_Set.f k l0 l1 l2 = some (r1, r2)) :
    Calls Tryd.prog 42 #[.slice A0 n0 c0, .slice A1 n1 c1, .slice A2 n2 c2] w fun e w' => ∃ v0_ : Value, e = .returned (.tuple #[v0_, .int .i64 r2]) ∧ Kd.R k23 23 w' w.heap.size (fun _ => True) v0_ r1 ∧ Below w.heap.size w w' := by
  subst h0 h1 h2; exact key_Set.calls k A0 c0 l0 A1 c1 l1 A2 c2 l2 r1 r2 w hr0 hc0 hr1 hc1 hr2 hc2 h
theorem key_Refers.at_ (k n0 n1 n2 : Nat) (l0 : List S23) (l1 : List Int) (l2 : List S23) (r : Bool) (A0 : Option Addr) (c0 : Nat) (A1 : Option Addr) (c1 : Nat) (A2 : Option Addr) (c2 : Nat) (w : World) (h0 : l0.length = n0) (h1 : l1.length = n1) (h2 : l2.length = n2) (hr0 : Kd.C k23 w A0 n0 l0) (hc0 : n0 ≤ c0) (hr1 : Kd.C (Kd.int .i64) w A1 n1 l1) (hc1 : n1 ≤ c1) (hr2 : Kd.C k23 w A2 n2 l2) (hc2 : n2 ≤ c2) (h : key_Refers.f k l0 l1 l2 = some r) :
    Calls Tryd.prog 50 #[.slice A0 n0 c0, .slice A1 n1 c1, .slice A2 n2 c2] w fun e w' => e = .returned (.bool r) ∧ Below w.heap.size w w' := by
  subst h0 h1 h2; exact key_Refers.calls k A0 c0 l0 A1 c1 l1 A2 c2 l2 r w hr0 hc0 hr1 hc1 hr2 hc2 h
theorem key_Whole.at_ (n0 : Nat) (l0 : List S23) (r : Bool) (A0 : Option Addr) (c0 : Nat) (w : World) (h0 : l0.length = n0) (hr0 : Kd.C k23 w A0 n0 l0) (hc0 : n0 ≤ c0) (h : key_Whole.f l0 = some r) :
    Calls Tryd.prog 48 #[.slice A0 n0 c0] w fun e w' => e = .returned (.bool r) ∧ Below w.heap.size w w' := by
  subst h0; exact key_Whole.calls A0 c0 l0 r w hr0 hc0 h
theorem covenantref04_Same.at_ (k n0 n1 : Nat) (l0 l1 : List S23) (r : Bool) (A0 : Option Addr) (c0 : Nat) (A1 : Option Addr) (c1 : Nat) (w : World) (h0 : l0.length = n0) (h1 : l1.length = n1) (hr0 : Kd.C k23 w A0 n0 l0) (hc0 : n0 ≤ c0) (hr1 : Kd.C k23 w A1 n1 l1) (hc1 : n1 ≤ c1) (h : covenantref04_Same.f k l0 l1 = some r) :
    Calls Tryd.prog 44 #[.slice A0 n0 c0, .slice A1 n1 c1] w fun e w' => e = .returned (.bool r) ∧ Drawn0 w w' := by
  subst h0 h1; exact covenantref04_Same.calls k A0 c0 l0 A1 c1 l1 r w hr0 hc0 hr1 hc1 h
def covenantlaw06_awake.f : Option (Bool) := some true
def rowA : List S23 := [⟨1, 7, 0, ⟨#[]⟩⟩, ⟨0, 0, 0, ⟨#[]⟩⟩, ⟨3, 0, 0, ⟨#[120]⟩⟩]
def keyA : List S23 := [⟨3, 0, 0, ⟨#[120]⟩⟩, ⟨1, 7, 0, ⟨#[]⟩⟩]
set_option maxRecDepth 100000 in
set_option maxHeartbeats 4000000 in
theorem covenantlaw06_awake.calls (r : Bool) (w : World) (h : covenantlaw06_awake.f = some r) :
    Calls Tryd.prog 39 #[] w fun e w' => e = .returned (.bool r) ∧ Below w.heap.size w w' := by
  obtain rfl := Option.some.inj h
  clear h
  go_enter Tryd.func39, Tryd.ntmps39
  -- a, e
  go_wp2_with (first | (go_at_call 79; refine (num_any _ _).mono ?_; rintro e w1 ⟨rfl, q1⟩) | (go_at_call 80; refine (text_any _ _).mono ?_; rintro e w2 ⟨rfl, q2⟩) | fail)
  have q := Aside0.mk (below_step q1 q2)
  clear q1 q2
  (with_reducible refine (key_Of.at_ 30 3 2 rowA [2, 0] keyA 0 _ _ _ _ _ (by decide) (by decide) ?s1 (by decide) ?s2 (by decide) (by kernel_rfl)).mono ?_)
  case s1 => exact Kd.C_below (C_new _ _ _ rowA 3 (by simp) rfl (by decide) (by rfl)) (bOne _ _)
  case s2 => exact I_new _ _ _ [2, 0] 2 (by simp) rfl (by decide) (by rfl)
  rintro e w3 ⟨va, rfl, HRa, q3⟩
  obtain ⟨A3, c3, he, hl3, HCa⟩ := Kd.R_reads HRa
  subst he
  have CR := Aside0.mk (Kd.C_below (Kd.C_below (C_new w2 w2.heap.size #[.int .u8 1, .int .i64 7, .int .i64 0, .string ⟨#[]⟩, .int .u8 0, .int .i64 0, .int .i64 0, .string ⟨#[]⟩, .int .u8 3, .int .i64 0, .int .i64 0, .string ⟨#[120]⟩] rowA 3 rfl rfl (by decide) rfl) (bOne _ _)) q3)
  replace q := Aside0.mk (below_step (bAlloc (bAlloc q.out _) _) q3)
  clear HRa q3
  replace HCa := Aside0.mk HCa
  replace hl3 := Aside0.mk hl3
  -- b, f
  go_wp2_with fail
  (with_reducible refine (key_Of.at_ 30 3 1 rowA [1] [⟨0, 0, 0, ⟨#[]⟩⟩] 0 _ _ _ _ _ (by decide) (by decide) ?s1 (by decide) ?s2 (by decide) (by kernel_rfl)).mono ?_)
  case s1 => exact Kd.C_below CR.out (bOne _ _)
  case s2 => exact I_new _ _ _ [1] 1 (by simp) rfl (by decide) (by rfl)
  rintro e w4 ⟨vb, rfl, HRb, q4⟩
  obtain ⟨A4, c4, he, hl4, HCb⟩ := Kd.R_reads HRb
  subst he
  have q3 := below_step (bOne w3 (.cells #[.int .i64 1] 3)) q4
  replace CR := Aside0.mk (Kd.C_below CR.out q3)
  replace HCa := Aside0.mk (Kd.C_below HCa.out q3)
  replace q := Aside0.mk (below_step q.out q3)
  clear HRb q3 q4
  replace HCb := Aside0.mk HCb
  replace hl4 := Aside0.mk hl4
  -- c, g
  go_wp2_with fail
  refine (num_any 1 _).mono ?_; rintro e w5 ⟨rfl, q5⟩
  go_wp2_with fail
  refine (num_any 2 _).mono ?_; rintro e w6 ⟨rfl, q6⟩
  replace q6 := below_step q5 q6; clear q5
  go_wp2_with fail
  refine (num_any 5 _).mono ?_; rintro e w7 ⟨rfl, q7⟩
  have P1 := Aside0.mk (Kd.C_below (Kd.C_below (C_new w6 w6.heap.size #[.int .u8 1, .int .i64 1, .int .i64 0, .string ⟨#[]⟩, .int .u8 1, .int .i64 2, .int .i64 0, .string ⟨#[]⟩] [⟨1, 1, 0, ⟨#[]⟩⟩, ⟨1, 2, 0, ⟨#[]⟩⟩] 2 rfl rfl (by decide) rfl) (bOne _ _)) q7)
  have P2 := Aside0.mk (Kd.C_below (I_new (w6.alloc (.cells #[.int .u8 1, .int .i64 1, .int .i64 0, .string ⟨#[]⟩, .int .u8 1, .int .i64 2, .int .i64 0, .string ⟨#[]⟩] 23)) (w6.heap.size + 1) #[.int .i64 1] [1] 1 (by simp) rfl (by decide) rfl) q7)
  replace q7 := below_step (bAlloc (bAlloc q6 _) _) q7; clear q6
  replace CR := Aside0.mk (Kd.C_below CR.out q7)
  replace HCa := Aside0.mk (Kd.C_below HCa.out q7)
  replace HCb := Aside0.mk (Kd.C_below HCb.out q7)
  replace q := Aside0.mk (below_step q.out q7)
  clear q7
  go_wp2_with fail
  (with_reducible refine (key_Set.at_ 30 2 1 1 [⟨1, 1, 0, ⟨#[]⟩⟩, ⟨1, 2, 0, ⟨#[]⟩⟩] [1] [⟨1, 5, 0, ⟨#[]⟩⟩] [⟨1, 1, 0, ⟨#[]⟩⟩, ⟨1, 5, 0, ⟨#[]⟩⟩] 0 _ _ _ _ _ _ _ (by decide) (by decide) (by decide) ?s1 (by decide) ?s2 (by decide) ?s3 (by decide) (by kernel_rfl)).mono ?_)
  case s1 => exact Kd.C_below P1.out (bOne _ _)
  case s2 => exact Kd.C_below P2.out (bOne _ _)
  case s3 => exact C_new _ _ _ [⟨1, 5, 0, ⟨#[]⟩⟩] 1 (by simp) rfl (by decide) (by rfl)
  rintro e w8 ⟨vc, rfl, HRc, q8⟩
  obtain ⟨A8, c8, he, hl8, HCc⟩ := Kd.R_reads HRc
  subst he
  have q7 := below_step (bOne w7 (.cells #[.int .u8 1, .int .i64 5, .int .i64 0, .string ⟨#[]⟩] 23)) q8
  replace CR := Aside0.mk (Kd.C_below CR.out q7)
  replace HCa := Aside0.mk (Kd.C_below HCa.out q7)
  replace HCb := Aside0.mk (Kd.C_below HCb.out q7)
  replace q := Aside0.mk (below_step q.out q7)
  clear HRc q7 q8 P1 P2
  replace HCc := Aside0.mk HCc
  replace hl8 := Aside0.mk hl8
  -- h
  go_wp2_with fail
  (with_reducible refine (key_Of.at_ 30 3 2 rowA [0, 0] [] 4 _ _ _ _ _ (by decide) (by decide) ?s1 (by decide) ?s2 (by decide) (by kernel_rfl)).mono ?_)
  case s1 => exact Kd.C_below CR.out (bOne _ _)
  case s2 => exact I_new _ _ _ [0, 0] 2 (by simp) rfl (by decide) (by rfl)
  rintro e w9 ⟨vd, rfl, HRd, q9⟩
  have q7 := below_step (bOne w8 (.cells #[.int .i64 0, .int .i64 0] 3)) q9
  replace HCa := Aside0.mk (Kd.C_below HCa.out q7)
  replace HCb := Aside0.mk (Kd.C_below HCb.out q7)
  replace HCc := Aside0.mk (Kd.C_below HCc.out q7)
  replace q := Aside0.mk (below_step q.out q7)
  clear HRd q7 q9 CR
  -- the answer
  go_wp2_with fail
  refine (text_any _ _).mono ?_; rintro e w10 ⟨rfl, q10⟩
  go_wp2_with fail
  refine (num_any _ _).mono ?_; rintro e w11 ⟨rfl, q11⟩
  replace q11 := below_step q10 q11; clear q10
  replace HCa := Aside0.mk (Kd.C_below HCa.out q11)
  replace HCb := Aside0.mk (Kd.C_below HCb.out q11)
  replace HCc := Aside0.mk (Kd.C_below HCc.out q11)
  replace q := Aside0.mk (below_step q.out q11)
  clear q11
  go_wp2_with fail
  (with_reducible refine (covenantref04_Same.at_ 30 _ 2 keyA keyA true _ _ _ _ _ rfl (by decide) ?s1 ?s2 ?s3 (by decide) (by kernel_rfl)).mono ?_)
  case s1 => exact Kd.C_below HCa.out (bOne _ _)
  case s2 => exact hl3.out
  case s3 => exact C_new _ _ _ keyA 2 (by simp) rfl (by decide) (by rfl)
  rintro e wd ⟨rfl, ⟨nd, rfl⟩⟩
  go_wp2_with fail
  (with_reducible refine (key_Whole.at_ _ keyA true _ _ _ rfl ?s1 ?s2 (by kernel_rfl)).mono ?_)
  case s1 => exact Kd.C_drewN (Kd.C_below HCa.out (bOne _ _)) _
  case s2 => exact hl3.out
  rintro e w12 ⟨rfl, q12⟩
  have q7 := below_step (pw_below_drewN (bOne w11 (.cells #[.int .u8 3, .int .i64 0, .int .i64 0, .string ⟨#[120]⟩, .int .u8 1, .int .i64 7, .int .i64 0, .string ⟨#[]⟩] 23)) nd) q12
  replace HCb := Aside0.mk (Kd.C_below HCb.out q7)
  replace HCc := Aside0.mk (Kd.C_below HCc.out q7)
  replace q := Aside0.mk (below_step q.out q7)
  clear q7 q12 HCa
  go_wp2_with fail
  (with_reducible refine (key_Whole.at_ 1 [⟨0, 0, 0, ⟨#[]⟩⟩] false _ _ _ (by decide) ?s1 ?s2 (by kernel_rfl)).mono ?_)
  case s1 => exact HCb.out
  case s2 => exact hl4.out
  rintro e w13 ⟨rfl, q13⟩
  replace HCc := Aside0.mk (Kd.C_below HCc.out q13)
  replace q := Aside0.mk (below_step q.out q13)
  clear q13 HCb
  go_wp2_with fail
  refine (num_any _ _).mono ?_; rintro e w14 ⟨rfl, q14⟩
  go_wp2_with fail
  refine (num_any _ _).mono ?_; rintro e w15 ⟨rfl, q15⟩
  replace q15 := below_step q14 q15; clear q14
  replace HCc := Aside0.mk (Kd.C_below HCc.out q15)
  replace q := Aside0.mk (below_step q.out q15)
  clear q15
  go_wp2_with fail
  (with_reducible refine (covenantref04_Same.at_ 30 2 2 [⟨1, 1, 0, ⟨#[]⟩⟩, ⟨1, 5, 0, ⟨#[]⟩⟩] [⟨1, 1, 0, ⟨#[]⟩⟩, ⟨1, 5, 0, ⟨#[]⟩⟩] true _ _ _ _ _ (by decide) (by decide) ?s1 ?s2 ?s3 (by decide) (by kernel_rfl)).mono ?_)
  case s1 => exact Kd.C_below HCc.out (bOne _ _)
  case s2 => exact hl8.out
  case s3 => exact C_new _ _ _ [⟨1, 1, 0, ⟨#[]⟩⟩, ⟨1, 5, 0, ⟨#[]⟩⟩] 2 (by simp) rfl (by decide) (by rfl)
  rintro e wd ⟨rfl, ⟨ne, rfl⟩⟩
  replace q := Aside0.mk (pw_below_drewN (bAlloc q.out (.cells #[.int .u8 1, .int .i64 1, .int .i64 0, .string ⟨#[]⟩, .int .u8 1, .int .i64 5, .int .i64 0, .string ⟨#[]⟩] 23)) ne)
  clear HCc
  go_wp2_with fail
  refine (num_any _ _).mono ?_; rintro e w16 ⟨rfl, q16⟩
  go_wp2_with fail
  refine (text_any _ _).mono ?_; rintro e w17 ⟨rfl, q17⟩
  replace q := Aside0.mk (below_step (below_step q.out q16) q17)
  clear q16 q17
  go_wp2_with fail
  refine (num_any _ _).mono ?_; rintro e w18 ⟨rfl, q18⟩
  have P1 := Aside0.mk (Kd.C_below (Kd.C_below (C_new w17 w17.heap.size #[.int .u8 1, .int .i64 7, .int .i64 0, .string ⟨#[]⟩, .int .u8 3, .int .i64 0, .int .i64 0, .string ⟨#[120]⟩] [⟨1, 7, 0, ⟨#[]⟩⟩, ⟨3, 0, 0, ⟨#[120]⟩⟩] 2 rfl rfl (by decide) rfl) (bOne _ (.cells #[.int .i64 0] 3))) q18)
  have P2 := Aside0.mk (Kd.C_below (I_new (w17.alloc (.cells #[.int .u8 1, .int .i64 7, .int .i64 0, .string ⟨#[]⟩, .int .u8 3, .int .i64 0, .int .i64 0, .string ⟨#[120]⟩] 23)) (w17.heap.size + 1) #[.int .i64 0] [0] 1 (by simp) rfl (by decide) rfl) q18)
  replace q := Aside0.mk (below_step (bAlloc (bAlloc q.out _) _) q18)
  clear q18
  go_wp2_with fail
  (with_reducible refine (key_Refers.at_ 30 2 1 1 [⟨1, 7, 0, ⟨#[]⟩⟩, ⟨3, 0, 0, ⟨#[120]⟩⟩] [0] [⟨1, 7, 0, ⟨#[]⟩⟩] true _ _ _ _ _ _ _ (by decide) (by decide) (by decide) ?s1 (by decide) ?s2 (by decide) ?s3 (by decide) (by kernel_rfl)).mono ?_)
  case s1 => exact Kd.C_below P1.out (bOne _ _)
  case s2 => exact Kd.C_below P2.out (bOne _ _)
  case s3 => exact C_new _ _ _ [⟨1, 7, 0, ⟨#[]⟩⟩] 1 (by simp) rfl (by decide) (by rfl)
  rintro e w19 ⟨rfl, q19⟩
  replace q := Aside0.mk (below_step (bAlloc q.out _) q19)
  clear q19 P1 P2
  go_wp2_with fail
  go_ret
  exact ⟨rfl, q.out⟩

end Go.Proofs.YtddmllocjocipaaDoor.D
