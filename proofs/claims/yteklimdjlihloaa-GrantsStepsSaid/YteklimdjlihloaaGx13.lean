/- What functions that a law reaches come to: printed, and made shorter, by programs of this session. Conditions: as each theorem states them. -/
import Derived.Test.YteklimdjlihloaaAut
import Derived.Test.YteklimdjlihloaaGx0
import Derived.Test.YteklimdjlihloaaTok
namespace Go.Proofs.Yteklimdjlihloaa.G
open Go.RowKit Go.Proofs.YteklimdjlihloaaW.PrintWords Go.Proofs.YteklimdjlihloaaW.PrintLast Go.Proofs.YteklimdjlihloaaW.PrintMore
attribute [local go_sem] max2_int min2_int max_two min_two max_three min_three max_four min_four   -- for this text's walks alone
set_option linter.unusedVariables false
set_option linter.unusedSimpArgs false

/-! ### covenantlaw19_Case_large: function 11 -/
mutual
def covenantlaw19_Case_large.j0 : Nat → Bool → Int → List (S72) → Int → List ByteArray → List (S66) → List (S43) → Option (Bool)
 | 0, _, _, _, _, _, _, _ => none
 | k + 1, x31, x362000, x362001, x362002, x362003, x362004, x362005 => if x31 = true then (some true) else (covenantlaw19_Case_large.l0 k 0 0 x362000 x362001 x362002 x362003 x362004 x362005)
def covenantlaw19_Case_large.l0 : Nat → Int → Int → Int → List (S72) → Int → List ByteArray → List (S66) → List (S43) → Option (Bool)
 | 0, _, _, _, _, _, _, _, _ => none
 | k + 1, x3, x4, x362000, x362001, x362002, x362003, x362004, x362005 => if x4 < (x362005.length : Int) then (if 0 ≤ x4 then (if (wrap64 ((((rd_T43 x362005 x4).f0).size : Int) + (((rd_T43 x362005 x4).f1).size : Int))) > 200 then (some true) else (if (((rd_T43 x362005 x4).f2).size : Int) > 200 then (some true) else (covenantlaw19_Case_large.l0 k x3 (wrap64 (x4 + 1)) x362000 x362001 x362002 x362003 x362004 x362005))) else (none)) else (covenantlaw19_Case_large.l1 k x3 0 x362000 x362001 x362002 x362003 x362004 x362005)
def covenantlaw19_Case_large.l1 : Nat → Int → Int → Int → List (S72) → Int → List ByteArray → List (S66) → List (S43) → Option (Bool)
 | 0, _, _, _, _, _, _, _, _ => none
 | k + 1, x3, x5, x362000, x362001, x362002, x362003, x362004, x362005 => if x5 < (x362003.length : Int) then (if 0 ≤ x5 then (covenantlaw19_Case_large.l1 k (wrap64 (x3 + (mn ((rdOf ByteArray.empty x362003 x5).size : Int) 1000))) (wrap64 (x5 + 1)) x362000 x362001 x362002 x362003 x362004 x362005) else (none)) else (covenantlaw19_Case_large.l2 k x3 0 x362000 x362001 x362002 x362003 x362004 x362005)
def covenantlaw19_Case_large.l2 : Nat → Int → Int → Int → List (S72) → Int → List ByteArray → List (S66) → List (S43) → Option (Bool)
 | 0, _, _, _, _, _, _, _, _ => none
 | k + 1, x3, x6, x362000, x362001, x362002, x362003, x362004, x362005 => if x6 < (x362004.length : Int) then (if 0 ≤ x6 then (covenantlaw19_Case_large.l2 k (wrap64 ((wrap64 (x3 + (mn (((rd_T66 x362004 x6).f0).size : Int) 1000))) + (mn (((rd_T66 x362004 x6).f1).size : Int) 1000))) (wrap64 (x6 + 1)) x362000 x362001 x362002 x362003 x362004 x362005) else (none)) else (some (decide (x3 > 3000)))
end
def covenantlaw19_Case_large.f (k : Nat) (a0_0 : Int) (l0_1 : List (S72)) (a0_2 : Int) (l0_3 : List ByteArray) (l0_4 : List (S66)) (l0_5 : List (S43)) : Option (Bool) := if (l0_1.length : Int) > 20 then (covenantlaw19_Case_large.j0 k true a0_0 l0_1 a0_2 l0_3 l0_4 l0_5) else (if (l0_3.length : Int) > 20 then (covenantlaw19_Case_large.j0 k true a0_0 l0_1 a0_2 l0_3 l0_4 l0_5) else (if (l0_4.length : Int) > 40 then (covenantlaw19_Case_large.j0 k true a0_0 l0_1 a0_2 l0_3 l0_4 l0_5) else (covenantlaw19_Case_large.j0 k (decide ((l0_5.length : Int) > 30)) a0_0 l0_1 a0_2 l0_3 l0_4 l0_5)))
theorem covenantlaw19_Case_large.mono_l : ∀ k, (∀ y0 y1 y2 y3 y4 y5 y6, LeO (covenantlaw19_Case_large.j0 k y0 y1 y2 y3 y4 y5 y6) (covenantlaw19_Case_large.j0 (k + 1) y0 y1 y2 y3 y4 y5 y6)) ∧ (∀ y0 y1 y2 y3 y4 y5 y6 y7, LeO (covenantlaw19_Case_large.l0 k y0 y1 y2 y3 y4 y5 y6 y7) (covenantlaw19_Case_large.l0 (k + 1) y0 y1 y2 y3 y4 y5 y6 y7)) ∧ (∀ y0 y1 y2 y3 y4 y5 y6 y7, LeO (covenantlaw19_Case_large.l1 k y0 y1 y2 y3 y4 y5 y6 y7) (covenantlaw19_Case_large.l1 (k + 1) y0 y1 y2 y3 y4 y5 y6 y7)) ∧ (∀ y0 y1 y2 y3 y4 y5 y6 y7, LeO (covenantlaw19_Case_large.l2 k y0 y1 y2 y3 y4 y5 y6 y7) (covenantlaw19_Case_large.l2 (k + 1) y0 y1 y2 y3 y4 y5 y6 y7))
 | 0 => ⟨fun _ _ _ _ _ _ _ r h => by simp [covenantlaw19_Case_large.j0] at h, fun _ _ _ _ _ _ _ _ r h => by simp [covenantlaw19_Case_large.l0] at h, fun _ _ _ _ _ _ _ _ r h => by simp [covenantlaw19_Case_large.l1] at h, fun _ _ _ _ _ _ _ _ r h => by simp [covenantlaw19_Case_large.l2] at h⟩
 | k + 1 => by
  obtain ⟨ih0, ih1, ih2, ih3⟩ := covenantlaw19_Case_large.mono_l k
  refine ⟨?_, ?_, ?_, ?_⟩
  ·intro y0 y1 y2 y3 y4 y5 y6
   unfold covenantlaw19_Case_large.j0
   repeat' first
   | (with_reducible exact ih0 _ _ _ _ _ _ _)
   | (with_reducible exact ih1 _ _ _ _ _ _ _ _)
   | (with_reducible exact ih2 _ _ _ _ _ _ _ _)
   | (with_reducible exact ih3 _ _ _ _ _ _ _ _)
   | (with_reducible exact LeO.refl _)
   | (with_reducible exact LeO.none _)
   | (with_reducible refine LeO.ite ?_ ?_)
   | (with_reducible refine LeO.bind ?_ (fun _ => ?_))
   | exact ih0 _ _ _ _ _ _ _
   | exact ih1 _ _ _ _ _ _ _ _
   | exact ih2 _ _ _ _ _ _ _ _
   | exact ih3 _ _ _ _ _ _ _ _
   | exact LeO.none _
   | refine LeO.ite ?_ ?_
   | refine LeO.bind ?_ (fun _ => ?_)
  ·intro y0 y1 y2 y3 y4 y5 y6 y7
   unfold covenantlaw19_Case_large.l0
   repeat' first
   | (with_reducible exact ih0 _ _ _ _ _ _ _)
   | (with_reducible exact ih1 _ _ _ _ _ _ _ _)
   | (with_reducible exact ih2 _ _ _ _ _ _ _ _)
   | (with_reducible exact ih3 _ _ _ _ _ _ _ _)
   | (with_reducible exact LeO.refl _)
   | (with_reducible exact LeO.none _)
   | (with_reducible refine LeO.ite ?_ ?_)
   | (with_reducible refine LeO.bind ?_ (fun _ => ?_))
   | exact ih0 _ _ _ _ _ _ _
   | exact ih1 _ _ _ _ _ _ _ _
   | exact ih2 _ _ _ _ _ _ _ _
   | exact ih3 _ _ _ _ _ _ _ _
   | exact LeO.none _
   | refine LeO.ite ?_ ?_
   | refine LeO.bind ?_ (fun _ => ?_)
  ·intro y0 y1 y2 y3 y4 y5 y6 y7
   unfold covenantlaw19_Case_large.l1
   repeat' first
   | (with_reducible exact ih0 _ _ _ _ _ _ _)
   | (with_reducible exact ih1 _ _ _ _ _ _ _ _)
   | (with_reducible exact ih2 _ _ _ _ _ _ _ _)
   | (with_reducible exact ih3 _ _ _ _ _ _ _ _)
   | (with_reducible exact LeO.refl _)
   | (with_reducible exact LeO.none _)
   | (with_reducible refine LeO.ite ?_ ?_)
   | (with_reducible refine LeO.bind ?_ (fun _ => ?_))
   | exact ih0 _ _ _ _ _ _ _
   | exact ih1 _ _ _ _ _ _ _ _
   | exact ih2 _ _ _ _ _ _ _ _
   | exact ih3 _ _ _ _ _ _ _ _
   | exact LeO.none _
   | refine LeO.ite ?_ ?_
   | refine LeO.bind ?_ (fun _ => ?_)
  ·intro y0 y1 y2 y3 y4 y5 y6 y7
   unfold covenantlaw19_Case_large.l2
   repeat' first
   | (with_reducible exact ih0 _ _ _ _ _ _ _)
   | (with_reducible exact ih1 _ _ _ _ _ _ _ _)
   | (with_reducible exact ih2 _ _ _ _ _ _ _ _)
   | (with_reducible exact ih3 _ _ _ _ _ _ _ _)
   | (with_reducible exact LeO.refl _)
   | (with_reducible exact LeO.none _)
   | (with_reducible refine LeO.ite ?_ ?_)
   | (with_reducible refine LeO.bind ?_ (fun _ => ?_))
   | exact ih0 _ _ _ _ _ _ _
   | exact ih1 _ _ _ _ _ _ _ _
   | exact ih2 _ _ _ _ _ _ _ _
   | exact ih3 _ _ _ _ _ _ _ _
   | exact LeO.none _
   | refine LeO.ite ?_ ?_
   | refine LeO.bind ?_ (fun _ => ?_)
theorem covenantlaw19_Case_large.mono : ∀ a0 a1 a2 a3 a4 a5 k, LeO (covenantlaw19_Case_large.f k a0 a1 a2 a3 a4 a5) (covenantlaw19_Case_large.f (k + 1) a0 a1 a2 a3 a4 a5) := by
 intro a0 a1 a2 a3 a4 a5 k; obtain ⟨ih0, ih1, ih2, ih3⟩ := covenantlaw19_Case_large.mono_l k; unfold covenantlaw19_Case_large.f
 repeat' first
   | (with_reducible exact ih0 _ _ _ _ _ _ _)
   | (with_reducible exact ih1 _ _ _ _ _ _ _ _)
   | (with_reducible exact ih2 _ _ _ _ _ _ _ _)
   | (with_reducible exact ih3 _ _ _ _ _ _ _ _)
   | (with_reducible exact LeO.refl _)
   | (with_reducible exact LeO.none _)
   | (with_reducible refine LeO.ite ?_ ?_)
   | (with_reducible refine LeO.bind ?_ (fun _ => ?_))
   | exact ih0 _ _ _ _ _ _ _
   | exact ih1 _ _ _ _ _ _ _ _
   | exact ih2 _ _ _ _ _ _ _ _
   | exact ih3 _ _ _ _ _ _ _ _
   | exact LeO.none _
   | refine LeO.ite ?_ ?_
   | refine LeO.bind ?_ (fun _ => ?_)
set_option maxHeartbeats 8000000 in
set_option maxRecDepth 100000 in
theorem covenantlaw19_Case_large.calls (k : Nat) (a0_0 : Int) (A0_1 : Option Addr) (c0_1 : Nat) (l0_1 : List (S72)) (a0_2 : Int) (A0_3 : Option Addr) (c0_3 : Nat) (l0_3 : List ByteArray) (A0_4 : Option Addr) (c0_4 : Nat) (l0_4 : List (S66)) (A0_5 : Option Addr) (c0_5 : Nat) (l0_5 : List (S43)) (r : Bool) (w : World) (hr0_1 : Kd.C k72 w A0_1 l0_1.length l0_1) (hc0_1 : l0_1.length ≤ c0_1) (hr0_3 : Kd.C Kd.string w A0_3 l0_3.length l0_3) (hc0_3 : l0_3.length ≤ c0_3) (hr0_4 : Kd.C k66 w A0_4 l0_4.length l0_4) (hc0_4 : l0_4.length ≤ c0_4) (hr0_5 : Kd.C k43 w A0_5 l0_5.length l0_5) (hc0_5 : l0_5.length ≤ c0_5) (h : covenantlaw19_Case_large.f k a0_0 l0_1 a0_2 l0_3 l0_4 l0_5 = some r) :
  Calls Try.prog 11 #[.agg #[.int .i64 a0_0, .slice A0_1 l0_1.length c0_1, tokV a0_2, .slice A0_3 l0_3.length c0_3, .slice A0_4 l0_4.length c0_4, .slice A0_5 l0_5.length c0_5]] w fun e w' => e = .returned (.bool r) ∧ Below w.heap.size w w' := by
 have hu32 := Try.underlying32; have HR0_1 := Aside0.mk hr0_1; have HC0_1 := Aside0.mk hc0_1; clear hr0_1 hc0_1; have HR0_3 := Aside0.mk hr0_3; have HC0_3 := Aside0.mk hc0_3; clear hr0_3 hc0_3; have HR0_4 := Aside0.mk hr0_4; have HC0_4 := Aside0.mk hc0_4; clear hr0_4 hc0_4; have HR0_5 := Aside0.mk hr0_5; have HC0_5 := Aside0.mk hc0_5; clear hr0_5 hc0_5; have HB := Aside0.mk (Below.refl w.heap.size w); have H : (if (l0_1.length : Int) > 20 then (covenantlaw19_Case_large.j0 k true a0_0 l0_1 a0_2 l0_3 l0_4 l0_5) else (if (l0_3.length : Int) > 20 then (covenantlaw19_Case_large.j0 k true a0_0 l0_1 a0_2 l0_3 l0_4 l0_5) else (if (l0_4.length : Int) > 40 then (covenantlaw19_Case_large.j0 k true a0_0 l0_1 a0_2 l0_3 l0_4 l0_5) else (covenantlaw19_Case_large.j0 k (decide ((l0_5.length : Int) > 30)) a0_0 l0_1 a0_2 l0_3 l0_4 l0_5)))) = some r := h; clear h; have HC2 := Aside0.mk H; clear H; go_enter Try.func11, Try.ntmps11; (go_upto_region 1 with (first | ((with_reducible refine gate_dst (N := 1) rfl ?_); (try (refine gate_guard (by rfl) ?_; dsimp only)); refine bx 1 #[.int .i64 a0_0, .slice A0_1 l0_1.length c0_1, tokV a0_2, .slice A0_3 l0_3.length c0_3, .slice A0_4 l0_4.length c0_4, .slice A0_5 l0_5.length c0_5] 32 ?_; intro gb361 hg w3 hbox hb; have n_ := g4 (kst hb) (Aside0.mk (hbox)) (kge hg) (kge hg); clear HB hb hbox hg; obtain ⟨HB, BK361, GW361, GE361⟩ := n_)))
 (repeat (go_quiet (first | ((with_reducible refine gate_dst (N := 1) rfl ?_); (try (refine gate_guard (by rfl) ?_; dsimp only)); refine bx 1 #[.int .i64 a0_0, .slice A0_1 l0_1.length c0_1, tokV a0_2, .slice A0_3 l0_3.length c0_3, .slice A0_4 l0_4.length c0_4, .slice A0_5 l0_5.length c0_5] 32 ?_; intro gb361 hg w3 hbox hb; have n_ := g4 (kst hb) (Aside0.mk (hbox)) (kge hg) (kge hg); clear HB hb hbox hg; obtain ⟨HB, BK361, GW361, GE361⟩ := n_)); go_upto_region 1 with (first | ((with_reducible refine gate_dst (N := 1) rfl ?_); (try (refine gate_guard (by rfl) ?_; dsimp only)); refine bx 1 #[.int .i64 a0_0, .slice A0_1 l0_1.length c0_1, tokV a0_2, .slice A0_3 l0_3.length c0_3, .slice A0_4 l0_4.length c0_4, .slice A0_5 l0_5.length c0_5] 32 ?_; intro gb361 hg w3 hbox hb; have n_ := g4 (kst hb) (Aside0.mk (hbox)) (kge hg) (kge hg); clear HB hb hbox hg; obtain ⟨HB, BK361, GW361, GE361⟩ := n_)))); (try simp only [Act.put, List.setIfInBounds_toArray, List.set_cons_zero, List.set_cons_succ]); (go_cut [31] (fun v31 wc => ∃ (kq : Nat) (x31_1 : Bool), v31 = .bool x31_1 ∧ Aside0 (covenantlaw19_Case_large.j0 kq x31_1 a0_0 l0_1 a0_2 l0_3 l0_4 l0_5 = some r) ∧ Aside0 (kq ≤ k) ∧ Aside0 (wc.heap[gb361]? = some (.cells #[.int .i64 a0_0, (.slice A0_1 l0_1.length c0_1), tokV a0_2, (.slice A0_3 l0_3.length c0_3), (.slice A0_4 l0_4.length c0_4), (.slice A0_5 l0_5.length c0_5)] 32 (0, 0))) ∧ Aside0 (Below w.heap.size w wc)))
 case first =>
  have H := HC2.out; clear HC2; by_cases c4 : (l0_1.length : Int) > 20
  ·rw [if_pos c4] at H
   have c4b0 := decide_eq_true c4; (have c4b1 : decide (20 < l0_1.length) = true := decide_eq_true (by omega)); clear c4; (first | rw [c4b0] | (simp only [i64_w, i32_w]; rw [c4b0]) | skip); have H' := Aside0.mk H; clear H; obtain ⟨⟨hcz5_0, hcz5_1, hcz5_2, hcz5_3, hcz5_4, hcz5_5⟩, hfz5_0, hfz5_1, hfz5_2, hfz5_3, hfz5_4, hfz5_5⟩ := ce6 BK361; go_wp2; (repeat (go_quiet (fail); try go_wp2)); go_meet
   case rel => exact ⟨_, (true), (by first | rfl | (simp; done) | (simp [*]; done)), H', ⟨by first | omega | exact Nat.le_refl _⟩, kb0 BK361, ⟨bel⟩⟩
  ·rw [if_neg c4] at H
   have c4b0 := decide_eq_false c4; (have c4b1 : decide (20 < l0_1.length) = false := decide_eq_false (by omega)); clear c4; (first | rw [c4b0] | (simp only [i64_w, i32_w]; rw [c4b0]) | skip); by_cases c6 : (l0_3.length : Int) > 20
   ·rw [if_pos c6] at H
    have c6b0 := decide_eq_true c6; (have c6b1 : decide (20 < l0_3.length) = true := decide_eq_true (by omega)); clear c6; have H' := Aside0.mk H; clear H; obtain ⟨⟨hcz7_0, hcz7_1, hcz7_2, hcz7_3, hcz7_4, hcz7_5⟩, hfz7_0, hfz7_1, hfz7_2, hfz7_3, hfz7_4, hfz7_5⟩ := ce6 BK361; go_wp2; (repeat (go_quiet (fail); try go_wp2)); go_meet
    case rel => exact ⟨_, (true), (by first | rfl | (simp; done) | (simp [*]; done)), H', ⟨by first | omega | exact Nat.le_refl _⟩, kb0 BK361, ⟨bel⟩⟩
   ·rw [if_neg c6] at H
    have c6b0 := decide_eq_false c6; (have c6b1 : decide (20 < l0_3.length) = false := decide_eq_false (by omega)); clear c6; by_cases c8 : (l0_4.length : Int) > 40
    ·rw [if_pos c8] at H
     have c8b0 := decide_eq_true c8; (have c8b1 : decide (40 < l0_4.length) = true := decide_eq_true (by omega)); clear c8; have H' := Aside0.mk H; clear H; obtain ⟨⟨hcz9_0, hcz9_1, hcz9_2, hcz9_3, hcz9_4, hcz9_5⟩, hfz9_0, hfz9_1, hfz9_2, hfz9_3, hfz9_4, hfz9_5⟩ := ce6 BK361; go_wp2; (repeat (go_quiet (fail); try go_wp2)); go_meet
     case rel => exact ⟨_, (true), (by first | rfl | (simp; done) | (simp [*]; done)), H', ⟨by first | omega | exact Nat.le_refl _⟩, kb0 BK361, ⟨bel⟩⟩
    ·rw [if_neg c8] at H
     have c8b0 := decide_eq_false c8; (have c8b1 : decide (40 < l0_4.length) = false := decide_eq_false (by omega)); clear c8; have H' := Aside0.mk H; clear H; obtain ⟨⟨hcz10_0, hcz10_1, hcz10_2, hcz10_3, hcz10_4, hcz10_5⟩, hfz10_0, hfz10_1, hfz10_2, hfz10_3, hfz10_4, hfz10_5⟩ := ce6 BK361; go_wp2; (repeat (go_quiet (fail); try go_wp2)); go_meet
     case rel => exact ⟨_, (decide ((l0_5.length : Int) > 30)), (by first | rfl | (simp; done) | (simp [*]; done)), H', ⟨by first | omega | exact Nat.le_refl _⟩, kb0 BK361, ⟨bel⟩⟩
 case rest =>
  clear HC2; obtain ⟨kq, x31_1, rfl, HA, HJ1, BK361, HB⟩ := hcut
  cases kq with
  | zero => exact absurd HA.out (by simp [covenantlaw19_Case_large.j0])
  | succ kj1 =>
   have H := HA.out; clear HA; simp only [covenantlaw19_Case_large.j0] at H; by_cases c11 : x31_1 = true
   ·subst c11
    rw [if_pos rfl] at H; obtain rfl := Option.some.inj H; go_wp2; (repeat (go_quiet (fail); try go_wp2)); go_ret; (exact ⟨by first | rfl | (simp [errW_none, errW_some] <;> rfl) | (simp [*, errW_none, errW_some] <;> rfl), bel⟩)
   ·replace c11 := Bool.eq_false_iff.mpr c11
    subst c11; (rw [if_neg (show ¬ (false = true) by decide)] at H); have H' := Aside0.mk H; clear H; go_wp2; (repeat (go_quiet (fail); try go_wp2)); (go_loopg [4] kj1 (fun kq v4 w' => ∃ (x4_2 : Int), v4 = .int .i64 x4_2 ∧ Aside0 (covenantlaw19_Case_large.l0 kq 0 x4_2 a0_0 l0_1 a0_2 l0_3 l0_4 l0_5 = some r) ∧ Aside0 (kq ≤ kj1) ∧ Aside0 (w'.heap[gb361]? = some (.cells #[.int .i64 a0_0, (.slice A0_1 l0_1.length c0_1), tokV a0_2, (.slice A0_3 l0_3.length c0_3), (.slice A0_4 l0_4.length c0_4), (.slice A0_5 l0_5.length c0_5)] 32 (0, 0))) ∧ Aside0 (Below w.heap.size w w')))
    case atStart => exact ⟨(0), (by first | rfl | (simp; done) | (simp [*]; done)), H', ⟨Nat.le_refl _⟩, kb0 BK361, ⟨bel⟩⟩
    case round =>
     clear H'; obtain ⟨x4_2, rfl, HA, HK2, BK361, HB⟩ := hrel
     cases gk with
     | zero => exact absurd HA.out (by simp [covenantlaw19_Case_large.l0])
     | succ k2 =>
      have H := HA.out; clear HA; simp only [covenantlaw19_Case_large.l0] at H; by_cases c12 : x4_2 < (l0_5.length : Int)
      ·rw [if_pos c12] at H
       have c12b0 := decide_eq_true c12; clear c12; by_cases c13 : 0 ≤ x4_2
       ·rw [if_pos c13] at H
        have c13b0 := decide_eq_true c13; clear c13; by_cases c14 : (wrap64 ((((rd_T43 l0_5 x4_2).f0).size : Int) + (((rd_T43 l0_5 x4_2).f1).size : Int))) > 200
        ·rw [if_pos c14] at H
         have c14b0 := decide_eq_true c14; clear c14; obtain rfl := Option.some.inj H; obtain ⟨⟨hcz15_0, hcz15_1, hcz15_2, hcz15_3, hcz15_4, hcz15_5⟩, hfz15_0, hfz15_1, hfz15_2, hfz15_3, hfz15_4, hfz15_5⟩ := ce6 BK361; have p362 : 0 ≤ (x4_2 : Int) := dt; have q362 : x4_2 < (l0_5.length : Int) := dt; obtain ⟨ad362, e362, hx362_0, hx362_1, hx362_2, hx362_3, hx362_4⟩ := at_T43 HR0_5.out x4_2 p362 q362; cases e362; replace hx362_0 := kx hx362_0; replace hx362_1 := kx hx362_1; replace hx362_2 := kx hx362_2; replace hx362_3 := kx hx362_3; replace hx362_4 := kx hx362_4; replace p362 := eq_true p362; replace q362 := eq_true q362; have p363 : 0 ≤ (x4_2 : Int) := dt; have q363 : x4_2 < (l0_5.length : Int) := dt; obtain ⟨ad363, e363, hx363_0, hx363_1, hx363_2, hx363_3, hx363_4⟩ := at_T43 HR0_5.out x4_2 p363 q363; (obtain rfl : ad362 = ad363 := (by injection e363)); replace hx363_0 := kx hx363_0; replace hx363_1 := kx hx363_1; replace hx363_2 := kx hx363_2; replace hx363_3 := kx hx363_3; replace hx363_4 := kx hx363_4; replace p363 := eq_true p363; replace q363 := eq_true q363; go_wp2; (repeat (go_quiet (fail); try go_wp2)); go_ret; (exact ⟨by first | rfl | (simp [errW_none, errW_some] <;> rfl) | (simp [*, errW_none, errW_some] <;> rfl), bel⟩)
        ·rw [if_neg c14] at H
         have c14b0 := decide_eq_false c14; clear c14; by_cases c16 : (((rd_T43 l0_5 x4_2).f2).size : Int) > 200
         ·rw [if_pos c16] at H
          have c16b0 := decide_eq_true c16; (have c16b1 : decide (200 < ((rd_T43 l0_5 x4_2).f2).size) = true := decide_eq_true (by omega)); clear c16; obtain rfl := Option.some.inj H; obtain ⟨⟨hcz17_0, hcz17_1, hcz17_2, hcz17_3, hcz17_4, hcz17_5⟩, hfz17_0, hfz17_1, hfz17_2, hfz17_3, hfz17_4, hfz17_5⟩ := ce6 BK361; have p362 : 0 ≤ (x4_2 : Int) := dt; have q362 : x4_2 < (l0_5.length : Int) := dt; obtain ⟨ad362, e362, hx362_0, hx362_1, hx362_2, hx362_3, hx362_4⟩ := at_T43 HR0_5.out x4_2 p362 q362; cases e362; replace hx362_0 := kx hx362_0; replace hx362_1 := kx hx362_1; replace hx362_2 := kx hx362_2; replace hx362_3 := kx hx362_3; replace hx362_4 := kx hx362_4; replace p362 := eq_true p362; replace q362 := eq_true q362; have p363 : 0 ≤ (x4_2 : Int) := dt; have q363 : x4_2 < (l0_5.length : Int) := dt; obtain ⟨ad363, e363, hx363_0, hx363_1, hx363_2, hx363_3, hx363_4⟩ := at_T43 HR0_5.out x4_2 p363 q363; (obtain rfl : ad362 = ad363 := (by injection e363)); replace hx363_0 := kx hx363_0; replace hx363_1 := kx hx363_1; replace hx363_2 := kx hx363_2; replace hx363_3 := kx hx363_3; replace hx363_4 := kx hx363_4; replace p363 := eq_true p363; replace q363 := eq_true q363; have p364 : 0 ≤ (x4_2 : Int) := dt; have q364 : x4_2 < (l0_5.length : Int) := dt; obtain ⟨ad364, e364, hx364_0, hx364_1, hx364_2, hx364_3, hx364_4⟩ := at_T43 HR0_5.out x4_2 p364 q364; (obtain rfl : ad362 = ad364 := (by injection e364)); replace hx364_0 := kx hx364_0; replace hx364_1 := kx hx364_1; replace hx364_2 := kx hx364_2; replace hx364_3 := kx hx364_3; replace hx364_4 := kx hx364_4; replace p364 := eq_true p364; replace q364 := eq_true q364; go_wp2; (repeat (go_quiet (fail); try go_wp2)); go_ret; (exact ⟨by first | rfl | (simp [errW_none, errW_some] <;> rfl) | (simp [*, errW_none, errW_some] <;> rfl), bel⟩)
         ·rw [if_neg c16] at H
          have c16b0 := decide_eq_false c16; (have c16b1 : decide (200 < ((rd_T43 l0_5 x4_2).f2).size) = false := decide_eq_false (by omega)); clear c16; have H' := Aside0.mk H; clear H; obtain ⟨⟨hcz18_0, hcz18_1, hcz18_2, hcz18_3, hcz18_4, hcz18_5⟩, hfz18_0, hfz18_1, hfz18_2, hfz18_3, hfz18_4, hfz18_5⟩ := ce6 BK361; have p362 : 0 ≤ (x4_2 : Int) := dt; have q362 : x4_2 < (l0_5.length : Int) := dt; obtain ⟨ad362, e362, hx362_0, hx362_1, hx362_2, hx362_3, hx362_4⟩ := at_T43 HR0_5.out x4_2 p362 q362; cases e362; replace hx362_0 := kx hx362_0; replace hx362_1 := kx hx362_1; replace hx362_2 := kx hx362_2; replace hx362_3 := kx hx362_3; replace hx362_4 := kx hx362_4; replace p362 := eq_true p362; replace q362 := eq_true q362; have p363 : 0 ≤ (x4_2 : Int) := dt; have q363 : x4_2 < (l0_5.length : Int) := dt; obtain ⟨ad363, e363, hx363_0, hx363_1, hx363_2, hx363_3, hx363_4⟩ := at_T43 HR0_5.out x4_2 p363 q363; (obtain rfl : ad362 = ad363 := (by injection e363)); replace hx363_0 := kx hx363_0; replace hx363_1 := kx hx363_1; replace hx363_2 := kx hx363_2; replace hx363_3 := kx hx363_3; replace hx363_4 := kx hx363_4; replace p363 := eq_true p363; replace q363 := eq_true q363; have p364 : 0 ≤ (x4_2 : Int) := dt; have q364 : x4_2 < (l0_5.length : Int) := dt; obtain ⟨ad364, e364, hx364_0, hx364_1, hx364_2, hx364_3, hx364_4⟩ := at_T43 HR0_5.out x4_2 p364 q364; (obtain rfl : ad362 = ad364 := (by injection e364)); replace hx364_0 := kx hx364_0; replace hx364_1 := kx hx364_1; replace hx364_2 := kx hx364_2; replace hx364_3 := kx hx364_3; replace hx364_4 := kx hx364_4; replace p364 := eq_true p364; replace q364 := eq_true q364; go_wp2; (repeat (go_quiet (fail); try go_wp2)); go_roundg k2
          case measure => have := HJ1.out; have := HK2.out; omega
          case rel => exact ⟨(wrap64 (x4_2 + 1)), (by first | rfl | (simp; done) | (simp [*]; done)), H', ⟨by have := HJ1.out; have := HK2.out; omega⟩, kb0 BK361, ⟨bel⟩⟩
       ·rw [if_neg c13] at H
        exact absurd H (by simp)
      ·rw [if_neg c12] at H
       have c12b0 := decide_eq_false c12; clear c12; have H' := Aside0.mk H; clear H; obtain ⟨⟨hcz19_0, hcz19_1, hcz19_2, hcz19_3, hcz19_4, hcz19_5⟩, hfz19_0, hfz19_1, hfz19_2, hfz19_3, hfz19_4, hfz19_5⟩ := ce6 BK361; go_wp2; (repeat (go_quiet (fail); try go_wp2)); (go_loopg [3, 5] k2 (fun kq v3 v5 w' => ∃ (x3_3 : Int) (x5_3 : Int), v3 = .int .i64 x3_3 ∧ v5 = .int .i64 x5_3 ∧ Aside0 (covenantlaw19_Case_large.l1 kq x3_3 x5_3 a0_0 l0_1 a0_2 l0_3 l0_4 l0_5 = some r) ∧ Aside0 (kq ≤ k2) ∧ Aside0 (w'.heap[gb361]? = some (.cells #[.int .i64 a0_0, (.slice A0_1 l0_1.length c0_1), tokV a0_2, (.slice A0_3 l0_3.length c0_3), (.slice A0_4 l0_4.length c0_4), (.slice A0_5 l0_5.length c0_5)] 32 (0, 0))) ∧ Aside0 (Below w.heap.size w w')))
       case atStart => exact ⟨(0), (0), (by first | rfl | (simp; done) | (simp [*]; done)), (by first | rfl | (simp; done) | (simp [*]; done)), H', ⟨Nat.le_refl _⟩, kb0 BK361, ⟨bel⟩⟩
       case round =>
        clear H'; obtain ⟨x3_3, x5_3, rfl, rfl, HA, HK3, BK361, HB⟩ := hrel
        cases gk with
        | zero => exact absurd HA.out (by simp [covenantlaw19_Case_large.l1])
        | succ k3 =>
         have H := HA.out; clear HA; simp only [covenantlaw19_Case_large.l1] at H; by_cases c20 : x5_3 < (l0_3.length : Int)
         ·rw [if_pos c20] at H
          have c20b0 := decide_eq_true c20; clear c20; by_cases c21 : 0 ≤ x5_3
          ·rw [if_pos c21] at H
           have c21b0 := decide_eq_true c21; clear c21; obtain ⟨ji22, hji22⟩ : ∃ j_ : Int, (mn ((rdOf ByteArray.empty l0_3 x5_3).size : Int) 1000) = j_ := ⟨_, rfl⟩; (replace H : (covenantlaw19_Case_large.l1 k3 (wrap64 (x3_3 + (ji22))) (wrap64 (x5_3 + 1)) a0_0 l0_1 a0_2 l0_3 l0_4 l0_5) = some r := by first | (rw [hji22] at H; exact H) | (simp only [hji22] at H ⊢; exact H)); have hji22_ : (if 1000 < ((rdOf ByteArray.empty l0_3 x5_3).size : Int) then 1000 else ((rdOf ByteArray.empty l0_3 x5_3).size : Int)) = ji22 := hji22; have H' := Aside0.mk H; clear H; obtain ⟨⟨hcz23_0, hcz23_1, hcz23_2, hcz23_3, hcz23_4, hcz23_5⟩, hfz23_0, hfz23_1, hfz23_2, hfz23_3, hfz23_4, hfz23_5⟩ := ce6 BK361; have p365 : 0 ≤ (x5_3 : Int) := dt; have q365 : x5_3 < (l0_3.length : Int) := dt; obtain ⟨ad365, e365, hx365_0⟩ := Kd.at_string HR0_3.out x5_3 p365 q365; cases e365; replace hx365_0 := kx hx365_0; replace p365 := eq_true p365; replace q365 := eq_true q365; go_wp2; (repeat (go_quiet (fail); try go_wp2)); go_roundg k3
           case measure => have := HJ1.out; have := HK2.out; have := HK3.out; omega
           case rel => exact ⟨(wrap64 (x3_3 + (ji22))), (wrap64 (x5_3 + 1)), (by first | rfl | (simp; done) | (simp only [← hji22] <;> (first | rfl | simp)) | (simp [*]; done)), (by first | rfl | (simp; done) | (simp [*]; done)), H', ⟨by have := HJ1.out; have := HK2.out; have := HK3.out; omega⟩, kb0 BK361, ⟨bel⟩⟩
          ·rw [if_neg c21] at H
           exact absurd H (by simp)
         ·rw [if_neg c20] at H
          have c20b0 := decide_eq_false c20; clear c20; have H' := Aside0.mk H; clear H; obtain ⟨⟨hcz24_0, hcz24_1, hcz24_2, hcz24_3, hcz24_4, hcz24_5⟩, hfz24_0, hfz24_1, hfz24_2, hfz24_3, hfz24_4, hfz24_5⟩ := ce6 BK361; go_wp2; (repeat (go_quiet (fail); try go_wp2)); (go_loopg [3, 6] k3 (fun kq v3 v6 w' => ∃ (x3_4 : Int) (x6_4 : Int), v3 = .int .i64 x3_4 ∧ v6 = .int .i64 x6_4 ∧ Aside0 (covenantlaw19_Case_large.l2 kq x3_4 x6_4 a0_0 l0_1 a0_2 l0_3 l0_4 l0_5 = some r) ∧ Aside0 (kq ≤ k3) ∧ Aside0 (w'.heap[gb361]? = some (.cells #[.int .i64 a0_0, (.slice A0_1 l0_1.length c0_1), tokV a0_2, (.slice A0_3 l0_3.length c0_3), (.slice A0_4 l0_4.length c0_4), (.slice A0_5 l0_5.length c0_5)] 32 (0, 0))) ∧ Aside0 (Below w.heap.size w w')))
          case atStart => exact ⟨(x3_3), (0), (by first | rfl | (simp; done) | (simp [*]; done)), (by first | rfl | (simp; done) | (simp [*]; done)), H', ⟨Nat.le_refl _⟩, kb0 BK361, ⟨bel⟩⟩
          case round =>
           clear H'; obtain ⟨x3_4, x6_4, rfl, rfl, HA, HK4, BK361, HB⟩ := hrel
           cases gk with
           | zero => exact absurd HA.out (by simp [covenantlaw19_Case_large.l2])
           | succ k4 =>
            have H := HA.out; clear HA; simp only [covenantlaw19_Case_large.l2] at H; by_cases c25 : x6_4 < (l0_4.length : Int)
            ·rw [if_pos c25] at H
             have c25b0 := decide_eq_true c25; clear c25; by_cases c26 : 0 ≤ x6_4
             ·rw [if_pos c26] at H
              have c26b0 := decide_eq_true c26; clear c26; obtain ⟨ji27, hji27⟩ : ∃ j_ : Int, (mn (((rd_T66 l0_4 x6_4).f0).size : Int) 1000) = j_ := ⟨_, rfl⟩; (replace H : (covenantlaw19_Case_large.l2 k4 (wrap64 ((wrap64 (x3_4 + (ji27))) + (mn (((rd_T66 l0_4 x6_4).f1).size : Int) 1000))) (wrap64 (x6_4 + 1)) a0_0 l0_1 a0_2 l0_3 l0_4 l0_5) = some r := by first | (rw [hji27] at H; exact H) | (simp only [hji27] at H ⊢; exact H)); have hji27_ : (if 1000 < (((rd_T66 l0_4 x6_4).f0).size : Int) then 1000 else (((rd_T66 l0_4 x6_4).f0).size : Int)) = ji27 := hji27; obtain ⟨ji28, hji28⟩ : ∃ j_ : Int, (mn (((rd_T66 l0_4 x6_4).f1).size : Int) 1000) = j_ := ⟨_, rfl⟩; (replace H : (covenantlaw19_Case_large.l2 k4 (wrap64 ((wrap64 (x3_4 + (ji27))) + (ji28))) (wrap64 (x6_4 + 1)) a0_0 l0_1 a0_2 l0_3 l0_4 l0_5) = some r := by first | (rw [hji28] at H; exact H) | (simp only [hji28] at H ⊢; exact H)); have hji28_ : (if 1000 < (((rd_T66 l0_4 x6_4).f1).size : Int) then 1000 else (((rd_T66 l0_4 x6_4).f1).size : Int)) = ji28 := hji28; have H' := Aside0.mk H; clear H; obtain ⟨⟨hcz29_0, hcz29_1, hcz29_2, hcz29_3, hcz29_4, hcz29_5⟩, hfz29_0, hfz29_1, hfz29_2, hfz29_3, hfz29_4, hfz29_5⟩ := ce6 BK361; have p366 : 0 ≤ (x6_4 : Int) := dt; have q366 : x6_4 < (l0_4.length : Int) := dt; obtain ⟨ad366, e366, hx366_0, hx366_1⟩ := at_T66 HR0_4.out x6_4 p366 q366; cases e366; replace hx366_0 := kx hx366_0; replace hx366_1 := kx hx366_1; replace p366 := eq_true p366; replace q366 := eq_true q366; have p367 : 0 ≤ (x6_4 : Int) := dt; have q367 : x6_4 < (l0_4.length : Int) := dt; obtain ⟨ad367, e367, hx367_0, hx367_1⟩ := at_T66 HR0_4.out x6_4 p367 q367; (obtain rfl : ad366 = ad367 := (by injection e367)); replace hx367_0 := kx hx367_0; replace hx367_1 := kx hx367_1; replace p367 := eq_true p367; replace q367 := eq_true q367; go_wp2; (repeat (go_quiet (fail); try go_wp2)); go_roundg k4
              case measure => have := HJ1.out; have := HK2.out; have := HK3.out; have := HK4.out; omega
              case rel => exact ⟨(wrap64 ((wrap64 (x3_4 + (ji27))) + (ji28))), (wrap64 (x6_4 + 1)), (by first | rfl | (simp; done) | (simp only [← hji27, ← hji28] <;> (first | rfl | simp)) | (simp [*]; done)), (by first | rfl | (simp; done) | (simp [*]; done)), H', ⟨by have := HJ1.out; have := HK2.out; have := HK3.out; have := HK4.out; omega⟩, kb0 BK361, ⟨bel⟩⟩
             ·rw [if_neg c26] at H
              exact absurd H (by simp)
            ·rw [if_neg c25] at H
             have c25b0 := decide_eq_false c25; clear c25; obtain rfl := Option.some.inj H; obtain ⟨⟨hcz30_0, hcz30_1, hcz30_2, hcz30_3, hcz30_4, hcz30_5⟩, hfz30_0, hfz30_1, hfz30_2, hfz30_3, hfz30_4, hfz30_5⟩ := ce6 BK361; go_wp2; (repeat (go_quiet (fail); try go_wp2)); go_ret; (exact ⟨by first | rfl | (simp [errW_none, errW_some] <;> rfl) | (simp [*, errW_none, errW_some] <;> rfl), bel⟩)

end Go.Proofs.Yteklimdjlihloaa.G
