/- What functions that a law reaches come to: printed, and made shorter, by programs of this session. Conditions: as each theorem states them. -/
import Derived.Test.YteklimdjlihloaaAut
import Derived.Test.YteklimdjlihloaaGx0
import Derived.Test.YteklimdjlihloaaGx2
import Derived.Test.YteklimdjlihloaaTok
import Derived.WalkMore
namespace Go.Proofs.Yteklimdjlihloaa.G
open Go.RowKit Go.Proofs.YteklimdjlihloaaW.PrintWords Go.Proofs.YteklimdjlihloaaW.PrintLast Go.Proofs.YteklimdjlihloaaW.PrintMore
attribute [local go_sem] max2_int min2_int max_two min_two max_three min_three max_four min_four   -- for this text's walks alone
set_option linter.unusedVariables false
set_option linter.unusedSimpArgs false

/-! ### roles_Is: function 17 -/
mutual
def roles_Is.j0 : Nat → ByteArray → ByteArray → Bool → List ByteArray → List (S66) → Option (Bool)
 | 0, _, _, _, _, _ => none
 | k + 1, x1, x2, x21, x106000, x106001 => if x21 = true then (some false) else (roles_Is.l0 k x2 (([x1] : List ByteArray)) (x1.toList == x2.toList) 0 x106000 x106001)
def roles_Is.l0 : Nat → ByteArray → List ByteArray → Bool → Int → List ByteArray → List (S66) → Option (Bool)
 | 0, _, _, _, _, _, _ => none
 | k + 1, x2, x7, x8, x9, x106000, x106001 => if x9 < (x7.length : Int) then (roles_Is.j2 k x2 x7 x8 x9 (!x8) x106000 x106001) else (roles_Is.j2 k x2 x7 x8 x9 false x106000 x106001)
def roles_Is.j2 : Nat → ByteArray → List ByteArray → Bool → Int → Bool → List ByteArray → List (S66) → Option (Bool)
 | 0, _, _, _, _, _, _, _ => none
 | k + 1, x2, x7, x8, x9, x34, x106000, x106001 => if x34 = true then (roles_Is.l1 k x2 x7 x8 x9 x106001 (x106001.length : Int) 0 x106000 x106001) else (some x8)
def roles_Is.l1 : Nat → ByteArray → List ByteArray → Bool → Int → List (S66) → Int → Int → List ByteArray → List (S66) → Option (Bool)
 | 0, _, _, _, _, _, _, _, _, _ => none
 | k + 1, x2, x7, x8, x9, x38, x39, x40, x106000, x106001 => if x40 < x39 then (if 0 ≤ x40 then (if x40 < (x38.length : Int) then (if 0 ≤ x9 then (if x9 < (x7.length : Int) then (if ((rd_T66 x38 x40).f0).toList = (rdOf ByteArray.empty x7 x9).toList then ((roles_Has.f k x106000 x106001 ((rd_T66 x38 x40).f1)).bind fun t114 => (if t114 = true then ((slices_Contains_string_string.f k x7 ((rd_T66 x38 x40).f1)).bind fun t115 => (roles_Is.j4 k x2 x7 x8 x9 x38 x39 x40 t115 x106000 x106001 ((rd_T66 x38 x40).f0) ((rd_T66 x38 x40).f1))) else (roles_Is.j4 k x2 x7 x8 x9 x38 x39 x40 true x106000 x106001 ((rd_T66 x38 x40).f0) ((rd_T66 x38 x40).f1)))) else (roles_Is.j4 k x2 x7 x8 x9 x38 x39 x40 true x106000 x106001 ((rd_T66 x38 x40).f0) ((rd_T66 x38 x40).f1))) else (none)) else (none)) else (none)) else (none)) else (roles_Is.l0 k x2 x7 x8 (wrap64 (x9 + 1)) x106000 x106001)
def roles_Is.j4 : Nat → ByteArray → List ByteArray → Bool → Int → List (S66) → Int → Int → Bool → List ByteArray → List (S66) → ByteArray → ByteArray → Option (Bool)
 | 0, _, _, _, _, _, _, _, _, _, _, _, _ => none
 | k + 1, x2, x7, x8, x9, x38, x39, x40, x63, x106000, x106001, x113000, x113001 => if x63 = true then (roles_Is.l1 k x2 x7 x8 x9 x38 x39 (wrap64 (x40 + 1)) x106000 x106001) else (if x113001.toList = x2.toList then (some (x113001.toList == x2.toList)) else (if x7.length < 8796093022208 then (roles_Is.l1 k x2 (x7 ++ [x113001]) (x113001.toList == x2.toList) x9 x38 x39 (wrap64 (x40 + 1)) x106000 x106001) else (none)))
end
def roles_Is.f (k : Nat) (l0_0 : List ByteArray) (l0_1 : List (S66)) (a1 : ByteArray) (a2 : ByteArray) : Option (Bool) := (roles_Has.f k l0_0 l0_1 a1).bind fun t106 => (if t106 = true then ((roles_Has.f k l0_0 l0_1 a2).bind fun t107 => (roles_Is.j0 k a1 a2 (!t107) l0_0 l0_1)) else (roles_Is.j0 k a1 a2 true l0_0 l0_1))
theorem roles_Is.mono_l : ∀ k, (∀ y0 y1 y2 y3 y4, LeO (roles_Is.j0 k y0 y1 y2 y3 y4) (roles_Is.j0 (k + 1) y0 y1 y2 y3 y4)) ∧ (∀ y0 y1 y2 y3 y4 y5, LeO (roles_Is.l0 k y0 y1 y2 y3 y4 y5) (roles_Is.l0 (k + 1) y0 y1 y2 y3 y4 y5)) ∧ (∀ y0 y1 y2 y3 y4 y5 y6, LeO (roles_Is.j2 k y0 y1 y2 y3 y4 y5 y6) (roles_Is.j2 (k + 1) y0 y1 y2 y3 y4 y5 y6)) ∧ (∀ y0 y1 y2 y3 y4 y5 y6 y7 y8, LeO (roles_Is.l1 k y0 y1 y2 y3 y4 y5 y6 y7 y8) (roles_Is.l1 (k + 1) y0 y1 y2 y3 y4 y5 y6 y7 y8)) ∧ (∀ y0 y1 y2 y3 y4 y5 y6 y7 y8 y9 y10 y11, LeO (roles_Is.j4 k y0 y1 y2 y3 y4 y5 y6 y7 y8 y9 y10 y11) (roles_Is.j4 (k + 1) y0 y1 y2 y3 y4 y5 y6 y7 y8 y9 y10 y11))
 | 0 => ⟨fun _ _ _ _ _ r h => by simp [roles_Is.j0] at h, fun _ _ _ _ _ _ r h => by simp [roles_Is.l0] at h, fun _ _ _ _ _ _ _ r h => by simp [roles_Is.j2] at h, fun _ _ _ _ _ _ _ _ _ r h => by simp [roles_Is.l1] at h, fun _ _ _ _ _ _ _ _ _ _ _ _ r h => by simp [roles_Is.j4] at h⟩
 | k + 1 => by
  obtain ⟨ih0, ih1, ih2, ih3, ih4⟩ := roles_Is.mono_l k
  refine ⟨?_, ?_, ?_, ?_, ?_⟩
  ·intro y0 y1 y2 y3 y4
   unfold roles_Is.j0
   repeat' first
   | (with_reducible exact ih0 _ _ _ _ _)
   | (with_reducible exact ih1 _ _ _ _ _ _)
   | (with_reducible exact ih2 _ _ _ _ _ _ _)
   | (with_reducible exact ih3 _ _ _ _ _ _ _ _ _)
   | (with_reducible exact ih4 _ _ _ _ _ _ _ _ _ _ _ _)
   | (with_reducible exact roles_Has.mono _ _ _ _)
   | (with_reducible exact slices_Contains_string_string.mono _ _ _)
   | (with_reducible exact LeO.refl _)
   | (with_reducible exact LeO.none _)
   | (with_reducible refine LeO.ite ?_ ?_)
   | (with_reducible refine LeO.bind ?_ (fun _ => ?_))
   | exact ih0 _ _ _ _ _
   | exact ih1 _ _ _ _ _ _
   | exact ih2 _ _ _ _ _ _ _
   | exact ih3 _ _ _ _ _ _ _ _ _
   | exact ih4 _ _ _ _ _ _ _ _ _ _ _ _
   | exact roles_Has.mono _ _ _ _
   | exact slices_Contains_string_string.mono _ _ _
   | exact LeO.none _
   | refine LeO.ite ?_ ?_
   | refine LeO.bind ?_ (fun _ => ?_)
  ·intro y0 y1 y2 y3 y4 y5
   unfold roles_Is.l0
   repeat' first
   | (with_reducible exact ih0 _ _ _ _ _)
   | (with_reducible exact ih1 _ _ _ _ _ _)
   | (with_reducible exact ih2 _ _ _ _ _ _ _)
   | (with_reducible exact ih3 _ _ _ _ _ _ _ _ _)
   | (with_reducible exact ih4 _ _ _ _ _ _ _ _ _ _ _ _)
   | (with_reducible exact roles_Has.mono _ _ _ _)
   | (with_reducible exact slices_Contains_string_string.mono _ _ _)
   | (with_reducible exact LeO.refl _)
   | (with_reducible exact LeO.none _)
   | (with_reducible refine LeO.ite ?_ ?_)
   | (with_reducible refine LeO.bind ?_ (fun _ => ?_))
   | exact ih0 _ _ _ _ _
   | exact ih1 _ _ _ _ _ _
   | exact ih2 _ _ _ _ _ _ _
   | exact ih3 _ _ _ _ _ _ _ _ _
   | exact ih4 _ _ _ _ _ _ _ _ _ _ _ _
   | exact roles_Has.mono _ _ _ _
   | exact slices_Contains_string_string.mono _ _ _
   | exact LeO.none _
   | refine LeO.ite ?_ ?_
   | refine LeO.bind ?_ (fun _ => ?_)
  ·intro y0 y1 y2 y3 y4 y5 y6
   unfold roles_Is.j2
   repeat' first
   | (with_reducible exact ih0 _ _ _ _ _)
   | (with_reducible exact ih1 _ _ _ _ _ _)
   | (with_reducible exact ih2 _ _ _ _ _ _ _)
   | (with_reducible exact ih3 _ _ _ _ _ _ _ _ _)
   | (with_reducible exact ih4 _ _ _ _ _ _ _ _ _ _ _ _)
   | (with_reducible exact roles_Has.mono _ _ _ _)
   | (with_reducible exact slices_Contains_string_string.mono _ _ _)
   | (with_reducible exact LeO.refl _)
   | (with_reducible exact LeO.none _)
   | (with_reducible refine LeO.ite ?_ ?_)
   | (with_reducible refine LeO.bind ?_ (fun _ => ?_))
   | exact ih0 _ _ _ _ _
   | exact ih1 _ _ _ _ _ _
   | exact ih2 _ _ _ _ _ _ _
   | exact ih3 _ _ _ _ _ _ _ _ _
   | exact ih4 _ _ _ _ _ _ _ _ _ _ _ _
   | exact roles_Has.mono _ _ _ _
   | exact slices_Contains_string_string.mono _ _ _
   | exact LeO.none _
   | refine LeO.ite ?_ ?_
   | refine LeO.bind ?_ (fun _ => ?_)
  ·intro y0 y1 y2 y3 y4 y5 y6 y7 y8
   unfold roles_Is.l1
   repeat' first
   | (with_reducible exact ih0 _ _ _ _ _)
   | (with_reducible exact ih1 _ _ _ _ _ _)
   | (with_reducible exact ih2 _ _ _ _ _ _ _)
   | (with_reducible exact ih3 _ _ _ _ _ _ _ _ _)
   | (with_reducible exact ih4 _ _ _ _ _ _ _ _ _ _ _ _)
   | (with_reducible exact roles_Has.mono _ _ _ _)
   | (with_reducible exact slices_Contains_string_string.mono _ _ _)
   | (with_reducible exact LeO.refl _)
   | (with_reducible exact LeO.none _)
   | (with_reducible refine LeO.ite ?_ ?_)
   | (with_reducible refine LeO.bind ?_ (fun _ => ?_))
   | exact ih0 _ _ _ _ _
   | exact ih1 _ _ _ _ _ _
   | exact ih2 _ _ _ _ _ _ _
   | exact ih3 _ _ _ _ _ _ _ _ _
   | exact ih4 _ _ _ _ _ _ _ _ _ _ _ _
   | exact roles_Has.mono _ _ _ _
   | exact slices_Contains_string_string.mono _ _ _
   | exact LeO.none _
   | refine LeO.ite ?_ ?_
   | refine LeO.bind ?_ (fun _ => ?_)
  ·intro y0 y1 y2 y3 y4 y5 y6 y7 y8 y9 y10 y11
   unfold roles_Is.j4
   repeat' first
   | (with_reducible exact ih0 _ _ _ _ _)
   | (with_reducible exact ih1 _ _ _ _ _ _)
   | (with_reducible exact ih2 _ _ _ _ _ _ _)
   | (with_reducible exact ih3 _ _ _ _ _ _ _ _ _)
   | (with_reducible exact ih4 _ _ _ _ _ _ _ _ _ _ _ _)
   | (with_reducible exact roles_Has.mono _ _ _ _)
   | (with_reducible exact slices_Contains_string_string.mono _ _ _)
   | (with_reducible exact LeO.refl _)
   | (with_reducible exact LeO.none _)
   | (with_reducible refine LeO.ite ?_ ?_)
   | (with_reducible refine LeO.bind ?_ (fun _ => ?_))
   | exact ih0 _ _ _ _ _
   | exact ih1 _ _ _ _ _ _
   | exact ih2 _ _ _ _ _ _ _
   | exact ih3 _ _ _ _ _ _ _ _ _
   | exact ih4 _ _ _ _ _ _ _ _ _ _ _ _
   | exact roles_Has.mono _ _ _ _
   | exact slices_Contains_string_string.mono _ _ _
   | exact LeO.none _
   | refine LeO.ite ?_ ?_
   | refine LeO.bind ?_ (fun _ => ?_)
theorem roles_Is.mono : ∀ a0 a1 a2 a3 k, LeO (roles_Is.f k a0 a1 a2 a3) (roles_Is.f (k + 1) a0 a1 a2 a3) := by
 intro a0 a1 a2 a3 k; obtain ⟨ih0, ih1, ih2, ih3, ih4⟩ := roles_Is.mono_l k; unfold roles_Is.f
 repeat' first
   | (with_reducible exact ih0 _ _ _ _ _)
   | (with_reducible exact ih1 _ _ _ _ _ _)
   | (with_reducible exact ih2 _ _ _ _ _ _ _)
   | (with_reducible exact ih3 _ _ _ _ _ _ _ _ _)
   | (with_reducible exact ih4 _ _ _ _ _ _ _ _ _ _ _ _)
   | (with_reducible exact roles_Has.mono _ _ _ _)
   | (with_reducible exact slices_Contains_string_string.mono _ _ _)
   | (with_reducible exact LeO.refl _)
   | (with_reducible exact LeO.none _)
   | (with_reducible refine LeO.ite ?_ ?_)
   | (with_reducible refine LeO.bind ?_ (fun _ => ?_))
   | exact ih0 _ _ _ _ _
   | exact ih1 _ _ _ _ _ _
   | exact ih2 _ _ _ _ _ _ _
   | exact ih3 _ _ _ _ _ _ _ _ _
   | exact ih4 _ _ _ _ _ _ _ _ _ _ _ _
   | exact roles_Has.mono _ _ _ _
   | exact slices_Contains_string_string.mono _ _ _
   | exact LeO.none _
   | refine LeO.ite ?_ ?_
   | refine LeO.bind ?_ (fun _ => ?_)
def roles_Is.T11 : Bool × List (List Nat × List Nat) := (true, [([], []), ([0], [0]), ([], []), ([], []), ([2, 3], [2, 3]), ([4], [4]), ([1, 5], [1, 5]), ([6], [6]), ([7], [7]), ([7], [7]), ([9, 7], [7, 9]), ([8, 10, 7, 7], [7, 8, 10]), ([11, 7], [7, 11]), ([7, 12], [7, 12]), ([13, 11], [13]), ([14], [14]), ([14], [14]), ([16, 14], [14, 16]), ([15, 17, 14, 14], [14, 15, 17]), ([14, 18], [14, 18])])
def roles_Is.B11 : List Nat := [0, 1, 0, 0, 12, 28, 63, 127, 255, 255, 767, 2047, 4095, 8191, 16383, 32767, 32767, 98303, 262143, 524287]
theorem roles_Is.tab11 : rtab .any (opsOf Try.f17 11) = roles_Is.T11 := by kernel_rfl
theorem roles_Is.bits11 : waitsOk roles_Is.T11.2 roles_Is.B11 = true := by kernel_rfl
set_option maxHeartbeats 8000000 in
set_option maxRecDepth 100000 in
theorem roles_Is.calls (k : Nat) (A0_0 : Option Addr) (c0_0 : Nat) (l0_0 : List ByteArray) (A0_1 : Option Addr) (c0_1 : Nat) (l0_1 : List (S66)) (a1 : ByteArray) (a2 : ByteArray) (r : Bool) (w : World) (hr0_0 : Kd.C Kd.string w A0_0 l0_0.length l0_0) (hc0_0 : l0_0.length ≤ c0_0) (hr0_1 : Kd.C k66 w A0_1 l0_1.length l0_1) (hc0_1 : l0_1.length ≤ c0_1) (h : roles_Is.f k l0_0 l0_1 a1 a2 = some r) :
  Calls Try.prog 17 #[.agg #[.slice A0_0 l0_0.length c0_0, .slice A0_1 l0_1.length c0_1], .string a1, .string a2] w fun e w' => e = .returned (.bool r) ∧ Below w.heap.size w w' := by
 have hu38 := Try.underlying38; have hu66 := Try.underlying66; have HR0_0 := Aside0.mk hr0_0; have HC0_0 := Aside0.mk hc0_0; clear hr0_0 hc0_0; have HR0_1 := Aside0.mk hr0_1; have HC0_1 := Aside0.mk hc0_1; clear hr0_1 hc0_1; have HB := Aside0.mk (Below.refl w.heap.size w); (have H : ((roles_Has.f k l0_0 l0_1 a1).bind fun t106 => (if t106 = true then ((roles_Has.f k l0_0 l0_1 a2).bind fun t107 => (roles_Is.j0 k a1 a2 (!t107) l0_0 l0_1)) else (roles_Is.j0 k a1 a2 true l0_0 l0_1))) = some r := h); clear h; have HC4 := Aside0.mk H; clear H; go_enter Try.func17, Try.ntmps17; go_upto_region 1 with (first | go_step3 | ((with_reducible refine gate_dst (N := 3) rfl ?_); refine bx 3 #[.slice A0_0 l0_0.length c0_0, .slice A0_1 l0_1.length c0_1] 38 ?_; intro gb105 hg w5 hbox hb; have n_ := g4 (kst hb) (Aside0.mk (hbox)) (kge hg) (kge hg); clear HB hb hbox hg; obtain ⟨HB, BK105, GW105, GE105⟩ := n_)); (try simp only [Act.put, List.setIfInBounds_toArray, List.set_cons_zero, List.set_cons_succ]); (go_cut [21] (fun v21 wc => ∃ (kq : Nat) (x21_3 : Bool), v21 = .bool x21_3 ∧ Aside0 (roles_Is.j0 kq a1 a2 x21_3 l0_0 l0_1 = some r) ∧ Aside0 (kq ≤ k) ∧ Aside0 (wc.heap[gb105]? = some (.cells #[(.slice A0_0 l0_0.length c0_0), (.slice A0_1 l0_1.length c0_1)] 38 (0, 0))) ∧ Aside0 (Below w.heap.size w wc)))
 case first =>
  have H := HC4.out; clear HC4; replace H := Option.bind_eq_some_iff.mp H; obtain ⟨t106, A60, H⟩ := H; have A6 := Aside0.mk A60; clear A60; by_cases c7 : t106 = true
  ·subst c7
   rw [if_pos rfl] at H; replace H := Option.bind_eq_some_iff.mp H; obtain ⟨t107, A80, H⟩ := H; have A8 := Aside0.mk A80; clear A80; have H' := Aside0.mk H; clear H; obtain ⟨⟨hcz9_0, hcz9_1⟩, hfz9_0, hfz9_1⟩ := ce2 BK105; (go_wp2_with (first | go_step3 | ((with_reducible refine gate_callee (f := 31) rfl ?_); refine goesL_ (some 14) rfl rfl Try.func31 (by kernel_rfl) rfl #[.agg #[.slice A0_0 l0_0.length c0_0, .slice A0_1 l0_1.length c0_1], .string a1] rfl (by (try simp only [List.map_toArray, List.map_cons, List.map_nil]); first | done | rfl | (simp only [List.length_drop, List.length_take]; rfl)) ?_; (with_reducible refine (roles_Has.calls k _ _ l0_0 _ _ l0_1 a1 true _ ?side1 ?side2 ?side3 ?side4 A6.out).mono ?_); (case side1 => exact kc HR0_0); (case side2 => exact HC0_0.out); (case side3 => exact kc HR0_1); (case side4 => exact HC0_1.out); rintro e w10 ⟨rfl, hb⟩; refine ⟨_, rfl, ?_⟩; have n_ := g2 (kb BK105 hb) (kst hb); clear BK105 HB; obtain ⟨BK105, HB⟩ := n_; obtain ⟨⟨hcz11_0, hcz11_1⟩, hfz11_0, hfz11_1⟩ := ce2 BK105) | (go_at_call 31; (with_reducible refine (roles_Has.calls k _ _ l0_0 _ _ l0_1 a2 t107 _ ?side1 ?side2 ?side3 ?side4 A8.out).mono ?_); (case side1 => exact kc HR0_0); (case side2 => exact HC0_0.out); (case side3 => exact kc HR0_1); (case side4 => exact HC0_1.out); rintro e w12 ⟨rfl, hb⟩; have n_ := g2 (kb BK105 hb) (kst hb); clear BK105 HB; obtain ⟨BK105, HB⟩ := n_))); go_meet
   case rel => exact ⟨_, (!t107), (by first | rfl | (simp; done) | (simp [*]; done)), H', ⟨by first | omega | exact Nat.le_refl _⟩, kb0 BK105, ⟨bel⟩⟩
  ·replace c7 := Bool.eq_false_iff.mpr c7
   subst c7; (rw [if_neg (show ¬ (false = true) by decide)] at H); have H' := Aside0.mk H; clear H; obtain ⟨⟨hcz13_0, hcz13_1⟩, hfz13_0, hfz13_1⟩ := ce2 BK105; (go_wp2_with (first | go_step3 | ((with_reducible refine gate_callee (f := 31) rfl ?_); refine goesL_ (some 14) rfl rfl Try.func31 (by kernel_rfl) rfl #[.agg #[.slice A0_0 l0_0.length c0_0, .slice A0_1 l0_1.length c0_1], .string a1] rfl (by (try simp only [List.map_toArray, List.map_cons, List.map_nil]); first | done | rfl | (simp only [List.length_drop, List.length_take]; rfl)) ?_; (with_reducible refine (roles_Has.calls k _ _ l0_0 _ _ l0_1 a1 false _ ?side1 ?side2 ?side3 ?side4 A6.out).mono ?_); (case side1 => exact kc HR0_0); (case side2 => exact HC0_0.out); (case side3 => exact kc HR0_1); (case side4 => exact HC0_1.out); rintro e w14 ⟨rfl, hb⟩; refine ⟨_, rfl, ?_⟩; have n_ := g2 (kb BK105 hb) (kst hb); clear BK105 HB; obtain ⟨BK105, HB⟩ := n_))); go_meet
   case rel => exact ⟨_, (true), (by first | rfl | (simp; done) | (simp [*]; done)), H', ⟨by first | omega | exact Nat.le_refl _⟩, kb0 BK105, ⟨bel⟩⟩
 case rest =>
  clear HC4; obtain ⟨kq, x21_3, rfl, HA, HJ3, BK105, HB⟩ := hcut
  cases kq with
  | zero => exact absurd HA.out (by simp [roles_Is.j0])
  | succ kj3 =>
   have H := HA.out; clear HA; simp only [roles_Is.j0] at H; by_cases c15 : x21_3 = true
   ·subst c15
    rw [if_pos rfl] at H; obtain rfl := Option.some.inj H; go_wp2_with (go_step3); go_ret; (exact ⟨by first | rfl | (simp [errW_none, errW_some] <;> rfl) | (simp [*, errW_none, errW_some] <;> rfl), bel⟩)
   ·replace c15 := Bool.eq_false_iff.mpr c15
    subst c15; (rw [if_neg (show ¬ (false = true) by decide)] at H); obtain ⟨y108, hy108⟩ : ∃ y_ : List ByteArray, y_ = (([a1] : List ByteArray)) := ⟨_, rfl⟩; (replace H : (roles_Is.l0 kj3 a2 y108 (a1.toList == a2.toList) 0 l0_0 l0_1) = some r := by first | (rw [hy108]; with_reducible exact H) | (have H2_ := (Option.bind_some _ _).symm.trans H; rw [hy108]; with_reducible exact H2_) | (have H2_ := (Option.bind_some _ _).symm.trans H; with_reducible exact H2_) | with_reducible exact H | (rw [hy108]; exact H) | exact H); have Ny108 := Aside0.mk hy108; clear hy108; have H' := Aside0.mk H; clear H; (go_wp2_with (first | go_step3 | ((with_reducible refine gate_dst (N := 23) rfl ?_); refine Kd.R_lit Kd.string _ 9 ?hg (N := 23) ?hd (xs := ([a1] : List ByteArray)) (inner := [.string a1]) (ok := fun _ => True) (okp := fun _ => True) ?hr ?hp (fun _ hk => hk) trivial (Below.refl _ _) (Nat.le_refl _) (by simp) ?_; (case hd => rfl); (case hg => rfl); (case hr => first | (go_simp; done) | (go_simp; rfl)); (case hp => exact (Reps.one (show Kd.M Kd.string _ _ _ a1 [.string a1] from rfl) (Reps.none _ _))); intro v109 w16 ho17 hb hg_ hnew_; clear hg_ hnew_; (first | rw [← Ny108.out] at ho17 | (simp only [Int.reduceToNat] at ho17; rw [← Ny108.out] at ho17)); have n_ := g3 (Aside0.mk (Kd.R_lower ho17 (below_size bel))) (kb BK105 hb) (kst hb); clear BK105 HB hb ho17; obtain ⟨HO110, BK105, HB⟩ := n_))); (go_loopg [7, 8, 9] kj3 (fun kq v7 v8 v9 w' => ∃ (x7_2 : List ByteArray) (x8_2 : Bool) (x9_2 : Int), v8 = .bool x8_2 ∧ v9 = .int .i64 x9_2 ∧ Aside0 (roles_Is.l0 kq a2 x7_2 x8_2 x9_2 l0_0 l0_1 = some r) ∧ Aside0 (kq ≤ kj3) ∧ Aside0 (Kd.R Kd.string 9 w' w.heap.size (fun _ => True) v7 x7_2) ∧ Aside0 (w'.heap[gb105]? = some (.cells #[(.slice A0_0 l0_0.length c0_0), (.slice A0_1 l0_1.length c0_1)] 38 (0, 0))) ∧ Aside0 (Below w.heap.size w w')))
    case atStart => exact ⟨(y108), ((a1.toList == a2.toList)), (0), (by first | rfl | (simp; done) | (simp [*]; done)), (by first | rfl | (simp; done) | (simp [*]; done)), H', ⟨Nat.le_refl _⟩, kr0 HO110, kb0 BK105, ⟨bel⟩⟩
    case round =>
     clear H'; obtain ⟨x7_2, x8_2, x9_2, rfl, rfl, HA, HK2, HO_7, BK105, HB⟩ := hrel
     cases gk with
     | zero => exact absurd HA.out (by simp [roles_Is.l0])
     | succ k2 =>
      have H := HA.out; clear HA; simp only [roles_Is.l0] at H; have HC18 := Aside0.mk H; clear H; go_upto_region 6 with (go_step3); (go_cut [34] (fun v34 wc => ∃ (kq : Nat) (x34_17 : Bool), v34 = .bool x34_17 ∧ Aside0 (roles_Is.j2 kq a2 x7_2 x8_2 x9_2 x34_17 l0_0 l0_1 = some r) ∧ Aside0 (kq ≤ k2) ∧ Aside0 (Kd.R Kd.string 9 wc w.heap.size (fun _ => True) u7 x7_2) ∧ Aside0 (wc.heap[gb105]? = some (.cells #[(.slice A0_0 l0_0.length c0_0), (.slice A0_1 l0_1.length c0_1)] 38 (0, 0))) ∧ Aside0 (Below w.heap.size w wc)))
      case first =>
       have H := HC18.out; clear HC18; by_cases c19 : x9_2 < (x7_2.length : Int)
       ·rw [if_pos c19] at H
        have c19b0 := decide_eq_true c19; clear c19; (first | rw [c19b0] | (simp only [i64_w, i32_w]; rw [c19b0]) | skip); have H' := Aside0.mk H; clear H; obtain ⟨Ao20, co20, eo20⟩ := Kd.R_slice HO_7.out; subst eo20; go_wp2_with (go_step3); go_meet
        case rel => exact ⟨_, (!x8_2), (by first | rfl | (simp; done) | (simp [*]; done)), H', ⟨by have := HJ3.out; have := HK2.out; first | omega | exact Nat.le_refl _⟩, kr0 HO_7, kb0 BK105, ⟨bel⟩⟩
       ·rw [if_neg c19] at H
        have c19b0 := decide_eq_false c19; clear c19; (first | rw [c19b0] | (simp only [i64_w, i32_w]; rw [c19b0]) | skip); have H' := Aside0.mk H; clear H; obtain ⟨Ao21, co21, eo21⟩ := Kd.R_slice HO_7.out; subst eo21; go_wp2_with (go_step3); go_meet
        case rel => exact ⟨_, (false), (by first | rfl | (simp; done) | (simp [*]; done)), H', ⟨by have := HJ3.out; have := HK2.out; first | omega | exact Nat.le_refl _⟩, kr0 HO_7, kb0 BK105, ⟨bel⟩⟩
      case rest =>
       clear HC18; obtain ⟨kq, x34_17, rfl, HA, HJ17, HO_7, BK105, HB⟩ := hcut
       cases kq with
       | zero => exact absurd HA.out (by simp [roles_Is.j2])
       | succ kj17 =>
        have H := HA.out; clear HA; simp only [roles_Is.j2] at H; by_cases c22 : x34_17 = true
        ·subst c22
         rw [if_pos rfl] at H; have H' := Aside0.mk H; clear H; obtain ⟨⟨hcz23_0, hcz23_1⟩, hfz23_0, hfz23_1⟩ := ce2 BK105; go_wp2_with (go_step3); (go_loopg [7, 8, 40] kj17 (fun kq v7 v8 v40 w' => ∃ (x7_4 : List ByteArray) (x8_4 : Bool) (x40_4 : Int), v8 = .bool x8_4 ∧ v40 = .int .i64 x40_4 ∧ Aside0 (roles_Is.l1 kq a2 x7_4 x8_4 x9_2 l0_1 (l0_1.length : Int) x40_4 l0_0 l0_1 = some r) ∧ Aside0 (kq ≤ kj17) ∧ Aside0 (Kd.R Kd.string 9 w' w.heap.size (fun _ => True) v7 x7_4) ∧ Aside0 (w'.heap[gb105]? = some (.cells #[(.slice A0_0 l0_0.length c0_0), (.slice A0_1 l0_1.length c0_1)] 38 (0, 0))) ∧ Aside0 (Below w.heap.size w w')))
         case atStart => exact ⟨(x7_2), (x8_2), (0), (by first | rfl | (simp; done) | (simp [*]; done)), (by first | rfl | (simp; done) | (simp [*]; done)), H', ⟨Nat.le_refl _⟩, kr0 HO_7, kb0 BK105, ⟨bel⟩⟩
         case round =>
          clear H'; obtain ⟨x7_4, x8_4, x40_4, rfl, rfl, HA, HK4, HO_7, BK105, HB⟩ := hrel
          cases gk with
          | zero => exact absurd HA.out (by simp [roles_Is.l1])
          | succ k4 =>
           have H := HA.out; clear HA; simp only [roles_Is.l1] at H; by_cases c24 : x40_4 < (l0_1.length : Int)
           ·rw [if_pos c24] at H
            have c24b0 := decide_eq_true c24; clear c24; by_cases c25 : 0 ≤ x40_4
            ·rw [if_pos c25] at H
             have c25b0 := decide_eq_true c25; clear c25; by_cases c26 : x40_4 < (l0_1.length : Int)
             ·rw [if_pos c26] at H
              have c26b0 := decide_eq_true c26; clear c26; have HC27 := Aside0.mk H; clear H; have p111 : 0 ≤ (x40_4 : Int) := dt; have q111 : x40_4 < (l0_1.length : Int) := dt; obtain ⟨ad111, e111, hx111_0, hx111_1⟩ := at_T66 HR0_1.out x40_4 p111 q111; cases e111; replace hx111_0 := kx hx111_0; replace hx111_1 := kx hx111_1; replace p111 := eq_true p111; replace q111 := eq_true q111; go_upto_region 11 with (first | go_step3 | ((with_reducible refine gate_dst (N := 11) rfl ?_); refine bx 11 #[.string (⟨#[]⟩ : ByteArray), .string (⟨#[]⟩ : ByteArray)] 66 ?_; intro gb112 hg w28 hbox hb; have n_ := g8 (kr HO_7 hb) (kb BK105 hb) (kst hb) (Aside0.mk (hbox)) (kge hg) (kge hg) (knl BK105 hg) (kng BK105 hg); clear HO_7 BK105 HB hb hbox hg; obtain ⟨HO_7, BK105, HB, BK112, GW112, GE112, NB105_112, NB112_105⟩ := n_; have hnb29 := NB112_105.out; have hnc29 := NB105_112.out; obtain ⟨⟨hcz30_0, hcz30_1⟩, hfz30_0, hfz30_1⟩ := ce2 BK112)); (try simp only [Act.put, List.setIfInBounds_toArray, List.set_cons_zero, List.set_cons_succ]); (go_cut [63] (fun v63 wc => ∃ (kq : Nat) (x63_26 : Bool), v63 = .bool x63_26 ∧ Aside0 (roles_Is.j4 kq a2 x7_4 x8_4 x9_2 l0_1 (l0_1.length : Int) x40_4 x63_26 l0_0 l0_1 ((rd_T66 l0_1 x40_4).f0) ((rd_T66 l0_1 x40_4).f1) = some r) ∧ Aside0 (kq ≤ k4) ∧ Aside0 (Kd.R Kd.string 9 wc w.heap.size (fun _ => True) u7 x7_4) ∧ Aside0 (wc.heap[gb105]? = some (.cells #[(.slice A0_0 l0_0.length c0_0), (.slice (some ad111) l0_1.length c0_1)] 38 (0, 0))) ∧ Aside0 (wc.heap[gb112]? = some (.cells #[.string ((rd_T66 l0_1 x40_4).f0), .string ((rd_T66 l0_1 x40_4).f1)] 66 (0, 0))) ∧ Aside0 (Below w.heap.size w wc)))
              case first =>
               have H := HC27.out; clear HC27; by_cases c31 : 0 ≤ x9_2
               ·rw [if_pos c31] at H
                have c31b0 := decide_eq_true c31; clear c31; (first | rw [c31b0] | (simp only [i64_w, i32_w]; rw [c31b0]) | skip); by_cases c32 : x9_2 < (x7_4.length : Int)
                ·rw [if_pos c32] at H
                 have c32b0 := decide_eq_true c32; clear c32; by_cases c33 : ((rd_T66 l0_1 x40_4).f0).toList = (rdOf ByteArray.empty x7_4 x9_2).toList
                 ·rw [if_pos c33] at H
                  have c33b0 : (((rd_T66 l0_1 x40_4).f0).toList == (rdOf ByteArray.empty x7_4 x9_2).toList) = true := beq_iff_eq.mpr c33; have c33b1 : (((rd_T66 l0_1 x40_4).f0).toList != (rdOf ByteArray.empty x7_4 x9_2).toList) = false := bne_eq_false_iff_eq.mpr c33; clear c33; replace H := Option.bind_eq_some_iff.mp H; obtain ⟨t114, A340, H⟩ := H; have A34 := Aside0.mk A340; clear A340; by_cases c35 : t114 = true
                  ·subst c35
                   rw [if_pos rfl] at H; replace H := Option.bind_eq_some_iff.mp H; obtain ⟨t115, A360, H⟩ := H; have A36 := Aside0.mk A360; clear A360; have H' := Aside0.mk H; clear H; (try go_wp2); (have n0_ : Aside0 (Kd.R Kd.string 9 ((w28.setCell ⟨gb112, 0, none⟩ (.string ((rd_T66 l0_1 x40_4).f0))).setCell ⟨gb112, 1, none⟩ (.string ((rd_T66 l0_1 x40_4).f1))) w.heap.size (fun _ => True) u7 x7_4) := ⟨by (with_reducible repeat (first | apply Kd.R_alloc | apply Kd.R_drewN | apply Kd.R_drew)); exact Kd.R_mono (Kd.R_far (p := ⟨gb112, 1, none⟩) (Kd.R_far (p := ⟨gb112, 0, none⟩) (Kd.R_types HO_7.out BK112.out (by decide)) (fun _ hk => hk.2) (.string ((rd_T66 l0_1 x40_4).f0))) (fun _ hk => hk.2) (.string ((rd_T66 l0_1 x40_4).f1))) (fun _ hk => trivial)⟩); have n1_ : Aside0 (((w28.setCell ⟨gb112, 0, none⟩ (.string ((rd_T66 l0_1 x40_4).f0))).setCell ⟨gb112, 1, none⟩ (.string ((rd_T66 l0_1 x40_4).f1))).heap[gb105]? = some (.cells #[.slice A0_0 l0_0.length c0_0, .slice (some ad111) l0_1.length c0_1] 38 (0, 0))) := ⟨kq BK105⟩; have n2_ : Aside0 (((w28.setCell ⟨gb112, 0, none⟩ (.string ((rd_T66 l0_1 x40_4).f0))).setCell ⟨gb112, 1, none⟩ (.string ((rd_T66 l0_1 x40_4).f1))).heap[gb112]? = some (.cells #[.string ((rd_T66 l0_1 x40_4).f0), .string ((rd_T66 l0_1 x40_4).f1)] 66 (0, 0))) := ⟨kq BK112⟩; have n3_ : Aside0 (Below w.heap.size w ((w28.setCell ⟨gb112, 0, none⟩ (.string ((rd_T66 l0_1 x40_4).f0))).setCell ⟨gb112, 1, none⟩ (.string ((rd_T66 l0_1 x40_4).f1)))) := ⟨bel⟩; generalize ((w28.setCell ⟨gb112, 0, none⟩ (.string ((rd_T66 l0_1 x40_4).f0))).setCell ⟨gb112, 1, none⟩ (.string ((rd_T66 l0_1 x40_4).f1))) = w37 at n0_ n1_ n2_ n3_ ⊢; have HO_7 := n0_; have BK105 := n1_; have BK112 := n2_; have HB := n3_; clear n0_ n1_ n2_ n3_; have n_ := g4 (Aside0.mk (Kd.R_drew HO_7.out)) (Aside0.mk (blk_drew BK105.out)) (Aside0.mk (blk_drew BK112.out)) (Aside0.mk (below_drew1 HB.out)); clear HO_7 BK105 BK112 HB; obtain ⟨HO_7, BK105, BK112, HB⟩ := n_; obtain ⟨Ao39, co39, eo39⟩ := Kd.R_slice HO_7.out
                   (first | subst eo39 | (injection eo39 with f1_ f2_ f3_; have f4_ := f1_.symm; have f5_ := f3_.symm; clear f1_ f2_ f3_; subst f4_; subst f5_)); have p113 : 0 ≤ (x9_2 : Int) := dt; have q113 : x9_2 < (x7_4.length : Int) := dt; obtain ⟨ad113, e113, hx113_0⟩ := Kd.at_string (Kd.R_reads' HO_7.out).2.2 x9_2 p113 q113; cases e113; replace p113 := eq_true p113; replace q113 := eq_true q113; (refine start_ (n := 20) (S := fun w' => w'.cell? ⟨gb112, 0, none⟩ = some (.string ((rd_T66 l0_1 x40_4).f0)) ∧ w'.cell? ⟨gb112, 1, none⟩ = some (.string ((rd_T66 l0_1 x40_4).f1)) ∧ w'.cell? ⟨gb105, 0, none⟩ = some (.slice A0_0 l0_0.length c0_0) ∧ w'.cell? ⟨gb105, 1, none⟩ = some (.slice (some ad111) l0_1.length c0_1) ∧ w'.cell? (ad113.add (x9_2).toNat) = some (.string (rdOf ByteArray.empty x7_4 x9_2))) (ds := []) #[false, false, false, false, false, false, false, false, false, false, false, false, false, false, false, false, false, false, false, false] (by kernel_rfl) rfl rfl ⟨ck BK112 0, ck BK112 1, ck BK105 0, ck BK105 1, hx113_0⟩ (fun hHeld => ?_); refine with_tabW roles_Is.tab11 roles_Is.bits11 (fun HT_ HW_ => ?_)); generalize w37.drew = w38 at HO_7 BK105 BK112 HB hx113_0 hHeld ⊢; refine qp 0 HT_ ?_; refine qp 2 HT_ ?_; refine qp 3 HT_ ?_; refine qp 4 HT_ ?_; refine qt 1 HT_ HW_ hHeld ?_; refine qt 5 HT_ HW_ hHeld ?_; refine qp 6 HT_ ?_; refine qp 7 HT_ ?_; refine qp 9 HT_ ?_; refine qt 8 HT_ HW_ hHeld ?_; refine qt 10 HT_ HW_ hHeld ?_; (refine q1 11 55 HT_ (fun K hK => ?_)); (refine goes_ Try.func31 (by kernel_rfl) rfl #[.agg #[.slice A0_0 l0_0.length c0_0, .slice (some ad111) l0_1.length c0_1], .string ((rd_T66 l0_1 x40_4).f1)] (by rfl) rfl rfl (by (try simp only [List.map_toArray, List.map_cons, List.map_nil]); first | done | rfl | (simp only [List.length_drop, List.length_take]; rfl)) ?_); (with_reducible refine (roles_Has.calls k4 _ _ l0_0 _ _ l0_1 ((rd_T66 l0_1 x40_4).f1) true _ ?side1 ?side2 ?side3 ?side4 A34.out).mono ?_); (case side1 => exact kc HR0_0)
                   (case side2 => exact HC0_0.out); (case side3 => exact kc HR0_1); (case side4 => exact HC0_1.out); rintro e w40 ⟨rfl, hb⟩; have HS4_ := (hb.cell (World.block_lt_of_cell? _ _ (hHeld.2.2.2.2))).trans (hHeld.2.2.2.2); refine ⟨_, rfl, ?_⟩; have n_ := g4 (kr HO_7 hb) (kb BK105 hb) (kb BK112 hb) (kst hb); clear HO_7 BK105 BK112 HB; obtain ⟨HO_7, BK105, BK112, HB⟩ := n_; (refine hK.out _ _ ⟨ck BK112 0, ck BK112 1, ck BK105 0, ck BK105 1, HS4_⟩ (fun hHeld => ?_)); clear hK K; refine nm 55 ?_; refine qp 12 HT_ ?_; refine qp 13 HT_ ?_; refine qp 14 HT_ ?_; refine qp 15 HT_ ?_; refine qp 16 HT_ ?_; refine qt 17 HT_ HW_ hHeld ?_; (refine q1 18 62 HT_ (fun K hK => ?_)); (refine goes_ Try.func32 (by kernel_rfl) rfl #[.slice (some ad113) x7_4.length co39, .string ((rd_T66 l0_1 x40_4).f1)] (by rfl) rfl rfl (by (try simp only [List.map_toArray, List.map_cons, List.map_nil]); first | done | rfl | (simp only [List.length_drop, List.length_take]; rfl)) ?_); (with_reducible refine (slices_Contains_string_string.calls k4 _ _ x7_4 ((rd_T66 l0_1 x40_4).f1) t115 _ ?side1 ?side2 A36.out).mono ?_); (case side1 => exact kn HO_7); (case side2 => exact (Kd.R_reads' HO_7.out).2.1); rintro e w' ⟨rfl, ⟨nd, rfl⟩⟩; refine ⟨_, rfl, ?_⟩; (refine hK.out _ _ ⟨ck BK112 0, ck BK112 1, ck BK105 0, ck BK105 1, hHeld.2.2.2.2⟩ (fun hHeld => ?_)); clear hK K; refine nm 62 ?_; refine qp 19 HT_ ?_; (refine done_ (done_of HT_.out (by kernel_rfl)) ?_); (try go_wp2); go_meet
                   case rel => exact ⟨_, (t115), (by first | rfl | (simp; done) | (simp [*]; done)), H', ⟨by have := HJ3.out; have := HK2.out; have := HJ17.out; have := HK4.out; first | omega | exact Nat.le_refl _⟩, kr0 HO_7, kb0 BK105, kb0 BK112, ⟨bel⟩⟩
                  ·replace c35 := Bool.eq_false_iff.mpr c35
                   subst c35; (rw [if_neg (show ¬ (false = true) by decide)] at H); have H' := Aside0.mk H; clear H; (try go_wp2); (have n0_ : Aside0 (Kd.R Kd.string 9 ((w28.setCell ⟨gb112, 0, none⟩ (.string ((rd_T66 l0_1 x40_4).f0))).setCell ⟨gb112, 1, none⟩ (.string ((rd_T66 l0_1 x40_4).f1))) w.heap.size (fun _ => True) u7 x7_4) := ⟨by (with_reducible repeat (first | apply Kd.R_alloc | apply Kd.R_drewN | apply Kd.R_drew)); exact Kd.R_mono (Kd.R_far (p := ⟨gb112, 1, none⟩) (Kd.R_far (p := ⟨gb112, 0, none⟩) (Kd.R_types HO_7.out BK112.out (by decide)) (fun _ hk => hk.2) (.string ((rd_T66 l0_1 x40_4).f0))) (fun _ hk => hk.2) (.string ((rd_T66 l0_1 x40_4).f1))) (fun _ hk => trivial)⟩); have n1_ : Aside0 (((w28.setCell ⟨gb112, 0, none⟩ (.string ((rd_T66 l0_1 x40_4).f0))).setCell ⟨gb112, 1, none⟩ (.string ((rd_T66 l0_1 x40_4).f1))).heap[gb105]? = some (.cells #[.slice A0_0 l0_0.length c0_0, .slice (some ad111) l0_1.length c0_1] 38 (0, 0))) := ⟨kq BK105⟩; have n2_ : Aside0 (((w28.setCell ⟨gb112, 0, none⟩ (.string ((rd_T66 l0_1 x40_4).f0))).setCell ⟨gb112, 1, none⟩ (.string ((rd_T66 l0_1 x40_4).f1))).heap[gb112]? = some (.cells #[.string ((rd_T66 l0_1 x40_4).f0), .string ((rd_T66 l0_1 x40_4).f1)] 66 (0, 0))) := ⟨kq BK112⟩; have n3_ : Aside0 (Below w.heap.size w ((w28.setCell ⟨gb112, 0, none⟩ (.string ((rd_T66 l0_1 x40_4).f0))).setCell ⟨gb112, 1, none⟩ (.string ((rd_T66 l0_1 x40_4).f1)))) := ⟨bel⟩; generalize ((w28.setCell ⟨gb112, 0, none⟩ (.string ((rd_T66 l0_1 x40_4).f0))).setCell ⟨gb112, 1, none⟩ (.string ((rd_T66 l0_1 x40_4).f1))) = w41 at n0_ n1_ n2_ n3_ ⊢; have HO_7 := n0_; have BK105 := n1_; have BK112 := n2_; have HB := n3_; clear n0_ n1_ n2_ n3_; have n_ := g4 (Aside0.mk (Kd.R_drew HO_7.out)) (Aside0.mk (blk_drew BK105.out)) (Aside0.mk (blk_drew BK112.out)) (Aside0.mk (below_drew1 HB.out)); clear HO_7 BK105 BK112 HB; obtain ⟨HO_7, BK105, BK112, HB⟩ := n_; obtain ⟨Ao43, co43, eo43⟩ := Kd.R_slice HO_7.out
                   (first | subst eo43 | (injection eo43 with f1_ f2_ f3_; have f4_ := f1_.symm; have f5_ := f3_.symm; clear f1_ f2_ f3_; subst f4_; subst f5_)); have p113 : 0 ≤ (x9_2 : Int) := dt; have q113 : x9_2 < (x7_4.length : Int) := dt; obtain ⟨ad113, e113, hx113_0⟩ := Kd.at_string (Kd.R_reads' HO_7.out).2.2 x9_2 p113 q113; cases e113; replace p113 := eq_true p113; replace q113 := eq_true q113; (refine start_ (n := 20) (S := fun w' => w'.cell? ⟨gb112, 0, none⟩ = some (.string ((rd_T66 l0_1 x40_4).f0)) ∧ w'.cell? ⟨gb112, 1, none⟩ = some (.string ((rd_T66 l0_1 x40_4).f1)) ∧ w'.cell? ⟨gb105, 0, none⟩ = some (.slice A0_0 l0_0.length c0_0) ∧ w'.cell? ⟨gb105, 1, none⟩ = some (.slice (some ad111) l0_1.length c0_1) ∧ w'.cell? (ad113.add (x9_2).toNat) = some (.string (rdOf ByteArray.empty x7_4 x9_2))) (ds := []) #[false, false, false, false, false, false, false, false, false, false, false, false, false, false, false, false, false, false, false, false] (by kernel_rfl) rfl rfl ⟨ck BK112 0, ck BK112 1, ck BK105 0, ck BK105 1, hx113_0⟩ (fun hHeld => ?_); refine with_tabW roles_Is.tab11 roles_Is.bits11 (fun HT_ HW_ => ?_)); generalize w41.drew = w42 at HO_7 BK105 BK112 HB hx113_0 hHeld ⊢; refine qp 0 HT_ ?_; refine qp 2 HT_ ?_; refine qp 3 HT_ ?_; refine qp 4 HT_ ?_; refine qt 1 HT_ HW_ hHeld ?_; refine qt 5 HT_ HW_ hHeld ?_; refine qp 6 HT_ ?_; refine qp 7 HT_ ?_; refine qp 9 HT_ ?_; refine qt 8 HT_ HW_ hHeld ?_; refine qt 10 HT_ HW_ hHeld ?_; (refine q1 11 55 HT_ (fun K hK => ?_)); (refine goes_ Try.func31 (by kernel_rfl) rfl #[.agg #[.slice A0_0 l0_0.length c0_0, .slice (some ad111) l0_1.length c0_1], .string ((rd_T66 l0_1 x40_4).f1)] (by rfl) rfl rfl (by (try simp only [List.map_toArray, List.map_cons, List.map_nil]); first | done | rfl | (simp only [List.length_drop, List.length_take]; rfl)) ?_); (with_reducible refine (roles_Has.calls k4 _ _ l0_0 _ _ l0_1 ((rd_T66 l0_1 x40_4).f1) false _ ?side1 ?side2 ?side3 ?side4 A34.out).mono ?_); (case side1 => exact kc HR0_0)
                   (case side2 => exact HC0_0.out); (case side3 => exact kc HR0_1); (case side4 => exact HC0_1.out); rintro e w44 ⟨rfl, hb⟩; have HS4_ := (hb.cell (World.block_lt_of_cell? _ _ (hHeld.2.2.2.2))).trans (hHeld.2.2.2.2); refine ⟨_, rfl, ?_⟩; have n_ := g4 (kr HO_7 hb) (kb BK105 hb) (kb BK112 hb) (kst hb); clear HO_7 BK105 BK112 HB; obtain ⟨HO_7, BK105, BK112, HB⟩ := n_; (refine hK.out _ _ ⟨ck BK112 0, ck BK112 1, ck BK105 0, ck BK105 1, HS4_⟩ (fun hHeld => ?_)); clear hK K; refine nm 55 ?_; refine qp 12 HT_ ?_; refine qp 13 HT_ ?_; refine qp 14 HT_ ?_; refine qo 15 HT_ ?_; refine qo 16 HT_ ?_; refine qo 17 HT_ ?_; refine qo 18 HT_ ?_; refine qp 19 HT_ ?_; (refine done_ (done_of HT_.out (by kernel_rfl)) ?_); (try go_wp2); go_meet
                   case rel => exact ⟨_, (true), (by first | rfl | (simp; done) | (simp [*]; done)), H', ⟨by have := HJ3.out; have := HK2.out; have := HJ17.out; have := HK4.out; first | omega | exact Nat.le_refl _⟩, kr0 HO_7, kb0 BK105, kb0 BK112, ⟨bel⟩⟩
                 ·rw [if_neg c33] at H
                  have c33b0 : (((rd_T66 l0_1 x40_4).f0).toList == (rdOf ByteArray.empty x7_4 x9_2).toList) = false := beq_eq_false_iff_ne.mpr c33; have c33b1 : (((rd_T66 l0_1 x40_4).f0).toList != (rdOf ByteArray.empty x7_4 x9_2).toList) = true := bne_iff_ne.mpr c33; have H' := Aside0.mk H; clear H; (try go_wp2); (have n0_ : Aside0 (Kd.R Kd.string 9 ((w28.setCell ⟨gb112, 0, none⟩ (.string ((rd_T66 l0_1 x40_4).f0))).setCell ⟨gb112, 1, none⟩ (.string ((rd_T66 l0_1 x40_4).f1))) w.heap.size (fun _ => True) u7 x7_4) := ⟨by (with_reducible repeat (first | apply Kd.R_alloc | apply Kd.R_drewN | apply Kd.R_drew)); exact Kd.R_mono (Kd.R_far (p := ⟨gb112, 1, none⟩) (Kd.R_far (p := ⟨gb112, 0, none⟩) (Kd.R_types HO_7.out BK112.out (by decide)) (fun _ hk => hk.2) (.string ((rd_T66 l0_1 x40_4).f0))) (fun _ hk => hk.2) (.string ((rd_T66 l0_1 x40_4).f1))) (fun _ hk => trivial)⟩); have n1_ : Aside0 (((w28.setCell ⟨gb112, 0, none⟩ (.string ((rd_T66 l0_1 x40_4).f0))).setCell ⟨gb112, 1, none⟩ (.string ((rd_T66 l0_1 x40_4).f1))).heap[gb105]? = some (.cells #[.slice A0_0 l0_0.length c0_0, .slice (some ad111) l0_1.length c0_1] 38 (0, 0))) := ⟨kq BK105⟩; have n2_ : Aside0 (((w28.setCell ⟨gb112, 0, none⟩ (.string ((rd_T66 l0_1 x40_4).f0))).setCell ⟨gb112, 1, none⟩ (.string ((rd_T66 l0_1 x40_4).f1))).heap[gb112]? = some (.cells #[.string ((rd_T66 l0_1 x40_4).f0), .string ((rd_T66 l0_1 x40_4).f1)] 66 (0, 0))) := ⟨kq BK112⟩; have n3_ : Aside0 (Below w.heap.size w ((w28.setCell ⟨gb112, 0, none⟩ (.string ((rd_T66 l0_1 x40_4).f0))).setCell ⟨gb112, 1, none⟩ (.string ((rd_T66 l0_1 x40_4).f1)))) := ⟨bel⟩; generalize ((w28.setCell ⟨gb112, 0, none⟩ (.string ((rd_T66 l0_1 x40_4).f0))).setCell ⟨gb112, 1, none⟩ (.string ((rd_T66 l0_1 x40_4).f1))) = w45 at n0_ n1_ n2_ n3_ ⊢; have HO_7 := n0_; have BK105 := n1_; have BK112 := n2_; have HB := n3_; clear n0_ n1_ n2_ n3_; have n_ := g4 (Aside0.mk (Kd.R_drew HO_7.out)) (Aside0.mk (blk_drew BK105.out)) (Aside0.mk (blk_drew BK112.out)) (Aside0.mk (below_drew1 HB.out))
                  clear HO_7 BK105 BK112 HB; obtain ⟨HO_7, BK105, BK112, HB⟩ := n_; obtain ⟨Ao47, co47, eo47⟩ := Kd.R_slice HO_7.out; (first | subst eo47 | (injection eo47 with f1_ f2_ f3_; have f4_ := f1_.symm; have f5_ := f3_.symm; clear f1_ f2_ f3_; subst f4_; subst f5_)); have p113 : 0 ≤ (x9_2 : Int) := dt; have q113 : x9_2 < (x7_4.length : Int) := dt; obtain ⟨ad113, e113, hx113_0⟩ := Kd.at_string (Kd.R_reads' HO_7.out).2.2 x9_2 p113 q113; cases e113; replace p113 := eq_true p113; replace q113 := eq_true q113; (refine start_ (n := 20) (S := fun w' => w'.cell? ⟨gb112, 0, none⟩ = some (.string ((rd_T66 l0_1 x40_4).f0)) ∧ w'.cell? ⟨gb112, 1, none⟩ = some (.string ((rd_T66 l0_1 x40_4).f1)) ∧ w'.cell? (ad113.add (x9_2).toNat) = some (.string (rdOf ByteArray.empty x7_4 x9_2))) (ds := []) #[false, false, false, false, false, false, false, false, false, false, false, false, false, false, false, false, false, false, false, false] (by kernel_rfl) rfl rfl ⟨ck BK112 0, ck BK112 1, hx113_0⟩ (fun hHeld => ?_); refine with_tabW roles_Is.tab11 roles_Is.bits11 (fun HT_ HW_ => ?_)); generalize w45.drew = w46 at HO_7 BK105 BK112 HB hx113_0 hHeld ⊢; refine qp 0 HT_ ?_; refine qp 2 HT_ ?_; refine qp 3 HT_ ?_; refine qp 4 HT_ ?_; refine qt 1 HT_ HW_ hHeld ?_; refine qt 5 HT_ HW_ hHeld ?_; refine qp 6 HT_ ?_; refine qp 7 HT_ ?_; refine qo 8 HT_ ?_; refine qo 9 HT_ ?_; refine qo 10 HT_ ?_; refine qo 11 HT_ ?_; refine qo 12 HT_ ?_; refine qp 13 HT_ ?_; refine qp 14 HT_ ?_; refine qo 15 HT_ ?_; refine qo 16 HT_ ?_; refine qo 17 HT_ ?_; refine qo 18 HT_ ?_; refine qp 19 HT_ ?_; (refine done_ (done_of HT_.out (by kernel_rfl)) ?_); (try go_wp2); go_meet
                  case rel => exact ⟨_, (true), (by first | rfl | (simp; done) | (simp [*]; done)), H', ⟨by have := HJ3.out; have := HK2.out; have := HJ17.out; have := HK4.out; first | omega | exact Nat.le_refl _⟩, kr0 HO_7, kb0 BK105, kb0 BK112, ⟨bel⟩⟩
                ·rw [if_neg c32] at H
                 exact absurd H (by simp)
               ·rw [if_neg c31] at H
                exact absurd H (by simp)
              case rest =>
               clear HC27; obtain ⟨kq, x63_26, rfl, HA, HJ26, HO_7, BK105, BK112, HB⟩ := hcut
               cases kq with
               | zero => exact absurd HA.out (by simp [roles_Is.j4])
               | succ kj26 =>
                have H := HA.out; clear HA; simp only [roles_Is.j4] at H; by_cases c48 : x63_26 = true
                ·subst c48
                 rw [if_pos rfl] at H; have H' := Aside0.mk H; clear H; go_wp2_with (go_step3); go_roundg kj26
                 case measure => have := HJ3.out; have := HK2.out; have := HJ17.out; have := HK4.out; have := HJ26.out; omega
                 case rel => exact ⟨(x7_4), (x8_4), (wrap64 (x40_4 + 1)), (by first | rfl | (simp; done) | (simp [*]; done)), (by first | rfl | (simp; done) | (simp [*]; done)), H', ⟨by have := HJ3.out; have := HK2.out; have := HJ17.out; have := HK4.out; have := HJ26.out; omega⟩, kr0 HO_7, kb0 BK105, ⟨bel⟩⟩
                ·replace c48 := Bool.eq_false_iff.mpr c48
                 subst c48; (rw [if_neg (show ¬ (false = true) by decide)] at H); by_cases c49 : ((rd_T66 l0_1 x40_4).f1).toList = a2.toList
                 ·rw [if_pos c49] at H
                  have c49b0 : (((rd_T66 l0_1 x40_4).f1).toList == a2.toList) = true := beq_iff_eq.mpr c49; have c49b1 : (((rd_T66 l0_1 x40_4).f1).toList != a2.toList) = false := bne_eq_false_iff_eq.mpr c49; clear c49; obtain rfl := Option.some.inj H; have hnb50 := NB112_105.out; have hnc50 := NB105_112.out; obtain ⟨⟨hcz51_0, hcz51_1⟩, hfz51_0, hfz51_1⟩ := ce2 BK112; go_wp2_with (go_step3); go_ret; (exact ⟨by first | rfl | (simp [errW_none, errW_some] <;> rfl) | (simp [*, errW_none, errW_some] <;> rfl), bel⟩)
                 ·rw [if_neg c49] at H
                  have c49b0 : (((rd_T66 l0_1 x40_4).f1).toList == a2.toList) = false := beq_eq_false_iff_ne.mpr c49; have c49b1 : (((rd_T66 l0_1 x40_4).f1).toList != a2.toList) = true := bne_iff_ne.mpr c49; by_cases c52 : x7_4.length < 8796093022208
                  ·rw [if_pos c52] at H
                   have LMc52 := Aside0.mk c52; clear c52; obtain ⟨y116, hy116⟩ : ∃ y_ : List ByteArray, y_ = (x7_4 ++ [((rd_T66 l0_1 x40_4).f1)]) := ⟨_, rfl⟩; (replace H : (roles_Is.l1 kj26 a2 y116 (((rd_T66 l0_1 x40_4).f1).toList == a2.toList) x9_2 l0_1 (l0_1.length : Int) (wrap64 (x40_4 + 1)) l0_0 l0_1) = some r := by first | (rw [hy116]; with_reducible exact H) | (have H2_ := (Option.bind_some _ _).symm.trans H; rw [hy116]; with_reducible exact H2_) | (have H2_ := (Option.bind_some _ _).symm.trans H; with_reducible exact H2_) | with_reducible exact H | (rw [hy116]; exact H) | exact H); have Ny116 := Aside0.mk hy116; clear hy116; have H' := Aside0.mk H; clear H; have hnb53 := NB112_105.out; have hnc53 := NB105_112.out; obtain ⟨⟨hcz54_0, hcz54_1⟩, hfz54_0, hfz54_1⟩ := ce2 BK112; (go_wp2_with (first | go_step3 | ((with_reducible refine gate_builtin (b := .append) (xs := #[.tmp 69, .tmp 72]) rfl ?_); at_builtin; refine Kd.R_append Kd.string (w0 := w) w.heap.size rfl (.tmp 69) (.tmp 72) 26 9 (.string ⟨#[]⟩) 16 rfl Try.underlying26 info9 rfl (by decide) (by omega) u7 x7_4 ((rd_T66 l0_1 x40_4).f1) [.string ((rd_T66 l0_1 x40_4).f1)] (fun _ => True) (fun _ => False) rfl rfl ?aP (fun _ hk => hk.elim) ?aF ?aO ?aB ?aS ?aL ?_; (case aP => exact rfl); (case aB => exact bel); (case aF => exact (fun _ _ => trivial)); (case aO => exact (ko HO_7)); (case aS => exact (below_size bel)); (case aL => have := LMc52.out; omega); intro v117 w55 ho hb hg hat; rw [← Ny116.out] at ho; have n_ := g4 (Aside0.mk (blk_grown (g := gb105) (o := .cells #[.slice A0_0 l0_0.length c0_0, .slice (some ad111) l0_1.length c0_1] 38 (0, 0)) (kq BK105) hg (Kd.R_ne HO_7.out BK105.out (by decide)))) (Aside0.mk (blk_grown (g := gb112) (o := .cells #[.string ((rd_T66 l0_1 x40_4).f0), .string ((rd_T66 l0_1 x40_4).f1)] 66 (0, 0)) (kq BK112) hg (Kd.R_ne HO_7.out BK112.out (by decide)))) (Aside0.mk (hb)) (Aside0.mk (ho)); clear BK105 BK112 HB HO_7 ho hb hg hat; obtain ⟨BK105, BK112, HB, HO118⟩ := n_))); go_roundg kj26
                   case measure => have := HJ3.out; have := HK2.out; have := HJ17.out; have := HK4.out; have := HJ26.out; omega
                   case rel => exact ⟨(y116), ((((rd_T66 l0_1 x40_4).f1).toList == a2.toList)), (wrap64 (x40_4 + 1)), (by first | rfl | (simp; done) | (simp [*]; done)), (by first | rfl | (simp; done) | (simp [*]; done)), H', ⟨by have := HJ3.out; have := HK2.out; have := HJ17.out; have := HK4.out; have := HJ26.out; omega⟩, kr0 HO118, kb0 BK105, ⟨bel⟩⟩
                  ·rw [if_neg c52] at H
                   exact absurd H (by simp)
             ·rw [if_neg c26] at H
              exact absurd H (by simp)
            ·rw [if_neg c25] at H
             exact absurd H (by simp)
           ·rw [if_neg c24] at H
            have c24b0 := decide_eq_false c24; clear c24; have H' := Aside0.mk H; clear H; go_wp2_with (go_step3); go_roundg k4
            case measure => have := HJ3.out; have := HK2.out; have := HJ17.out; have := HK4.out; omega
            case rel => exact ⟨(x7_4), (x8_4), (wrap64 (x9_2 + 1)), (by first | rfl | (simp; done) | (simp [*]; done)), (by first | rfl | (simp; done) | (simp [*]; done)), H', ⟨by have := HJ3.out; have := HK2.out; have := HJ17.out; have := HK4.out; omega⟩, kr0 HO_7, kb0 BK105, ⟨bel⟩⟩
        ·replace c22 := Bool.eq_false_iff.mpr c22
         subst c22; (rw [if_neg (show ¬ (false = true) by decide)] at H); obtain rfl := Option.some.inj H; go_wp2_with (go_step3); go_ret; (exact ⟨by first | rfl | (simp [errW_none, errW_some] <;> rfl) | (simp [*, errW_none, errW_some] <;> rfl), bel⟩)

end Go.Proofs.Yteklimdjlihloaa.G
