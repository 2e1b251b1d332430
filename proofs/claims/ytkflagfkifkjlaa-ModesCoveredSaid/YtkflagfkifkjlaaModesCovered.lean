/- The law ModesCovered holds of the program: what is held is covered, what is covered by what is covered is covered, and what does not go with a mode that is covered does not go with the set. Conditions: none. -/
import Derived.Test.YtkflagfkifkjlaaRows
import Derived.Test.YtkflagfkifkjlaaRef
import Derived.WalkKit
import Derived.ProofKit
import Derived.OpenShut
namespace Go.Proofs.Ytkflagfkifkjlaa.modesCovered
open Go.ChangeShapes Go.WideShapes Go.ChangeAt Go.RowKit Plain
set_option linter.unusedVariables false      -- a walk need not use every 'w<i>' (that an integer argument fits its kind)

theorem own : ownKnob Try.prog.godebug = none := by kernel_rfl

def coveredOK (c h a b : Nat) : Bool :=
  !mayN c a || !mayN c b || ((!h.testBit a || covN c h a) && (!covN c h a || ((!covN c (withN 0 a) b || covN c h b) && (goN c (withN 0 a) b || !goN c h b))))
theorem covered_tab : allBelow 2 (fun c => allBelow 512 fun h => allBelow 9 fun a => allBelow 9 fun b => coveredOK (c + 1) h a b) = true := by decide +kernel
theorem covered_eq {c a b : Nat} (h : Nat) (hm : mayN c a = true) (hn : mayN c b = true) :
    (h.testBit a = true → covN c h a = true) ∧ (covN c h a = true → (covN c (withN 0 a) b = true → covN c h b = true) ∧ (goN c (withN 0 a) b = false → goN c h b = false)) := by
  have hl := mayN_le hm
  have hk := mayN_le hn
  have := allBelow_at (allBelow_at (allBelow_at (allBelow_at covered_tab (i := c - 1) (by omega)) (i := h % 512) (by omega)) (i := a) (by omega)) (i := b) (by omega)
  rw [show c - 1 + 1 = c by omega, coveredOK, hm, hn, ← covN_low, ← covN_low, ← goN_low, bit_low h a (by omega)] at this
  revert this
  cases h.testBit a <;> cases covN c h a <;> cases covN c (withN 0 a) b <;> cases covN c h b <;> cases goN c (withN 0 a) b <;> cases goN c h b <;> simp
theorem set_oneI (x : Int) (h0 : 0 ≤ x) (W : World) :
    Calls Try.prog 11 #[.slice (some ⟨W.heap.size, 0, none⟩) 1 1] (W.alloc (.cells #[.int .u8 x] 5)) fun e w' => e = .returned (.int .u16 (withN 0 x.toNat : Nat)) ∧ W.alloc (.cells #[.int .u8 x] 5) = w' := by
  obtain ⟨n, rfl⟩ := Int.eq_ofNat_of_zero_le h0
  exact set_one n W
theorem with0_lt (a : Nat) : withN 0 a < 65536 := withN_lt a (by decide)
theorem cov_ways (H A B C D E : Bool) (h1 : H = true → A = true) (h2 : A = true → (B = true → C = true) ∧ (D = false → E = false)) :
    (A = false ∧ H = false) ∨ (A = true ∧ (B = false ∨ (B = true ∧ C = true)) ∧ (D = true ∨ (D = false ∧ E = false))) := by
  revert h1 h2
  cases H <;> cases A <;> cases B <;> cases C <;> cases D <;> cases E <;> decide
set_option maxHeartbeats 1000000 in
theorem covered_main (a0 a1 a2 a3 : Int) (w : World) (w0a : 0 ≤ a0) (w1a : 0 ≤ a1) (w1b : a1 ≤ 65535) (w2a : 0 ≤ a2) (w2b : a2 ≤ 255) (w3a : 0 ≤ a3) (w3b : a3 ≤ 255) (m1 : mayN a0.toNat a2.toNat = true) (m2 : mayN a0.toNat a3.toNat = true) :
    Calls Try.prog 7 #[.int .u8 a0, .int .u16 a1, .int .u8 a2, .int .u8 a3] w fun e w' => e = .returned (.bool true) ∧ Below w.heap.size w w' := by
  obtain ⟨f1, f2⟩ := covered_eq a1.toNat m1 m2
  have hl := mayN_le m1
  have hs'' : ∀ yk, Op.shift .shr .u16 a1 yk a2 = pure (.int .u16 (a1 / 2 ^ a2.toNat)) := fun yk => shift_shr_u16 yk a1 a2 (by omega) (by omega)
  have hb := bit_and a1 a2.toNat w1a w1b
  have hl2 := with0_lt a2.toNat
  have hw := cov_ways _ _ _ _ _ _ f1 f2
  clear f1 f2 hl
  rcases hw with ⟨x1, x2⟩ | ⟨x1, x2 | ⟨x2, x3⟩, x4 | ⟨x4, x5⟩⟩
  · rw [x2] at hb
    go_enter Try.func7, Try.ntmps7
    go_wp2_with (first | (go_at_call 9; refine (works_any _).mono ?_; rintro e w1 ⟨rfl, q1⟩) | (go_at_call 13; refine (may_any _ _ _).mono ?_; rintro e w' ⟨rfl, rfl⟩) | (go_at_call 11; refine (set_oneI _ (by assumption) _).mono ?_; rintro e w' ⟨rfl, rfl⟩) | (go_at_call 10; refine (go_any _ _ _ _ (by omega) (by omega) (by assumption)).mono ?_; rintro e wg ⟨rfl, q2⟩) | (go_at_call 12; refine (cov_all _ _ _ _ (by omega) (by omega) (by assumption)).mono ?_; rintro e wc ⟨rfl, q3⟩))
    go_ret
    exact ⟨rfl, by repeat (first | assumption | exact Below.refl _ _ | refine bStep ?_ (by assumption) | refine bAlloc ?_ _)⟩
  all_goals
    cases x6 : a1.toNat.testBit a2.toNat
    all_goals
      rw [x6] at hb
      clear x6
      go_enter Try.func7, Try.ntmps7
      go_wp2_with (first | (go_at_call 9; refine (works_any _).mono ?_; rintro e w1 ⟨rfl, q1⟩) | (go_at_call 13; refine (may_any _ _ _).mono ?_; rintro e w' ⟨rfl, rfl⟩) | (go_at_call 11; refine (set_oneI _ (by assumption) _).mono ?_; rintro e w' ⟨rfl, rfl⟩) | (go_at_call 10; refine (go_any _ _ _ _ (by omega) (by omega) (by assumption)).mono ?_; rintro e wg ⟨rfl, q2⟩) | (go_at_call 12; refine (cov_all _ _ _ _ (by omega) (by omega) (by assumption)).mono ?_; rintro e wc ⟨rfl, q3⟩))
      go_ret
      exact ⟨rfl, by repeat (first | assumption | exact Below.refl _ _ | refine bStep ?_ (by assumption) | refine bAlloc ?_ _)⟩
set_option maxHeartbeats 400000 in
theorem walk (a0 : Int) (a1 : Int) (a2 : Int) (a3 : Int) (w0 : (Lit.int .u8 a0).wf = true) (w1 : (Lit.int .u16 a1).wf = true) (w2 : (Lit.int .u8 a2).wf = true) (w3 : (Lit.int .u8 a3).wf = true) (w : World) :
    Calls Try.prog 7 #[.int .u8 a0, .int .u16 a1, .int .u8 a2, .int .u8 a3] w fun e w' => e = .returned (.bool true) ∧ Below w.heap.size w w' := by
  obtain ⟨w0a, w0b⟩ := bounds_u8 w0
  obtain ⟨w1a, w1b⟩ := bounds_u16 w1
  obtain ⟨w2a, w2b⟩ := bounds_u8 w2
  obtain ⟨w3a, w3b⟩ := bounds_u8 w3
  cases m1 : mayN a0.toNat a2.toNat with
  | false =>
    go_enter Try.func7, Try.ntmps7
    go_wp2_with (first | (go_at_call 9; refine (works_any _).mono ?_; rintro e w1 ⟨rfl, q1⟩) | (go_at_call 13; refine (may_any _ _ _).mono ?_; rintro e w' ⟨rfl, rfl⟩))
    go_ret
    exact ⟨rfl, by first | exact bStep (by assumption) (by assumption) | assumption⟩
  | true =>
    cases m2 : mayN a0.toNat a3.toNat with
    | false =>
      go_enter Try.func7, Try.ntmps7
      go_wp2_with (first | (go_at_call 9; refine (works_any _).mono ?_; rintro e w1 ⟨rfl, q1⟩) | (go_at_call 13; refine (may_any _ _ _).mono ?_; rintro e w' ⟨rfl, rfl⟩))
      go_ret
      exact ⟨rfl, by first | exact bStep (by assumption) (by assumption) | assumption⟩
    | true => exact covered_main a0 a1 a2 a3 w w0a w1a w1b w2a w2b w3a w3b m1 m2

/-! ### THE ROW's STEP: WRITTEN OUT: LEAVE IT -/
set_option maxRecDepth 100000 in
theorem lifted (os : Os) (started : os.Started) (H : Type) (enc : TypeId × Value → H) :
    ReturnsInHanded {} Try.checked os 7 .any (Rows.modesCoveredSpec.pre6 enc Try.prog Try.f7 Rows.modesCoveredRow.domain false) (Rows.modesCoveredSpec.post enc Try.prog Try.f7 false true false false) := by
  refine returnsInHanded_of_change (C := Try.checked) own started (by kernel_rfl) Try.func7
    (ChangeSpec.witness6 (enc := enc) (C := Try.checked) false ⟨#[], #[.int .u8 0, .int .u16 0, .int .u8 0, .int .u8 0], []⟩ 8 (by kernel_rfl) (by kernel_rfl) (by kernel_rfl) (by kernel_rfl)) ?_
  intro W base args ds gs before hval0 hW hcnd _
  have hval : ∀ (j : Nat) t v, Try.f7.params[j]? = some t → args[j]? = some v → Value.okWide Try.prog W .any base t v := hval0
  have hW' := hW
  obtain ⟨p, q, hA0, hV, rfl, hfz, hnd⟩ := hW
  have hA : DataW.TrodAll enc Try.prog W 0 (fun _ => true) true Try.f7.params.toList args.toList ds p := hA0
  rw [Try.params7] at hA hval
  obtain ⟨v0, vs0, d0, ds0, p0, q0, hargs, rfl, rfl, h0, r0⟩ := trodAll_cons hA
  obtain ⟨v1, vs1, d1, ds1, p1, q1, rfl, rfl, rfl, h1, r1⟩ := trodAll_cons r0
  obtain ⟨v2, vs2, d2, ds2, p2, q2, rfl, rfl, rfl, h2, r2⟩ := trodAll_cons r1
  obtain ⟨v3, vs3, d3, ds3, p3, q3, rfl, rfl, rfl, h3, r3⟩ := trodAll_cons r2
  obtain ⟨rfl, rfl, rfl⟩ := trodAll_nil r3
  obtain rfl : args = #[v0, v1, v2, v3] := by cases args; simp_all
  obtain ⟨rfl, rfl⟩ := trodVars_none hV
  obtain ⟨a0, rfl, rfl, rfl, w0⟩ := open_int Try.underlying5 (hval 0 5 v0 rfl rfl) h0
  obtain ⟨a1, rfl, rfl, rfl, w1⟩ := open_int Try.underlying25 (hval 1 25 v1 rfl rfl) h1
  obtain ⟨a2, rfl, rfl, rfl, w2⟩ := open_int Try.underlying5 (hval 2 5 v2 rfl rfl) h2
  obtain ⟨a3, rfl, rfl, rfl, w3⟩ := open_int Try.underlying5 (hval 3 5 v3 rfl rfl) h3
  clear hA0 hval0
  simp only [List.append_nil] at hW'
  refine (walk a0 a1 a2 a3 w0 w1 w2 w3 W).mono fun e W' ⟨he, hg⟩ => ?_
  subst he
  exact ⟨_, rfl, post_of_below (pa := []) (pv := []) hW' (fun _ _ _ => (trodAll_cons_mk (shut_bool Try.underlying4 _) trodAll_mk0)) (fun sp _ => (trodAll_cons_mk (shut_int Try.underlying5 w0) (trodAll_cons_mk (shut_int Try.underlying25 w1) (trodAll_cons_mk (shut_int Try.underlying5 w2) (trodAll_cons_mk (shut_int Try.underlying5 w3) trodAll_mk0))))) (fun _ _ => rfl) rfl
    hg (ok_one (by kernel_rfl) rfl (okWide_bool_mk Try.underlying4 _))⟩

theorem over : Rows.modesCoveredRow.holds Try.pinned (OpenSpec.ofChange Rows.modesCoveredSpec) :=
  OpenClaim.holds_of_wide 7 Try.f7 rfl rfl rfl rfl rfl rfl rfl ⟨rfl, rfl, rfl, rfl, rfl⟩ rfl rfl rfl rfl rfl (by kernel_rfl) Try.func7 (by kernel_rfl)
    (of_decide_eq_true (by kernel_rfl)) (by unfold Func.isWrapper; first | (rw [if_pos (by decide +kernel)]; kernel_rfl) | (rw [if_neg (by decide +kernel)]; exact ⟨rfl, rfl⟩))
    (fun os started H enc _ => lifted os started H enc)

end Go.Proofs.Ytkflagfkifkjlaa.modesCovered
namespace Go.Proofs.Ytkflagfkifkjlaa
/-- THE STATEMENT. -/
theorem modesCovered_holds : Rows.ModesCoveredSaid := modesCovered.over
#print axioms modesCovered_holds
end Go.Proofs.Ytkflagfkifkjlaa
