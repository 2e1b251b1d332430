/- The law ModesMore holds of the program: with more held no more goes and no less is covered, and a set with a mode more has it and all that it had. Conditions: none. -/
import Derived.Test.YtkflagfkifkjlaaRows
import Derived.Test.YtkflagfkifkjlaaRef
import Derived.WalkKit
import Derived.ProofKit
import Derived.OpenShut
namespace Go.Proofs.Ytkflagfkifkjlaa.modesMore
open Go.ChangeShapes Go.WideShapes Go.ChangeAt Go.RowKit Plain
set_option linter.unusedVariables false      -- a walk need not use every 'w<i>' (that an integer argument fits its kind)

theorem own : ownKnob Try.prog.godebug = none := by kernel_rfl

theorem more_go {c h m a : Nat} (hg : goN c (h ||| m) a = true) : goN c h a = true := by
  unfold goN at *
  rw [Bool.and_eq_true] at *
  refine ⟨hg.1, ?_⟩
  have h1 : (h ||| m) &&& agN c a = 0 := by simpa using hg.2
  rw [Nat.and_or_distrib_right, Nat.or_eq_zero_iff] at h1
  simpa using h1.1
theorem allN_more (c h m : Nat) : ∀ k, allN c h k ||| allN c (h ||| m) k = allN c (h ||| m) k
  | 0 => by simp [allN]
  | k + 1 => by
    have ih := allN_more c h m k
    unfold allN
    rw [Nat.testBit_or]
    cases hh : h.testBit k with
    | true =>
      simp only [if_true, Bool.true_or]
      rw [Nat.or_assoc, Nat.or_comm (agN c k), Nat.or_assoc, Nat.or_self, ← Nat.or_assoc, ih]
    | false =>
      cases hm : m.testBit k with
      | true =>
        simp only [Bool.false_or, if_true]
        rw [if_neg (by simp), ← Nat.or_assoc, ih]
      | false => simpa using ih
theorem more_cov {c h m a : Nat} (hg : covN c h a = true) : covN c (h ||| m) a = true := by
  unfold covN at *
  rw [Bool.and_eq_true] at *
  refine ⟨hg.1, ?_⟩
  have h1 : agN c a &&& (65535 ^^^ allN c h 9) = 0 := by simpa using hg.2
  have h2 := allN_more c h m 9
  have h3 : agN c a &&& (65535 ^^^ allN c (h ||| m) 9) = 0 := by
    apply Nat.eq_of_testBit_eq
    intro i
    have e1 := congrArg (·.testBit i) h1
    have e2 := congrArg (·.testBit i) h2
    have e3 : (allN c (h ||| m) 9).testBit i = true → Nat.testBit 65535 i = true := fun hb => by
      have h5 := Nat.ge_two_pow_of_testBit hb
      have h6 := allN_lt c (h ||| m) 9
      have h7 : i < 9 := (Nat.pow_lt_pow_iff_right (a := 2) (by decide)).1 (Nat.lt_of_le_of_lt h5 h6)
      rw [show (65535 : Nat) = 2 ^ 16 - 1 from rfl, Nat.testBit_two_pow_sub_one]
      simp; omega
    simp only [Nat.testBit_and, Nat.testBit_xor, Nat.testBit_or, Nat.zero_testBit] at e1 e2 ⊢
    generalize (agN c a).testBit i = A at *
    generalize Nat.testBit 65535 i = T at *
    generalize (allN c h 9).testBit i = B at *
    generalize (allN c (h ||| m) 9).testBit i = C at *
    revert e1 e2 e3
    cases A <;> cases T <;> cases B <;> cases C <;> decide
  simpa using h3
theorem with_keeps (h a : Nat) : withN h a &&& h = h := by
  unfold withN
  split
  · apply Nat.eq_of_testBit_eq
    intro i
    simp only [Nat.testBit_and, Nat.testBit_or]
    cases h.testBit i <;> simp
  · exact Nat.and_self h
theorem with_has {h a : Nat} (ha : a < 16) : (withN h a).testBit a = true := by
  unfold withN
  rw [if_pos ha, Nat.testBit_or, Nat.testBit_two_pow_self]; simp
theorem with_twice (h a : Nat) : withN (withN h a) a = withN h a := by
  by_cases ha : a < 16
  · have := with_has (h := h) ha
    rw [show withN (withN h a) a = withN h a ||| 2 ^ a from if_pos ha]
    exact or_bit _ _ this
  · simp [withN, ha]
theorem or16I (h m : Int) (h0 : 0 ≤ h) (h1 : h ≤ 65535) (m0 : 0 ≤ m) (m1 : m ≤ 65535) : bits .or .u16 h m = ((h.toNat ||| m.toNat : Nat) : Int) := by
  obtain ⟨n, rfl⟩ := Int.eq_ofNat_of_zero_le m0
  exact or16 h n h0 h1 (by omega)
theorem and_with (h : Int) (a : Nat) (h0 : 0 ≤ h) (h1 : h ≤ 65535) : (bits .and .u16 (withN h.toNat a : Nat) h == h) = true := by
  obtain ⟨n, rfl⟩ := Int.eq_ofNat_of_zero_le h0
  have hl : withN n a < 65536 := withN_lt a (by omega)
  simp only [Int.toNat_natCast]
  rw [and16 _ n (Int.natCast_nonneg _) (by omega) (by omega), Int.toNat_natCast, with_keeps]
  simp
set_option maxHeartbeats 1000000 in
theorem walk (a0 : Int) (a1 : Int) (a2 : Int) (a3 : Int) (w0 : (Lit.int .u8 a0).wf = true) (w1 : (Lit.int .u16 a1).wf = true) (w2 : (Lit.int .u16 a2).wf = true) (w3 : (Lit.int .u8 a3).wf = true) (w : World) :
    Calls Try.prog 6 #[.int .u8 a0, .int .u16 a1, .int .u16 a2, .int .u8 a3] w fun e w' => e = .returned (.bool true) ∧ Below w.heap.size w w' := by
  obtain ⟨w0a, w0b⟩ := bounds_u8 w0
  obtain ⟨w1a, w1b⟩ := bounds_u16 w1
  obtain ⟨w2a, w2b⟩ := bounds_u16 w2
  obtain ⟨w3a, w3b⟩ := bounds_u8 w3
  have hor := or16I a1 a2 w1a w1b w2a w2b
  have hl : a1.toNat ||| a2.toNat < 65536 := Nat.or_lt_two_pow (n := 16) (by omega) (by omega)
  have hw : withN a1.toNat a3.toNat < 65536 := withN_lt _ (by omega)
  have h1 := and_with a1 a3.toNat w1a w1b
  have h2 := with_twice a1.toNat a3.toNat
  have M1 := Lib.hid (fun h => more_go (c := a0.toNat) (h := a1.toNat) (m := a2.toNat) (a := a3.toNat) h)
  have M2 := Lib.hid (fun h => more_cov (c := a0.toNat) (h := a1.toNat) (m := a2.toNat) (a := a3.toNat) h)
  have HB := Lib.hid (fun h : a3.toNat < 16 => with_has (h := a1.toNat) h)
  have hg : goN a0.toNat (a1.toNat ||| a2.toNat) a3.toNat = false ∨ (goN a0.toNat (a1.toNat ||| a2.toNat) a3.toNat = true ∧ goN a0.toNat a1.toNat a3.toNat = true) := by
    cases h : goN a0.toNat (a1.toNat ||| a2.toNat) a3.toNat with
    | false => exact .inl rfl
    | true => exact .inr ⟨rfl, M1.out h⟩
  have hc : covN a0.toNat a1.toNat a3.toNat = false ∨ (covN a0.toNat a1.toNat a3.toNat = true ∧ covN a0.toNat (a1.toNat ||| a2.toNat) a3.toNat = true) := by
    cases h : covN a0.toNat a1.toNat a3.toNat with
    | false => exact .inl rfl
    | true => exact .inr ⟨rfl, M2.out h⟩
  have hs : 15 < a3 ∨ (a3 ≤ 15 ∧ (bits .and .u16 ((withN a1.toNat a3.toNat : Nat) / 2 ^ a3.toNat) 1 == 1) = true ∧ ∀ yk, Op.shift .shr .u16 ((withN a1.toNat a3.toNat : Nat) : Int) yk a3 = pure (.int .u16 (((withN a1.toNat a3.toNat : Nat) : Int) / 2 ^ a3.toNat))) := by
    by_cases h : 15 < a3
    · exact .inl h
    · refine .inr ⟨by omega, ?_, fun yk => shift_shr_u16 yk _ a3 (by omega) (by omega)⟩
      rw [bit_and _ a3.toNat (Int.natCast_nonneg _) (by omega), Int.toNat_natCast]
      exact HB.out (by omega)
  clear M1 M2 HB
  rcases hg with hg | ⟨hg, hg'⟩ <;> rcases hc with hc | ⟨hc, hc'⟩ <;> rcases hs with hs | ⟨hs, hs', hs''⟩
  all_goals
    go_enter Try.func6, Try.ntmps6
    go_wp2_with (first | (go_at_call 9; refine (works_any _).mono ?_; rintro e w1 ⟨rfl, q1⟩) | (go_at_call 10; refine (go_any _ _ _ _ (by omega) (by omega) w3a).mono ?_; rintro e wg ⟨rfl, q2⟩) | (go_at_call 12; refine (cov_all _ _ _ _ (by omega) (by omega) w3a).mono ?_; rintro e wc ⟨rfl, q3⟩) | (go_at_call 14; refine (with_any _ _ _ (by omega) (by omega) w3a).mono ?_; rintro e w' ⟨rfl, rfl⟩))
    go_ret
    exact ⟨rfl, by repeat (first | assumption | refine bStep ?_ (by assumption))⟩

/-! ### THE ROW's STEP: WRITTEN OUT: LEAVE IT -/
set_option maxRecDepth 100000 in
theorem lifted (os : Os) (started : os.Started) (H : Type) (enc : TypeId × Value → H) :
    ReturnsInHanded {} Try.checked os 6 .any (Rows.modesMoreSpec.pre6 enc Try.prog Try.f6 Rows.modesMoreRow.domain false) (Rows.modesMoreSpec.post enc Try.prog Try.f6 false true false false) := by
  refine returnsInHanded_of_change (C := Try.checked) own started (by kernel_rfl) Try.func6
    (ChangeSpec.witness6 (enc := enc) (C := Try.checked) false ⟨#[], #[.int .u8 0, .int .u16 0, .int .u16 0, .int .u8 0], []⟩ 8 (by kernel_rfl) (by kernel_rfl) (by kernel_rfl) (by kernel_rfl)) ?_
  intro W base args ds gs before hval0 hW hcnd _
  have hval : ∀ (j : Nat) t v, Try.f6.params[j]? = some t → args[j]? = some v → Value.okWide Try.prog W .any base t v := hval0
  have hW' := hW
  obtain ⟨p, q, hA0, hV, rfl, hfz, hnd⟩ := hW
  have hA : DataW.TrodAll enc Try.prog W 0 (fun _ => true) true Try.f6.params.toList args.toList ds p := hA0
  rw [Try.params6] at hA hval
  obtain ⟨v0, vs0, d0, ds0, p0, q0, hargs, rfl, rfl, h0, r0⟩ := trodAll_cons hA
  obtain ⟨v1, vs1, d1, ds1, p1, q1, rfl, rfl, rfl, h1, r1⟩ := trodAll_cons r0
  obtain ⟨v2, vs2, d2, ds2, p2, q2, rfl, rfl, rfl, h2, r2⟩ := trodAll_cons r1
  obtain ⟨v3, vs3, d3, ds3, p3, q3, rfl, rfl, rfl, h3, r3⟩ := trodAll_cons r2
  obtain ⟨rfl, rfl, rfl⟩ := trodAll_nil r3
  obtain rfl : args = #[v0, v1, v2, v3] := by cases args; simp_all
  obtain ⟨rfl, rfl⟩ := trodVars_none hV
  obtain ⟨a0, rfl, rfl, rfl, w0⟩ := open_int Try.underlying5 (hval 0 5 v0 rfl rfl) h0
  obtain ⟨a1, rfl, rfl, rfl, w1⟩ := open_int Try.underlying25 (hval 1 25 v1 rfl rfl) h1
  obtain ⟨a2, rfl, rfl, rfl, w2⟩ := open_int Try.underlying25 (hval 2 25 v2 rfl rfl) h2
  obtain ⟨a3, rfl, rfl, rfl, w3⟩ := open_int Try.underlying5 (hval 3 5 v3 rfl rfl) h3
  clear hA0 hval0
  simp only [List.append_nil] at hW'
  refine (walk a0 a1 a2 a3 w0 w1 w2 w3 W).mono fun e W' ⟨he, hg⟩ => ?_
  subst he
  exact ⟨_, rfl, post_of_below (pa := []) (pv := []) hW' (fun _ _ _ => (trodAll_cons_mk (shut_bool Try.underlying4 _) trodAll_mk0)) (fun sp _ => (trodAll_cons_mk (shut_int Try.underlying5 w0) (trodAll_cons_mk (shut_int Try.underlying25 w1) (trodAll_cons_mk (shut_int Try.underlying25 w2) (trodAll_cons_mk (shut_int Try.underlying5 w3) trodAll_mk0))))) (fun _ _ => rfl) rfl
    hg (ok_one (by kernel_rfl) rfl (okWide_bool_mk Try.underlying4 _))⟩

theorem over : Rows.modesMoreRow.holds Try.pinned (OpenSpec.ofChange Rows.modesMoreSpec) :=
  OpenClaim.holds_of_wide 6 Try.f6 rfl rfl rfl rfl rfl rfl rfl ⟨rfl, rfl, rfl, rfl, rfl⟩ rfl rfl rfl rfl rfl (by kernel_rfl) Try.func6 (by kernel_rfl)
    (of_decide_eq_true (by kernel_rfl)) (by unfold Func.isWrapper; first | (rw [if_pos (by decide +kernel)]; kernel_rfl) | (rw [if_neg (by decide +kernel)]; exact ⟨rfl, rfl⟩))
    (fun os started H enc _ => lifted os started H enc)

end Go.Proofs.Ytkflagfkifkjlaa.modesMore
namespace Go.Proofs.Ytkflagfkifkjlaa
/-- THE STATEMENT. -/
theorem modesMore_holds : Rows.ModesMoreSaid := modesMore.over
#print axioms modesMore_holds
end Go.Proofs.Ytkflagfkifkjlaa
