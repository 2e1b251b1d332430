/- The law ModesBoth holds of the program: a mode goes with another one if that one goes with it, and with a set just if it goes with each of it. Conditions: none. -/
import Derived.Test.YtkflagfkifkjlaaRows
import Derived.Test.YtkflagfkifkjlaaRef
import Derived.WalkKit
import Derived.ProofKit
import Derived.OpenShut
namespace Go.Proofs.Ytkflagfkifkjlaa.modesBoth
open Go.ChangeShapes Go.WideShapes Go.ChangeAt Go.RowKit Plain
set_option linter.unusedVariables false      -- a walk need not use every 'w<i>' (that an integer argument fits its kind)

theorem own : ownKnob Try.prog.godebug = none := by kernel_rfl

def allG (c h a : Nat) : Nat → Bool
  | 0 => true
  | k + 1 => if h.testBit k && mayN c k then allG c h a k && goN c (withN 0 k) a else allG c h a k
theorem allG_low (c h a : Nat) : ∀ k, k ≤ 9 → allG c h a k = allG c (h % 512) a k
  | 0, _ => rfl
  | k + 1, hk => by
    unfold allG
    rw [bit_low h k (by omega), allG_low c h a k (by omega)]
theorem allG_top (c h a : Nat) : ∀ d, allG c h a (9 + d) = allG c h a 9
  | 0 => rfl
  | d + 1 => by
    show allG c h a ((9 + d) + 1) = _
    rw [allG]
    have hm : mayN c (9 + d) = false := by simp [mayN]; omega
    rw [hm, Bool.and_false, if_neg (by simp)]
    exact allG_top c h a d
theorem allG_tab : allBelow 2 (fun c => allBelow 512 fun h => allBelow 9 fun a => !mayN (c + 1) a || goN (c + 1) h a == allG (c + 1) h a 9) = true := by decide +kernel
theorem sym_tab : allBelow 2 (fun c => allBelow 9 fun a => allBelow 9 fun b => !mayN (c + 1) a || !mayN (c + 1) b || goN (c + 1) (withN 0 a) b == goN (c + 1) (withN 0 b) a) = true := by decide +kernel
theorem allG_eq {c a : Nat} (h : Nat) (hm : mayN c a = true) : goN c h a = allG c h a 16 := by
  rw [show 16 = 9 + 7 from rfl, allG_top, goN_low, allG_low c h a 9 (by omega)]
  have hl := mayN_le hm
  have := allBelow_at (allBelow_at (allBelow_at allG_tab (i := c - 1) (by omega)) (i := h % 512) (by omega)) (i := a) (by omega)
  rw [show c - 1 + 1 = c by omega, hm] at this
  simpa using this
theorem sym_eq {c a b : Nat} (hm : mayN c a = true) (hn : mayN c b = true) : goN c (withN 0 a) b = goN c (withN 0 b) a := by
  have hl := mayN_le hm
  have hk := mayN_le hn
  have := allBelow_at (allBelow_at (allBelow_at sym_tab (i := c - 1) (by omega)) (i := a) (by omega)) (i := b) (by omega)
  rw [show c - 1 + 1 = c by omega, hm, hn] at this
  simpa using this
theorem set_oneI (x : Int) (h0 : 0 ≤ x) (W : World) :
    Calls Try.prog 11 #[.slice (some ⟨W.heap.size, 0, none⟩) 1 1] (W.alloc (.cells #[.int .u8 x] 5)) fun e w' => e = .returned (.int .u16 (withN 0 x.toNat : Nat)) ∧ W.alloc (.cells #[.int .u8 x] 5) = w' := by
  obtain ⟨n, rfl⟩ := Int.eq_ofNat_of_zero_le h0
  exact set_one n W
theorem with0_lt (a : Nat) : withN 0 a < 65536 := withN_lt a (by decide)
set_option maxHeartbeats 1000000 in
theorem both_main (a0 a1 a2 a3 : Int) (w : World) (w0a : 0 ≤ a0) (w1a : 0 ≤ a1) (w1b : a1 ≤ 255) (w2a : 0 ≤ a2) (w2b : a2 ≤ 255) (w3a : 0 ≤ a3) (w3b : a3 ≤ 65535) (m1 : mayN a0.toNat a1.toNat = true) (m2 : mayN a0.toNat a2.toNat = true) :
    Calls Try.prog 5 #[.int .u8 a0, .int .u8 a1, .int .u8 a2, .int .u16 a3] w fun e w' => e = .returned (.bool true) ∧ Below w.heap.size w w' := by
  have hs := Lib.hid (sym_eq m1 m2)
  have ha := Lib.hid (allG_eq a3.toNat m1)
  go_enter Try.func5, Try.ntmps5
  go_wp2_with (first | (go_at_call 9; refine (works_any _).mono ?_; rintro e w1 ⟨rfl, q1⟩) | (go_at_call 13; refine (may_any _ _ _).mono ?_; rintro e w' ⟨rfl, rfl⟩))
  refine (set_oneI a1 w1a w1).mono ?_; rintro e w' ⟨rfl, rfl⟩
  go_wp2_with fail
  refine (go_any _ _ _ _ (Int.natCast_nonneg _) (by have := with0_lt a1.toNat; omega) w2a).mono ?_; rintro e w2 ⟨rfl, q2⟩
  replace q2 := bStep (bAlloc q1 _) q2; clear q1
  go_wp2_with fail
  refine (set_oneI a2 w2a w2).mono ?_; rintro e w' ⟨rfl, rfl⟩
  go_wp2_with fail
  refine (go_any _ _ _ _ (Int.natCast_nonneg _) (by have := with0_lt a2.toNat; omega) w1a).mono ?_; rintro e w3 ⟨rfl, q3⟩
  replace q3 := bStep (bAlloc q2 _) q3; clear q2
  have hs' := hs.out
  simp only [Int.toNat_natCast]
  rw [hs']
  clear hs'
  go_wp2_with fail
  go_loopw [9, 10] (fun al m wr => ∃ k : Nat, k ≤ 16 ∧ m = .int .u8 k ∧ al = .bool (allG a0.toNat a3.toNat a1.toNat k) ∧ Below w.heap.size w wr) (fun _ m _ => 16 - (intOf m).toNat)
  case atStart => exact ⟨0, by omega, rfl, rfl, q3⟩
  case round =>
    obtain ⟨k, hk, rfl, rfl, q4⟩ := hrel
    clear q3
    by_cases hlt : k < 16
    · have hsh : ∀ yk, Op.shift .shr .u16 a3 yk (k : Int) = pure (.int .u16 (a3 / 2 ^ k)) := fun yk => by
        rw [shift_shr_u16 yk a3 k (by omega) (by omega)]; rfl
      cases hb : a3.toNat.testBit k with
      | false =>
        have ht : (bits .and .u16 (a3 / 2 ^ k) 1 == 1) = false := by rw [bit_and a3 k w3a w3b, hb]
        have HB := Lib.hid hb
        clear hb
        go_wp2
        go_roundw
        case rel => exact ⟨k + 1, by omega, by go_num, by rw [allG, HB.out]; simp, q4⟩
        case measure => simp [intOf]; omega
      | true =>
        have ht : (bits .and .u16 (a3 / 2 ^ k) 1 == 1) = true := by rw [bit_and a3 k w3a w3b, hb]
        have HB := Lib.hid hb
        clear hb
        cases hm : mayN a0.toNat k with
        | false =>
          go_wp2_with (go_at_call 13; refine (may_any _ _ _).mono ?_; rintro e w' ⟨rfl, rfl⟩)
          go_roundw
          case rel => exact ⟨k + 1, by omega, by go_num, by rw [allG, HB.out, hm]; simp, q4⟩
          case measure => simp [intOf]; omega
        | true =>
          have HM := Lib.hid hm
          cases hg : allG a0.toNat a3.toNat a1.toNat k with
          | false =>
            go_wp2_with (go_at_call 13; refine (may_any _ _ _).mono ?_; rintro e w' ⟨rfl, rfl⟩)
            go_roundw
            case rel => exact ⟨k + 1, by omega, by go_num, by rw [allG, HB.out, HM.out, hg]; rfl, q4⟩
            case measure => simp [intOf]; omega
          | true =>
            go_wp2_with (go_at_call 13; refine (may_any _ _ _).mono ?_; rintro e w' ⟨rfl, rfl⟩)
            refine (set_oneI k (Int.natCast_nonneg _) wr).mono ?_; rintro e w' ⟨rfl, rfl⟩
            go_wp2_with fail
            refine (go_any _ _ _ _ (Int.natCast_nonneg _) (by have := with0_lt k; omega) w1a).mono ?_; rintro e w6 ⟨rfl, q6⟩
            replace q6 := bStep (bAlloc q4 _) q6
            go_wp2_with fail
            go_roundw
            case rel => exact ⟨k + 1, by omega, by go_num, by rw [allG, HB.out, HM.out, hg]; simp, q6⟩
            case measure => simp [intOf]; omega
    · obtain rfl : k = 16 := by omega
      go_wp2_with (go_at_call 10; refine (go_any _ _ _ _ w3a w3b w1a).mono ?_; rintro e w5 ⟨rfl, q5⟩)
      go_ret
      exact ⟨ret_bool (by rw [ha.out]; simp), bStep q4 q5⟩
set_option maxHeartbeats 400000 in
theorem walk (a0 : Int) (a1 : Int) (a2 : Int) (a3 : Int) (w0 : (Lit.int .u8 a0).wf = true) (w1 : (Lit.int .u8 a1).wf = true) (w2 : (Lit.int .u8 a2).wf = true) (w3 : (Lit.int .u16 a3).wf = true) (w : World) :
    Calls Try.prog 5 #[.int .u8 a0, .int .u8 a1, .int .u8 a2, .int .u16 a3] w fun e w' => e = .returned (.bool true) ∧ Below w.heap.size w w' := by
  obtain ⟨w0a, w0b⟩ := bounds_u8 w0
  obtain ⟨w1a, w1b⟩ := bounds_u8 w1
  obtain ⟨w2a, w2b⟩ := bounds_u8 w2
  obtain ⟨w3a, w3b⟩ := bounds_u16 w3
  cases m1 : mayN a0.toNat a1.toNat with
  | false =>
    go_enter Try.func5, Try.ntmps5
    go_wp2_with (first | (go_at_call 9; refine (works_any _).mono ?_; rintro e w1 ⟨rfl, q1⟩) | (go_at_call 13; refine (may_any _ _ _).mono ?_; rintro e w' ⟨rfl, rfl⟩))
    go_ret
    exact ⟨rfl, by first | exact bStep (by assumption) (by assumption) | assumption⟩
  | true =>
    cases m2 : mayN a0.toNat a2.toNat with
    | false =>
      go_enter Try.func5, Try.ntmps5
      go_wp2_with (first | (go_at_call 9; refine (works_any _).mono ?_; rintro e w1 ⟨rfl, q1⟩) | (go_at_call 13; refine (may_any _ _ _).mono ?_; rintro e w' ⟨rfl, rfl⟩))
      go_ret
      exact ⟨rfl, by first | exact bStep (by assumption) (by assumption) | assumption⟩
    | true => exact both_main a0 a1 a2 a3 w w0a w1a w1b w2a w2b w3a w3b m1 m2

/-! ### THE ROW's STEP: WRITTEN OUT: LEAVE IT -/
set_option maxRecDepth 100000 in
theorem lifted (os : Os) (started : os.Started) (H : Type) (enc : TypeId × Value → H) :
    ReturnsInHanded {} Try.checked os 5 .any (Rows.modesBothSpec.pre6 enc Try.prog Try.f5 Rows.modesBothRow.domain false) (Rows.modesBothSpec.post enc Try.prog Try.f5 false true false false) := by
  refine returnsInHanded_of_change (C := Try.checked) own started (by kernel_rfl) Try.func5
    (ChangeSpec.witness6 (enc := enc) (C := Try.checked) false ⟨#[], #[.int .u8 0, .int .u8 0, .int .u8 0, .int .u16 0], []⟩ 8 (by kernel_rfl) (by kernel_rfl) (by kernel_rfl) (by kernel_rfl)) ?_
  intro W base args ds gs before hval0 hW hcnd _
  have hval : ∀ (j : Nat) t v, Try.f5.params[j]? = some t → args[j]? = some v → Value.okWide Try.prog W .any base t v := hval0
  have hW' := hW
  obtain ⟨p, q, hA0, hV, rfl, hfz, hnd⟩ := hW
  have hA : DataW.TrodAll enc Try.prog W 0 (fun _ => true) true Try.f5.params.toList args.toList ds p := hA0
  rw [Try.params5] at hA hval
  obtain ⟨v0, vs0, d0, ds0, p0, q0, hargs, rfl, rfl, h0, r0⟩ := trodAll_cons hA
  obtain ⟨v1, vs1, d1, ds1, p1, q1, rfl, rfl, rfl, h1, r1⟩ := trodAll_cons r0
  obtain ⟨v2, vs2, d2, ds2, p2, q2, rfl, rfl, rfl, h2, r2⟩ := trodAll_cons r1
  obtain ⟨v3, vs3, d3, ds3, p3, q3, rfl, rfl, rfl, h3, r3⟩ := trodAll_cons r2
  obtain ⟨rfl, rfl, rfl⟩ := trodAll_nil r3
  obtain rfl : args = #[v0, v1, v2, v3] := by cases args; simp_all
  obtain ⟨rfl, rfl⟩ := trodVars_none hV
  obtain ⟨a0, rfl, rfl, rfl, w0⟩ := open_int Try.underlying5 (hval 0 5 v0 rfl rfl) h0
  obtain ⟨a1, rfl, rfl, rfl, w1⟩ := open_int Try.underlying5 (hval 1 5 v1 rfl rfl) h1
  obtain ⟨a2, rfl, rfl, rfl, w2⟩ := open_int Try.underlying5 (hval 2 5 v2 rfl rfl) h2
  obtain ⟨a3, rfl, rfl, rfl, w3⟩ := open_int Try.underlying25 (hval 3 25 v3 rfl rfl) h3
  clear hA0 hval0
  simp only [List.append_nil] at hW'
  refine (walk a0 a1 a2 a3 w0 w1 w2 w3 W).mono fun e W' ⟨he, hg⟩ => ?_
  subst he
  exact ⟨_, rfl, post_of_below (pa := []) (pv := []) hW' (fun _ _ _ => (trodAll_cons_mk (shut_bool Try.underlying4 _) trodAll_mk0)) (fun sp _ => (trodAll_cons_mk (shut_int Try.underlying5 w0) (trodAll_cons_mk (shut_int Try.underlying5 w1) (trodAll_cons_mk (shut_int Try.underlying5 w2) (trodAll_cons_mk (shut_int Try.underlying25 w3) trodAll_mk0))))) (fun _ _ => rfl) rfl
    hg (ok_one (by kernel_rfl) rfl (okWide_bool_mk Try.underlying4 _))⟩

theorem over : Rows.modesBothRow.holds Try.pinned (OpenSpec.ofChange Rows.modesBothSpec) :=
  OpenClaim.holds_of_wide 5 Try.f5 rfl rfl rfl rfl rfl rfl rfl ⟨rfl, rfl, rfl, rfl, rfl⟩ rfl rfl rfl rfl rfl (by kernel_rfl) Try.func5 (by kernel_rfl)
    (of_decide_eq_true (by kernel_rfl)) (by unfold Func.isWrapper; first | (rw [if_pos (by decide +kernel)]; kernel_rfl) | (rw [if_neg (by decide +kernel)]; exact ⟨rfl, rfl⟩))
    (fun os started H enc _ => lifted os started H enc)

end Go.Proofs.Ytkflagfkifkjlaa.modesBoth
namespace Go.Proofs.Ytkflagfkifkjlaa
/-- THE STATEMENT. -/
theorem modesBoth_holds : Rows.ModesBothSaid := modesBoth.over
#print axioms modesBoth_holds
end Go.Proofs.Ytkflagfkifkjlaa
