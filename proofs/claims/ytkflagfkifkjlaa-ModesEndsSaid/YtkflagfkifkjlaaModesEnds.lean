/- The law ModesEnds holds of the program: with nothing held each mode goes and none is covered, the strongest goes with none and covers each, and mode 1 is covered by each set that has a mode. Conditions: none. -/
import Derived.Test.YtkflagfkifkjlaaRows
import Derived.Test.YtkflagfkifkjlaaRef
import Derived.WalkKit
import Derived.ProofKit
import Derived.OpenShut
namespace Go.Proofs.Ytkflagfkifkjlaa.modesEnds
open Go.ChangeShapes Go.WideShapes Go.ChangeAt Go.RowKit Plain
set_option linter.unusedVariables false      -- a walk need not use every 'w<i>' (that an integer argument fits its kind)

theorem own : ownKnob Try.prog.godebug = none := by kernel_rfl

def someN (h : Nat) : Nat → Bool
  | 0 => false
  | k + 1 => someN h k || h.testBit (k + 1)
theorem someN_low (h : Nat) : ∀ k, k ≤ 8 → someN h k = someN (h % 512) k
  | 0, _ => rfl
  | k + 1, hk => by
    unfold someN
    rw [bit_low h (k + 1) (by omega), someN_low h k (by omega)]
def endsOK (c L h m : Nat) : Bool :=
  !mayN c m || (goN c 0 m && !covN c 0 m && !goN c (withN 0 L) m && covN c (withN 0 L) m && (covN c h 1 == someN h L) && (goN c h L == !someN h L))
theorem ends_tab1 : allBelow 512 (fun h => allBelow 9 fun m => endsOK 1 8 h m) = true := by decide +kernel
theorem ends_tab2 : allBelow 512 (fun h => allBelow 9 fun m => endsOK 2 2 h m) = true := by decide +kernel
theorem ends_eq {c L m : Nat} (h : Nat) (hcl : (c = 1 ∧ L = 8) ∨ (c = 2 ∧ L = 2)) (hm : mayN c m = true) :
    goN c 0 m = true ∧ covN c 0 m = false ∧ goN c (withN 0 L) m = false ∧ covN c (withN 0 L) m = true ∧ covN c h 1 = someN h L ∧ goN c h L = !someN h L := by
  have hl := mayN_le hm
  have : endsOK c L (h % 512) m = true := by
    rcases hcl with ⟨rfl, rfl⟩ | ⟨rfl, rfl⟩
    · exact allBelow_at (allBelow_at ends_tab1 (i := h % 512) (by omega)) (i := m) (by omega)
    · exact allBelow_at (allBelow_at ends_tab2 (i := h % 512) (by omega)) (i := m) (by omega)
  rw [endsOK, hm, ← covN_low, ← goN_low, ← someN_low h L (by omega)] at this
  simpa [and_assoc] using this
theorem set_oneI (x : Int) (h0 : 0 ≤ x) (W : World) :
    Calls Try.prog 11 #[.slice (some ⟨W.heap.size, 0, none⟩) 1 1] (W.alloc (.cells #[.int .u8 x] 5)) fun e w' => e = .returned (.int .u16 (withN 0 x.toNat : Nat)) ∧ W.alloc (.cells #[.int .u8 x] 5) = w' := by
  obtain ⟨n, rfl⟩ := Int.eq_ofNat_of_zero_le h0
  exact set_one n W
theorem with0_lt (a : Nat) : withN 0 a < 65536 := withN_lt a (by decide)
theorem set_lit (x : Int) (n : Nat) (hx : x = n) (W : World) :
    Calls Try.prog 11 #[.slice (some ⟨W.heap.size, 0, none⟩) 1 1] (W.alloc (.cells #[.int .u8 x] 5)) fun e w' => e = .returned (.int .u16 (withN 0 n : Nat)) ∧ W.alloc (.cells #[.int .u8 x] 5) = w' := by
  subst hx
  exact set_one n W
/-- With the answer told. -/
theorem go_tell (c h a : Int) (r : Bool) (hr : goN c.toNat h.toNat a.toNat = r) (h0 : 0 ≤ h) (h1 : h ≤ 65535) (a0 : 0 ≤ a) (w : World) :
    Calls Try.prog 10 #[.int .u8 c, .int .u16 h, .int .u8 a] w fun e w' => e = .returned (.bool r) ∧ Below w.heap.size w w' := hr ▸ go_any c h a w h0 h1 a0
theorem cov_tell (c h a : Int) (r : Bool) (hr : covN c.toNat h.toNat a.toNat = r) (h0 : 0 ≤ h) (h1 : h ≤ 65535) (a0 : 0 ≤ a) (w : World) :
    Calls Try.prog 12 #[.int .u8 c, .int .u16 h, .int .u8 a] w fun e w' => e = .returned (.bool r) ∧ Below w.heap.size w w' := hr ▸ cov_all c h a w h0 h1 a0
set_option maxHeartbeats 1000000 in
theorem ends_main (c m h : Int) (L : Nat) (w : World) (c0 : 0 ≤ c) (hcl : (c = 1 ∧ L = 8) ∨ (c = 2 ∧ L = 2)) (m0 : 0 ≤ m) (m255 : m ≤ 255) (h0 : 0 ≤ h) (h1 : h ≤ 65535) (m1 : mayN c.toNat m.toNat = true) :
    Calls Try.prog 8 #[.int .u8 c, .int .u8 m, .int .u16 h] w fun e w' => e = .returned (.bool true) ∧ Below w.heap.size w w' := by
  obtain ⟨f1, f2, f3, f4, f5, f6⟩ := ends_eq (c := c.toNat) (L := L) (m := m.toNat) h.toNat (by omega) m1
  have F1 := Lib.hid f1
  have F2 := Lib.hid f2
  have F3 := Lib.hid f3
  have F4 := Lib.hid f4
  have F5 := Lib.hid f5
  have F6 := Lib.hid f6
  clear f1 f2 f3 f4 f5 f6
  have hl2 := with0_lt L
  rcases hcl with ⟨rfl, rfl⟩ | ⟨rfl, rfl⟩
  · simp only [show Int.toNat 1 = 1 from rfl] at m1
    go_enter Try.func8, Try.ntmps8
    go_wp2_with (first | (go_at_call 9; refine (works_any _).mono ?_; rintro e w1 ⟨rfl, q1⟩) | (go_at_call 13; refine (may_any _ _ _).mono ?_; rintro e w' ⟨rfl, rfl⟩))
    clear m1
    go_loop [8, 9] (fun s i => ∃ k : Nat, k ≤ 8 ∧ i = .int .u8 (k + 1 : Nat) ∧ s = .bool (someN h.toNat k)) (fun _ i => 20 - (intOf i).toNat)
    case atStart => exact ⟨0, by omega, rfl, rfl⟩
    case round =>
      obtain ⟨k, hk, rfl, rfl⟩ := hrel
      by_cases hlt : k < 8
      · have hsh : ∀ yk, Op.shift .shr .u16 h yk ((k : Int) + 1) = pure (.int .u16 (h / 2 ^ (k + 1))) := fun yk => by
          rw [shift_shr_u16 yk h _ (by omega) (by omega)]; rfl
        have hb := bit_and h (k + 1) h0 h1
        cases ht : h.toNat.testBit (k + 1) <;> cases hs : someN h.toNat k
        all_goals
          rw [ht] at hb
          have HT := Lib.hid ht
          have HS := Lib.hid hs
          clear ht
          go_wp2
          go_round
          case rel => exact ⟨k + 1, by omega, by go_num, by rw [someN, HT.out, HS.out]; rfl⟩
          case measure => simp [intOf]; omega
      · obtain rfl : k = 8 := by omega
        go_wp2_with fail
        refine (go_tell 1 0 m true F1.out (by decide) (by decide) m0 _).mono ?_; rintro e w2 ⟨rfl, q2⟩
        replace q2 := bStep q1 q2; clear q1
        go_wp2_with fail
        refine (cov_tell 1 0 m false F2.out (by decide) (by decide) m0 _).mono ?_; rintro e w3 ⟨rfl, q3⟩
        replace q3 := bStep q2 q3; clear q2
        go_wp2_with fail
        refine (set_lit _ 8 rfl _).mono ?_; rintro e w' ⟨rfl, rfl⟩
        go_wp2_with fail
        refine (go_tell 1 (withN 0 8 : Nat) m false F3.out (Int.natCast_nonneg _) (by omega) m0 _).mono ?_; rintro e w4 ⟨rfl, q4⟩
        replace q4 := bStep (bAlloc q3 _) q4; clear q3
        go_wp2_with fail
        refine (set_lit _ 8 rfl _).mono ?_; rintro e w' ⟨rfl, rfl⟩
        go_wp2_with fail
        refine (cov_tell 1 (withN 0 8 : Nat) m true F4.out (Int.natCast_nonneg _) (by omega) m0 _).mono ?_; rintro e w5 ⟨rfl, q5⟩
        replace q5 := bStep (bAlloc q4 _) q5; clear q4
        go_wp2_with fail
        refine (cov_tell 1 h 1 (someN h.toNat 8) F5.out h0 h1 (by decide) _).mono ?_; rintro e w6 ⟨rfl, q6⟩
        replace q6 := bStep q5 q6; clear q5
        go_wp2_with fail
        refine (go_tell 1 h 8 (!someN h.toNat 8) F6.out h0 h1 (by decide) _).mono ?_; rintro e w7 ⟨rfl, q7⟩
        replace q7 := bStep q6 q7; clear q6
        go_wp2_with fail
        go_ret
        exact ⟨ret_bool (by simp), q7⟩
  · simp only [show Int.toNat 2 = 2 from rfl] at m1
    go_enter Try.func8, Try.ntmps8
    go_wp2_with (first | (go_at_call 9; refine (works_any _).mono ?_; rintro e w1 ⟨rfl, q1⟩) | (go_at_call 13; refine (may_any _ _ _).mono ?_; rintro e w' ⟨rfl, rfl⟩))
    clear m1
    go_loop [8, 9] (fun s i => ∃ k : Nat, k ≤ 2 ∧ i = .int .u8 (k + 1 : Nat) ∧ s = .bool (someN h.toNat k)) (fun _ i => 20 - (intOf i).toNat)
    case atStart => exact ⟨0, by omega, rfl, rfl⟩
    case round =>
      obtain ⟨k, hk, rfl, rfl⟩ := hrel
      by_cases hlt : k < 2
      · have hsh : ∀ yk, Op.shift .shr .u16 h yk ((k : Int) + 1) = pure (.int .u16 (h / 2 ^ (k + 1))) := fun yk => by
          rw [shift_shr_u16 yk h _ (by omega) (by omega)]; rfl
        have hb := bit_and h (k + 1) h0 h1
        cases ht : h.toNat.testBit (k + 1) <;> cases hs : someN h.toNat k
        all_goals
          rw [ht] at hb
          have HT := Lib.hid ht
          have HS := Lib.hid hs
          clear ht
          go_wp2
          go_round
          case rel => exact ⟨k + 1, by omega, by go_num, by rw [someN, HT.out, HS.out]; rfl⟩
          case measure => simp [intOf]; omega
      · obtain rfl : k = 2 := by omega
        go_wp2_with fail
        refine (go_tell 2 0 m true F1.out (by decide) (by decide) m0 _).mono ?_; rintro e w2 ⟨rfl, q2⟩
        replace q2 := bStep q1 q2; clear q1
        go_wp2_with fail
        refine (cov_tell 2 0 m false F2.out (by decide) (by decide) m0 _).mono ?_; rintro e w3 ⟨rfl, q3⟩
        replace q3 := bStep q2 q3; clear q2
        go_wp2_with fail
        refine (set_lit _ 2 rfl _).mono ?_; rintro e w' ⟨rfl, rfl⟩
        go_wp2_with fail
        refine (go_tell 2 (withN 0 2 : Nat) m false F3.out (Int.natCast_nonneg _) (by omega) m0 _).mono ?_; rintro e w4 ⟨rfl, q4⟩
        replace q4 := bStep (bAlloc q3 _) q4; clear q3
        go_wp2_with fail
        refine (set_lit _ 2 rfl _).mono ?_; rintro e w' ⟨rfl, rfl⟩
        go_wp2_with fail
        refine (cov_tell 2 (withN 0 2 : Nat) m true F4.out (Int.natCast_nonneg _) (by omega) m0 _).mono ?_; rintro e w5 ⟨rfl, q5⟩
        replace q5 := bStep (bAlloc q4 _) q5; clear q4
        go_wp2_with fail
        refine (cov_tell 2 h 1 (someN h.toNat 2) F5.out h0 h1 (by decide) _).mono ?_; rintro e w6 ⟨rfl, q6⟩
        replace q6 := bStep q5 q6; clear q5
        go_wp2_with fail
        refine (go_tell 2 h 2 (!someN h.toNat 2) F6.out h0 h1 (by decide) _).mono ?_; rintro e w7 ⟨rfl, q7⟩
        replace q7 := bStep q6 q7; clear q6
        go_wp2_with fail
        go_ret
        exact ⟨ret_bool (by simp), q7⟩
set_option maxHeartbeats 400000 in
theorem walk (a0 : Int) (a1 : Int) (a2 : Int) (w0 : (Lit.int .u8 a0).wf = true) (w1 : (Lit.int .u8 a1).wf = true) (w2 : (Lit.int .u16 a2).wf = true) (w : World) :
    Calls Try.prog 8 #[.int .u8 a0, .int .u8 a1, .int .u16 a2] w fun e w' => e = .returned (.bool true) ∧ Below w.heap.size w w' := by
  obtain ⟨w0a, w0b⟩ := bounds_u8 w0
  obtain ⟨w1a, w1b⟩ := bounds_u8 w1
  obtain ⟨w2a, w2b⟩ := bounds_u16 w2
  cases m1 : mayN a0.toNat a1.toNat with
  | false =>
    go_enter Try.func8, Try.ntmps8
    go_wp2_with (first | (go_at_call 9; refine (works_any _).mono ?_; rintro e w1 ⟨rfl, q1⟩) | (go_at_call 13; refine (may_any _ _ _).mono ?_; rintro e w' ⟨rfl, rfl⟩))
    go_ret
    exact ⟨rfl, by first | exact bStep (by assumption) (by assumption) | assumption⟩
  | true =>
    have hl := mayN_le m1
    by_cases h2 : a0 = 2
    · exact ends_main a0 a1 a2 2 w w0a (by omega) w1a w1b w2a w2b m1
    · exact ends_main a0 a1 a2 8 w w0a (by omega) w1a w1b w2a w2b m1

/-! ### THE ROW's STEP: WRITTEN OUT: LEAVE IT -/
set_option maxRecDepth 100000 in
theorem lifted (os : Os) (started : os.Started) (H : Type) (enc : TypeId × Value → H) :
    ReturnsInHanded {} Try.checked os 8 .any (Rows.modesEndsSpec.pre6 enc Try.prog Try.f8 Rows.modesEndsRow.domain false) (Rows.modesEndsSpec.post enc Try.prog Try.f8 false true false false) := by
  refine returnsInHanded_of_change (C := Try.checked) own started (by kernel_rfl) Try.func8
    (ChangeSpec.witness6 (enc := enc) (C := Try.checked) false ⟨#[], #[.int .u8 0, .int .u8 0, .int .u16 0], []⟩ 8 (by kernel_rfl) (by kernel_rfl) (by kernel_rfl) (by kernel_rfl)) ?_
  intro W base args ds gs before hval0 hW hcnd _
  have hval : ∀ (j : Nat) t v, Try.f8.params[j]? = some t → args[j]? = some v → Value.okWide Try.prog W .any base t v := hval0
  have hW' := hW
  obtain ⟨p, q, hA0, hV, rfl, hfz, hnd⟩ := hW
  have hA : DataW.TrodAll enc Try.prog W 0 (fun _ => true) true Try.f8.params.toList args.toList ds p := hA0
  rw [Try.params8] at hA hval
  obtain ⟨v0, vs0, d0, ds0, p0, q0, hargs, rfl, rfl, h0, r0⟩ := trodAll_cons hA
  obtain ⟨v1, vs1, d1, ds1, p1, q1, rfl, rfl, rfl, h1, r1⟩ := trodAll_cons r0
  obtain ⟨v2, vs2, d2, ds2, p2, q2, rfl, rfl, rfl, h2, r2⟩ := trodAll_cons r1
  obtain ⟨rfl, rfl, rfl⟩ := trodAll_nil r2
  obtain rfl : args = #[v0, v1, v2] := by cases args; simp_all
  obtain ⟨rfl, rfl⟩ := trodVars_none hV
  obtain ⟨a0, rfl, rfl, rfl, w0⟩ := open_int Try.underlying5 (hval 0 5 v0 rfl rfl) h0
  obtain ⟨a1, rfl, rfl, rfl, w1⟩ := open_int Try.underlying5 (hval 1 5 v1 rfl rfl) h1
  obtain ⟨a2, rfl, rfl, rfl, w2⟩ := open_int Try.underlying25 (hval 2 25 v2 rfl rfl) h2
  clear hA0 hval0
  simp only [List.append_nil] at hW'
  refine (walk a0 a1 a2 w0 w1 w2 W).mono fun e W' ⟨he, hg⟩ => ?_
  subst he
  exact ⟨_, rfl, post_of_below (pa := []) (pv := []) hW' (fun _ _ _ => (trodAll_cons_mk (shut_bool Try.underlying4 _) trodAll_mk0)) (fun sp _ => (trodAll_cons_mk (shut_int Try.underlying5 w0) (trodAll_cons_mk (shut_int Try.underlying5 w1) (trodAll_cons_mk (shut_int Try.underlying25 w2) trodAll_mk0)))) (fun _ _ => rfl) rfl
    hg (ok_one (by kernel_rfl) rfl (okWide_bool_mk Try.underlying4 _))⟩

theorem over : Rows.modesEndsRow.holds Try.pinned (OpenSpec.ofChange Rows.modesEndsSpec) :=
  OpenClaim.holds_of_wide 8 Try.f8 rfl rfl rfl rfl rfl rfl rfl ⟨rfl, rfl, rfl, rfl, rfl⟩ rfl rfl rfl rfl rfl (by kernel_rfl) Try.func8 (by kernel_rfl)
    (of_decide_eq_true (by kernel_rfl)) (by unfold Func.isWrapper; first | (rw [if_pos (by decide +kernel)]; kernel_rfl) | (rw [if_neg (by decide +kernel)]; exact ⟨rfl, rfl⟩))
    (fun os started H enc _ => lifted os started H enc)

end Go.Proofs.Ytkflagfkifkjlaa.modesEnds
namespace Go.Proofs.Ytkflagfkifkjlaa
/-- THE STATEMENT. -/
theorem modesEnds_holds : Rows.ModesEndsSaid := modesEnds.over
#print axioms modesEnds_holds
end Go.Proofs.Ytkflagfkifkjlaa
