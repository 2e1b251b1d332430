/- What the reference's functions come to, and the row's last step. Conditions: each number fits its kind. -/
import Derived.Test.YtkflagfkifkjlaaWalks
import Derived.WalkKit
import Derived.WalkSpells
import Derived.WalkLawsBesides
import Derived.Lib.Hide
import Derived.Below
import Derived.ChangeSame
import Derived.ProofKit
import Derived.Laws.BitsLemmas
namespace Go.Proofs.Ytkflagfkifkjlaa
open Go.RowKit
open Plain
theorem rgo_step (c h a k : Nat) (hk : k ≤ 8) : refGoFrom c h a (9 - k) k = if mayN c k && (hasN h k && !togN c k a) then false else refGoFrom c h a (9 - (k + 1)) (k + 1) := by
  rw [show 9 - k = (8 - k) + 1 by omega, show 9 - (k + 1) = 8 - k by omega]; rfl
theorem rgo_stop {c h a k : Nat} (hk : k ≤ 8) (h1 : mayN c k = true) (h2 : hasN h k = true) (h3 : (!togN c k a) = true) : refGoFrom c h a (9 - k) k = false := by
  rw [rgo_step c h a k hk]; simp [h1, h2, show togN c k a = false by simpa using h3]
theorem rgo_on1 {c h a k : Nat} (hk : k ≤ 8) (h3 : (!togN c k a) = false) : refGoFrom c h a (9 - k) k = refGoFrom c h a (9 - (k + 1)) (k + 1) := by
  rw [rgo_step c h a k hk]; simp [show togN c k a = true by simpa using h3]
theorem rgo_on2 {c h a k : Nat} (hk : k ≤ 8) (h2 : ¬ hasN h k = true) : refGoFrom c h a (9 - k) k = refGoFrom c h a (9 - (k + 1)) (k + 1) := by
  rw [rgo_step c h a k hk]; simp [show hasN h k = false by simpa using h2]
theorem rgo_on3 {c h a k : Nat} (hk : k ≤ 8) (h2 : ¬ mayN c k = true) : refGoFrom c h a (9 - k) k = refGoFrom c h a (9 - (k + 1)) (k + 1) := by
  rw [rgo_step c h a k hk]; simp [show mayN c k = false by simpa using h2]
set_option maxHeartbeats 400000 in
theorem rgo_any (c h a : Int) (w : World) (h0 : 0 ≤ h) (h1 : h ≤ 65535) (a0 : 0 ≤ a) :
    Calls Try.prog 16 #[.int .u8 c, .int .u16 h, .int .u8 a] w fun e w' => e = .returned (.bool (refGoN c.toNat h.toNat a.toNat)) ∧ w = w' := by
  cases hm : mayN c.toNat a.toNat with
  | false =>
    have hr : refGoN c.toNat h.toNat a.toNat = false := by simp [refGoN, hm]
    rw [hr]
    clear hr
    go_enter Try.func16, Try.ntmps16
    go_wp2_with (go_at_call 15; refine (rmay_any _ _ _).mono ?_; rintro e w' ⟨rfl, rfl⟩)
    go_ret
    exact ⟨rfl, rfl⟩
  | true =>
    have hr : refGoN c.toNat h.toNat a.toNat = refGoFrom c.toNat h.toNat a.toNat 8 1 := by simp [refGoN, hm]
    rw [hr]
    clear hr
    go_enter Try.func16, Try.ntmps16
    go_wp2_with (go_at_call 15; refine (rmay_any _ _ _).mono ?_; rintro e w' ⟨rfl, rfl⟩)
    clear hm
    go_loop [7] (fun i => ∃ k : Nat, 1 ≤ k ∧ k ≤ 9 ∧ i = .int .u8 k ∧ refGoFrom c.toNat h.toNat a.toNat 8 1 = refGoFrom c.toNat h.toNat a.toNat (9 - k) k) (fun i => 9 - (intOf i).toNat)
    case atStart => exact ⟨1, by omega, by omega, rfl, rfl⟩
    case round =>
      obtain ⟨k, hk0, hk, rfl, hr⟩ := hrel
      have HR := Lib.hid hr
      clear hr
      by_cases hlt : k ≤ 8
      · obtain ⟨d, hd⟩ : ∃ d, 9 - k = d + 1 := ⟨8 - k, by omega⟩
        go_wp2_with (first | (go_at_call 15; refine (rmay_any _ _ _).mono ?_; rintro e w' ⟨rfl, rfl⟩) | (go_at_call 20; refine (has_any _ _ _ (by assumption) (by assumption) (by omega)).mono ?_; rintro e w' ⟨rfl, rfl⟩) | (go_at_call 21; refine (tog_any _ _ _ _ (by omega) (by omega)).mono ?_; rintro e w' ⟨rfl, rfl⟩))
        · go_ret
          exact ⟨ret_bool (by rw [HR.out]; exact (rgo_stop hlt (by assumption) (by assumption) (by assumption)).symm), rfl⟩
        · go_round
          case rel => exact ⟨k + 1, by omega, by omega, by go_num, by rw [HR.out]; exact rgo_on1 hlt (by assumption)⟩
          case measure => simp [intOf]; omega
        · go_round
          case rel => exact ⟨k + 1, by omega, by omega, by go_num, by rw [HR.out]; exact rgo_on2 hlt (by assumption)⟩
          case measure => simp [intOf]; omega
        · go_round
          case rel => exact ⟨k + 1, by omega, by omega, by go_num, by rw [HR.out]; exact rgo_on3 hlt (by assumption)⟩
          case measure => simp [intOf]; omega
      · obtain rfl : k = 9 := by omega
        go_wp2
        go_ret
        exact ⟨ret_bool (by rw [HR.out]; rfl), rfl⟩

theorem rcov_step (c h a k : Nat) (hk : k ≤ 8) : refCovFrom c h a (9 - k) k = if mayN c k && (!togN c k a && refGoN c h k) then false else refCovFrom c h a (9 - (k + 1)) (k + 1) := by
  rw [show 9 - k = (8 - k) + 1 by omega, show 9 - (k + 1) = 8 - k by omega]; rfl
theorem rcov_stop {c h a k : Nat} (hk : k ≤ 8) (h1 : mayN c k = true) (h2 : ¬ togN c k a = true) (h3 : refGoN c h k = true) : refCovFrom c h a (9 - k) k = false := by
  rw [rcov_step c h a k hk]; simp [h1, h3, show togN c k a = false by simpa using h2]
theorem rcov_on1 {c h a k : Nat} (hk : k ≤ 8) (h2 : refGoN c h k = false) : refCovFrom c h a (9 - k) k = refCovFrom c h a (9 - (k + 1)) (k + 1) := by
  rw [rcov_step c h a k hk]; simp [h2]
theorem rcov_on2 {c h a k : Nat} (hk : k ≤ 8) (h2 : togN c k a = true) : refCovFrom c h a (9 - k) k = refCovFrom c h a (9 - (k + 1)) (k + 1) := by
  rw [rcov_step c h a k hk]; simp [h2]
theorem rcov_on3 {c h a k : Nat} (hk : k ≤ 8) (h2 : ¬ mayN c k = true) : refCovFrom c h a (9 - k) k = refCovFrom c h a (9 - (k + 1)) (k + 1) := by
  rw [rcov_step c h a k hk]; simp [show mayN c k = false by simpa using h2]
set_option maxHeartbeats 400000 in
theorem rcov_any (c h a : Int) (w : World) (h0 : 0 ≤ h) (h1 : h ≤ 65535) (a0 : 0 ≤ a) :
    Calls Try.prog 17 #[.int .u8 c, .int .u16 h, .int .u8 a] w fun e w' => e = .returned (.bool (refCovN c.toNat h.toNat a.toNat)) ∧ w = w' := by
  cases hm : mayN c.toNat a.toNat with
  | false =>
    have hr : refCovN c.toNat h.toNat a.toNat = false := by simp [refCovN, hm]
    rw [hr]
    clear hr
    go_enter Try.func17, Try.ntmps17
    go_wp2_with (go_at_call 15; refine (rmay_any _ _ _).mono ?_; rintro e w' ⟨rfl, rfl⟩)
    go_ret
    exact ⟨rfl, rfl⟩
  | true =>
    have hr : refCovN c.toNat h.toNat a.toNat = refCovFrom c.toNat h.toNat a.toNat 8 1 := by simp [refCovN, hm]
    rw [hr]
    clear hr
    go_enter Try.func17, Try.ntmps17
    go_wp2_with (go_at_call 15; refine (rmay_any _ _ _).mono ?_; rintro e w' ⟨rfl, rfl⟩)
    clear hm
    go_loop [7] (fun i => ∃ k : Nat, 1 ≤ k ∧ k ≤ 9 ∧ i = .int .u8 k ∧ refCovFrom c.toNat h.toNat a.toNat 8 1 = refCovFrom c.toNat h.toNat a.toNat (9 - k) k) (fun i => 9 - (intOf i).toNat)
    case atStart => exact ⟨1, by omega, by omega, rfl, rfl⟩
    case round =>
      obtain ⟨k, hk0, hk, rfl, hr⟩ := hrel
      have HR := Lib.hid hr
      clear hr
      by_cases hlt : k ≤ 8
      · go_wp2_with (first | (go_at_call 15; refine (rmay_any _ _ _).mono ?_; rintro e w' ⟨rfl, rfl⟩) | (go_at_call 16; refine (rgo_any _ _ _ _ (by assumption) (by assumption) (by omega)).mono ?_; rintro e w' ⟨rfl, rfl⟩) | (go_at_call 21; refine (tog_any _ _ _ _ (by omega) (by omega)).mono ?_; rintro e w' ⟨rfl, rfl⟩))
        · go_round
          case rel => exact ⟨k + 1, by omega, by omega, by go_num, by rw [HR.out]; exact rcov_on2 hlt (by assumption)⟩
          case measure => simp [intOf]; omega
        · go_ret
          exact ⟨ret_bool (by rw [HR.out]; exact (rcov_stop hlt (by assumption) (by assumption) (by assumption)).symm), rfl⟩
        · go_round
          case rel => exact ⟨k + 1, by omega, by omega, by go_num, by rw [HR.out]; exact rcov_on1 hlt (by assumption)⟩
          case measure => simp [intOf]; omega
        · go_round
          case rel => exact ⟨k + 1, by omega, by omega, by go_num, by rw [HR.out]; exact rcov_on3 hlt (by assumption)⟩
          case measure => simp [intOf]; omega
      · obtain rfl : k = 9 := by omega
        go_wp2
        go_ret
        exact ⟨ret_bool (by rw [HR.out]; rfl), rfl⟩
theorem wrapu (n : Nat) (h : n < 65536) : IntKind.u16.wrap (n : Int) = n := wraps_u16 _ (Int.natCast_nonneg _) (by exact_mod_cast h)
theorem twice {k : Nat} (hk : k < 15) : IntKind.u16.wrap (((2 ^ k : Nat) : Int) * 2) = (2 ^ (k + 1) : Nat) := by
  have h1 : 2 ^ (k + 1) < 2 ^ 16 := Nat.pow_lt_pow_right (by decide) (by omega)
  have e : ((2 ^ k : Nat) : Int) * 2 = ((2 ^ (k + 1) : Nat) : Int) := by rw [Nat.pow_succ]; simp
  rw [e]; exact wrapu _ h1
theorem bit_fits {n a : Nat} (hn : n < 65536) (ha : a < 16) (hb : n.testBit a = false) : n + 2 ^ a < 65536 := by
  rw [← add_bit n a hb]; exact Nat.or_lt_two_pow (n := 16) hn (Nat.pow_lt_pow_right (by decide) ha)
set_option maxHeartbeats 400000 in
theorem rwith_any (h a : Int) (w : World) (h0 : 0 ≤ h) (h1 : h ≤ 65535) (a0 : 0 ≤ a) :
    Calls Try.prog 18 #[.int .u16 h, .int .u8 a] w fun e w' => e = .returned (.int .u16 (refWithN h.toNat a.toNat : Nat)) ∧ w = w' := by
  by_cases ha : 15 < a
  · have hr : refWithN h.toNat a.toNat = h.toNat := by unfold refWithN; rw [if_pos (by simp; omega)]
    rw [hr, Int.toNat_of_nonneg h0]
    clear hr
    go_enter Try.func18, Try.ntmps18
    go_wp2_with (first | (go_at_call 20; refine (has_any _ _ _ (by assumption) (by assumption) (by assumption)).mono ?_; rintro e w' ⟨rfl, rfl⟩))
    go_ret
    exact ⟨rfl, rfl⟩
  · cases hh : hasN h.toNat a.toNat with
    | true =>
      have hr : refWithN h.toNat a.toNat = h.toNat := by unfold refWithN; rw [if_pos (by simp [hh])]
      rw [hr, Int.toNat_of_nonneg h0]
      clear hr
      go_enter Try.func18, Try.ntmps18
      go_wp2_with (first | (go_at_call 20; refine (has_any _ _ _ (by assumption) (by assumption) (by assumption)).mono ?_; rintro e w' ⟨rfl, rfl⟩))
      go_ret
      exact ⟨rfl, rfl⟩
    | false =>
      obtain ⟨k', rfl⟩ := Int.eq_ofNat_of_zero_le a0
      obtain ⟨n, rfl⟩ := Int.eq_ofNat_of_zero_le h0
      simp only [Int.toNat_natCast] at hh
      have hr : refWithN (n : Int).toNat (k' : Int).toNat = n + 2 ^ k' := by simp only [Int.toNat_natCast]; unfold refWithN; rw [if_neg (by simp [hh]; omega)]
      have hb : n.testBit k' = false := by
        simp [hasN] at hh; exact hh (by omega)
      have hf := bit_fits (n := n) (a := k') (by omega) (by omega) hb
      have HW := Lib.hid (show IntKind.u16.wrap ((n : Int) + ((2 ^ k' : Nat) : Int)) = ((n + 2 ^ k' : Nat) : Int) by
        rw [← wrapu _ hf]; simp)
      rw [hr]
      clear hr hb hf
      go_enter Try.func18, Try.ntmps18
      go_wp2_with (first | (go_at_call 20; refine (has_any _ _ _ (by assumption) (by assumption) (by assumption)).mono ?_; rintro e w' ⟨rfl, rfl⟩))
      clear hh
      go_loop [5, 6] (fun b i => ∃ k : Nat, k ≤ k' ∧ i = .int .u8 k ∧ b = .int .u16 (2 ^ k : Nat)) (fun _ i => k' - (intOf i).toNat)
      case atStart => exact ⟨0, by omega, rfl, rfl⟩
      case round =>
        obtain ⟨k, hk, rfl, rfl⟩ := hrel
        by_cases hlt : k < k'
        · go_wp2
          go_round
          case rel => exact ⟨k + 1, by omega, by go_num, by rw [← twice (by omega)]; simp⟩
          case measure => simp [intOf]; omega
        · obtain rfl : k = k' := by omega
          go_wp2
          go_ret
          exact ⟨ret_int (by have := HW.out; simpa using this), rfl⟩

/-! ### the same, told by the program's own words -/
theorem rgo_own (c h a : Int) (w : World) (h0 : 0 ≤ h) (h1 : h ≤ 65535) (a0 : 0 ≤ a) :
    Calls Try.prog 16 #[.int .u8 c, .int .u16 h, .int .u8 a] w fun e w' => e = .returned (.bool (goN c.toNat h.toNat a.toNat)) ∧ w = w' := by
  rw [go_eq]; exact rgo_any c h a w h0 h1 a0
theorem rcov_own (c h a : Int) (w : World) (h0 : 0 ≤ h) (h1 : h ≤ 65535) (a0 : 0 ≤ a) :
    Calls Try.prog 17 #[.int .u8 c, .int .u16 h, .int .u8 a] w fun e w' => e = .returned (.bool (covN c.toNat h.toNat a.toNat)) ∧ w = w' := by
  rw [cov_eq]; exact rcov_any c h a w h0 h1 a0
theorem rwith_own (h a : Int) (w : World) (h0 : 0 ≤ h) (h1 : h ≤ 65535) (a0 : 0 ≤ a) :
    Calls Try.prog 18 #[.int .u16 h, .int .u8 a] w fun e w' => e = .returned (.int .u16 (withN h.toNat a.toNat : Nat)) ∧ w = w' := by
  rw [with_eq]; exact rwith_any h a w h0 h1 a0

/-! ### the row's last step, where of the world's end 'Below' is known -/
section
open Go.WideShapes Go.ChangeShapes
variable {H : Type} {enc : TypeId × Value → H} {P : Program}
theorem post_of_below {f : Func} {s : ChangeSpec} {apart fresh handsOn again : Bool} {W W' : World} {args : Array Value} {v : Value} {ds gs : List (DataW H)} {before pa pv : List MemPlace}
    (hW : DataW.Whole enc P f.params.toList s.vars apart W args.toList ds gs before)
    (hres : ∀ (b : Nat) (sp : Nat → Bool) (hd : Bool), DataW.TrodAll enc P W' b sp hd f.resultTypes.toList (v.resultList f.resultTypes.size) (s.fn H (ds ++ gs)).results [])
    (hargs : ∀ sp : Nat → Bool, (∀ p ∈ before, sp p.block = true) → DataW.TrodAll enc P W' 0 sp true f.params.toList args.toList (s.fn H (ds ++ gs)).args pa)
    (hvars : ∀ sp : Nat → Bool, (∀ p ∈ before, sp p.block = true) → DataW.TrodVars enc P W' sp s.vars (s.fn H (ds ++ gs)).vars pv)
    (hps : before = pa ++ pv) (hb : Below W.heap.size W W')
    (hok : ∀ (j : Nat) (t : TypeId) (r : Value), f.resultTypes[j]? = some t → (v.resultList f.resultTypes.size)[j]? = some r → Value.okWide P W' .any 0 t r) :
    s.post enc P f apart fresh handsOn again W args v W' := by
  have hlt : ∀ p ∈ before, p.block < W.heap.size := fun p hp => hW.lt p hp
  have hold : ∀ p ∈ before, (fun b => decide (b < W.heap.size)) p.block = true := fun p hp => by simpa using hlt p hp
  refine ⟨ds, gs, before, [], pa, pv, hW, hres _ _ _, hargs _ hold, hvars _ hold, World.keptBut_mono (fun p hp => ⟨hp, ?_⟩) (hb.frame (· ∈ before)), fun _ => ?_⟩
  · rw [hps, List.mem_append] at hp
    exact Or.inr hp
  · obtain ⟨_, _, _, _, _, hz, hn⟩ := hW
    refine ⟨hok, _, _, ([] ++ pa) ++ pv, ⟨[] ++ pa, pv, trodAll_append (hargs _ (fun _ _ => rfl)) (hres _ _ _), hvars _ (fun _ _ => rfl), rfl, ?_, ?_⟩, ?_⟩
    · intro b off hp
      have hin : MemPlace.cell b off ∈ before := by rw [hps]; simpa using hp
      rw [hb.frozen (hlt _ hin)]
      exact hz b off hin
    · intro ha
      have := hn ha
      rw [hps] at this
      simpa using this
    · intro p hp _
      rw [hps]
      simpa using hp
end
end Go.Proofs.Ytkflagfkifkjlaa
