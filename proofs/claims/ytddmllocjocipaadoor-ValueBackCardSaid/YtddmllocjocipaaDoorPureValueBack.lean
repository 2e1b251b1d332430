/- The law ValueBack, over the value's parts and the text alone. Conditions: as each theorem states them. -/
import Derived.Test.YtddmllocjocipaaDoorBack
import Derived.Test.YtddmllocjocipaaDoorDx13
namespace Go.Proofs.YtddmllocjocipaaDoor.D
open Go.RowKit Go.Proofs.YtddmllocjocipaaDoorW.PrintWords Go.Proofs.YtddmllocjocipaaDoorW.PrintLast Go.Proofs.YtddmllocjocipaaDoorW.PrintMore
set_option linter.unusedSimpArgs false
set_option maxRecDepth 100000 in
theorem works_100b : covenantlaw01_works.f 100 = some true := by kernel_rfl
theorem works_specb : ∀ (k : Nat), 100 ≤ k → covenantlaw01_works.f k = some true := by
  intro k hk
  obtain ⟨d, rfl⟩ : ∃ d, k = 100 + d := ⟨k - 100, by omega⟩
  clear hk
  induction d with
  | zero => exact works_100b
  | succ d ih => exact covenantlaw01_works.mono (100 + d) _ ih
theorem fit_range {x : S23} (h : FitV x) : -9223372036854775808 ≤ x.f1 ∧ x.f1 ≤ 9223372036854775807 := by simpa [Lit.wf, IntKind.min, IntKind.max, IntKind.signed, IntKind.bits] using h.2.1
theorem parse_tail (k : Nat) (s : ByteArray) (hk : 1 ≤ k) (hs : s.size ≤ 1000000000) :
    ((value_Parse.f k s).bind fun bt264 => (if bt264.2.2.2.2 = 0 then ((value_May.f bt264.1 bt264.2.1 bt264.2.2.1 bt264.2.2.2.1).bind fun t270 => (if t270 = true then ((value_Text.f k bt264.1 bt264.2.1 bt264.2.2.1 bt264.2.2.2.1).bind fun t271 => (some (t271.toList == s.toList))) else (some false))) else (if (bt264.1 == 0 && (bt264.2.1 == 0 && (bt264.2.2.1 == 0 && (bt264.2.2.2.1.toList == ([] : List UInt8))))) = true then (some true) else (some false)))) = some true := by
  rw [parse_spec k s hk hs]
  by_cases h : isText s.data.toList = true
  · have hf := read_fit s.data.toList (by rw [show s.data.toList.length = s.size by simp]; exact hs)
    have hr := fit_range hf
    obtain ⟨hm, ht⟩ := isText_may h
    rw [if_pos h, Option.bind_some]
    simp only
    rw [if_pos trivial, may_spec _ _ _ _ hr.1 hr.2, Option.bind_some, if_pos (decide_eq_true hm), text_spec k _ hf hk, Option.bind_some, ht, tl_eq]
    simp
  · rw [if_neg h, Option.bind_some]
    simp only
    rw [if_neg (show ¬ (4 : Int) = 0 by decide), if_pos (by rw [tl_eq]; decide)]
theorem ValueBack_pure (x : S23) (s : ByteArray) (hx : FitV x) : covenantlaw01_ValueBack.f 1000 x.f0 x.f1 x.f2 x.f3 s = some true := by
  have b := fit_range hx
  have out : covenantlaw01_ValueBack.j0 1000 s true x.f0 x.f1 x.f2 x.f3 = some true := by
    simp only [covenantlaw01_ValueBack.j0]
    rw [if_pos trivial, works_specb 999 (by omega)]
    rfl
  unfold covenantlaw01_ValueBack.f
  rw [works_specb 1000 (by omega), Option.bind_some, if_pos rfl]
  split
  · exact out
  · by_cases hs : (s.size : Int) > 5000
    · rw [decide_eq_true hs]; exact out
    · rw [decide_eq_false hs]
      have hsz : s.size ≤ 1000000000 := by omega
      simp only [covenantlaw01_ValueBack.j0]
      rw [if_neg (by decide), text_spec 999 x hx (by omega), may_spec _ _ _ _ b.1 b.2, Option.bind_some, Option.bind_some, tl_eq]
      by_cases hm : MayV x.f0 x.f1 x.f2 x.f3
      · have hne := textV_ne hm
        rw [decide_eq_true hm, if_neg (by simpa using hne), Option.bind_some, if_pos rfl]
        have hlen : (textV x).length ≤ 1000000000 := by
          rcases may_cases hm with ⟨h2, e⟩ | ⟨n, h2, e⟩ | ⟨h2, e⟩ | ⟨h2, e⟩ | ⟨t, h2, e⟩ | ⟨n, m, h2, e⟩
          · rw [e]; decide
          · have := itoa_len n (by have := b.1; rw [h2] at this; exact this) (by have := b.2; rw [h2] at this; exact this)
            rw [e]; omega
          · rw [e]; decide
          · rw [e]; decide
          · have h3 := dbl_len t.data.toList
            have h4 : t.size ≤ 256 := by
              rw [h2] at hm
              rcases hm with h | h | h | h | h <;> simp at h <;> omega
            rw [show t.data.toList.length = t.size by simp] at h3
            rw [e]; simp; omega
          · have b2 : -9223372036854775808 ≤ x.f2 ∧ x.f2 ≤ 9223372036854775807 := by simpa [Lit.wf, IntKind.min, IntKind.max, IntKind.signed, IntKind.bits] using hx.2.2.1
            have h3 := itoa_len n (by have := b.1; rw [h2] at this; exact this) (by have := b.2; rw [h2] at this; exact this)
            have h4 := itoa_len m (by have := b2.1; rw [h2] at this; exact this) (by have := b2.2; rw [h2] at this; exact this)
            rw [e]; simp; omega
        rw [parse_spec 999 _ (by omega) (by rw [mk_size]; exact hlen), Option.bind_some]
        rw [if_pos (isText_text hx hm)]
        simp only
        rw [if_pos trivial, read_text hx hm]
        simp only [covenantlaw01_ValueBack.j1]
        rw [if_neg (by simp)]
        exact parse_tail 998 s (by omega) hsz
      · rw [decide_eq_false hm, textV_none hm, if_neg (by simp), Option.bind_some, if_neg (by decide)]
        exact parse_tail 999 s (by omega) hsz
end Go.Proofs.YtddmllocjocipaaDoor.D
