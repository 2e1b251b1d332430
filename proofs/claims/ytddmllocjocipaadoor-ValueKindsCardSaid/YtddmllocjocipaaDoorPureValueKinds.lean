/- The law ValueKinds, over numbers and texts alone. Conditions: as each theorem states them. -/
import Derived.Test.YtddmllocjocipaaDoorOrd
import Derived.Test.YtddmllocjocipaaDoorDx40
import Derived.Sort.Walk0
namespace Go.Proofs.YtddmllocjocipaaDoor.D
open Go.RowKit Go.Proofs.YtddmllocjocipaaDoorW.PrintWords Go.Proofs.YtddmllocjocipaaDoorW.PrintLast Go.Proofs.YtddmllocjocipaaDoorW.PrintMore
set_option linter.unusedSimpArgs false
set_option linter.unusedVariables false
set_option maxRecDepth 100000 in
theorem works_100k : covenantlaw01_works.f 100 = some true := by kernel_rfl
theorem works_speck : ∀ (k : Nat), 100 ≤ k → covenantlaw01_works.f k = some true := by
  intro k hk
  obtain ⟨d, rfl⟩ : ∃ d, k = 100 + d := ⟨k - 100, by omega⟩
  clear hk
  induction d with
  | zero => exact works_100k
  | succ d ih => exact covenantlaw01_works.mono (100 + d) _ ih
theorem kinds_order (a b : Bool) : covenantlaw01_ValueKinds_1.f a b = some (if a = true then -1 else if b = true then 0 else 1) := by
  unfold covenantlaw01_ValueKinds_1.f
  cases a <;> cases b <;> rfl
theorem cmp_at (k : Nat) (x y : S23) (hk : 5 ≤ k) (a0 a1 a2 : Int) (a3 : ByteArray) (b0 b1 b2 : Int) (b3 : ByteArray) (hx : x = ⟨a0, a1, a2, a3⟩) (hy : y = ⟨b0, b1, b2, b3⟩) : value_Compare.f k a0 a1 a2 a3 b0 b1 b2 b3 = some (cmpV x y) := by
  subst hx hy; exact compare_spec k ⟨a0, a1, a2, a3⟩ ⟨b0, b1, b2, b3⟩ hk
theorem order_num (a b : Int) : (if decide (a < b) = true then (-1 : Int) else if (a == b) = true then 0 else 1) = sgn a b := by
  unfold sgn
  by_cases h : a < b
  · rw [if_pos (decide_eq_true h), if_pos h]
  · rw [if_neg (by simpa using h), if_neg h]
    by_cases e : a = b
    · rw [if_pos (beq_iff_eq.2 e), if_neg (by omega)]
    · rw [if_neg (fun h2 => e (beq_iff_eq.1 h2)), if_pos (by omega)]
theorem order_bytes : ∀ (a b : List UInt8), (if Op.bytesLess a b = true then (-1 : Int) else if (a == b) = true then 0 else 1) = Lib.compareBytes a b
  | [], [] => rfl
  | [], _ :: _ => rfl
  | _ :: _, [] => rfl
  | a :: l, b :: m => by
    rw [Op.bytesLess, Lib.compareBytes]
    by_cases h : a < b
    · rw [if_pos h, if_pos (by simp [h])]
    · rw [if_neg h]
      by_cases h2 : b < a
      · have e : a ≠ b := by
          intro e; subst e; exact h h2
        rw [if_pos h2, if_neg (by simp [h, e]), if_neg (by simp [e])]
      · have e : a = b := by
          have h1' : ¬ a.toNat < b.toNat := fun h3 => h (UInt8.lt_iff_toNat_lt.2 h3)
          have h2' : ¬ b.toNat < a.toNat := fun h3 => h2 (UInt8.lt_iff_toNat_lt.2 h3)
          exact UInt8.toNat_inj.1 (by omega)
        subst e
        rw [if_neg h2, ← order_bytes l m]
        have e1 : (decide (a < a) || (a == a && Op.bytesLess l m)) = Op.bytesLess l m := by
          rw [decide_eq_false h]; simp
        have e2 : ((a :: l) == (a :: m)) = (l == m) := by
          rw [Bool.eq_iff_iff, beq_iff_eq, beq_iff_eq]
          exact ⟨fun h3 => (List.cons.inj h3).2, fun h3 => by rw [h3]⟩
        rw [e1, e2]
theorem sgn_same (a : Int) : sgn a a = 0 := sgn_zero.2 rfl
theorem cmp_num (t n m : Int) : cmpV ⟨t, n, 0, ⟨#[]⟩⟩ ⟨t, m, 0, ⟨#[]⟩⟩ = sgn n m := by
  unfold cmpV
  rw [sgn_same, if_neg (by decide)]
  by_cases h : sgn n m = 0
  · rw [if_neg (by simpa using h), sgn_same, if_neg (by decide), h]; rfl
  · rw [if_pos h]
theorem cmp_span (t n m h : Int) : cmpV ⟨t, n, m, ⟨#[]⟩⟩ ⟨t, n, h, ⟨#[]⟩⟩ = sgn m h := by
  unfold cmpV
  rw [sgn_same, if_neg (by decide), sgn_same, if_neg (by decide)]
  by_cases e : sgn m h = 0
  · rw [if_neg (by simpa using e), e]; rfl
  · rw [if_pos e]
theorem cmp_text (t : Int) (a b : ByteArray) : cmpV ⟨t, 0, 0, a⟩ ⟨t, 0, 0, b⟩ = Lib.compareBytes a.data.toList b.data.toList := by
  unfold cmpV
  rw [sgn_same, sgn_same, if_neg (by decide), if_neg (by decide), if_neg (by decide)]
theorem cmp_null (v : S23) (h : 0 < v.f0) : cmpV ⟨0, 0, 0, ⟨#[]⟩⟩ v = -1 := by
  unfold cmpV
  have e : sgn 0 v.f0 = -1 := by unfold sgn; rw [if_pos h]
  rw [if_pos (show sgn 0 v.f0 ≠ 0 by rw [e]; decide)]; exact e
theorem cmp_null' (v : S23) (h : 0 < v.f0) : cmpV v ⟨0, 0, 0, ⟨#[]⟩⟩ = 1 := by
  rw [cmpV_ord.anti ⟨0, 0, 0, ⟨#[]⟩⟩ v, cmp_null v h]; rfl
theorem rdT_at {xs : List S23} {i : Nat} (h : i < xs.length) : rd_T23 xs (i : Int) = xs[i] := by simp [rd_T23, List.getD, h]
theorem kinds_loop (l : List S23) (hl : l.length < 1000) (hp : ∀ v ∈ l, 0 < v.f0) : ∀ (d k i : Nat), i + d = l.length → d + 10 < k → covenantlaw01_ValueKinds.l0 k l (l.length : Int) (i : Int) = some true
  | 0, k, i, h, hk => by
    obtain ⟨m, rfl⟩ : ∃ m, k = m + 1 := ⟨k - 1, by omega⟩
    simp only [covenantlaw01_ValueKinds.l0]
    rw [if_neg (by omega)]
  | d + 1, k, i, h, hk => by
    obtain ⟨m, rfl⟩ : ∃ m, k = m + 1 := ⟨k - 1, by omega⟩
    have hi : i < l.length := by omega
    have hv := hp _ (List.getElem_mem hi)
    have hw : wrap64 ((i : Int) + 1) = ((i + 1 : Nat) : Int) := by unfold wrap64; omega
    simp only [covenantlaw01_ValueKinds.l0]
    rw [if_pos (by omega), if_pos (by omega), if_pos (by omega), rdT_at hi]
    generalize l[i] = v at hv
    have c1 : value_Compare.f m 0 0 0 ⟨#[]⟩ v.f0 v.f1 v.f2 v.f3 = some (cmpV ⟨0, 0, 0, ⟨#[]⟩⟩ v) := compare_spec m ⟨0, 0, 0, ⟨#[]⟩⟩ v (by omega)
    have c2 : value_Compare.f m v.f0 v.f1 v.f2 v.f3 0 0 0 ⟨#[]⟩ = some (cmpV v ⟨0, 0, 0, ⟨#[]⟩⟩) := compare_spec m v ⟨0, 0, 0, ⟨#[]⟩⟩ (by omega)
    rw [c1, Option.bind_some, cmp_null _ hv, if_pos rfl, c2, Option.bind_some, cmp_null' _ hv, if_pos rfl, hw]
    exact kinds_loop l hl hp d m (i + 1) (by omega) (by omega)
theorem ValueKinds_pure (n m hi : Int) (s t : ByteArray) : covenantlaw01_ValueKinds.f 1000 n m hi s t = some true := by
  have out : covenantlaw01_ValueKinds.j0 1000 n m hi s t true = some true := by
    rw [covenantlaw01_ValueKinds.j0, if_pos rfl, works_speck 999 (by omega)]
    rfl
  have go : covenantlaw01_ValueKinds.j0 1000 n m hi s t false = some true := by
    rw [covenantlaw01_ValueKinds.j0, if_neg (by decide), cmp_at 999 ⟨1, n, 0, ⟨#[]⟩⟩ ⟨1, m, 0, ⟨#[]⟩⟩ (by omega) _ _ _ _ _ _ _ _ rfl rfl, Option.bind_some, kinds_order, Option.bind_some, order_num, cmp_num, if_pos rfl]
    rw [cmp_at 999 ⟨3, 0, 0, s⟩ ⟨3, 0, 0, t⟩ (by omega) _ _ _ _ _ _ _ _ rfl rfl, Option.bind_some, kinds_order, Option.bind_some, order_bytes, cmp_text, tl_eq, tl_eq]
    rw [show (Lib.compareBytes s.data.toList t.data.toList != Lib.compareBytes s.data.toList t.data.toList) = false by simp]
    rw [covenantlaw01_ValueKinds.j1, if_neg (by decide), cmp_at 998 ⟨4, n, m, ⟨#[]⟩⟩ ⟨4, n, hi, ⟨#[]⟩⟩ (by omega) _ _ _ _ _ _ _ _ rfl rfl, Option.bind_some, kinds_order, Option.bind_some, order_num, cmp_span, if_pos rfl]
    rw [cmp_at 998 ⟨2, 0, 0, ⟨#[]⟩⟩ ⟨2, 1, 0, ⟨#[]⟩⟩ (by omega) _ _ _ _ _ _ _ _ rfl rfl, Option.bind_some, cmp_num, show (sgn 0 1 != -1) = false by decide]
    rw [covenantlaw01_ValueKinds.j2, if_neg (by decide), Option.bind_some]
    exact kinds_loop _ (by simp) (by
      intro v hv
      simp only [List.mem_cons, List.not_mem_nil, or_false] at hv
      rcases hv with rfl | rfl | rfl | rfl <;> simp) 4 997 0 rfl (by omega)
  unfold covenantlaw01_ValueKinds.f
  rw [works_speck 1000 (by omega), Option.bind_some, if_pos rfl]
  cases decide (wrap64 ((s.size : Int) + (t.size : Int)) > 10000) with
  | true => exact out
  | false => exact go
end Go.Proofs.YtddmllocjocipaaDoor.D
