/- clear(s[i:]) of a row of grants that the call itself made: the first i elements stay. Conditions: as each theorem states them. -/
import Derived.Test.YteklimdjlihloaaAut
import Derived.Test.YteklimdjlihloaaGx0
import Derived.Test.YteklimdjlihloaaGx1
import Derived.Lib.SliceRun
namespace Go.Proofs.Yteklimdjlihloaa.G
open Go.RowKit Go.Proofs.YteklimdjlihloaaW.PrintWords Go.Proofs.YteklimdjlihloaaW.PrintLast Go.Proofs.YteklimdjlihloaaW.PrintMore
theorem R_cut {α : Type} {d : Kd α} {e g n cap base : Nat} {ok : Nat → Prop} {W : World} {xs : List α} (h : Kd.R d e W base ok (.slice (some ⟨g, 0, none⟩) n cap) xs) (m : Nat) (hm : m ≤ xs.length) (seg : List Value) (hs : m * d.sz + seg.length ≤ n * d.sz) :
    Kd.R d e (W.setCells g (m * d.sz) seg) base ok (.slice (some ⟨g, 0, none⟩) m cap) (xs.take m) ∧ W.grownBy (W.setCells g (m * d.sz) seg) (some g) := by
  obtain ⟨hn, hnc, _⟩ := Kd.R_reads' h
  obtain ⟨hok, inner, ho, hr⟩ := h
  obtain ⟨ho1, ho2⟩ := ho
  rcases ho2 with ⟨hv, _⟩ | ⟨g', cap', cur, hv, hb, hh, hnc', hcm, hcs, ht⟩
  · cases hv
  injection hv with ha _ hc
  injection ha with ha
  injection ha with hg
  subst hg; subst hc
  have hle : m * d.sz ≤ n * d.sz := Nat.mul_le_mul_right _ (by omega)
  have hfit : m * d.sz + seg.length ≤ cur.size := by
    have : n * d.sz ≤ cap * d.sz := Nat.mul_le_mul_right _ hnc
    omega
  obtain ⟨cur', h3, h4, h5⟩ := setCells_row seg (m * d.sz) W cur hh hfit
  obtain ⟨s1, s2, s3, s4⟩ := setCells_same g seg (m * d.sz) W
  have hfar : ∀ k, k ≠ g → (W.setCells g (m * d.sz) seg).heap[k]? = W.heap[k]? := fun k hk => setCells_far seg _ k hk
  have hlt : (xs.take m).length = m := by rw [List.length_take]; omega
  refine ⟨⟨fun k hk => hok k (by simpa [Value.ownBlock] using hk), inner.take (m * d.sz), ⟨?_, .inr ⟨g, cap, cur', by rw [hlt], hb, h3, by rw [hlt]; omega, hcm, by rw [h4, hcs], ?_⟩⟩, ?_⟩, ⟨s1, s2, s3, by rw [s4]; exact Nat.le_refl _, fun k _ hk => hfar k (fun he => hk (by rw [he]))⟩⟩
  · rw [List.length_take, ho1, hlt, ← hn]
    omega
  · rw [hlt, h5, ← ht, List.take_take, ← hn, Nat.min_eq_left hle, List.append_assoc, List.take_append_of_le_length (by rw [List.length_take, Array.length_toList]; omega), List.take_take, Nat.min_self]
  · have hr2 := Kd.reps_take hr hm
    refine hr2.imp_ fun p c hp => ?_
    have hgo : some g = (Value.slice (some ⟨g, 0, none⟩) n cap).ownBlock := by simp [Value.ownBlock]
    refine d.M_mono (fun k hk => ?_) (d.M_move (w1 := W.setCells g (m * d.sz) seg) (fun k hk => hfar k (fun he => hk.2 (by rw [he]; exact hgo))) hp)
    exact ⟨hk.1, fun he => hk.2 (by simpa [Value.ownBlock] using he)⟩
/-- The zero grant's cells, n times over. -/
theorem zeros43 (n : Nat) : (Builtin.zeroCells (Value.cells (.agg #[(.string ⟨#[]⟩), (.string ⟨#[]⟩), (.string ⟨#[]⟩), (.int .u8 0), (.bool false)])) n).toList.length = n * 5 ∧ ∀ v ∈ (Builtin.zeroCells (Value.cells (.agg #[(.string ⟨#[]⟩), (.string ⟨#[]⟩), (.string ⟨#[]⟩), (.int .u8 0), (.bool false)])) n).toList, v.oneCell' = true := by
  have hz : Value.cells (.agg #[(.string ⟨#[]⟩), (.string ⟨#[]⟩), (.string ⟨#[]⟩), (.int .u8 0), (.bool false)]) = #[(.string ⟨#[]⟩), (.string ⟨#[]⟩), (.string ⟨#[]⟩), (.int .u8 0), (.bool false)] := by rfl
  rw [hz]
  constructor
  · simp [Builtin.zeroCells]
  · intro v hv
    simp only [Builtin.zeroCells, Array.toList_map, List.mem_map] at hv
    obtain ⟨i, _, rfl⟩ := hv
    have h5 : i % 5 < 5 := Nat.mod_lt _ (by decide)
    show (#[(.string ⟨#[]⟩), (.string ⟨#[]⟩), (.string ⟨#[]⟩), (.int .u8 0), (.bool false)] : Array Value)[i % 5]!.oneCell' = true
    generalize i % 5 = q at h5
    match q, h5 with
    | 0, _ => rfl
    | 1, _ => rfl
    | 2, _ => rfl
    | 3, _ => rfl
    | 4, _ => rfl
theorem clr43 {base n c : Nat} {ok : Nat → Prop} {A : Option Addr} {W : World} {xs : List S43} (h : Kd.R k43 43 W base ok (.slice A n c) xs) (i : Int) (h0 : 0 ≤ i) (hi : i ≤ (n : Int)) :
    ∃ W2 : World, (∀ ty, (Builtin.clear_ #[30] ty #[.slice (if c = i.toNat then A else A.map (·.add (i.toNat * 5))) (n - i.toNat) (c - i.toNat)]).run Try.prog W = .ok (.tuple #[]) W2) ∧ Kd.R k43 43 W2 base ok (.slice A i.toNat c) (xs.take i.toNat) ∧ W.grownBy W2 (Value.slice A n c).ownBlock := by
  obtain ⟨hn, hnc, _⟩ := Kd.R_reads' h
  have ht := Kd.R_take (m := i.toNat) h (by omega)
  by_cases e : i.toNat = n
  · refine ⟨W, fun ty => ?_, ht, ⟨rfl, rfl, rfl, Nat.le_refl _, fun _ _ _ => rfl⟩⟩
    rw [e, Nat.sub_self]
    cases (if c = n then A else A.map (·.add (n * 5))) with
    | none => simp [Builtin.clear_, run_underlying Try.underlying30]
    | some a => simp [Builtin.clear_, run_underlying Try.underlying30]
  · obtain ⟨g, cap, hv, hb, hg, cells, hh⟩ := Kd.R_form h (by omega)
    obtain ⟨rfl, _, rfl⟩ : A = some ⟨g, 0, none⟩ ∧ n = xs.length ∧ c = cap := by
      injection hv with h1 h2 h3
      exact ⟨h1, h2, h3⟩
    have hlen := zeros43 (n - i.toNat)
    obtain ⟨zs, hzs⟩ : ∃ zs, zs = (Builtin.zeroCells (Value.cells (.agg #[(.string ⟨#[]⟩), (.string ⟨#[]⟩), (.string ⟨#[]⟩), (.int .u8 0), (.bool false)])) (n - i.toNat)).toList := ⟨_, rfl⟩
    rw [← hzs] at hlen
    have hsz : (k43).sz = 5 := rfl
    have hfit : i.toNat * 5 + zs.length ≤ n * 5 := by rw [hlen.1]; omega
    obtain ⟨hR, hG⟩ := R_cut h i.toNat (by omega) zs (by rw [hsz]; exact hfit)
    rw [hsz] at hR hG
    refine ⟨W.setCells g (i.toNat * 5) zs, fun ty => ?_, hR, by simpa [Value.ownBlock] using hG⟩
    have hcells : ∃ cur : Array Value, W.heap[g]? = some (.cells cur 43 (0, 0)) ∧ n * 5 ≤ cur.size := by
      obtain ⟨_, inner, ⟨_, ho2⟩, _⟩ := h
      rcases ho2 with ⟨hv, _⟩ | ⟨g', cap', cur, hv, _, hh', hnc', _, hcs, _⟩
      · cases hv
      injection hv with ha _ hc
      injection ha with ha
      injection ha with hg
      subst hg; subst hc
      refine ⟨cur, hh', ?_⟩
      rw [hcs, hn]
      exact Nat.mul_le_mul_right _ hnc'
    obtain ⟨cur, hcur, hcs⟩ := hcells
    have hst := run_storeCells_cells (P := Try.prog) g (i.toNat * 5) zs 0 W (fun j hj => by rw [Nat.add_zero, cell_of_row W g _ cur 43 (0, 0) hcur, Array.getElem?_eq_getElem (by omega)]; rfl) (fun j hj => by rw [blk_frozen hcur]) (fun v hv => hlen.2 v hv)
    simp only [Nat.add_zero] at hst
    rw [if_neg (by omega)]
    have hadd : (some (⟨g, 0, none⟩ : Addr)).map (·.add (i.toNat * 5)) = some ⟨g, i.toNat * 5, none⟩ := by
      simp only [Option.map_some, add_plain]
    rw [hadd]
    obtain ⟨m, hm⟩ : ∃ m, n - i.toNat = m + 1 := ⟨n - i.toNat - 1, by omega⟩
    rw [hm] at hzs ⊢
    simp [Builtin.clear_, run_underlying Try.underlying30, ← hzs, hst]
theorem below_own {w0 W W2 : World} {ok : Nat → Prop} {v : Value} {xs : List S43} (hb : Below w0.heap.size w0 W) (h : Kd.R k43 43 W w0.heap.size ok v xs) (hg : W.grownBy W2 v.ownBlock) : Below w0.heap.size w0 W2 :=
  hb.trans ⟨hg.os, hg.tape, hg.output, hg.size, fun k hk => hg.block k (Nat.lt_of_lt_of_le hk hb.size) (fun e => by have := Kd.R_base h k e.symm; omega)⟩
end Go.Proofs.Yteklimdjlihloaa.G
