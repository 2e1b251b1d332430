/- What functions that a law reaches come to: printed, and made shorter, by programs of this session. Conditions: as each theorem states them. -/
import Derived.Test.YteklimdjlihloaaAut
import Derived.Test.YteklimdjlihloaaGx0
import Derived.Test.YteklimdjlihloaaGx1
import Derived.Test.YteklimdjlihloaaGx2
import Derived.Test.YteklimdjlihloaaGx4
import Derived.Test.YteklimdjlihloaaGx6
import Derived.Test.YteklimdjlihloaaGx7
import Derived.Lib.SliceRun
import Derived.Test.YteklimdjlihloaaTok
namespace Go.Proofs.Yteklimdjlihloaa.G
open Go.RowKit Go.Proofs.YteklimdjlihloaaW.PrintWords Go.Proofs.YteklimdjlihloaaW.PrintLast Go.Proofs.YteklimdjlihloaaW.PrintMore
attribute [local go_sem] max2_int min2_int max_two min_two max_three min_three max_four min_four   -- for this text's walks alone
set_option linter.unusedVariables false
set_option linter.unusedSimpArgs false

attribute [local go_sem high] eqA43
/-! ### grants_Counts: function 14 -/
def grants_Counts.f (k : Nat) (a0_0 : Int) (l0_1 : List (S71)) (a0_2 : Int) (l1_0 : List ByteArray) (l1_1 : List (S66)) (l2 : List (S43)) : Option (List Bool) := (grants_world_counts.f k a0_0 l0_1 a0_2 l1_0 l1_1 l2).bind fun t168 => (some t168)
theorem grants_Counts.mono : ∀ a0 a1 a2 a3 a4 a5 k, LeO (grants_Counts.f k a0 a1 a2 a3 a4 a5) (grants_Counts.f (k + 1) a0 a1 a2 a3 a4 a5) := by
 intro a0 a1 a2 a3 a4 a5 k; unfold grants_Counts.f
 repeat' first
   | (with_reducible exact grants_world_counts.mono _ _ _ _ _ _ _)
   | (with_reducible exact LeO.refl _)
   | (with_reducible exact LeO.none _)
   | (with_reducible refine LeO.ite ?_ ?_)
   | (with_reducible refine LeO.bind ?_ (fun _ => ?_))
   | exact grants_world_counts.mono _ _ _ _ _ _ _
   | exact LeO.none _
   | refine LeO.ite ?_ ?_
   | refine LeO.bind ?_ (fun _ => ?_)
set_option maxHeartbeats 8000000 in
set_option maxRecDepth 100000 in
theorem grants_Counts.calls (k : Nat) (a0_0 : Int) (A0_1 : Option Addr) (c0_1 : Nat) (l0_1 : List (S71)) (a0_2 : Int) (A1_0 : Option Addr) (c1_0 : Nat) (l1_0 : List ByteArray) (A1_1 : Option Addr) (c1_1 : Nat) (l1_1 : List (S66)) (A2 : Option Addr) (c2 : Nat) (l2 : List (S43)) (r : List Bool) (w : World) (hr0_1 : Kd.C k71 w A0_1 l0_1.length l0_1) (hc0_1 : l0_1.length ≤ c0_1) (hr1_0 : Kd.C Kd.string w A1_0 l1_0.length l1_0) (hc1_0 : l1_0.length ≤ c1_0) (hr1_1 : Kd.C k66 w A1_1 l1_1.length l1_1) (hc1_1 : l1_1.length ≤ c1_1) (hr2 : Kd.C k43 w A2 l2.length l2) (hc2 : l2.length ≤ c2) (h : grants_Counts.f k a0_0 l0_1 a0_2 l1_0 l1_1 l2 = some r) (hG : TS l0_1 w) :
  Calls Try.prog 14 #[.agg #[.int .i64 a0_0, .slice A0_1 l0_1.length c0_1, tokV a0_2], .agg #[.slice A1_0 l1_0.length c1_0, .slice A1_1 l1_1.length c1_1], .slice A2 l2.length c2] w fun e w' => ∃ v0_ : Value, e = .returned (v0_) ∧ Kd.R Kd.bool 4 w' w.heap.size (fun _ => True) v0_ r ∧ Below w.heap.size w w' := by
 have HG := Aside0.mk hG; clear hG; have hu36 := Try.underlying36; have hu38 := Try.underlying38; have hu74 := Try.underlying74; have HR0_1 := Aside0.mk hr0_1; have HC0_1 := Aside0.mk hc0_1; clear hr0_1 hc0_1; have HR1_0 := Aside0.mk hr1_0; have HC1_0 := Aside0.mk hc1_0; clear hr1_0 hc1_0; have HR1_1 := Aside0.mk hr1_1; have HC1_1 := Aside0.mk hc1_1; clear hr1_1 hc1_1; have HR2 := Aside0.mk hr2; have HC2 := Aside0.mk hc2; clear hr2 hc2; have HB := Aside0.mk (Below.refl w.heap.size w); (have H : ((grants_world_counts.f k a0_0 l0_1 a0_2 l1_0 l1_1 l2).bind fun t168 => (some t168)) = some r := h); clear h; replace H := Option.bind_eq_some_iff.mp H; obtain ⟨t168, A40, H⟩ := H; have A4 := Aside0.mk A40; clear A40; obtain rfl := Option.some.inj H; go_enter Try.func14, Try.ntmps14
 (go_wp2_with (first | ((with_reducible refine gate_dst (N := 3) rfl ?_); refine bx 3 #[.int .i64 a0_0, .slice A0_1 l0_1.length c0_1, tokV a0_2] 36 ?_; intro gb166 hg w5 hbox hb; have n_ := g4 (kst hb) (Aside0.mk (hbox)) (kge hg) (kge hg); clear HB hb hbox hg; obtain ⟨HB, BK166, GW166, GE166⟩ := n_) | ((with_reducible refine gate_dst (N := 4) rfl ?_); refine bx 4 #[.slice A1_0 l1_0.length c1_0, .slice A1_1 l1_1.length c1_1] 38 ?_; intro gb167 hg w6 hbox hb; have n_ := g7 (kb BK166 hb) (kst hb) (Aside0.mk (hbox)) (kge hg) (kge hg) (knl BK166 hg) (kng BK166 hg); clear BK166 HB hb hbox hg; obtain ⟨BK166, HB, BK167, GW167, GE167, NB166_167, NB167_166⟩ := n_; have hnb7 := NB166_167.out; have hnc7 := NB167_166.out; obtain ⟨⟨hcz8_0, hcz8_1, hcz8_2⟩, hfz8_0, hfz8_1, hfz8_2⟩ := ce3 BK166; obtain ⟨⟨hcz9_0, hcz9_1⟩, hfz9_0, hfz9_1⟩ := ce2 BK167) | ((with_reducible refine gate_callee (f := 27) rfl ?_); refine goesL_ (some 11) rfl rfl Try.func27 (by kernel_rfl) rfl #[.agg #[.int .i64 a0_0, .slice A0_1 l0_1.length c0_1, tokV a0_2, .slice A1_0 l1_0.length c1_0, .slice A1_1 l1_1.length c1_1, .slice A2 l2.length c2]] rfl (by (try simp only [List.map_toArray, List.map_cons, List.map_nil]); first | done | rfl | (simp only [List.length_drop, List.length_take]; rfl)) ?_; (with_reducible refine (grants_world_counts.calls k a0_0 _ _ l0_1 a0_2 _ _ l1_0 _ _ l1_1 _ _ l2 t168 _ ?side1 ?side2 ?side3 ?side4 ?side5 ?side6 ?side7 ?side8 A4.out ?sideG).mono ?_); (case sideG => exact TS.keep HG.out bel); (case side1 => exact kc HR0_1); (case side2 => exact HC0_1.out); (case side3 => exact kc HR1_0); (case side4 => exact HC1_0.out); (case side5 => exact kc HR1_1); (case side6 => exact HC1_1.out); (case side7 => exact kc HR2); (case side8 => exact HC2.out); rintro e w10 ⟨v169, rfl, ho0, hb⟩; refine ⟨_, rfl, ?_⟩; have n_ := g4 (Aside0.mk (Kd.R_lower ho0 (below_size bel))) (kb BK166 hb) (kb BK167 hb) (kst hb); clear BK166 BK167 HB; obtain ⟨HO170, BK166, BK167, HB⟩ := n_))); go_ret
 (exact ⟨_, by first | rfl | (simp [errW_none, errW_some] <;> rfl) | (simp [*, errW_none, errW_some] <;> rfl), ko HO170, bel⟩)

/-! ### grants_world_may_1: function 41: by hand -/
set_option maxHeartbeats 1000000 in
set_option maxRecDepth 100000 in
/-- May's own question: yes. -/
theorem cl29 (a b c : ByteArray) (d : Int) (e : Bool) (w : World) : Calls Try.prog 29 #[.agg #[.string a, .string b, .string c, .int .u8 d, .bool e]] w fun x w' => x = .returned (.bool true) ∧ Below w.heap.size w w' := by
 have hu43 := Try.underlying43; have HB := Aside0.mk (Below.refl w.heap.size w); go_enter Try.func29, Try.ntmps29; go_wp2_with (first | ((with_reducible refine gate_dst (N := 1) rfl ?_); refine bx 1 #[.string a, .string b, .string c, .int .u8 d, .bool e] 43 ?_; intro g hg w1 hbox hb; have n_ := kst hb; clear HB hb hbox hg; have HB := n_; clear n_)); go_ret; exact ⟨rfl, bel⟩
set_option maxHeartbeats 1000000 in
set_option maxRecDepth 100000 in
/-- Pass's own question: the grant's Pass. -/
theorem cl30 (a b c : ByteArray) (d : Int) (e : Bool) (w : World) : Calls Try.prog 30 #[.agg #[.string a, .string b, .string c, .int .u8 d, .bool e]] w fun x w' => x = .returned (.bool e) ∧ Below w.heap.size w w' := by
 have hu43 := Try.underlying43; have HB := Aside0.mk (Below.refl w.heap.size w); go_enter Try.func30, Try.ntmps30; go_wp2_with (first | ((with_reducible refine gate_dst (N := 1) rfl ?_); refine bx 1 #[.string a, .string b, .string c, .int .u8 d, .bool e] 43 ?_; intro g hg w1 hbox hb; have n_ := kst hb; clear HB; have HB := n_; clear n_; have hc := (blk_cell hbox 4).trans rfl; have hf := blk_frozen hbox 4; clear hb hbox hg)); go_ret; exact ⟨rfl, bel⟩
/-- The function that is asked: May's or Pass's. -/
def pn : Bool → Nat | true => 30 | false => 29
/-- A call of a function value that captured nothing, by the contract of its function. -/
theorem goesV_ {ops : Array Oper} {P : Program} {Q : Exit → Act → World → Prop} {oi : Oper} {N : Option Tmp} {a : Act} {w : World} {K : Act → World → Prop} {f : FuncId} {fn : Func} {c : Operand} {xs : Array Operand} {ts : Array TypeId} (hf : P.funcs[f]? = some fn) (hname : (fn.name == "runtime.NumGoroutine") = false) (hb : fn.body.isSome = true) (args : Array Value)
  (hw : Region.wanted oi (yielded ops a.tmps) = true) (hN : oi.dst = N) (hop : oi.op = .call { callee := .value c, args := xs, argTypes := ts }) (hc : a.eval c = .func (.func f) #[] #[]) (hargs : xs.map a.eval = args)
  (h : Calls P f args w fun e w' => ∃ v, e = .returned v ∧ K (a.put N v) w') : if Region.wanted oi (yielded ops a.tmps) = true then Oper.wp P oi a w K Q else K (a.put N undef) w := by
 refine call_ f args hw hN ?_ h; have he := enters_ hf hname hb args w; unfold execOp; simp [hop, resolve, hc, Deferred.ofValue, invoke, hargs, he]
set_option maxHeartbeats 4000000 in
set_option maxRecDepth 100000 in
/-- May's closure over the boxes of c, asked and w. -/
theorem cl41 (q : Bool) (a0 : Int) (l1 : List Bool) (l2 : List (S43)) (r : Bool) (w : World) (go_ ga_ gw_ : Nat) (Ao : Option Addr) (co : Nat) (A : Option Addr) (c : Nat) (v0 v1 v2 v3 v4 : Value) (h : grants_world_counts_1.f a0 (q, l1) l2 = some r)
  (hbo : w.heap[go_]? = some (.cells #[.slice Ao l1.length co] 40 (0, 0))) (hro : Kd.C Kd.bool w Ao l1.length l1) (hba : w.heap[ga_]? = some (.cells #[.func (.func (pn q)) #[] #[]] 77 (0, 0))) (hbw : w.heap[gw_]? = some (.cells #[v0, v1, v2, v3, v4, .slice A l2.length c] 74 (0, 0))) (hr : Kd.C k43 w A l2.length l2) :
  Calls Try.prog 41 #[.int .i64 a0, .pointer (some ⟨go_, 0, none⟩), .pointer (some ⟨ga_, 0, none⟩), .pointer (some ⟨gw_, 0, none⟩)] w fun e w' => e = .returned (.bool r) ∧ Below w.heap.size w w' := by
 have hu74 := Try.underlying74; have hu43 := Try.underlying43; have hbo1 := blk_drew hbo; have hba1 := blk_drew hba; have hbw1 := blk_drew hbw; have hro1 := Kd.C_drew hro; have hr1 := Kd.C_drew hr; clear hbo hba hbw hro hr; simp only [grants_world_counts_1.f] at h; by_cases p0 : 0 ≤ a0
 ·rw [if_pos p0] at h
  by_cases p1 : a0 < (l1.length : Int)
  ·rw [if_pos p1] at h
   obtain ⟨ad, rfl, hx⟩ := Kd.at_bool hro1 a0 p0 p1; by_cases p2 : rdOf false l1 a0 = true
   ·rw [if_pos p2] at h
    rw [p2] at hx; by_cases p3 : a0 < (l2.length : Int)
    ·rw [if_pos p3] at h
     obtain rfl := Option.some.inj h; clear h; go_enter Try.func41, Try.ntmps41; (try go_wp2); cases q
     ·
      obtain ⟨ad2, rfl, hy0, hy1, hy2, hy3, hy4⟩ := at_T43 hr1 a0 p0 p3; (refine start_ (n := 14) (S := fun w' => w'.cell? ⟨go_, 0, none⟩ = some (.slice (some ad) l1.length co) ∧ w'.cell? (ad.add a0.toNat) = some (.bool true) ∧ w'.cell? ⟨ga_, 0, none⟩ = some (.func (.func 29) #[] #[]) ∧ w'.cell? ⟨gw_, 5, none⟩ = some (.slice (some ad2) l2.length c) ∧ w'.cell? (ad2.add (a0.toNat * 5)) = some (.string (rd_T43 l2 a0).f0) ∧ w'.cell? ⟨(ad2.add (a0.toNat * 5)).block, (ad2.add (a0.toNat * 5)).off + 1, none⟩ = some (.string (rd_T43 l2 a0).f1) ∧ w'.cell? ⟨(ad2.add (a0.toNat * 5)).block, (ad2.add (a0.toNat * 5)).off + 2, none⟩ = some (.string (rd_T43 l2 a0).f2) ∧ w'.cell? ⟨(ad2.add (a0.toNat * 5)).block, (ad2.add (a0.toNat * 5)).off + 3, none⟩ = some (.int .u8 (rd_T43 l2 a0).f3) ∧ w'.cell? ⟨(ad2.add (a0.toNat * 5)).block, (ad2.add (a0.toNat * 5)).off + 4, none⟩ = some (.bool (rd_T43 l2 a0).f4)) (ds := []) #[false, false, false, false, false, false, false, false, false, false, false, false, false, false] (by kernel_rfl) rfl rfl ⟨(blk_cell hbo1 0).trans rfl, hx, (blk_cell hba1 0).trans rfl, (blk_cell hbw1 5).trans rfl, hy0, hy1, hy2, hy3, hy4⟩ (fun hHeld => ?_)); have P0 := eq_true p0; have P1 := eq_true p1; have P3 := eq_true p3; (refine take_ (i := 0) (N := some 6) (v := ?_) (a' := ?_) #[true, false, false, false, false, false, false, false, false, false, false, false, false, false] rfl rfl (by kernel_rfl) (fun _ _ _ h => h) (Or.inl ⟨by rfl, ?_⟩) hHeld ?_ ?_); rotate_left
      ·rintro w' ⟨s0, s1, s2, s3, s4, s5, s6, s7, s8⟩
       go_simp; (with_reducible rfl)
      rotate_left
      ·simp only [Act.put, List.setIfInBounds_toArray, List.set_cons_zero, List.set_cons_succ, i64_w, i32_w]
       rfl
      (refine pure_ (i := 1) (N := some 7) (v := ?_) (a' := ?_) #[true, true, false, false, false, false, false, false, false, false, false, false, false, false] rfl rfl (by kernel_rfl) (fun _ _ _ h => h) (Or.inl ⟨by rfl, ?_⟩) ?_ ?_); rotate_left
      ·intro w'
       go_simp; (with_reducible rfl)
      rotate_left
      ·simp only [Act.put, List.setIfInBounds_toArray, List.set_cons_zero, List.set_cons_succ, i64_w, i32_w]
       rfl
      (refine pure_ (i := 2) (N := some 8) (v := ?_) (a' := ?_) #[true, true, true, false, false, false, false, false, false, false, false, false, false, false] rfl rfl (by kernel_rfl) (fun _ _ _ h => h) (Or.inl ⟨by rfl, ?_⟩) ?_ ?_); rotate_left
      ·intro w'
       go_simp; (with_reducible rfl)
      rotate_left
      ·simp only [Act.put, List.setIfInBounds_toArray, List.set_cons_zero, List.set_cons_succ, i64_w, i32_w]
       rfl
      (refine take_ (i := 3) (N := some 9) (v := ?_) (a' := ?_) #[true, true, true, true, false, false, false, false, false, false, false, false, false, false] rfl rfl (by kernel_rfl) (fun _ _ _ h => h) (Or.inl ⟨by rfl, ?_⟩) hHeld ?_ ?_); rotate_left
      ·rintro w' ⟨s0, s1, s2, s3, s4, s5, s6, s7, s8⟩
       go_simp; (with_reducible rfl)
      rotate_left
      ·simp only [Act.put, List.setIfInBounds_toArray, List.set_cons_zero, List.set_cons_succ, i64_w, i32_w]
       rfl
      (refine pure_ (i := 4) (N := some 10) (v := ?_) (a' := ?_) #[true, true, true, true, true, false, false, false, false, false, false, false, false, false] rfl rfl (by kernel_rfl) (fun _ _ _ h => h) (Or.inl ⟨by rfl, ?_⟩) ?_ ?_); rotate_left
      ·intro w'
       go_simp; (with_reducible rfl)
      rotate_left
      ·simp only [Act.put, List.setIfInBounds_toArray, List.set_cons_zero, List.set_cons_succ, i64_w, i32_w]
       rfl
      (refine take_ (i := 5) (N := some 11) (v := ?_) (a' := ?_) #[true, true, true, true, true, true, false, false, false, false, false, false, false, false] rfl rfl (by kernel_rfl) (fun _ _ _ h => h) (Or.inl ⟨by rfl, ?_⟩) hHeld ?_ ?_); rotate_left
      ·rintro w' ⟨s0, s1, s2, s3, s4, s5, s6, s7, s8⟩
       go_simp; (with_reducible rfl)
      rotate_left
      ·simp only [Act.put, List.setIfInBounds_toArray, List.set_cons_zero, List.set_cons_succ, i64_w, i32_w]
       rfl
      (refine pure_ (i := 6) (N := some 12) (v := ?_) (a' := ?_) #[true, true, true, true, true, true, true, false, false, false, false, false, false, false] rfl rfl (by kernel_rfl) (fun _ _ _ h => h) (Or.inl ⟨by rfl, ?_⟩) ?_ ?_); rotate_left
      ·intro w'
       go_simp; (with_reducible rfl)
      rotate_left
      ·simp only [Act.put, List.setIfInBounds_toArray, List.set_cons_zero, List.set_cons_succ, i64_w, i32_w]
       rfl
      (refine take_ (i := 7) (N := some 13) (v := ?_) (a' := ?_) #[true, true, true, true, true, true, true, true, false, false, false, false, false, false] rfl rfl (by kernel_rfl) (fun _ _ _ h => h) (Or.inl ⟨by rfl, ?_⟩) hHeld ?_ ?_); rotate_left
      ·rintro w' ⟨s0, s1, s2, s3, s4, s5, s6, s7, s8⟩
       go_simp; (with_reducible rfl)
      rotate_left
      ·simp only [Act.put, List.setIfInBounds_toArray, List.set_cons_zero, List.set_cons_succ, i64_w, i32_w]
       rfl
      (refine pure_ (i := 8) (N := some 14) (v := ?_) (a' := ?_) #[true, true, true, true, true, true, true, true, true, false, false, false, false, false] rfl rfl (by kernel_rfl) (fun _ _ _ h => h) (Or.inl ⟨by rfl, ?_⟩) ?_ ?_); rotate_left
      ·intro w'
       go_simp; (with_reducible rfl)
      rotate_left
      ·simp only [Act.put, List.setIfInBounds_toArray, List.set_cons_zero, List.set_cons_succ, i64_w, i32_w]
       rfl
      (refine pure_ (i := 9) (N := some 15) (v := ?_) (a' := ?_) #[true, true, true, true, true, true, true, true, true, true, false, false, false, false] rfl rfl (by kernel_rfl) (fun _ _ _ h => h) (Or.inl ⟨by rfl, ?_⟩) ?_ ?_); rotate_left
      ·intro w'
       go_simp; (with_reducible rfl)
      rotate_left
      ·simp only [Act.put, List.setIfInBounds_toArray, List.set_cons_zero, List.set_cons_succ, i64_w, i32_w]
       rfl
      (refine take_ (i := 10) (N := some 16) (v := ?_) (a' := ?_) #[true, true, true, true, true, true, true, true, true, true, true, false, false, false] rfl rfl (by kernel_rfl) (fun _ _ _ h => h) (Or.inl ⟨by rfl, ?_⟩) hHeld ?_ ?_); rotate_left
      ·rintro w' ⟨s0, s1, s2, s3, s4, s5, s6, s7, s8⟩
       go_simp; (with_reducible rfl)
      rotate_left
      ·simp only [Act.put, List.setIfInBounds_toArray, List.set_cons_zero, List.set_cons_succ, i64_w, i32_w]
       rfl
      (refine one_ (i := 11) (N := some 17) #[true, true, true, true, true, true, true, true, true, true, true, true, false, false] rfl rfl (by kernel_rfl) (by decide) (fun K hK => ?_)); (refine goesV_ Try.func29 (by kernel_rfl) rfl #[.agg #[.string (rd_T43 l2 a0).f0, .string (rd_T43 l2 a0).f1, .string (rd_T43 l2 a0).f2, .int .u8 (rd_T43 l2 a0).f3, .bool (rd_T43 l2 a0).f4]] (by rfl) rfl rfl rfl (by (try simp only [List.map_toArray, List.map_cons, List.map_nil]); first | done | rfl) ?_); refine (cl29 _ _ _ _ _ _).mono ?_; rintro e w33 ⟨rfl, hb⟩; refine ⟨_, rfl, ?_⟩; have hbo2 := blk_below hbo1 hb; have hba2 := blk_below hba1 hb; have hbw2 := blk_below hbw1 hb; have hro2 := Kd.C_below hro1 hb; have hr2 := Kd.C_below hr1 hb; obtain ⟨ad_, ea_, hx2⟩ := Kd.at_bool hro2 a0 p0 p1; obtain rfl := Option.some.inj ea_; rw [p2] at hx2; obtain ⟨ad2_, eb_, hy20, hy21, hy22, hy23, hy24⟩ := at_T43 hr2 a0 p0 p3; obtain rfl := Option.some.inj eb_; have HB : Aside0 (Below w.heap.size w w33) := ⟨below_step (below_drew1 (Below.refl _ _)) hb⟩; (refine hK.out _ _ ⟨(blk_cell hbo2 0).trans rfl, hx2, (blk_cell hba2 0).trans rfl, (blk_cell hbw2 5).trans rfl, hy20, hy21, hy22, hy23, hy24⟩ (fun hHeld => ?_)); clear hK K; refine nm 17 ?_; (refine pure_ (i := 12) (N := some 18) (v := ?_) (a' := ?_) #[true, true, true, true, true, true, true, true, true, true, true, true, true, false] rfl rfl (by kernel_rfl) (fun _ _ _ h => h) (Or.inl ⟨by rfl, ?_⟩) ?_ ?_); rotate_left
      ·intro w'
       go_simp; (with_reducible rfl)
      rotate_left
      ·simp only [Act.put, List.setIfInBounds_toArray, List.set_cons_zero, List.set_cons_succ, i64_w, i32_w]
       rfl
      (refine pure_ (i := 13) (N := some 5) (v := ?_) (a' := ?_) #[true, true, true, true, true, true, true, true, true, true, true, true, true, true] rfl rfl (by kernel_rfl) (fun _ _ _ h => h) (Or.inl ⟨by rfl, ?_⟩) ?_ ?_); rotate_left
      ·intro w'
       go_simp; (with_reducible rfl)
      rotate_left
      ·simp only [Act.put, List.setIfInBounds_toArray, List.set_cons_zero, List.set_cons_succ, i64_w, i32_w]
       rfl
      (refine done_ (by kernel_rfl) ?_); go_wp2; go_ret; exact ⟨rfl, bel⟩
     ·
      obtain ⟨ad2, rfl, hy0, hy1, hy2, hy3, hy4⟩ := at_T43 hr1 a0 p0 p3; (refine start_ (n := 14) (S := fun w' => w'.cell? ⟨go_, 0, none⟩ = some (.slice (some ad) l1.length co) ∧ w'.cell? (ad.add a0.toNat) = some (.bool true) ∧ w'.cell? ⟨ga_, 0, none⟩ = some (.func (.func 30) #[] #[]) ∧ w'.cell? ⟨gw_, 5, none⟩ = some (.slice (some ad2) l2.length c) ∧ w'.cell? (ad2.add (a0.toNat * 5)) = some (.string (rd_T43 l2 a0).f0) ∧ w'.cell? ⟨(ad2.add (a0.toNat * 5)).block, (ad2.add (a0.toNat * 5)).off + 1, none⟩ = some (.string (rd_T43 l2 a0).f1) ∧ w'.cell? ⟨(ad2.add (a0.toNat * 5)).block, (ad2.add (a0.toNat * 5)).off + 2, none⟩ = some (.string (rd_T43 l2 a0).f2) ∧ w'.cell? ⟨(ad2.add (a0.toNat * 5)).block, (ad2.add (a0.toNat * 5)).off + 3, none⟩ = some (.int .u8 (rd_T43 l2 a0).f3) ∧ w'.cell? ⟨(ad2.add (a0.toNat * 5)).block, (ad2.add (a0.toNat * 5)).off + 4, none⟩ = some (.bool (rd_T43 l2 a0).f4)) (ds := []) #[false, false, false, false, false, false, false, false, false, false, false, false, false, false] (by kernel_rfl) rfl rfl ⟨(blk_cell hbo1 0).trans rfl, hx, (blk_cell hba1 0).trans rfl, (blk_cell hbw1 5).trans rfl, hy0, hy1, hy2, hy3, hy4⟩ (fun hHeld => ?_)); have P0 := eq_true p0; have P1 := eq_true p1; have P3 := eq_true p3; (refine take_ (i := 0) (N := some 6) (v := ?_) (a' := ?_) #[true, false, false, false, false, false, false, false, false, false, false, false, false, false] rfl rfl (by kernel_rfl) (fun _ _ _ h => h) (Or.inl ⟨by rfl, ?_⟩) hHeld ?_ ?_); rotate_left
      ·rintro w' ⟨s0, s1, s2, s3, s4, s5, s6, s7, s8⟩
       go_simp; (with_reducible rfl)
      rotate_left
      ·simp only [Act.put, List.setIfInBounds_toArray, List.set_cons_zero, List.set_cons_succ, i64_w, i32_w]
       rfl
      (refine pure_ (i := 1) (N := some 7) (v := ?_) (a' := ?_) #[true, true, false, false, false, false, false, false, false, false, false, false, false, false] rfl rfl (by kernel_rfl) (fun _ _ _ h => h) (Or.inl ⟨by rfl, ?_⟩) ?_ ?_); rotate_left
      ·intro w'
       go_simp; (with_reducible rfl)
      rotate_left
      ·simp only [Act.put, List.setIfInBounds_toArray, List.set_cons_zero, List.set_cons_succ, i64_w, i32_w]
       rfl
      (refine pure_ (i := 2) (N := some 8) (v := ?_) (a' := ?_) #[true, true, true, false, false, false, false, false, false, false, false, false, false, false] rfl rfl (by kernel_rfl) (fun _ _ _ h => h) (Or.inl ⟨by rfl, ?_⟩) ?_ ?_); rotate_left
      ·intro w'
       go_simp; (with_reducible rfl)
      rotate_left
      ·simp only [Act.put, List.setIfInBounds_toArray, List.set_cons_zero, List.set_cons_succ, i64_w, i32_w]
       rfl
      (refine take_ (i := 3) (N := some 9) (v := ?_) (a' := ?_) #[true, true, true, true, false, false, false, false, false, false, false, false, false, false] rfl rfl (by kernel_rfl) (fun _ _ _ h => h) (Or.inl ⟨by rfl, ?_⟩) hHeld ?_ ?_); rotate_left
      ·rintro w' ⟨s0, s1, s2, s3, s4, s5, s6, s7, s8⟩
       go_simp; (with_reducible rfl)
      rotate_left
      ·simp only [Act.put, List.setIfInBounds_toArray, List.set_cons_zero, List.set_cons_succ, i64_w, i32_w]
       rfl
      (refine pure_ (i := 4) (N := some 10) (v := ?_) (a' := ?_) #[true, true, true, true, true, false, false, false, false, false, false, false, false, false] rfl rfl (by kernel_rfl) (fun _ _ _ h => h) (Or.inl ⟨by rfl, ?_⟩) ?_ ?_); rotate_left
      ·intro w'
       go_simp; (with_reducible rfl)
      rotate_left
      ·simp only [Act.put, List.setIfInBounds_toArray, List.set_cons_zero, List.set_cons_succ, i64_w, i32_w]
       rfl
      (refine take_ (i := 5) (N := some 11) (v := ?_) (a' := ?_) #[true, true, true, true, true, true, false, false, false, false, false, false, false, false] rfl rfl (by kernel_rfl) (fun _ _ _ h => h) (Or.inl ⟨by rfl, ?_⟩) hHeld ?_ ?_); rotate_left
      ·rintro w' ⟨s0, s1, s2, s3, s4, s5, s6, s7, s8⟩
       go_simp; (with_reducible rfl)
      rotate_left
      ·simp only [Act.put, List.setIfInBounds_toArray, List.set_cons_zero, List.set_cons_succ, i64_w, i32_w]
       rfl
      (refine pure_ (i := 6) (N := some 12) (v := ?_) (a' := ?_) #[true, true, true, true, true, true, true, false, false, false, false, false, false, false] rfl rfl (by kernel_rfl) (fun _ _ _ h => h) (Or.inl ⟨by rfl, ?_⟩) ?_ ?_); rotate_left
      ·intro w'
       go_simp; (with_reducible rfl)
      rotate_left
      ·simp only [Act.put, List.setIfInBounds_toArray, List.set_cons_zero, List.set_cons_succ, i64_w, i32_w]
       rfl
      (refine take_ (i := 7) (N := some 13) (v := ?_) (a' := ?_) #[true, true, true, true, true, true, true, true, false, false, false, false, false, false] rfl rfl (by kernel_rfl) (fun _ _ _ h => h) (Or.inl ⟨by rfl, ?_⟩) hHeld ?_ ?_); rotate_left
      ·rintro w' ⟨s0, s1, s2, s3, s4, s5, s6, s7, s8⟩
       go_simp; (with_reducible rfl)
      rotate_left
      ·simp only [Act.put, List.setIfInBounds_toArray, List.set_cons_zero, List.set_cons_succ, i64_w, i32_w]
       rfl
      (refine pure_ (i := 8) (N := some 14) (v := ?_) (a' := ?_) #[true, true, true, true, true, true, true, true, true, false, false, false, false, false] rfl rfl (by kernel_rfl) (fun _ _ _ h => h) (Or.inl ⟨by rfl, ?_⟩) ?_ ?_); rotate_left
      ·intro w'
       go_simp; (with_reducible rfl)
      rotate_left
      ·simp only [Act.put, List.setIfInBounds_toArray, List.set_cons_zero, List.set_cons_succ, i64_w, i32_w]
       rfl
      (refine pure_ (i := 9) (N := some 15) (v := ?_) (a' := ?_) #[true, true, true, true, true, true, true, true, true, true, false, false, false, false] rfl rfl (by kernel_rfl) (fun _ _ _ h => h) (Or.inl ⟨by rfl, ?_⟩) ?_ ?_); rotate_left
      ·intro w'
       go_simp; (with_reducible rfl)
      rotate_left
      ·simp only [Act.put, List.setIfInBounds_toArray, List.set_cons_zero, List.set_cons_succ, i64_w, i32_w]
       rfl
      (refine take_ (i := 10) (N := some 16) (v := ?_) (a' := ?_) #[true, true, true, true, true, true, true, true, true, true, true, false, false, false] rfl rfl (by kernel_rfl) (fun _ _ _ h => h) (Or.inl ⟨by rfl, ?_⟩) hHeld ?_ ?_); rotate_left
      ·rintro w' ⟨s0, s1, s2, s3, s4, s5, s6, s7, s8⟩
       go_simp; (with_reducible rfl)
      rotate_left
      ·simp only [Act.put, List.setIfInBounds_toArray, List.set_cons_zero, List.set_cons_succ, i64_w, i32_w]
       rfl
      (refine one_ (i := 11) (N := some 17) #[true, true, true, true, true, true, true, true, true, true, true, true, false, false] rfl rfl (by kernel_rfl) (by decide) (fun K hK => ?_)); (refine goesV_ Try.func30 (by kernel_rfl) rfl #[.agg #[.string (rd_T43 l2 a0).f0, .string (rd_T43 l2 a0).f1, .string (rd_T43 l2 a0).f2, .int .u8 (rd_T43 l2 a0).f3, .bool (rd_T43 l2 a0).f4]] (by rfl) rfl rfl rfl (by (try simp only [List.map_toArray, List.map_cons, List.map_nil]); first | done | rfl) ?_); refine (cl30 _ _ _ _ _ _).mono ?_; rintro e w33 ⟨rfl, hb⟩; refine ⟨_, rfl, ?_⟩; have hbo2 := blk_below hbo1 hb; have hba2 := blk_below hba1 hb; have hbw2 := blk_below hbw1 hb; have hro2 := Kd.C_below hro1 hb; have hr2 := Kd.C_below hr1 hb; obtain ⟨ad_, ea_, hx2⟩ := Kd.at_bool hro2 a0 p0 p1; obtain rfl := Option.some.inj ea_; rw [p2] at hx2; obtain ⟨ad2_, eb_, hy20, hy21, hy22, hy23, hy24⟩ := at_T43 hr2 a0 p0 p3; obtain rfl := Option.some.inj eb_; have HB : Aside0 (Below w.heap.size w w33) := ⟨below_step (below_drew1 (Below.refl _ _)) hb⟩; (refine hK.out _ _ ⟨(blk_cell hbo2 0).trans rfl, hx2, (blk_cell hba2 0).trans rfl, (blk_cell hbw2 5).trans rfl, hy20, hy21, hy22, hy23, hy24⟩ (fun hHeld => ?_)); clear hK K; refine nm 17 ?_; (refine pure_ (i := 12) (N := some 18) (v := ?_) (a' := ?_) #[true, true, true, true, true, true, true, true, true, true, true, true, true, false] rfl rfl (by kernel_rfl) (fun _ _ _ h => h) (Or.inl ⟨by rfl, ?_⟩) ?_ ?_); rotate_left
      ·intro w'
       go_simp; (with_reducible rfl)
      rotate_left
      ·simp only [Act.put, List.setIfInBounds_toArray, List.set_cons_zero, List.set_cons_succ, i64_w, i32_w]
       rfl
      (refine pure_ (i := 13) (N := some 5) (v := ?_) (a' := ?_) #[true, true, true, true, true, true, true, true, true, true, true, true, true, true] rfl rfl (by kernel_rfl) (fun _ _ _ h => h) (Or.inl ⟨by rfl, ?_⟩) ?_ ?_); rotate_left
      ·intro w'
       go_simp; (with_reducible rfl)
      rotate_left
      ·simp only [Act.put, List.setIfInBounds_toArray, List.set_cons_zero, List.set_cons_succ, i64_w, i32_w]
       rfl
      (refine done_ (by kernel_rfl) ?_); go_wp2; go_ret; exact ⟨rfl, bel⟩
    ·rw [if_neg p3] at h; cases h
   ·rw [if_neg p2] at h
    obtain rfl := Option.some.inj h; replace p2 := Bool.eq_false_iff.mpr p2; rw [p2] at hx; clear h; go_enter Try.func41, Try.ntmps41; (try go_wp2); (refine start_ (n := 14) (S := fun w' => w'.cell? ⟨go_, 0, none⟩ = some (.slice (some ad) l1.length co) ∧ w'.cell? (ad.add a0.toNat) = some (.bool false)) (ds := []) #[false, false, false, false, false, false, false, false, false, false, false, false, false, false] (by kernel_rfl) rfl rfl ⟨(blk_cell hbo1 0).trans rfl, hx⟩ (fun hHeld => ?_)); have P0 := eq_true p0; have P1 := eq_true p1; (refine take_ (i := 0) (N := some 6) (v := ?_) (a' := ?_) #[true, false, false, false, false, false, false, false, false, false, false, false, false, false] rfl rfl (by kernel_rfl) (fun _ _ _ h => h) (Or.inl ⟨by rfl, ?_⟩) hHeld ?_ ?_); rotate_left
    ·rintro w' ⟨s0, s1⟩
     go_simp; (with_reducible rfl)
    rotate_left
    ·simp only [Act.put, List.setIfInBounds_toArray, List.set_cons_zero, List.set_cons_succ, i64_w, i32_w]
     rfl
    (refine pure_ (i := 1) (N := some 7) (v := ?_) (a' := ?_) #[true, true, false, false, false, false, false, false, false, false, false, false, false, false] rfl rfl (by kernel_rfl) (fun _ _ _ h => h) (Or.inl ⟨by rfl, ?_⟩) ?_ ?_); rotate_left
    ·intro w'
     go_simp; (with_reducible rfl)
    rotate_left
    ·simp only [Act.put, List.setIfInBounds_toArray, List.set_cons_zero, List.set_cons_succ, i64_w, i32_w]
     rfl
    (refine pure_ (i := 2) (N := some 8) (v := ?_) (a' := ?_) #[true, true, true, false, false, false, false, false, false, false, false, false, false, false] rfl rfl (by kernel_rfl) (fun _ _ _ h => h) (Or.inl ⟨by rfl, ?_⟩) ?_ ?_); rotate_left
    ·intro w'
     go_simp; (with_reducible rfl)
    rotate_left
    ·simp only [Act.put, List.setIfInBounds_toArray, List.set_cons_zero, List.set_cons_succ, i64_w, i32_w]
     rfl
    (refine take_ (i := 3) (N := some 9) (v := ?_) (a' := ?_) #[true, true, true, true, false, false, false, false, false, false, false, false, false, false] rfl rfl (by kernel_rfl) (fun _ _ _ h => h) (Or.inl ⟨by rfl, ?_⟩) hHeld ?_ ?_); rotate_left
    ·rintro w' ⟨s0, s1⟩
     go_simp; (with_reducible rfl)
    rotate_left
    ·simp only [Act.put, List.setIfInBounds_toArray, List.set_cons_zero, List.set_cons_succ, i64_w, i32_w]
     rfl
    (refine pure_ (i := 4) (N := some 10) (v := ?_) (a' := ?_) #[true, true, true, true, true, false, false, false, false, false, false, false, false, false] rfl rfl (by kernel_rfl) (fun _ _ _ h => h) (Or.inl ⟨by rfl, ?_⟩) ?_ ?_); rotate_left
    ·intro w'
     go_simp; (with_reducible rfl)
    rotate_left
    ·simp only [Act.put, List.setIfInBounds_toArray, List.set_cons_zero, List.set_cons_succ, i64_w, i32_w]
     rfl
    (refine pure_ (i := 5) (N := some 11) (v := undef) (a' := ?_) #[true, true, true, true, true, true, false, false, false, false, false, false, false, false] rfl rfl (by kernel_rfl) (fun _ _ _ h => h) (Or.inr ⟨by rfl, rfl⟩) ?_ ?_); rotate_left
    ·simp only [Act.put, List.setIfInBounds_toArray, List.set_cons_zero, List.set_cons_succ, i64_w, i32_w]
     rfl
    (refine pure_ (i := 6) (N := some 12) (v := undef) (a' := ?_) #[true, true, true, true, true, true, true, false, false, false, false, false, false, false] rfl rfl (by kernel_rfl) (fun _ _ _ h => h) (Or.inr ⟨by rfl, rfl⟩) ?_ ?_); rotate_left
    ·simp only [Act.put, List.setIfInBounds_toArray, List.set_cons_zero, List.set_cons_succ, i64_w, i32_w]
     rfl
    (refine pure_ (i := 7) (N := some 13) (v := undef) (a' := ?_) #[true, true, true, true, true, true, true, true, false, false, false, false, false, false] rfl rfl (by kernel_rfl) (fun _ _ _ h => h) (Or.inr ⟨by rfl, rfl⟩) ?_ ?_); rotate_left
    ·simp only [Act.put, List.setIfInBounds_toArray, List.set_cons_zero, List.set_cons_succ, i64_w, i32_w]
     rfl
    (refine pure_ (i := 8) (N := some 14) (v := undef) (a' := ?_) #[true, true, true, true, true, true, true, true, true, false, false, false, false, false] rfl rfl (by kernel_rfl) (fun _ _ _ h => h) (Or.inr ⟨by rfl, rfl⟩) ?_ ?_); rotate_left
    ·simp only [Act.put, List.setIfInBounds_toArray, List.set_cons_zero, List.set_cons_succ, i64_w, i32_w]
     rfl
    (refine pure_ (i := 9) (N := some 15) (v := undef) (a' := ?_) #[true, true, true, true, true, true, true, true, true, true, false, false, false, false] rfl rfl (by kernel_rfl) (fun _ _ _ h => h) (Or.inr ⟨by rfl, rfl⟩) ?_ ?_); rotate_left
    ·simp only [Act.put, List.setIfInBounds_toArray, List.set_cons_zero, List.set_cons_succ, i64_w, i32_w]
     rfl
    (refine pure_ (i := 10) (N := some 16) (v := undef) (a' := ?_) #[true, true, true, true, true, true, true, true, true, true, true, false, false, false] rfl rfl (by kernel_rfl) (fun _ _ _ h => h) (Or.inr ⟨by rfl, rfl⟩) ?_ ?_); rotate_left
    ·simp only [Act.put, List.setIfInBounds_toArray, List.set_cons_zero, List.set_cons_succ, i64_w, i32_w]
     rfl
    (refine pure_ (i := 11) (N := some 17) (v := undef) (a' := ?_) #[true, true, true, true, true, true, true, true, true, true, true, true, false, false] rfl rfl (by kernel_rfl) (fun _ _ _ h => h) (Or.inr ⟨by rfl, rfl⟩) ?_ ?_); rotate_left
    ·simp only [Act.put, List.setIfInBounds_toArray, List.set_cons_zero, List.set_cons_succ, i64_w, i32_w]
     rfl
    (refine pure_ (i := 12) (N := some 18) (v := ?_) (a' := ?_) #[true, true, true, true, true, true, true, true, true, true, true, true, true, false] rfl rfl (by kernel_rfl) (fun _ _ _ h => h) (Or.inl ⟨by rfl, ?_⟩) ?_ ?_); rotate_left
    ·intro w'
     go_simp; (with_reducible rfl)
    rotate_left
    ·simp only [Act.put, List.setIfInBounds_toArray, List.set_cons_zero, List.set_cons_succ, i64_w, i32_w]
     rfl
    (refine pure_ (i := 13) (N := some 5) (v := ?_) (a' := ?_) #[true, true, true, true, true, true, true, true, true, true, true, true, true, true] rfl rfl (by kernel_rfl) (fun _ _ _ h => h) (Or.inl ⟨by rfl, ?_⟩) ?_ ?_); rotate_left
    ·intro w'
     go_simp; (with_reducible rfl)
    rotate_left
    ·simp only [Act.put, List.setIfInBounds_toArray, List.set_cons_zero, List.set_cons_succ, i64_w, i32_w]
     rfl
    (refine done_ (by kernel_rfl) ?_); go_wp2; go_ret; (exact ⟨rfl, by repeat (first | exact Below.refl _ _ | apply pw_below_drewN | apply below_drew1)⟩)
  ·rw [if_neg p1] at h; cases h
 ·rw [if_neg p0] at h; cases h

/-! ### grants_world_may: function 28 -/
def grants_world_may.j0 : Nat → Bool → ByteArray → ByteArray → Int → Bool → Int → List (S71) → Int → List ByteArray → List (S66) → List (S43) → Option (Bool)
 | 0, _, _, _, _, _, _, _, _, _, _, _ => none
 | k + 1, x4, x1, x2, x3, x29, x172000, x172001, x172002, x172003, x172004, x172005 => if x29 = true then (some false) else ((grants_All.f k x172000 x172001 x172002 x172003 x172004 x1 x2).bind fun t180 => (if t180 = true then (some true) else ((grants_world_counts.f k x172000 x172001 x172002 x172003 x172004 x172005).bind fun t181 => ((grants_world_had.f k x172000 x172001 x172002 x172003 x172004 x172005 x1 x2 (x4, t181)).bind fun t185 => (some ((Go.bits .andNot .u8 x3 t185) == 0))))))
def grants_world_may.f (k : Nat) (a0_0 : Int) (l0_1 : List (S71)) (a0_2 : Int) (l0_3 : List ByteArray) (l0_4 : List (S66)) (l0_5 : List (S43)) (a1 : ByteArray) (a2 : ByteArray) (a3 : Int) (a4_0 : Bool) : Option (Bool) := (schema_Find.f a0_0 l0_1 a0_2 a2).bind fun bt173 => (if bt173.2.2.2.2 = true then ((roles_Has.f k l0_3 l0_4 a1).bind fun t179 => (grants_world_may.j0 k a4_0 a1 a2 a3 (!t179) a0_0 l0_1 a0_2 l0_3 l0_4 l0_5)) else (grants_world_may.j0 k a4_0 a1 a2 a3 true a0_0 l0_1 a0_2 l0_3 l0_4 l0_5))
theorem grants_world_may.mono_l : ∀ k, (∀ y y0 y1 y2 y3 y4 y5 y6 y7 y8 y9, LeO (grants_world_may.j0 k y y0 y1 y2 y3 y4 y5 y6 y7 y8 y9) (grants_world_may.j0 (k + 1) y y0 y1 y2 y3 y4 y5 y6 y7 y8 y9))
 | 0 => fun _ _ _ _ _ _ _ _ _ _ _ r h => by simp [grants_world_may.j0] at h
 | k + 1 => by
  have ih0 := grants_world_may.mono_l k
  ·intro y y0 y1 y2 y3 y4 y5 y6 y7 y8 y9
   unfold grants_world_may.j0
   repeat' first
   | (with_reducible exact ih0 _ _ _ _ _ _ _ _ _ _ _)
   | (with_reducible exact grants_All.mono _ _ _ _ _ _ _ _)
   | (with_reducible exact grants_world_counts.mono _ _ _ _ _ _ _)
   | (with_reducible exact grants_world_had.mono _ _ _ _ _ _ _ _ _ _)
   | (with_reducible exact roles_Has.mono _ _ _ _)
   | (with_reducible exact LeO.refl _)
   | (with_reducible exact LeO.none _)
   | (with_reducible refine LeO.ite ?_ ?_)
   | (with_reducible refine LeO.bind ?_ (fun _ => ?_))
   | exact ih0 _ _ _ _ _ _ _ _ _ _ _
   | exact grants_All.mono _ _ _ _ _ _ _ _
   | exact grants_world_counts.mono _ _ _ _ _ _ _
   | exact grants_world_had.mono _ _ _ _ _ _ _ _ _ _
   | exact roles_Has.mono _ _ _ _
   | exact LeO.none _
   | refine LeO.ite ?_ ?_
   | refine LeO.bind ?_ (fun _ => ?_)
theorem grants_world_may.mono : ∀ a0 a1 a2 a3 a4 a5 a6 a7 a8 a9 k, LeO (grants_world_may.f k a0 a1 a2 a3 a4 a5 a6 a7 a8 a9) (grants_world_may.f (k + 1) a0 a1 a2 a3 a4 a5 a6 a7 a8 a9) := by
 intro a0 a1 a2 a3 a4 a5 a6 a7 a8 a9 k; have ih0 := grants_world_may.mono_l k; unfold grants_world_may.f
 repeat' first
   | (with_reducible exact ih0 _ _ _ _ _ _ _ _ _ _ _)
   | (with_reducible exact grants_All.mono _ _ _ _ _ _ _ _)
   | (with_reducible exact grants_world_counts.mono _ _ _ _ _ _ _)
   | (with_reducible exact grants_world_had.mono _ _ _ _ _ _ _ _ _ _)
   | (with_reducible exact roles_Has.mono _ _ _ _)
   | (with_reducible exact LeO.refl _)
   | (with_reducible exact LeO.none _)
   | (with_reducible refine LeO.ite ?_ ?_)
   | (with_reducible refine LeO.bind ?_ (fun _ => ?_))
   | exact ih0 _ _ _ _ _ _ _ _ _ _ _
   | exact grants_All.mono _ _ _ _ _ _ _ _
   | exact grants_world_counts.mono _ _ _ _ _ _ _
   | exact grants_world_had.mono _ _ _ _ _ _ _ _ _ _
   | exact roles_Has.mono _ _ _ _
   | exact LeO.none _
   | refine LeO.ite ?_ ?_
   | refine LeO.bind ?_ (fun _ => ?_)
set_option maxHeartbeats 8000000 in
set_option maxRecDepth 100000 in
theorem grants_world_may.calls (k : Nat) (a0_0 : Int) (A0_1 : Option Addr) (c0_1 : Nat) (l0_1 : List (S71)) (a0_2 : Int) (A0_3 : Option Addr) (c0_3 : Nat) (l0_3 : List ByteArray) (A0_4 : Option Addr) (c0_4 : Nat) (l0_4 : List (S66)) (A0_5 : Option Addr) (c0_5 : Nat) (l0_5 : List (S43)) (a1 : ByteArray) (a2 : ByteArray) (a3 : Int) (a4_0 : Bool) (r : Bool) (w : World) (hr0_1 : Kd.C k71 w A0_1 l0_1.length l0_1) (hc0_1 : l0_1.length ≤ c0_1) (hr0_3 : Kd.C Kd.string w A0_3 l0_3.length l0_3) (hc0_3 : l0_3.length ≤ c0_3) (hr0_4 : Kd.C k66 w A0_4 l0_4.length l0_4) (hc0_4 : l0_4.length ≤ c0_4) (hr0_5 : Kd.C k43 w A0_5 l0_5.length l0_5) (hc0_5 : l0_5.length ≤ c0_5) (h : grants_world_may.f k a0_0 l0_1 a0_2 l0_3 l0_4 l0_5 a1 a2 a3 a4_0 = some r) (hG : TS l0_1 w) :
  Calls Try.prog 28 #[.agg #[.int .i64 a0_0, .slice A0_1 l0_1.length c0_1, tokV a0_2, .slice A0_3 l0_3.length c0_3, .slice A0_4 l0_4.length c0_4, .slice A0_5 l0_5.length c0_5], .string a1, .string a2, .int .u8 a3, .func (.func (pn a4_0)) #[] #[]] w fun e w' => e = .returned (.bool r) ∧ Below w.heap.size w w' := by
 have HG := Aside0.mk hG; clear hG; have hu74 := Try.underlying74; have hu36 := Try.underlying36; have hu71 := Try.underlying71; have hu38 := Try.underlying38; have HR0_1 := Aside0.mk hr0_1; have HC0_1 := Aside0.mk hc0_1; clear hr0_1 hc0_1; have HR0_3 := Aside0.mk hr0_3; have HC0_3 := Aside0.mk hc0_3; clear hr0_3 hc0_3; have HR0_4 := Aside0.mk hr0_4; have HC0_4 := Aside0.mk hc0_4; clear hr0_4 hc0_4; have HR0_5 := Aside0.mk hr0_5; have HC0_5 := Aside0.mk hc0_5; clear hr0_5 hc0_5; have HB := Aside0.mk (Below.refl w.heap.size w); (have H : ((schema_Find.f a0_0 l0_1 a0_2 a2).bind fun bt173 => (if bt173.2.2.2.2 = true then ((roles_Has.f k l0_3 l0_4 a1).bind fun t179 => (grants_world_may.j0 k a4_0 a1 a2 a3 (!t179) a0_0 l0_1 a0_2 l0_3 l0_4 l0_5)) else (grants_world_may.j0 k a4_0 a1 a2 a3 true a0_0 l0_1 a0_2 l0_3 l0_4 l0_5))) = some r := h); clear h; replace H := Option.bind_eq_some_iff.mp H; obtain ⟨⟨t173, t174, t175, t176, t177⟩, A60, H⟩ := H; dsimp only at H; have A6 := Aside0.mk A60; clear A60; have HC7 := Aside0.mk H; clear H; go_enter Try.func28, Try.ntmps28
 (go_upto_region 2 with (first | ((with_reducible refine gate_dst (N := 5) rfl ?_); refine bx 5 #[.int .i64 a0_0, .slice A0_1 l0_1.length c0_1, tokV a0_2, .slice A0_3 l0_3.length c0_3, .slice A0_4 l0_4.length c0_4, .slice A0_5 l0_5.length c0_5] 74 ?_; intro gb171 hg w8 hbox hb; have n_ := g4 (kst hb) (Aside0.mk (hbox)) (kge hg) (kge hg); clear HB hb hbox hg; obtain ⟨HB, BK171, GW171, GE171⟩ := n_) | ((with_reducible refine gate_dst (N := 9) rfl ?_); refine bx 9 #[.func (.func (pn a4_0)) #[] #[]] 77 ?_; intro gb172 hg w9 hbox hb; have n_ := g7 (kb BK171 hb) (kst hb) (Aside0.mk (hbox)) (kge hg) (kge hg) (knl BK171 hg) (kng BK171 hg); clear BK171 HB hb hbox hg; obtain ⟨BK171, HB, BK172, GW172, GE172, NB171_172, NB172_171⟩ := n_; have hnb10 := NB171_172.out; have hnc10 := NB172_171.out; obtain ⟨⟨hcz11_0, hcz11_1, hcz11_2, hcz11_3, hcz11_4, hcz11_5⟩, hfz11_0, hfz11_1, hfz11_2, hfz11_3, hfz11_4, hfz11_5⟩ := ce6 BK171) | ((with_reducible refine gate_callee (f := 33) rfl ?_); refine goesL_ (some 18) rfl rfl Try.func33 (by kernel_rfl) rfl #[.agg #[.int .i64 a0_0, .slice A0_1 l0_1.length c0_1, tokV a0_2], .string a2] rfl (by (try simp only [List.map_toArray, List.map_cons, List.map_nil]); first | done | rfl | (simp only [List.length_drop, List.length_take]; rfl)) ?_; (with_reducible refine (schema_Find.calls a0_0 _ _ l0_1 a0_2 a2 t173 t174 t175 t176 t177 _ ?side1 ?side2 A6.out ?sideG).mono ?_); (case sideG => exact TS.keep HG.out bel); (case side1 => exact kc HR0_1); (case side2 => exact HC0_1.out); rintro e w12 ⟨u_, rfl, hb⟩; refine ⟨_, rfl, ?_⟩; have n_ := g3 (kb BK171 hb) (kb BK172 hb) (kst hb); clear BK171 BK172 HB; obtain ⟨BK171, BK172, HB⟩ := n_) | ((with_reducible refine gate_dst (N := 11) rfl ?_); refine bx 11 #[.int .i64 0, .string (⟨#[]⟩ : ByteArray), .slice none 0 0, .string (⟨#[]⟩ : ByteArray)] 71 ?_; intro gb178 hg w13 hbox hb; have n_ := g10 (kb BK171 hb) (kb BK172 hb) (kst hb) (Aside0.mk (hbox)) (kge hg) (kge hg) (knl BK171 hg) (kng BK171 hg) (knl BK172 hg) (kng BK172 hg); clear BK171 BK172 HB hb hbox hg; obtain ⟨BK171, BK172, HB, BK178, GW178, GE178, NB171_178, NB178_171, NB172_178, NB178_172⟩ := n_; have hnb14 := NB178_171.out; have hnc14 := NB171_178.out; have hnb15 := NB178_172.out; have hnc15 := NB172_178.out; obtain ⟨⟨hcz16_0, hcz16_1, hcz16_2, hcz16_3⟩, hfz16_0, hfz16_1, hfz16_2, hfz16_3⟩ := ce4 BK178)))
 (try simp only [Act.put, List.setIfInBounds_toArray, List.set_cons_zero, List.set_cons_succ]); (go_cut [29] (fun v29 wc => ∃ (kq : Nat) (x29_6 : Bool), v29 = .bool x29_6 ∧ Aside0 (grants_world_may.j0 kq a4_0 a1 a2 a3 x29_6 a0_0 l0_1 a0_2 l0_3 l0_4 l0_5 = some r) ∧ Aside0 (kq ≤ k) ∧ Aside0 (wc.heap[gb171]? = some (.cells #[.int .i64 a0_0, (.slice A0_1 l0_1.length c0_1), tokV a0_2, (.slice A0_3 l0_3.length c0_3), (.slice A0_4 l0_4.length c0_4), (.slice A0_5 l0_5.length c0_5)] 74 (0, 0))) ∧ Aside0 (wc.heap[gb172]? = some (.cells #[.func (.func (pn a4_0)) #[] #[]] 77 (0, 0))) ∧ Aside0 (wc.heap[gb178]? = some (.cells #[.int .i64 t173, .string t174, tokV u_, .string t176] 71 (0, 0))) ∧ Aside0 (Below w.heap.size w wc)))
 case first =>
  have H := HC7.out; clear HC7; by_cases c17 : t177 = true
  ·subst c17
   rw [if_pos rfl] at H; replace H := Option.bind_eq_some_iff.mp H; obtain ⟨t179, A180, H⟩ := H; have A18 := Aside0.mk A180; clear A180; have H' := Aside0.mk H; clear H; have hnb19 := NB171_172.out; have hnc19 := NB172_171.out; have hnb20 := NB171_178.out; have hnc20 := NB178_171.out; obtain ⟨⟨hcz21_0, hcz21_1, hcz21_2, hcz21_3, hcz21_4, hcz21_5⟩, hfz21_0, hfz21_1, hfz21_2, hfz21_3, hfz21_4, hfz21_5⟩ := ce6 BK171; (go_wp2_with (first | (go_at_call 31; (with_reducible refine (roles_Has.calls k _ _ l0_3 _ _ l0_4 a1 t179 _ ?side1 ?side2 ?side3 ?side4 A18.out).mono ?_); (case side1 => exact kc HR0_3); (case side2 => exact HC0_3.out); (case side3 => exact kc HR0_4); (case side4 => exact HC0_4.out); rintro e w22 ⟨rfl, hb⟩; have n_ := g4 (kb BK171 hb) (kb BK172 hb) (Aside0.mk (blk_below (g := gb178) (o := .cells #[.int .i64 t173, .string t174, tokV u_, .string t176] 71 (0, 0)) (kq BK178) hb)) (kst hb); clear BK171 BK172 BK178 HB; obtain ⟨BK171, BK172, BK178, HB⟩ := n_))); go_meet
   case rel => exact ⟨_, (!t179), (by first | rfl | (simp; done) | (simp [*]; done)), H', ⟨by first | omega | exact Nat.le_refl _⟩, kb0 BK171, kb0 BK172, kb0 BK178, ⟨bel⟩⟩
  ·replace c17 := Bool.eq_false_iff.mpr c17
   subst c17; (rw [if_neg (show ¬ (false = true) by decide)] at H); have H' := Aside0.mk H; clear H; go_wp2; go_meet
   case rel => exact ⟨_, (true), (by first | rfl | (simp; done) | (simp [*]; done)), H', ⟨by first | omega | exact Nat.le_refl _⟩, ⟨kq BK171⟩, ⟨kq BK172⟩, ⟨kq BK178⟩, ⟨bel⟩⟩
 case rest =>
  clear HC7; obtain ⟨kq, x29_6, rfl, HA, HJ6, BK171, BK172, BK178, HB⟩ := hcut
  cases kq with
  | zero => exact absurd HA.out (by simp [grants_world_may.j0])
  | succ kj6 =>
   have H := HA.out; clear HA; simp only [grants_world_may.j0] at H; by_cases c23 : x29_6 = true
   ·subst c23
    rw [if_pos rfl] at H; obtain rfl := Option.some.inj H; go_wp2; go_ret; (exact ⟨by first | rfl | (simp [errW_none, errW_some] <;> rfl) | (simp [*, errW_none, errW_some] <;> rfl), bel⟩)
   ·replace c23 := Bool.eq_false_iff.mpr c23
    subst c23; (rw [if_neg (show ¬ (false = true) by decide)] at H); replace H := Option.bind_eq_some_iff.mp H; obtain ⟨t180, A240, H⟩ := H; have A24 := Aside0.mk A240; clear A240; by_cases c25 : t180 = true
    ·subst c25
     rw [if_pos rfl] at H; obtain rfl := Option.some.inj H; have hnb26 := NB171_172.out; have hnc26 := NB172_171.out; have hnb27 := NB171_178.out; have hnc27 := NB178_171.out; obtain ⟨⟨hcz28_0, hcz28_1, hcz28_2, hcz28_3, hcz28_4, hcz28_5⟩, hfz28_0, hfz28_1, hfz28_2, hfz28_3, hfz28_4, hfz28_5⟩ := ce6 BK171; (go_wp2_with (first | ((with_reducible refine gate_callee (f := 18) rfl ?_); refine goesL_ (some 36) rfl rfl Try.func18 (by kernel_rfl) rfl #[.agg #[.int .i64 a0_0, .slice A0_1 l0_1.length c0_1, tokV a0_2], .agg #[.slice A0_3 l0_3.length c0_3, .slice A0_4 l0_4.length c0_4], .string a1, .string a2] rfl (by (try simp only [List.map_toArray, List.map_cons, List.map_nil]); first | done | rfl | (simp only [List.length_drop, List.length_take]; rfl)) ?_; (with_reducible refine (grants_All.calls kj6 a0_0 _ _ l0_1 a0_2 _ _ l0_3 _ _ l0_4 a1 a2 true _ ?side1 ?side2 ?side3 ?side4 ?side5 ?side6 A24.out ?sideG).mono ?_); (case sideG => exact TS.keep HG.out bel); (case side1 => exact kc HR0_1); (case side2 => exact HC0_1.out); (case side3 => exact kc HR0_3); (case side4 => exact HC0_3.out); (case side5 => exact kc HR0_4); (case side6 => exact HC0_4.out); rintro e w29 ⟨rfl, hb⟩; refine ⟨_, rfl, ?_⟩; have n_ := g4 (kb BK171 hb) (kb BK172 hb) (kb BK178 hb) (kst hb); clear BK171 BK172 BK178 HB; obtain ⟨BK171, BK172, BK178, HB⟩ := n_))); go_ret; (exact ⟨by first | rfl | (simp [errW_none, errW_some] <;> rfl) | (simp [*, errW_none, errW_some] <;> rfl), bel⟩)
    ·replace c25 := Bool.eq_false_iff.mpr c25
     subst c25; (rw [if_neg (show ¬ (false = true) by decide)] at H); replace H := Option.bind_eq_some_iff.mp H; obtain ⟨t181, A300, H⟩ := H; have A30 := Aside0.mk A300; clear A300; replace H := Option.bind_eq_some_iff.mp H; obtain ⟨t185, A310, H⟩ := H; have A31 := Aside0.mk A310; clear A310; obtain rfl := Option.some.inj H; have hnb32 := NB171_172.out; have hnc32 := NB172_171.out; have hnb33 := NB171_178.out; have hnc33 := NB178_171.out; obtain ⟨⟨hcz34_0, hcz34_1, hcz34_2, hcz34_3, hcz34_4, hcz34_5⟩, hfz34_0, hfz34_1, hfz34_2, hfz34_3, hfz34_4, hfz34_5⟩ := ce6 BK171
     (go_wp2_with (first | ((with_reducible refine gate_callee (f := 18) rfl ?_); refine goesL_ (some 36) rfl rfl Try.func18 (by kernel_rfl) rfl #[.agg #[.int .i64 a0_0, .slice A0_1 l0_1.length c0_1, tokV a0_2], .agg #[.slice A0_3 l0_3.length c0_3, .slice A0_4 l0_4.length c0_4], .string a1, .string a2] rfl (by (try simp only [List.map_toArray, List.map_cons, List.map_nil]); first | done | rfl | (simp only [List.length_drop, List.length_take]; rfl)) ?_; (with_reducible refine (grants_All.calls kj6 a0_0 _ _ l0_1 a0_2 _ _ l0_3 _ _ l0_4 a1 a2 false _ ?side1 ?side2 ?side3 ?side4 ?side5 ?side6 A24.out ?sideG).mono ?_); (case sideG => exact TS.keep HG.out bel); (case side1 => exact kc HR0_1); (case side2 => exact HC0_1.out); (case side3 => exact kc HR0_3); (case side4 => exact HC0_3.out); (case side5 => exact kc HR0_4); (case side6 => exact HC0_4.out); rintro e w35 ⟨rfl, hb⟩; refine ⟨_, rfl, ?_⟩; have n_ := g4 (kb BK171 hb) (kb BK172 hb) (kb BK178 hb) (kst hb); clear BK171 BK172 BK178 HB; obtain ⟨BK171, BK172, BK178, HB⟩ := n_; obtain ⟨⟨hcz36_0, hcz36_1, hcz36_2, hcz36_3, hcz36_4, hcz36_5⟩, hfz36_0, hfz36_1, hfz36_2, hfz36_3, hfz36_4, hfz36_5⟩ := ce6 BK171) | ((with_reducible refine gate_callee (f := 27) rfl ?_); refine goesL_ (some 38) rfl rfl Try.func27 (by kernel_rfl) rfl #[.agg #[.int .i64 a0_0, .slice A0_1 l0_1.length c0_1, tokV a0_2, .slice A0_3 l0_3.length c0_3, .slice A0_4 l0_4.length c0_4, .slice A0_5 l0_5.length c0_5]] rfl (by (try simp only [List.map_toArray, List.map_cons, List.map_nil]); first | done | rfl | (simp only [List.length_drop, List.length_take]; rfl)) ?_; (with_reducible refine (grants_world_counts.calls kj6 a0_0 _ _ l0_1 a0_2 _ _ l0_3 _ _ l0_4 _ _ l0_5 t181 _ ?side1 ?side2 ?side3 ?side4 ?side5 ?side6 ?side7 ?side8 A30.out ?sideG).mono ?_); (case sideG => exact TS.keep HG.out bel); (case side1 => exact kc HR0_1); (case side2 => exact HC0_1.out); (case side3 => exact kc HR0_3); (case side4 => exact HC0_3.out); (case side5 => exact kc HR0_4); (case side6 => exact HC0_4.out); (case side7 => exact kc HR0_5); (case side8 => exact HC0_5.out); rintro e w37 ⟨v182, rfl, ho0, hb⟩; refine ⟨_, rfl, ?_⟩; have n_ := g5 (Aside0.mk (Kd.R_lower ho0 (below_size bel))) (kb BK171 hb) (kb BK172 hb) (kb BK178 hb) (kst hb); clear BK171 BK172 BK178 HB; obtain ⟨HO183, BK171, BK172, BK178, HB⟩ := n_) | ((with_reducible refine gate_dst (N := 13) rfl ?_); refine bx 13 #[.slice none 0 0] 40 ?_; intro gb184 hg w38 hbox hb; have n_ := g14 (kr HO183 hb) (kb BK171 hb) (kb BK172 hb) (kb BK178 hb) (kst hb) (Aside0.mk (hbox)) (kge hg) (kge hg) (knl BK171 hg) (kng BK171 hg) (knl BK172 hg) (kng BK172 hg) (knl BK178 hg) (kng BK178 hg); clear HO183 BK171 BK172 BK178 HB hb hbox hg; obtain ⟨HO183, BK171, BK172, BK178, HB, BK184, GW184, GE184, NB171_184, NB184_171, NB172_184, NB184_172, NB178_184, NB184_178⟩ := n_; obtain ⟨Ao39, co39, eo39⟩ := Kd.R_slice HO183.out; subst eo39; have hnb40 := NB184_171.out; have hnc40 := NB171_184.out; have hnb41 := NB184_172.out; have hnc41 := NB172_184.out; have hnb42 := NB184_178.out; have hnc42 := NB178_184.out; obtain ⟨hcz43_0, hfz43_0⟩ := ce1 BK184; obtain ⟨⟨hcz44_0, hcz44_1, hcz44_2, hcz44_3, hcz44_4, hcz44_5⟩, hfz44_0, hfz44_1, hfz44_2, hfz44_3, hfz44_4, hfz44_5⟩ := ce6 BK171) | ((with_reducible refine gate_callee (f := 40) rfl ?_); refine goesL_ (some 44) rfl rfl Try.func40 (by kernel_rfl) rfl #[.agg #[.int .i64 a0_0, .slice A0_1 l0_1.length c0_1, tokV a0_2, .slice A0_3 l0_3.length c0_3, .slice A0_4 l0_4.length c0_4, .slice A0_5 l0_5.length c0_5], .string a1, .string a2, .func (.func 41) #[] #[.pointer (some ⟨gb184, 0, none⟩), .pointer (some ⟨gb172, 0, none⟩), .pointer (some ⟨gb171, 0, none⟩)]] rfl (by (try simp only [List.map_toArray, List.map_cons, List.map_nil]); first | done | rfl | (simp only [List.length_drop, List.length_take]; rfl)) ?_; (with_reducible refine (grants_world_had.calls41 kj6 a0_0 _ _ l0_1 a0_2 _ _ l0_3 _ _ l0_4 _ _ l0_5 a1 a2 _ _ _ (a4_0, t181) t185 _ ?side1 ?side2 ?side3 ?side4 ?side5 ?side6 ?side7 ?side8 ?side9 A31.out).mono ?_); (case side1 => exact kc HR0_1); (case side2 => exact HC0_1.out); (case side3 => exact kc HR0_3); (case side4 => exact HC0_3.out); (case side5 => exact kc HR0_4); (case side6 => exact HC0_4.out); (case side7 => exact kc HR0_5); (case side8 => exact HC0_5.out); (case side9 => intro i_ b_ W_ hW_ hh_; refine cl41 _ i_ _ _ b_ W_ gb184 gb172 gb171 _ _ _ _ _ _ _ _ _ hh_ (blk_below (g := gb184) (o := .cells #[.slice Ao39 t181.length co39] 40 (0, 0)) (kq BK184) hW_) (Kd.C_below ?hro_ hW_) (blk_below (g := gb172) (o := .cells #[.func (.func (pn a4_0)) #[] #[]] 77 (0, 0)) (by (with_reducible repeat (first | refine blk_drewN ?_ _ | refine blk_drew ?_ | refine blk_alloc ?_ _)); (try refine blk_far ?_ NB172_184.out _); (with_reducible repeat (first | refine blk_drewN ?_ _ | refine blk_drew ?_ | refine blk_alloc ?_ _)); exact BK172.out) hW_) (blk_below (g := gb171) (o := .cells #[.int .i64 a0_0, .slice A0_1 l0_1.length c0_1, tokV a0_2, .slice A0_3 l0_3.length c0_3, .slice A0_4 l0_4.length c0_4, .slice A0_5 l0_5.length c0_5] 74 (0, 0)) (by (with_reducible repeat (first | refine blk_drewN ?_ _ | refine blk_drew ?_ | refine blk_alloc ?_ _)); (try refine blk_far ?_ NB171_184.out _); (with_reducible repeat (first | refine blk_drewN ?_ _ | refine blk_drew ?_ | refine blk_alloc ?_ _)); exact BK171.out) hW_) (Kd.C_below ?hr_ hW_); (case hro_ => refine (Kd.R_reads' (e := 4) (base := w.heap.size) (ok := fun k_ => True) (n := t181.length) (c := co39) ?_).2.2; exact (by (with_reducible repeat (first | apply Kd.R_alloc | apply Kd.R_drewN | apply Kd.R_drew)); exact (Kd.R_mono (Kd.R_far (p := ⟨gb184, 0, none⟩) (Kd.R_types HO183.out BK184.out (by decide)) (fun _ hk => hk.2) (.slice Ao39 t181.length co39)) (fun _ h_ => h_.1)))); (case hr_ => repeat (first | exact (Kd.C_below HR0_5.out HB.out) | exact kc HR0_5 | (with_reducible refine Kd.C_alloc ?_ _) | (with_reducible refine Kd.C_drewN ?_ _) | (with_reducible refine Kd.C_drew ?_)))); rintro e w45 ⟨rfl, hb⟩; refine ⟨_, rfl, ?_⟩; have n_ := g6 (Aside0.mk (Kd.R_below (by (with_reducible repeat (first | apply Kd.R_alloc | apply Kd.R_drewN | apply Kd.R_drew)); exact (Kd.R_mono (Kd.R_far (p := ⟨gb184, 0, none⟩) (Kd.R_types HO183.out BK184.out (by decide)) (fun _ hk => hk.2) (.slice Ao39 t181.length co39)) (fun _ h_ => h_.1))) hb)) (kb BK171 hb) (kb BK172 hb) (kb BK178 hb) (Aside0.mk (blk_below (g := gb184) (o := .cells #[.slice Ao39 t181.length co39] 40 (0, 0)) (kq BK184) hb)) (kst hb); clear HO183 BK171 BK172 BK178 BK184 HB; obtain ⟨HO183, BK171, BK172, BK178, BK184, HB⟩ := n_)))
     go_ret; (exact ⟨by first | rfl | (simp [errW_none, errW_some] <;> rfl) | (simp [*, errW_none, errW_some] <;> rfl), bel⟩)

/-! ### grants_May: function 15 -/
def grants_May.f (k : Nat) (a0_0 : Int) (l0_1 : List (S71)) (a0_2 : Int) (l1_0 : List ByteArray) (l1_1 : List (S66)) (l2 : List (S43)) (a3 : ByteArray) (a4 : ByteArray) (a5 : Int) : Option (Bool) := (grants_world_may.f k a0_0 l0_1 a0_2 l1_0 l1_1 l2 a3 a4 a5 false).bind fun t188 => (some t188)
theorem grants_May.mono : ∀ a0 a1 a2 a3 a4 a5 a6 a7 a8 k, LeO (grants_May.f k a0 a1 a2 a3 a4 a5 a6 a7 a8) (grants_May.f (k + 1) a0 a1 a2 a3 a4 a5 a6 a7 a8) := by
 intro a0 a1 a2 a3 a4 a5 a6 a7 a8 k; unfold grants_May.f
 repeat' first
   | (with_reducible exact grants_world_may.mono _ _ _ _ _ _ _ _ _ _ _)
   | (with_reducible exact LeO.refl _)
   | (with_reducible exact LeO.none _)
   | (with_reducible refine LeO.ite ?_ ?_)
   | (with_reducible refine LeO.bind ?_ (fun _ => ?_))
   | exact grants_world_may.mono _ _ _ _ _ _ _ _ _ _ _
   | exact LeO.none _
   | refine LeO.ite ?_ ?_
   | refine LeO.bind ?_ (fun _ => ?_)
set_option maxHeartbeats 8000000 in
set_option maxRecDepth 100000 in
theorem grants_May.calls (k : Nat) (a0_0 : Int) (A0_1 : Option Addr) (c0_1 : Nat) (l0_1 : List (S71)) (a0_2 : Int) (A1_0 : Option Addr) (c1_0 : Nat) (l1_0 : List ByteArray) (A1_1 : Option Addr) (c1_1 : Nat) (l1_1 : List (S66)) (A2 : Option Addr) (c2 : Nat) (l2 : List (S43)) (a3 : ByteArray) (a4 : ByteArray) (a5 : Int) (r : Bool) (w : World) (hr0_1 : Kd.C k71 w A0_1 l0_1.length l0_1) (hc0_1 : l0_1.length ≤ c0_1) (hr1_0 : Kd.C Kd.string w A1_0 l1_0.length l1_0) (hc1_0 : l1_0.length ≤ c1_0) (hr1_1 : Kd.C k66 w A1_1 l1_1.length l1_1) (hc1_1 : l1_1.length ≤ c1_1) (hr2 : Kd.C k43 w A2 l2.length l2) (hc2 : l2.length ≤ c2) (h : grants_May.f k a0_0 l0_1 a0_2 l1_0 l1_1 l2 a3 a4 a5 = some r) (hG : TS l0_1 w) :
  Calls Try.prog 15 #[.agg #[.int .i64 a0_0, .slice A0_1 l0_1.length c0_1, tokV a0_2], .agg #[.slice A1_0 l1_0.length c1_0, .slice A1_1 l1_1.length c1_1], .slice A2 l2.length c2, .string a3, .string a4, .int .u8 a5] w fun e w' => e = .returned (.bool r) ∧ Below w.heap.size w w' := by
 have HG := Aside0.mk hG; clear hG; have hu36 := Try.underlying36; have hu38 := Try.underlying38; have hu74 := Try.underlying74; have HR0_1 := Aside0.mk hr0_1; have HC0_1 := Aside0.mk hc0_1; clear hr0_1 hc0_1; have HR1_0 := Aside0.mk hr1_0; have HC1_0 := Aside0.mk hc1_0; clear hr1_0 hc1_0; have HR1_1 := Aside0.mk hr1_1; have HC1_1 := Aside0.mk hc1_1; clear hr1_1 hc1_1; have HR2 := Aside0.mk hr2; have HC2 := Aside0.mk hc2; clear hr2 hc2; have HB := Aside0.mk (Below.refl w.heap.size w); (have H : ((grants_world_may.f k a0_0 l0_1 a0_2 l1_0 l1_1 l2 a3 a4 a5 false).bind fun t188 => (some t188)) = some r := h); clear h; replace H := Option.bind_eq_some_iff.mp H; obtain ⟨t188, A70, H⟩ := H; have A7 := Aside0.mk A70; clear A70; obtain rfl := Option.some.inj H; go_enter Try.func15, Try.ntmps15
 (go_wp2_with (first | ((with_reducible refine gate_dst (N := 6) rfl ?_); refine bx 6 #[.int .i64 a0_0, .slice A0_1 l0_1.length c0_1, tokV a0_2] 36 ?_; intro gb186 hg w8 hbox hb; have n_ := g4 (kst hb) (Aside0.mk (hbox)) (kge hg) (kge hg); clear HB hb hbox hg; obtain ⟨HB, BK186, GW186, GE186⟩ := n_) | ((with_reducible refine gate_dst (N := 7) rfl ?_); refine bx 7 #[.slice A1_0 l1_0.length c1_0, .slice A1_1 l1_1.length c1_1] 38 ?_; intro gb187 hg w9 hbox hb; have n_ := g7 (kb BK186 hb) (kst hb) (Aside0.mk (hbox)) (kge hg) (kge hg) (knl BK186 hg) (kng BK186 hg); clear BK186 HB hb hbox hg; obtain ⟨BK186, HB, BK187, GW187, GE187, NB186_187, NB187_186⟩ := n_; have hnb10 := NB186_187.out; have hnc10 := NB187_186.out; obtain ⟨⟨hcz11_0, hcz11_1, hcz11_2⟩, hfz11_0, hfz11_1, hfz11_2⟩ := ce3 BK186; obtain ⟨⟨hcz12_0, hcz12_1⟩, hfz12_0, hfz12_1⟩ := ce2 BK187) | ((with_reducible refine gate_callee (f := 28) rfl ?_); refine goesL_ (some 20) rfl rfl Try.func28 (by kernel_rfl) rfl #[.agg #[.int .i64 a0_0, .slice A0_1 l0_1.length c0_1, tokV a0_2, .slice A1_0 l1_0.length c1_0, .slice A1_1 l1_1.length c1_1, .slice A2 l2.length c2], .string a3, .string a4, .int .u8 a5, .func (.func (pn false)) #[] #[]] rfl (by (try simp only [List.map_toArray, List.map_cons, List.map_nil]); first | done | rfl | (simp only [List.length_drop, List.length_take]; rfl)) ?_; (with_reducible refine (grants_world_may.calls k a0_0 _ _ l0_1 a0_2 _ _ l1_0 _ _ l1_1 _ _ l2 a3 a4 a5 false t188 _ ?side1 ?side2 ?side3 ?side4 ?side5 ?side6 ?side7 ?side8 A7.out ?sideG).mono ?_); (case sideG => exact TS.keep HG.out bel); (case side1 => exact kc HR0_1); (case side2 => exact HC0_1.out); (case side3 => exact kc HR1_0); (case side4 => exact HC1_0.out); (case side5 => exact kc HR1_1); (case side6 => exact HC1_1.out); (case side7 => exact kc HR2); (case side8 => exact HC2.out); rintro e w13 ⟨rfl, hb⟩; refine ⟨_, rfl, ?_⟩; have n_ := g3 (kb BK186 hb) (kb BK187 hb) (kst hb); clear BK186 BK187 HB; obtain ⟨BK186, BK187, HB⟩ := n_)))
 go_ret; (exact ⟨by first | rfl | (simp [errW_none, errW_some] <;> rfl) | (simp [*, errW_none, errW_some] <;> rfl), bel⟩)

/-! ### grants_Pass: function 16 -/
def grants_Pass.f (k : Nat) (a0_0 : Int) (l0_1 : List (S71)) (a0_2 : Int) (l1_0 : List ByteArray) (l1_1 : List (S66)) (l2 : List (S43)) (a3 : ByteArray) (a4 : ByteArray) (a5 : Int) : Option (Bool) := (grants_world_may.f k a0_0 l0_1 a0_2 l1_0 l1_1 l2 a3 a4 a5 true).bind fun t191 => (some t191)
theorem grants_Pass.mono : ∀ a0 a1 a2 a3 a4 a5 a6 a7 a8 k, LeO (grants_Pass.f k a0 a1 a2 a3 a4 a5 a6 a7 a8) (grants_Pass.f (k + 1) a0 a1 a2 a3 a4 a5 a6 a7 a8) := by
 intro a0 a1 a2 a3 a4 a5 a6 a7 a8 k; unfold grants_Pass.f
 repeat' first
   | (with_reducible exact grants_world_may.mono _ _ _ _ _ _ _ _ _ _ _)
   | (with_reducible exact LeO.refl _)
   | (with_reducible exact LeO.none _)
   | (with_reducible refine LeO.ite ?_ ?_)
   | (with_reducible refine LeO.bind ?_ (fun _ => ?_))
   | exact grants_world_may.mono _ _ _ _ _ _ _ _ _ _ _
   | exact LeO.none _
   | refine LeO.ite ?_ ?_
   | refine LeO.bind ?_ (fun _ => ?_)
set_option maxHeartbeats 8000000 in
set_option maxRecDepth 100000 in
theorem grants_Pass.calls (k : Nat) (a0_0 : Int) (A0_1 : Option Addr) (c0_1 : Nat) (l0_1 : List (S71)) (a0_2 : Int) (A1_0 : Option Addr) (c1_0 : Nat) (l1_0 : List ByteArray) (A1_1 : Option Addr) (c1_1 : Nat) (l1_1 : List (S66)) (A2 : Option Addr) (c2 : Nat) (l2 : List (S43)) (a3 : ByteArray) (a4 : ByteArray) (a5 : Int) (r : Bool) (w : World) (hr0_1 : Kd.C k71 w A0_1 l0_1.length l0_1) (hc0_1 : l0_1.length ≤ c0_1) (hr1_0 : Kd.C Kd.string w A1_0 l1_0.length l1_0) (hc1_0 : l1_0.length ≤ c1_0) (hr1_1 : Kd.C k66 w A1_1 l1_1.length l1_1) (hc1_1 : l1_1.length ≤ c1_1) (hr2 : Kd.C k43 w A2 l2.length l2) (hc2 : l2.length ≤ c2) (h : grants_Pass.f k a0_0 l0_1 a0_2 l1_0 l1_1 l2 a3 a4 a5 = some r) (hG : TS l0_1 w) :
  Calls Try.prog 16 #[.agg #[.int .i64 a0_0, .slice A0_1 l0_1.length c0_1, tokV a0_2], .agg #[.slice A1_0 l1_0.length c1_0, .slice A1_1 l1_1.length c1_1], .slice A2 l2.length c2, .string a3, .string a4, .int .u8 a5] w fun e w' => e = .returned (.bool r) ∧ Below w.heap.size w w' := by
 have HG := Aside0.mk hG; clear hG; have hu36 := Try.underlying36; have hu38 := Try.underlying38; have hu74 := Try.underlying74; have HR0_1 := Aside0.mk hr0_1; have HC0_1 := Aside0.mk hc0_1; clear hr0_1 hc0_1; have HR1_0 := Aside0.mk hr1_0; have HC1_0 := Aside0.mk hc1_0; clear hr1_0 hc1_0; have HR1_1 := Aside0.mk hr1_1; have HC1_1 := Aside0.mk hc1_1; clear hr1_1 hc1_1; have HR2 := Aside0.mk hr2; have HC2 := Aside0.mk hc2; clear hr2 hc2; have HB := Aside0.mk (Below.refl w.heap.size w); (have H : ((grants_world_may.f k a0_0 l0_1 a0_2 l1_0 l1_1 l2 a3 a4 a5 true).bind fun t191 => (some t191)) = some r := h); clear h; replace H := Option.bind_eq_some_iff.mp H; obtain ⟨t191, A70, H⟩ := H; have A7 := Aside0.mk A70; clear A70; obtain rfl := Option.some.inj H; go_enter Try.func16, Try.ntmps16
 (go_wp2_with (first | ((with_reducible refine gate_dst (N := 6) rfl ?_); refine bx 6 #[.int .i64 a0_0, .slice A0_1 l0_1.length c0_1, tokV a0_2] 36 ?_; intro gb189 hg w8 hbox hb; have n_ := g4 (kst hb) (Aside0.mk (hbox)) (kge hg) (kge hg); clear HB hb hbox hg; obtain ⟨HB, BK189, GW189, GE189⟩ := n_) | ((with_reducible refine gate_dst (N := 7) rfl ?_); refine bx 7 #[.slice A1_0 l1_0.length c1_0, .slice A1_1 l1_1.length c1_1] 38 ?_; intro gb190 hg w9 hbox hb; have n_ := g7 (kb BK189 hb) (kst hb) (Aside0.mk (hbox)) (kge hg) (kge hg) (knl BK189 hg) (kng BK189 hg); clear BK189 HB hb hbox hg; obtain ⟨BK189, HB, BK190, GW190, GE190, NB189_190, NB190_189⟩ := n_; have hnb10 := NB189_190.out; have hnc10 := NB190_189.out; obtain ⟨⟨hcz11_0, hcz11_1, hcz11_2⟩, hfz11_0, hfz11_1, hfz11_2⟩ := ce3 BK189; obtain ⟨⟨hcz12_0, hcz12_1⟩, hfz12_0, hfz12_1⟩ := ce2 BK190) | ((with_reducible refine gate_callee (f := 28) rfl ?_); refine goesL_ (some 20) rfl rfl Try.func28 (by kernel_rfl) rfl #[.agg #[.int .i64 a0_0, .slice A0_1 l0_1.length c0_1, tokV a0_2, .slice A1_0 l1_0.length c1_0, .slice A1_1 l1_1.length c1_1, .slice A2 l2.length c2], .string a3, .string a4, .int .u8 a5, .func (.func (pn true)) #[] #[]] rfl (by (try simp only [List.map_toArray, List.map_cons, List.map_nil]); first | done | rfl | (simp only [List.length_drop, List.length_take]; rfl)) ?_; (with_reducible refine (grants_world_may.calls k a0_0 _ _ l0_1 a0_2 _ _ l1_0 _ _ l1_1 _ _ l2 a3 a4 a5 true t191 _ ?side1 ?side2 ?side3 ?side4 ?side5 ?side6 ?side7 ?side8 A7.out ?sideG).mono ?_); (case sideG => exact TS.keep HG.out bel); (case side1 => exact kc HR0_1); (case side2 => exact HC0_1.out); (case side3 => exact kc HR1_0); (case side4 => exact HC1_0.out); (case side5 => exact kc HR1_1); (case side6 => exact HC1_1.out); (case side7 => exact kc HR2); (case side8 => exact HC2.out); rintro e w13 ⟨rfl, hb⟩; refine ⟨_, rfl, ?_⟩; have n_ := g3 (kb BK189 hb) (kb BK190 hb) (kst hb); clear BK189 BK190 HB; obtain ⟨BK189, BK190, HB⟩ := n_)))
 go_ret; (exact ⟨by first | rfl | (simp [errW_none, errW_some] <;> rfl) | (simp [*, errW_none, errW_some] <;> rfl), bel⟩)

/-! ### api_Grant_46: function 46 -/
def api_Grant_46.l0 : Nat → List (S43) → Int → Int → ByteArray → ByteArray → ByteArray → Int → Bool → Option (Int)
 | 0, _, _, _, _, _, _, _, _ => none
 | k + 1, x0, x7, x8, x193000, x193001, x193002, x193003, x193004 => if x8 < x7 then (if 0 ≤ x8 then (if x8 < (x0.length : Int) then (if (x193000.toList == (((rd_T43 x0 x8).f0).toList) && (x193001.toList == (((rd_T43 x0 x8).f1).toList) && (x193002.toList == (((rd_T43 x0 x8).f2).toList) && (x193003 == ((rd_T43 x0 x8).f3) && (x193004 == ((rd_T43 x0 x8).f4)))))) = true then (some x8) else (api_Grant_46.l0 k x0 x7 (wrap64 (x8 + 1)) x193000 x193001 x193002 x193003 x193004)) else (none)) else (none)) else (some (-1))
def api_Grant_46.f (k : Nat) (l0 : List (S43)) (a1_0 : ByteArray) (a1_1 : ByteArray) (a1_2 : ByteArray) (a1_3 : Int) (a1_4 : Bool) : Option (Int) := api_Grant_46.l0 k l0 (l0.length : Int) 0 a1_0 a1_1 a1_2 a1_3 a1_4
theorem api_Grant_46.mono_l : ∀ k, (∀ y0 y1 y2 y3 y4 y5 y6 y7, LeO (api_Grant_46.l0 k y0 y1 y2 y3 y4 y5 y6 y7) (api_Grant_46.l0 (k + 1) y0 y1 y2 y3 y4 y5 y6 y7))
 | 0 => fun _ _ _ _ _ _ _ _ r h => by simp [api_Grant_46.l0] at h
 | k + 1 => by
  have ih0 := api_Grant_46.mono_l k
  ·intro y0 y1 y2 y3 y4 y5 y6 y7
   unfold api_Grant_46.l0
   exact leo
theorem api_Grant_46.mono : ∀ a0 a1 a2 a3 a4 a5 k, LeO (api_Grant_46.f k a0 a1 a2 a3 a4 a5) (api_Grant_46.f (k + 1) a0 a1 a2 a3 a4 a5) := by
 intro a0 a1 a2 a3 a4 a5 k; have ih0 := api_Grant_46.mono_l k; unfold api_Grant_46.f; exact leo
set_option maxHeartbeats 8000000 in
set_option maxRecDepth 100000 in
theorem api_Grant_46.calls (k : Nat) (A0 : Option Addr) (c0 : Nat) (l0 : List (S43)) (a1_0 : ByteArray) (a1_1 : ByteArray) (a1_2 : ByteArray) (a1_3 : Int) (a1_4 : Bool) (r : Int) (w : World) (hr0 : Kd.C k43 w A0 l0.length l0) (hc0 : l0.length ≤ c0) (h : api_Grant_46.f k l0 a1_0 a1_1 a1_2 a1_3 a1_4 = some r) :
  Calls Try.prog 46 #[.slice A0 l0.length c0, .agg #[.string a1_0, .string a1_1, .string a1_2, .int .u8 a1_3, .bool a1_4]] w fun e w' => e = .returned (.int .i64 r) ∧ Below w.heap.size w w' := by
 have hu43 := Try.underlying43; have HR0 := Aside0.mk hr0; have HC0 := Aside0.mk hc0; clear hr0 hc0; have HB := Aside0.mk (Below.refl w.heap.size w); have H : (api_Grant_46.l0 k l0 (l0.length : Int) 0 a1_0 a1_1 a1_2 a1_3 a1_4) = some r := h; clear h; have H' := Aside0.mk H; clear H; go_enter Try.func46, Try.ntmps46; go_wp2_with (first | ((with_reducible refine gate_dst (N := 3) rfl ?_); refine bx 3 #[.string a1_0, .string a1_1, .string a1_2, .int .u8 a1_3, .bool a1_4] 43 ?_; intro gb192 hg w3 hbox hb; have n_ := g4 (kst hb) (Aside0.mk (hbox)) (kge hg) (kge hg); clear HB hb hbox hg; obtain ⟨HB, BK192, GW192, GE192⟩ := n_)); (repeat (go_quiet (first | ((with_reducible refine gate_dst (N := 3) rfl ?_); refine bx 3 #[.string a1_0, .string a1_1, .string a1_2, .int .u8 a1_3, .bool a1_4] 43 ?_; intro gb192 hg w3 hbox hb; have n_ := g4 (kst hb) (Aside0.mk (hbox)) (kge hg) (kge hg); clear HB hb hbox hg; obtain ⟨HB, BK192, GW192, GE192⟩ := n_)); try go_wp2_with (first | ((with_reducible refine gate_dst (N := 3) rfl ?_); refine bx 3 #[.string a1_0, .string a1_1, .string a1_2, .int .u8 a1_3, .bool a1_4] 43 ?_; intro gb192 hg w3 hbox hb; have n_ := g4 (kst hb) (Aside0.mk (hbox)) (kge hg) (kge hg); clear HB hb hbox hg; obtain ⟨HB, BK192, GW192, GE192⟩ := n_)))); (go_loopg [8] k (fun kq v8 w' => ∃ (x8_1 : Int), v8 = .int .i64 x8_1 ∧ Aside0 (api_Grant_46.l0 kq l0 (l0.length : Int) x8_1 a1_0 a1_1 a1_2 a1_3 a1_4 = some r) ∧ Aside0 (kq ≤ k) ∧ Aside0 (w'.heap[gb192]? = some (.cells #[.string a1_0, .string a1_1, .string a1_2, .int .u8 a1_3, .bool a1_4] 43 (0, 0))) ∧ Aside0 (Below w.heap.size w w')))
 case atStart => exact ⟨(0), (by first | rfl | (simp; done) | (simp [*]; done)), H', ⟨Nat.le_refl _⟩, kb0 BK192, ⟨bel⟩⟩
 case round =>
  clear H'; obtain ⟨x8_1, rfl, HA, HK1, BK192, HB⟩ := hrel
  cases gk with
  | zero => exact absurd HA.out (by simp [api_Grant_46.l0])
  | succ k1 =>
   have H := HA.out; clear HA; simp only [api_Grant_46.l0] at H; by_cases c4 : x8_1 < (l0.length : Int)
   ·rw [if_pos c4] at H
    have c4b0 := decide_eq_true c4; clear c4; by_cases c5 : 0 ≤ x8_1
    ·rw [if_pos c5] at H
     have c5b0 := decide_eq_true c5; clear c5; by_cases c6 : x8_1 < (l0.length : Int)
     ·rw [if_pos c6] at H
      have c6b0 := decide_eq_true c6; clear c6; by_cases c7 : (a1_0.toList == (((rd_T43 l0 x8_1).f0).toList) && (a1_1.toList == (((rd_T43 l0 x8_1).f1).toList) && (a1_2.toList == (((rd_T43 l0 x8_1).f2).toList) && (a1_3 == ((rd_T43 l0 x8_1).f3) && (a1_4 == ((rd_T43 l0 x8_1).f4)))))) = true
      ·rw [if_pos c7] at H
       have c7b0 : (a1_0.toList == (((rd_T43 l0 x8_1).f0).toList) && (a1_1.toList == (((rd_T43 l0 x8_1).f1).toList) && (a1_2.toList == (((rd_T43 l0 x8_1).f2).toList) && (a1_3 == ((rd_T43 l0 x8_1).f3) && (a1_4 == ((rd_T43 l0 x8_1).f4)))))) = true := c7; (try (have c7b1 : decide (a1_0.toList = (((rd_T43 l0 x8_1).f0).toList) && (a1_1.toList == (((rd_T43 l0 x8_1).f1).toList) && (a1_2.toList == (((rd_T43 l0 x8_1).f2).toList) && (a1_3 == ((rd_T43 l0 x8_1).f3) && (a1_4 == ((rd_T43 l0 x8_1).f4)))))) = true := by simpa using c7)); (try (have c7b2 : (a1_0.toList == (((rd_T43 l0 x8_1).f0).toList) && (a1_1.toList == (((rd_T43 l0 x8_1).f1).toList) && (a1_2.toList == (((rd_T43 l0 x8_1).f2).toList) && (a1_3 == ((rd_T43 l0 x8_1).f3) && (a1_4 == ((rd_T43 l0 x8_1).f4)))))) = true := by simpa using c7)); clear c7; obtain rfl := Option.some.inj H; obtain ⟨⟨hcz8_0, hcz8_1, hcz8_2, hcz8_3, hcz8_4⟩, hfz8_0, hfz8_1, hfz8_2, hfz8_3, hfz8_4⟩ := ce5 BK192; have p193 : 0 ≤ (x8_1 : Int) := dt; have q193 : x8_1 < (l0.length : Int) := dt; obtain ⟨ad193, e193, hx193_0, hx193_1, hx193_2, hx193_3, hx193_4⟩ := at_T43 HR0.out x8_1 p193 q193; cases e193; replace hx193_0 := kx hx193_0; replace hx193_1 := kx hx193_1; replace hx193_2 := kx hx193_2; replace hx193_3 := kx hx193_3; replace hx193_4 := kx hx193_4; replace p193 := eq_true p193; replace q193 := eq_true q193; go_wp2; (repeat (go_quiet (fail); try go_wp2)); go_ret; (exact ⟨by first | rfl | (simp [errW_none, errW_some] <;> rfl) | (simp [*, errW_none, errW_some] <;> rfl), bel⟩)
      ·rw [if_neg c7] at H
       (have c7b0 : (a1_0.toList == (((rd_T43 l0 x8_1).f0).toList) && (a1_1.toList == (((rd_T43 l0 x8_1).f1).toList) && (a1_2.toList == (((rd_T43 l0 x8_1).f2).toList) && (a1_3 == ((rd_T43 l0 x8_1).f3) && (a1_4 == ((rd_T43 l0 x8_1).f4)))))) = false := by simpa using c7); (try (have c7b1 : decide (a1_0.toList = (((rd_T43 l0 x8_1).f0).toList) && (a1_1.toList == (((rd_T43 l0 x8_1).f1).toList) && (a1_2.toList == (((rd_T43 l0 x8_1).f2).toList) && (a1_3 == ((rd_T43 l0 x8_1).f3) && (a1_4 == ((rd_T43 l0 x8_1).f4)))))) = false := by simpa using c7)); (try (have c7b2 : (a1_0.toList == (((rd_T43 l0 x8_1).f0).toList) && (a1_1.toList == (((rd_T43 l0 x8_1).f1).toList) && (a1_2.toList == (((rd_T43 l0 x8_1).f2).toList) && (a1_3 == ((rd_T43 l0 x8_1).f3) && (a1_4 == ((rd_T43 l0 x8_1).f4)))))) = false := by simpa using c7)); (try (have c7b3 : ¬ (a1_0.toList = (((rd_T43 l0 x8_1).f0).toList) && (a1_1.toList == (((rd_T43 l0 x8_1).f1).toList) && (a1_2.toList == (((rd_T43 l0 x8_1).f2).toList) && (a1_3 == ((rd_T43 l0 x8_1).f3) && (a1_4 == ((rd_T43 l0 x8_1).f4)))))) := by simpa using c7)); clear c7; have H' := Aside0.mk H; clear H; obtain ⟨⟨hcz9_0, hcz9_1, hcz9_2, hcz9_3, hcz9_4⟩, hfz9_0, hfz9_1, hfz9_2, hfz9_3, hfz9_4⟩ := ce5 BK192; have p193 : 0 ≤ (x8_1 : Int) := dt; have q193 : x8_1 < (l0.length : Int) := dt; obtain ⟨ad193, e193, hx193_0, hx193_1, hx193_2, hx193_3, hx193_4⟩ := at_T43 HR0.out x8_1 p193 q193; cases e193; replace hx193_0 := kx hx193_0; replace hx193_1 := kx hx193_1; replace hx193_2 := kx hx193_2; replace hx193_3 := kx hx193_3; replace hx193_4 := kx hx193_4; replace p193 := eq_true p193; replace q193 := eq_true q193; go_wp2; (repeat (go_quiet (fail); try go_wp2)); go_roundg k1
       case measure => have := HK1.out; omega
       case rel => exact ⟨(wrap64 (x8_1 + 1)), (by first | rfl | (simp; done) | (simp [*]; done)), H', ⟨by have := HK1.out; omega⟩, kb0 BK192, ⟨bel⟩⟩
     ·rw [if_neg c6] at H
      exact absurd H (by simp)
    ·rw [if_neg c5] at H
     exact absurd H (by simp)
   ·rw [if_neg c4] at H
    have c4b0 := decide_eq_false c4; clear c4; obtain rfl := Option.some.inj H; go_wp2; (repeat (go_quiet (fail); try go_wp2)); go_ret; (exact ⟨by first | rfl | (simp [errW_none, errW_some] <;> rfl) | (simp [*, errW_none, errW_some] <;> rfl), bel⟩)

/-! ### api_Grant_34: function 34 -/
def api_Grant_34.f (k : Nat) (l0 : List (S43)) (a1_0 : ByteArray) (a1_1 : ByteArray) (a1_2 : ByteArray) (a1_3 : Int) (a1_4 : Bool) : Option (Bool) := (api_Grant_46.f k l0 a1_0 a1_1 a1_2 a1_3 a1_4).bind fun t195 => (some (decide (t195 ≥ 0)))
theorem api_Grant_34.mono : ∀ a0 a1 a2 a3 a4 a5 k, LeO (api_Grant_34.f k a0 a1 a2 a3 a4 a5) (api_Grant_34.f (k + 1) a0 a1 a2 a3 a4 a5) := by
 intro a0 a1 a2 a3 a4 a5 k; unfold api_Grant_34.f
 repeat' first
   | (with_reducible exact api_Grant_46.mono _ _ _ _ _ _ _)
   | (with_reducible exact LeO.refl _)
   | (with_reducible exact LeO.none _)
   | (with_reducible refine LeO.ite ?_ ?_)
   | (with_reducible refine LeO.bind ?_ (fun _ => ?_))
   | exact api_Grant_46.mono _ _ _ _ _ _ _
   | exact LeO.none _
   | refine LeO.ite ?_ ?_
   | refine LeO.bind ?_ (fun _ => ?_)
set_option maxHeartbeats 8000000 in
set_option maxRecDepth 100000 in
theorem api_Grant_34.calls (k : Nat) (A0 : Option Addr) (c0 : Nat) (l0 : List (S43)) (a1_0 : ByteArray) (a1_1 : ByteArray) (a1_2 : ByteArray) (a1_3 : Int) (a1_4 : Bool) (r : Bool) (w : World) (hr0 : Kd.C k43 w A0 l0.length l0) (hc0 : l0.length ≤ c0) (h : api_Grant_34.f k l0 a1_0 a1_1 a1_2 a1_3 a1_4 = some r) :
  Calls Try.prog 34 #[.slice A0 l0.length c0, .agg #[.string a1_0, .string a1_1, .string a1_2, .int .u8 a1_3, .bool a1_4]] w fun e w' => e = .returned (.bool r) ∧ Below w.heap.size w w' := by
 have hu43 := Try.underlying43; have HR0 := Aside0.mk hr0; have HC0 := Aside0.mk hc0; clear hr0 hc0; have HB := Aside0.mk (Below.refl w.heap.size w); (have H : ((api_Grant_46.f k l0 a1_0 a1_1 a1_2 a1_3 a1_4).bind fun t195 => (some (decide (t195 ≥ 0)))) = some r := h); clear h; replace H := Option.bind_eq_some_iff.mp H; obtain ⟨t195, A30, H⟩ := H; have A3 := Aside0.mk A30; clear A30; obtain rfl := Option.some.inj H; go_enter Try.func34, Try.ntmps34; (go_wp2_with (first | ((with_reducible refine gate_dst (N := 3) rfl ?_); refine bx 3 #[.string a1_0, .string a1_1, .string a1_2, .int .u8 a1_3, .bool a1_4] 43 ?_; intro gb194 hg w4 hbox hb; have n_ := g4 (kst hb) (Aside0.mk (hbox)) (kge hg) (kge hg); clear HB hb hbox hg; obtain ⟨HB, BK194, GW194, GE194⟩ := n_; obtain ⟨⟨hcz5_0, hcz5_1, hcz5_2, hcz5_3, hcz5_4⟩, hfz5_0, hfz5_1, hfz5_2, hfz5_3, hfz5_4⟩ := ce5 BK194) | ((with_reducible refine gate_callee (f := 46) rfl ?_); refine goesL_ (some 7) rfl rfl Try.func46 (by kernel_rfl) rfl #[.slice A0 l0.length c0, .agg #[.string a1_0, .string a1_1, .string a1_2, .int .u8 a1_3, .bool a1_4]] rfl (by (try simp only [List.map_toArray, List.map_cons, List.map_nil]); first | done | rfl | (simp only [List.length_drop, List.length_take]; rfl)) ?_; (with_reducible refine (api_Grant_46.calls k _ _ l0 a1_0 a1_1 a1_2 a1_3 a1_4 t195 _ ?side1 ?side2 A3.out).mono ?_); (case side1 => exact kc HR0); (case side2 => exact HC0.out); rintro e w6 ⟨rfl, hb⟩; refine ⟨_, rfl, ?_⟩; have n_ := g2 (kb BK194 hb) (kst hb); clear BK194 HB; obtain ⟨BK194, HB⟩ := n_))); go_ret; (exact ⟨by first | rfl | (simp [errW_none, errW_some] <;> rfl) | (simp [*, errW_none, errW_some] <;> rfl), bel⟩)

/-! ### api_Grant_35: function 35: by hand -/
def api_Grant_35.f (l0 : List (S43)) : Option ((List (S43))) := if l0.length < 2513169434916 then some l0 else none
set_option maxHeartbeats 8000000 in
set_option maxRecDepth 100000 in
theorem api_Grant_35.calls (A0 : Option Addr) (c0 : Nat) (l0 : List (S43)) (r : List (S43)) (w : World) (hr0 : Kd.C k43 w A0 l0.length l0) (hc0 : l0.length ≤ c0) (h : api_Grant_35.f l0 = some r) :
  Calls Try.prog 35 #[.slice A0 l0.length c0] w fun e w' => ∃ v0_ : Value, e = .returned (v0_) ∧ Kd.R k43 43 w' w.heap.size (fun _ => True) v0_ r ∧ Below w.heap.size w w' := by
 unfold api_Grant_35.f at h; by_cases c2 : l0.length < 2513169434916
 ·rw [if_pos c2] at h
  obtain rfl := Option.some.inj h; clear h
  cases A0 with
  | none =>
   have hn : l0.length = 0 := by
    rcases Nat.eq_zero_or_pos l0.length with hz | hp
    ·exact hz
    ·obtain ⟨ad, he, _⟩ := hr0.2.2 hp
     cases he
   obtain rfl : l0 = [] := List.length_eq_zero_iff.1 hn; (have hq := fun W : World => Lib.run_eql_slice_nil (P := Try.prog) W 30 43 none 0 c0 0 0 Try.underlying30); clear hr0 hc0; go_enter Try.func35, Try.ntmps35; go_wp2; go_ret
   exact ⟨_, rfl, Kd.R_nil _ _ _ _ _, Below.refl _ _⟩
  | some ad =>
   have HR0 := Aside0.mk hr0; have HC0 := Aside0.mk hc0; clear hr0 hc0; have HB := Aside0.mk (Below.refl w.heap.size w); obtain ⟨y113, hy113⟩ : ∃ y_ : List (S43), y_ = (([] : List (S43))) := ⟨_, rfl⟩; have Ny113 := Aside0.mk hy113; (have c3 : y113.length + l0.length < 2513169434916 := by rw [hy113]; simpa using c2); have LMc2 := Aside0.mk c3; clear c2 c3; obtain ⟨y116, hy116⟩ : ∃ y_ : List (S43), y_ = (y113 ++ l0) := ⟨_, rfl⟩; (have HL := Aside0.mk (show y116 = l0 by rw [hy116, hy113]; rfl)); have Ny116 := Aside0.mk hy116; clear hy113 hy116; (have hq := fun W : World => Lib.run_eql_slice_nil (P := Try.prog) W 30 43 (some ad) l0.length c0 0 0 Try.underlying30); go_enter Try.func35, Try.ntmps35
   (go_wp2_with (first | ((with_reducible refine gate_dst (N := 5) rfl ?_); refine Kd.R_lit k43 _ 43 ?hg (N := 5) ?hd (xs := ([] : List (S43))) (inner := []) (ok := fun _ => True) (okp := fun _ => True) ?hr ?hp (fun _ hk => hk) trivial (Below.refl _ _) (Nat.le_refl _) (by simp) ?_; (case hd => rfl); (case hg => rfl); (case hr => first | (go_simp; done) | (go_simp; rfl)); (case hp => exact (Reps.none _ _)); intro v114 w3 ho4 hb hg_ hnew_; clear hg_ hnew_; (first | rw [← Ny113.out] at ho4 | (simp only [Int.reduceToNat] at ho4; rw [← Ny113.out] at ho4)); have n_ := g2 (Aside0.mk (Kd.R_lower ho4 (below_size bel))) (kst hb); clear HB hb ho4; obtain ⟨HO115, HB⟩ := n_) | ((with_reducible refine gate_builtin (b := .append) (xs := #[.tmp 5, .tmp 6]) rfl ?_); at_builtin; refine Kd.R_append_rows k43 (w0 := w) w.heap.size rfl (.tmp 5) (.tmp 6) 30 43 (.agg #[(.string ⟨#[]⟩), (.string ⟨#[]⟩), (.string ⟨#[]⟩), (.int .u8 0), (.bool false)]) 56 rfl Try.underlying30 info43 rfl (by decide) (by omega) v114 y113 l0 _ _ _ (fun _ => True) (fun _ => False) rfl rfl ?aO ?aR (fun _ _ h => h) (fun _ h => h.elim) ?aF ?aB ?aS ?aL ?_; (case aR => exact kc HR0); (case aB => exact bel); (case aF => exact (fun _ _ => trivial)); (case aO => exact (ko HO115)); (case aS => exact (below_size bel)); (case aL => have := LMc2.out; omega); intro v117 w5 ho hb hg hat; rw [← Ny116.out] at ho; have n_ := g2 (Aside0.mk (hb)) (Aside0.mk (ho)); clear HB HO115 ho hb hg hat; obtain ⟨HB, HO118⟩ := n_))); go_ret; exact ⟨_, rfl, HL.out ▸ HO118.out, HB.out⟩
 ·rw [if_neg c2] at h
  exact absurd h (by simp)

end Go.Proofs.Yteklimdjlihloaa.G
