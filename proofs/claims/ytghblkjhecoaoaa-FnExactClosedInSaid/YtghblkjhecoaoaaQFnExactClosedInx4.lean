-- Written by a program of this session (wip/mk.py) over the kit's print: Lean checks it.
import Derived.Test.YtghblkjhecoaoaaQFnExactClosedInx0
import Derived.Test.YtghblkjhecoaoaaQFnExactClosedInx3
namespace Go.Proofs.Ytghblkjhecoaoaa.QFnExactClosedIn
open Go.RowKit Go.Proofs.YtghblkjhecoaoaaW.PrintWords Go.Proofs.YtghblkjhecoaoaaW.PrintLast Go.Proofs.YtghblkjhecoaoaaW.PrintMore
attribute [local go_sem] max2_int min2_int max_two min_two max_three min_three max_four min_four   -- for this text's walks alone
set_option linter.unusedVariables false
set_option linter.unusedSimpArgs false

/-! ### impl_rise: function 97 -/
def impl_rise.l0 : Nat → List Int → Int → Option (Bool)
  | 0, _, _ => none
  | k + 1, x0, x3 => if x3 < (x0.length : Int) then (if 0 ≤ x3 then (if 0 ≤ (wrap64 (x3 - 1)) then (if (wrap64 (x3 - 1)) < (x0.length : Int) then (if (rd x0 x3) ≤ (rd x0 (wrap64 (x3 - 1))) then (some false) else (impl_rise.l0 k x0 (wrap64 (x3 + 1)))) else (none)) else (none)) else (none)) else (some true)
def impl_rise.f (k : Nat) (l0 : List Int) : Option (Bool) := impl_rise.l0 k l0 1
theorem impl_rise.mono_l : ∀ k, (∀ y0 y1, LeO (impl_rise.l0 k y0 y1) (impl_rise.l0 (k + 1) y0 y1))
  | 0 => fun _ _ r h => by simp [impl_rise.l0] at h
  | k + 1 => by
    have ih0 := impl_rise.mono_l k
    · intro y0 y1
      unfold impl_rise.l0
      repeat' first
      | (with_reducible exact ih0 _ _)
      | (with_reducible exact LeO.refl _)
      | (with_reducible exact LeO.none _)
      | (with_reducible refine LeO.ite ?_ ?_)
      | (with_reducible refine LeO.bind ?_ (fun _ => ?_))
      | exact ih0 _ _
      | exact LeO.none _
      | refine LeO.ite ?_ ?_
      | refine LeO.bind ?_ (fun _ => ?_)
theorem impl_rise.mono : ∀ a0 k, LeO (impl_rise.f k a0) (impl_rise.f (k + 1) a0) := by
  intro a0 k
  have ih0 := impl_rise.mono_l k
  unfold impl_rise.f
  repeat' first
      | (with_reducible exact ih0 _ _)
      | (with_reducible exact LeO.refl _)
      | (with_reducible exact LeO.none _)
      | (with_reducible refine LeO.ite ?_ ?_)
      | (with_reducible refine LeO.bind ?_ (fun _ => ?_))
      | exact ih0 _ _
      | exact LeO.none _
      | refine LeO.ite ?_ ?_
      | refine LeO.bind ?_ (fun _ => ?_)
set_option maxHeartbeats 8000000 in
set_option maxRecDepth 100000 in
theorem impl_rise.calls (k : Nat) (A0 : Option Addr) (c0 : Nat) (l0 : List Int) (r : Bool) (w : World) (hr0 : Kd.C (Kd.int .i64) w A0 l0.length l0) (hc0 : l0.length ≤ c0) (h : impl_rise.f k l0 = some r) :
    Calls Try.prog 97 #[.slice A0 l0.length c0] w fun e w' => e = .returned (.bool r) ∧ Drawn0 w w' := by
  have HR0 := Aside0.mk hr0
  have HC0 := Aside0.mk hc0
  clear hr0 hc0
  have H : (impl_rise.l0 k l0 1) = some r := h
  clear h
  have H' := Aside0.mk H
  clear H
  go_enter Try.func97, Try.ntmps97
  go_wp2
  repeat (go_quiet (fail); try go_wp2)
  go_loopg [3] k (fun kq v3 w' => ∃ (x3_1 : Int), v3 = .int .i64 x3_1 ∧ Aside0 (impl_rise.l0 kq l0 x3_1 = some r) ∧ Aside0 (kq ≤ k) ∧ Drawn0 w w')
  case atStart => exact ⟨(1), (by first | rfl | (simp; done) | (simp [*]; done)), H', ⟨Nat.le_refl _⟩, by repeat (first | exact Drawn0.refl _ | apply Drawn0.step)⟩
  case round =>
    clear H'
    obtain ⟨x3_1, rfl, HA, HK1, ⟨m1, rfl⟩⟩ := hrel
    cases gk with
    | zero => exact absurd HA.out (by simp [impl_rise.l0])
    | succ k1 =>
      have H := HA.out
      clear HA
      simp only [impl_rise.l0] at H
      by_cases c2 : x3_1 < (l0.length : Int)
      · rw [if_pos c2] at H
        have c2b0 : decide (x3_1 < (l0.length : Int)) = true := decide_eq_true c2
        clear c2
        by_cases c3 : 0 ≤ x3_1
        · rw [if_pos c3] at H
          have c3b0 : decide (0 ≤ x3_1) = true := decide_eq_true c3
          clear c3
          obtain ⟨ji4, hji4⟩ : ∃ j_ : Int, (wrap64 (x3_1 - 1)) = j_ := ⟨_, rfl⟩
          replace H : (if 0 ≤ (ji4) then (if (ji4) < (l0.length : Int) then (if (rd l0 x3_1) ≤ (rd l0 (ji4)) then (some false) else (impl_rise.l0 k1 l0 (wrap64 (x3_1 + 1)))) else (none)) else (none)) = some r := by first | (rw [hji4] at H; exact H) | (simp only [hji4] at H ⊢; exact H)
          have hji4w : (IntKind.i64.wrap (x3_1 - 1)) = ji4 := (i64_w _).trans hji4
          by_cases c5 : 0 ≤ (ji4)
          · rw [if_pos c5] at H
            have c5b0 : decide (0 ≤ (ji4)) = true := decide_eq_true c5
            clear c5
            by_cases c6 : (ji4) < (l0.length : Int)
            · rw [if_pos c6] at H
              have c6b0 : decide ((ji4) < (l0.length : Int)) = true := decide_eq_true c6
              clear c6
              by_cases c7 : (rd l0 x3_1) ≤ (rd l0 (ji4))
              · rw [if_pos c7] at H
                have c7b0 : decide ((rd l0 x3_1) ≤ (rd l0 (ji4))) = true := decide_eq_true c7
                clear c7
                obtain rfl := Option.some.inj H
                have p198 : 0 ≤ (x3_1 : Int) := of_decide_eq_true (by first | (with_reducible assumption) | assumption)
                have q198 : x3_1 < (l0.length : Int) := of_decide_eq_true (by first | (with_reducible assumption) | assumption)
                obtain ⟨ad198, e198, hx198_0⟩ := Kd.at_int HR0.out x3_1 p198 q198
                cases e198
                replace p198 := eq_true p198
                replace q198 := eq_true q198
                have p199 : 0 ≤ ((ji4) : Int) := of_decide_eq_true (by first | (with_reducible assumption) | assumption)
                have q199 : (ji4) < (l0.length : Int) := of_decide_eq_true (by first | (with_reducible assumption) | assumption)
                obtain ⟨ad199, e199, hx199_0⟩ := Kd.at_int HR0.out (ji4) p199 q199
                obtain rfl : ad198 = ad199 := (by injection e199)
                replace p199 := eq_true p199
                replace q199 := eq_true q199
                go_wp2
                repeat (go_quiet (fail); try go_wp2)
                go_ret
                exact ⟨by first | rfl | (simp; done) | (simp only [← hji4] <;> (first | rfl | simp)) | (simp [*]; done), by repeat (first | exact Drawn0.refl _ | apply Drawn0.step)⟩
              · rw [if_neg c7] at H
                have c7b0 : decide ((rd l0 x3_1) ≤ (rd l0 (ji4))) = false := decide_eq_false c7
                clear c7
                have H' := Aside0.mk H
                clear H
                have p198 : 0 ≤ (x3_1 : Int) := of_decide_eq_true (by first | (with_reducible assumption) | assumption)
                have q198 : x3_1 < (l0.length : Int) := of_decide_eq_true (by first | (with_reducible assumption) | assumption)
                obtain ⟨ad198, e198, hx198_0⟩ := Kd.at_int HR0.out x3_1 p198 q198
                cases e198
                replace p198 := eq_true p198
                replace q198 := eq_true q198
                have p199 : 0 ≤ ((ji4) : Int) := of_decide_eq_true (by first | (with_reducible assumption) | assumption)
                have q199 : (ji4) < (l0.length : Int) := of_decide_eq_true (by first | (with_reducible assumption) | assumption)
                obtain ⟨ad199, e199, hx199_0⟩ := Kd.at_int HR0.out (ji4) p199 q199
                obtain rfl : ad198 = ad199 := (by injection e199)
                replace p199 := eq_true p199
                replace q199 := eq_true q199
                go_wp2
                repeat (go_quiet (fail); try go_wp2)
                go_roundg k1
                case measure => have := HK1.out; omega
                case rel => exact ⟨(wrap64 (x3_1 + 1)), (by first | rfl | (simp; done) | (simp [*]; done)), H', ⟨by have := HK1.out; omega⟩, by repeat (first | exact Drawn0.refl _ | apply Drawn0.step)⟩
            · rw [if_neg c6] at H
              exact absurd H (by simp)
          · rw [if_neg c5] at H
            exact absurd H (by simp)
        · rw [if_neg c3] at H
          exact absurd H (by simp)
      · rw [if_neg c2] at H
        have c2b0 : decide (x3_1 < (l0.length : Int)) = false := decide_eq_false c2
        clear c2
        obtain rfl := Option.some.inj H
        go_wp2
        repeat (go_quiet (fail); try go_wp2)
        go_ret
        exact ⟨by first | rfl | (simp; done) | (simp [*]; done), by repeat (first | exact Drawn0.refl _ | apply Drawn0.step)⟩

/-! ### impl_areMembers: function 58 -/
theorem within_f_58 (a b c : Int) : impl_within.f a b c = some (Mine.inB b c a) := by
  unfold impl_within.f Mine.inB
  by_cases h : b ≤ a
  · rw [if_pos h]; simp [h]
  · rw [if_neg h]; simp [h]

theorem impl_areMembers.lit (n x : Int) (B : Nat) (w : World) (hb : w.heap[B]? = some (.cells #[.int .i64 n] 3 (0, 0))) :
    Calls Try.prog 98 #[.int .i64 x, .pointer (some ⟨B, 0, none⟩)] w fun e w' => e = .returned (.bool (Mine.outB 0 (wrap64 (n - 1)) x)) ∧ Below w.heap.size w w' := by
  have hc := blk_cell hb 0
  have hw := Aside0.mk (within_f_58 x 0 (wrap64 (n - 1)))
  go_enter Try.func98, Try.ntmps98
  go_wp2_with fail
  refine (impl_within.calls _ _ _ _ _ hw.out).mono ?_; rintro e w' ⟨rfl, hd⟩
  go_wp2
  go_ret
  exact ⟨rfl, hd.below⟩

theorem impl_areMembers.rise (l : List Int) (hl : l.length ≤ 9223372036854775807) : ∃ k, impl_rise.f k l = some (Mine.riseB l) := by
  have next : ∀ i : Int, 0 ≤ i → i < (l.length : Int) → wrap64 (i + 1) = i + 1 := by intro i h0 h1; unfold wrap64; omega
  have prev : ∀ i : Int, 1 ≤ i → i < (l.length : Int) → wrap64 (i - 1) = i - 1 := by intro i h0 h1; unfold wrap64; omega
  have step : ∀ (d : Nat) (j : Nat), 1 ≤ j → l.length - j = d → ∃ k, impl_rise.l0 k l (j : Int) = some (Mine.riseB (l.drop (j - 1))) := by
    intro d
    induction d with
    | zero =>
      intro j hj hd
      refine ⟨1, ?_⟩
      simp only [impl_rise.l0]
      rw [if_neg (by omega)]
      have : (l.drop (j - 1)).length ≤ 1 := by rw [List.length_drop]; omega
      match h : l.drop (j - 1), this with
      | [], _ => rfl
      | [_], _ => rfl
    | succ d ih =>
      intro j hj hd
      have hlt : j < l.length := by omega
      have e1 : l.drop (j - 1) = l.getD (j - 1) 0 :: l.drop j := by
        have := Mine.drop_at l 0 (j - 1) (by omega)
        rwa [show j - 1 + 1 = j by omega] at this
      have e2 := Mine.drop_at l 0 j hlt
      have r1 : rd l (j : Int) = l.getD j 0 := by unfold rd; rw [Int.toNat_natCast]
      have r2 : rd l ((j : Int) - 1) = l.getD (j - 1) 0 := by unfold rd; congr 1; omega
      obtain ⟨k, hk⟩ := ih (j + 1) (by omega) (by omega)
      rw [show j + 1 - 1 = j by omega] at hk
      refine ⟨k + 1, ?_⟩
      simp only [impl_rise.l0]
      rw [if_pos (by omega), if_pos (by omega), prev _ (by omega) (by omega), if_pos (by omega), if_pos (by omega), r1, r2, next _ (by omega) (by omega), e1, e2, Mine.riseB]
      by_cases h : l.getD j 0 ≤ l.getD (j - 1) 0
      · rw [if_pos h, decide_eq_false (by omega : ¬ l.getD (j - 1) 0 < l.getD j 0), Bool.false_and]
      · rw [if_neg h]
        have hlt' : l.getD (j - 1) 0 < l.getD j 0 := by omega
        rw [← e2, show ((j : Int) + 1) = ((j + 1 : Nat) : Int) by omega, hk]
        simp only [decide_eq_true hlt', Bool.true_and]
  obtain ⟨k, hk⟩ := step (l.length - 1) 1 (by omega) rfl
  refine ⟨k, ?_⟩
  unfold impl_rise.f
  simpa using hk

def impl_areMembers.f (a0 : Int) (l1 : List Int) : Option Bool := some (Mine.riseB l1 && !Mine.anyP (Mine.outB 0 (wrap64 (a0 - 1))) l1)
set_option maxHeartbeats 2000000 in
theorem impl_areMembers.calls (a0 : Int) (A1 : Option Addr) (c1 : Nat) (l1 : List Int) (r : Bool) (w : World) (hr1 : Kd.C (Kd.int .i64) w A1 l1.length l1) (hc1 : l1.length ≤ c1) (h : impl_areMembers.f a0 l1 = some r) :
    Calls Try.prog 58 #[.int .i64 a0, .slice A1 l1.length c1] w fun e w' => e = .returned (.bool r) ∧ Below w.heap.size w w' := by
  obtain rfl := Option.some.inj h
  obtain ⟨k, hk⟩ := impl_areMembers.rise l1 hr1.2.1
  have eg : ∀ args w, (callFunc 98 args).run Try.prog w = .ok (.enter 98 args) w := fun args w => enters_ Try.func98 (by kernel_rfl) rfl args w
  cases hq : Mine.riseB l1 with
  | false =>
    rw [hq] at hk
    have HK := Aside0.mk hk
    clear hq hk h eg
    go_enter Try.func58, Try.ntmps58
    go_wp2_with fail
    refine (impl_rise.calls k A1 c1 l1 _ _ (Kd.C_below hr1 (below_alloc (Below.refl _ _) _)) hc1 HK.out).mono ?_; rintro e w' ⟨rfl, hd⟩
    have hb := hd.below
    go_wp2
    go_ret
    exact ⟨rfl, below_step (below_alloc (Below.refl _ _) _) hb⟩
  | true =>
    rw [hq] at hk
    have HK := Aside0.mk hk
    have HE := Aside0.mk eg
    clear hq hk h eg
    go_enter Try.func58, Try.ntmps58
    go_wp2_with fail
    refine (impl_rise.calls k A1 c1 l1 _ _ (Kd.C_below hr1 (below_alloc (Below.refl _ _) _)) hc1 HK.out).mono ?_; rintro e w' ⟨rfl, hd⟩
    have hb := hd.below
    have hbk := blk_below (blk_new w (.cells #[.int .i64 a0] 3)) hb
    have HB := Aside0.mk (below_step (below_alloc (Below.refl _ _) _) hb)
    clear hb hd
    go_wp2_with fail
    refine (slices_ContainsFunc_int_int_69.any 98 #[.pointer (some ⟨w.heap.size, 0, none⟩)] (Mine.outB 0 (wrap64 (a0 - 1))) A1 c1 l1 w' HE.out (Kd.C_below hr1 HB.out) hc1 (fun W x _ hW => impl_areMembers.lit a0 x w.heap.size W (blk_below hbk hW))).mono ?_; rintro e w'' ⟨rfl, hb⟩
    have HB2 := Aside0.mk (below_step HB.out hb)
    clear hb
    go_wp2
    go_ret
    exact ⟨rfl, HB2.out⟩

/-! ### impl_GoodGraph_1: function 57 -/
def impl_GoodGraph_1.f (l0 : List Int) (l1_0 : List (List Int)) : Option (Bool) := (impl_areMembers.f (l1_0.length : Int) l0).bind fun t201 => (some (!t201))
set_option maxHeartbeats 8000000 in
set_option maxRecDepth 100000 in
theorem impl_GoodGraph_1.calls (A0 : Option Addr) (c0 : Nat) (l0 : List Int) (gq1 : Nat) (A1_0 : Option Addr) (c1_0 : Nat) (l1_0 : List (List Int)) (r : Bool) (w : World) (hr0 : Kd.C (Kd.int .i64) w A0 l0.length l0) (hc0 : l0.length ≤ c0) (hr1_0 : Kd.C (Kd.slice 3 (Kd.int .i64)) w A1_0 l1_0.length l1_0) (hc1_0 : l1_0.length ≤ c1_0) (hb1 : w.heap[gq1]? = some (.cells #[.slice A1_0 l1_0.length c1_0] 22 (0, 0))) (h : impl_GoodGraph_1.f l0 l1_0 = some r) :
    Calls Try.prog 57 #[.slice A0 l0.length c0, .pointer (some ⟨gq1, 0, none⟩)] w fun e w' => e = .returned (.bool r) ∧ Below w.heap.size w w' := by
  have HR0 := Aside0.mk hr0
  have HC0 := Aside0.mk hc0
  clear hr0 hc0
  have HR1_0 := Aside0.mk hr1_0
  have HC1_0 := Aside0.mk hc1_0
  clear hr1_0 hc1_0
  have BK200 := Aside0.mk hb1
  clear hb1
  have HB := Aside0.mk (Below.refl w.heap.size w)
  have H : ((impl_areMembers.f (l1_0.length : Int) l0).bind fun t201 => (some (!t201))) = some r := h
  clear h
  replace H := Option.bind_eq_some_iff.mp H
  obtain ⟨t201, A30, H⟩ := H
  replace H : (some (!t201)) = some r := H
  have A3 := Aside0.mk A30
  clear A30
  obtain rfl := Option.some.inj H
  have hcz4_0 : w.cell? ⟨gq1, 0, none⟩ = some (.slice A1_0 l1_0.length c1_0) := (blk_cell BK200.out 0).trans rfl
  have hfz4_0 := blk_frozen BK200.out 0
  go_enter Try.func57, Try.ntmps57
  go_wp2_with (first | ((with_reducible refine gate_callee (f := 58) rfl ?_); refine goesL_ (some 7) rfl rfl Try.func58 (by kernel_rfl) rfl #[.int .i64 (l1_0.length : Int), .slice A0 l0.length c0] rfl (by (try simp only [List.map_toArray, List.map_cons, List.map_nil]); first | done | rfl | (simp only [List.length_drop, List.length_take]; rfl)) ?_; (with_reducible refine (impl_areMembers.calls (l1_0.length : Int) _ _ l0 t201 _ ?side1 ?side2 A3.out).mono ?_); (case side1 => repeat (first | exact HR0.out | (with_reducible refine Kd.C_alloc ?_ _) | (with_reducible refine Kd.C_drewN ?_ _) | (with_reducible refine Kd.C_drew ?_))); (case side2 => exact HC0.out); rintro e w5 ⟨rfl, hb⟩; refine ⟨_, rfl, ?_⟩; have n0_ := Aside0.mk (blk_below (g := gq1) (o := .cells #[.slice A1_0 l1_0.length c1_0] 22 (0, 0)) (by (with_reducible repeat (first | refine blk_drewN ?_ _ | refine blk_drew ?_ | refine blk_alloc ?_ _)); exact BK200.out) hb); have n1_ := Aside0.mk (below_step (by repeat (first | (with_reducible first | exact HB.out | apply below_alloc | apply pw_below_drewN | apply below_drew1 | refine below_set ?_ GE200.out) | exact HB.out)) hb); clear BK200; clear HB; have BK200 := n0_; have HB := n1_; clear n0_ n1_; (try clear hb); (try clear hb2); (try clear hk); (try clear hi)))
  go_ret
  exact ⟨by first | rfl | (simp [errW_none, errW_some] <;> rfl) | (simp [*, errW_none, errW_some] <;> rfl), by repeat (first | (with_reducible first | exact HB.out | apply below_alloc | apply pw_below_drewN | apply below_drew1 | refine below_set ?_ GE200.out) | exact HB.out)⟩

/-! ### impl_GoodGraph_1_in_c: function 56 with the closure 57 -/
def impl_GoodGraph_1_in_c.f (l0 : List (List Int)) (ll0_0 : List (List Int)) : Option Bool := Mine.anyO (fun x : (List Int) => impl_GoodGraph_1.f x ll0_0) l0
set_option maxHeartbeats 2000000 in
theorem impl_GoodGraph_1_in_c.calls (A0 : Option Addr) (c0 : Nat) (l0 : List (List Int)) (gq0 : Nat) (AA0_0 : Option Addr) (cc0_0 : Nat) (ll0_0 : List (List Int)) (r : Bool) (w : World) (hr0 : Kd.C (Kd.slice 3 (Kd.int .i64)) w A0 l0.length l0) (hc0 : l0.length ≤ c0) (hr10_0 : Kd.C (Kd.slice 3 (Kd.int .i64)) w AA0_0 ll0_0.length ll0_0) (hc10_0 : ll0_0.length ≤ cc0_0) (hb0 : w.heap[gq0]? = some (.cells #[.slice AA0_0 ll0_0.length cc0_0] 22 (0, 0))) (h : impl_GoodGraph_1_in_c.f l0 ll0_0 = some r) :
    Calls Try.prog 56 #[.slice A0 l0.length c0, .func (.func 57) #[] #[.pointer (some ⟨gq0, 0, none⟩)]] w fun e w' => e = .returned (.bool r) ∧ Below w.heap.size w w' :=
  slices_ContainsFunc_int_int_56.anyO 57 #[.pointer (some ⟨gq0, 0, none⟩)] (fun x : (List Int) => impl_GoodGraph_1.f x ll0_0) A0 c0 l0 w r (fun args w => enters_ Try.func57 (by kernel_rfl) rfl args w) hr0 hc0
    (fun W x A c hx bW hi hl b hb_ => (impl_GoodGraph_1.calls A c x gq0 AA0_0 cc0_0 ll0_0 b W hi hl (Kd.C_below hr10_0 bW) hc10_0 (blk_below hb0 bW) hb_).mono (fun e w' hh => ⟨hh.1, hh.2⟩)) h

/-! ### impl_GoodGraph: function 18 -/
def impl_GoodGraph.f (l0 : List (List Int)) : Option (Bool) := if (l0.length : Int) ≤ 40 then ((impl_GoodGraph_1_in_c.f l0 l0).bind fun t203 => (some (!t203))) else (some false)
set_option maxHeartbeats 8000000 in
set_option maxRecDepth 100000 in
theorem impl_GoodGraph.calls (A0 : Option Addr) (c0 : Nat) (l0 : List (List Int)) (r : Bool) (w : World) (hr0 : Kd.C (Kd.slice 3 (Kd.int .i64)) w A0 l0.length l0) (hc0 : l0.length ≤ c0) (h : impl_GoodGraph.f l0 = some r) :
    Calls Try.prog 18 #[.slice A0 l0.length c0] w fun e w' => e = .returned (.bool r) ∧ Below w.heap.size w w' := by
  have HR0 := Aside0.mk hr0
  have HC0 := Aside0.mk hc0
  clear hr0 hc0
  have HB := Aside0.mk (Below.refl w.heap.size w)
  have H : (if (l0.length : Int) ≤ 40 then ((impl_GoodGraph_1_in_c.f l0 l0).bind fun t203 => (some (!t203))) else (some false)) = some r := h
  clear h
  by_cases c2 : (l0.length : Int) ≤ 40
  · rw [if_pos c2] at H
    have c2b0 : decide ((l0.length : Int) ≤ 40) = true := decide_eq_true c2
    have c2b1 : decide (l0.length ≤ 40) = true := decide_eq_true (by omega)
    clear c2
    replace H := Option.bind_eq_some_iff.mp H
    obtain ⟨t203, A30, H⟩ := H
    replace H : (some (!t203)) = some r := H
    have A3 := Aside0.mk A30
    clear A30
    obtain rfl := Option.some.inj H
    go_enter Try.func18, Try.ntmps18
    go_wp2_with (first | ((with_reducible refine gate_dst (N := 1) rfl ?_); refine box_event ?hg (N := 1) ?hd (cs := #[.slice A0 l0.length c0]) (t := 22) ?hr ?_; (case hd => rfl); (case hg => rfl); (case hr => first | (go_simp; done) | (go_simp; rfl)); intro gb202 hg w4 hbox hb; have n0_ := Aside0.mk (below_step (by repeat (first | (with_reducible first | exact HB.out | apply below_alloc | apply pw_below_drewN | apply below_drew1) | exact HB.out)) hb); have n1_ := Aside0.mk (hbox); have n2_ := Aside0.mk ((by rw [hg]; exact (below_size (by repeat (first | (with_reducible first | exact HB.out | apply below_alloc | apply pw_below_drewN | apply below_drew1) | exact HB.out))) : w.heap.size ≤ gb202)); have n3_ := Aside0.mk ((by rw [hg]; exact (below_size (by repeat (first | (with_reducible first | exact HB.out | apply below_alloc | apply pw_below_drewN | apply below_drew1) | exact HB.out))) : w.heap.size ≤ gb202)); clear HB; have HB := n0_; have BK202 := n1_; have GW202 := n2_; have GE202 := n3_; clear n0_ n1_ n2_ n3_; clear hb hbox hg; have hcz5_0 : w4.cell? ⟨gb202, 0, none⟩ = some (.slice A0 l0.length c0) := (blk_cell BK202.out 0).trans rfl; have hfz5_0 := blk_frozen BK202.out 0) | (go_at_call 56; (with_reducible refine (impl_GoodGraph_1_in_c.calls _ _ l0 gb202 A0 c0 l0 t203 _ ?side1 ?side2 ?side3 ?side4 ?side5 A3.out).mono ?_); (case side1 => repeat (first | exact (Kd.C_below HR0.out HB.out) | (with_reducible refine Kd.C_alloc ?_ _) | (with_reducible refine Kd.C_drewN ?_ _) | (with_reducible refine Kd.C_drew ?_))); (case side2 => exact HC0.out); (case side3 => repeat (first | exact (Kd.C_below HR0.out HB.out) | (with_reducible refine Kd.C_alloc ?_ _) | (with_reducible refine Kd.C_drewN ?_ _) | (with_reducible refine Kd.C_drew ?_))); (case side4 => exact HC0.out); (case side5 => exact by (with_reducible repeat (first | refine blk_drewN ?_ _ | refine blk_drew ?_ | refine blk_alloc ?_ _)); exact BK202.out); rintro e w6 ⟨rfl, hb⟩; have n0_ := Aside0.mk (blk_below (g := gb202) (o := .cells #[.slice A0 l0.length c0] 22 (0, 0)) (by (with_reducible repeat (first | refine blk_drewN ?_ _ | refine blk_drew ?_ | refine blk_alloc ?_ _)); exact BK202.out) hb); have n1_ := Aside0.mk (below_step (by repeat (first | (with_reducible first | exact HB.out | apply below_alloc | apply pw_below_drewN | apply below_drew1 | refine below_set ?_ GE202.out) | exact HB.out)) hb); clear BK202; clear HB; have BK202 := n0_; have HB := n1_; clear n0_ n1_; (try clear hb); (try clear hb2); (try clear hk); (try clear hi)))
    go_ret
    exact ⟨by first | rfl | (simp [errW_none, errW_some] <;> rfl) | (simp [*, errW_none, errW_some] <;> rfl), by repeat (first | (with_reducible first | exact HB.out | apply below_alloc | apply pw_below_drewN | apply below_drew1 | refine below_set ?_ GE202.out) | exact HB.out)⟩
  · rw [if_neg c2] at H
    have c2b0 : decide ((l0.length : Int) ≤ 40) = false := decide_eq_false c2
    have c2b1 : decide (l0.length ≤ 40) = false := decide_eq_false (by omega)
    clear c2
    obtain rfl := Option.some.inj H
    go_enter Try.func18, Try.ntmps18
    go_wp2_with (first | ((with_reducible refine gate_dst (N := 1) rfl ?_); refine box_event ?hg (N := 1) ?hd (cs := #[.slice A0 l0.length c0]) (t := 22) ?hr ?_; (case hd => rfl); (case hg => rfl); (case hr => first | (go_simp; done) | (go_simp; rfl)); intro gb202 hg w7 hbox hb; have n0_ := Aside0.mk (below_step (by repeat (first | (with_reducible first | exact HB.out | apply below_alloc | apply pw_below_drewN | apply below_drew1) | exact HB.out)) hb); have n1_ := Aside0.mk (hbox); have n2_ := Aside0.mk ((by rw [hg]; exact (below_size (by repeat (first | (with_reducible first | exact HB.out | apply below_alloc | apply pw_below_drewN | apply below_drew1) | exact HB.out))) : w.heap.size ≤ gb202)); have n3_ := Aside0.mk ((by rw [hg]; exact (below_size (by repeat (first | (with_reducible first | exact HB.out | apply below_alloc | apply pw_below_drewN | apply below_drew1) | exact HB.out))) : w.heap.size ≤ gb202)); clear HB; have HB := n0_; have BK202 := n1_; have GW202 := n2_; have GE202 := n3_; clear n0_ n1_ n2_ n3_; clear hb hbox hg; have hcz8_0 : w7.cell? ⟨gb202, 0, none⟩ = some (.slice A0 l0.length c0) := (blk_cell BK202.out 0).trans rfl; have hfz8_0 := blk_frozen BK202.out 0))
    go_ret
    exact ⟨by first | rfl | (simp [errW_none, errW_some] <;> rfl) | (simp [*, errW_none, errW_some] <;> rfl), by repeat (first | (with_reducible first | exact HB.out | apply below_alloc | apply pw_below_drewN | apply below_drew1 | refine below_set ?_ GE202.out) | exact HB.out)⟩

/-! ### slices_DeleteFunc_int_int: function 66 -/
theorem slices_DeleteFunc_int_int.clear {e base : Nat} {P : Nat → Prop} {gb n cap : Nat} {w0 : World} (hg : w0.heap.size ≤ gb) : ∀ (m o : Nat) (w : World) (l : List Int), Kd.R (Kd.int .i64) e w base P (.slice (some ⟨gb, 0, none⟩) n cap) l → Below w0.heap.size w0 w →
    ∃ l' : List Int, l'.length = l.length ∧ l'.take o = l.take o ∧ Kd.R (Kd.int .i64) e (w.setCells gb o (List.replicate m (.int .i64 0))) base P (.slice (some ⟨gb, 0, none⟩) n cap) l' ∧ Below w0.heap.size w0 (w.setCells gb o (List.replicate m (.int .i64 0)))
  | 0, o, w, l, h, hb => ⟨l, rfl, rfl, h, hb⟩
  | m + 1, o, w, l, h, hb => by
    have h1 := Kd.R_putn (enc := Value.int .i64) (h1 := fun _ => rfl) h (o : Int) 0
    simp only [Int.toNat_natCast] at h1
    obtain ⟨l', hl, ht, hR, hB⟩ := slices_DeleteFunc_int_int.clear hg m (o + 1) (w.setCell ⟨gb, o, none⟩ (.int .i64 0)) (l.set o 0) h1 (below_set hb hg)
    refine ⟨l', by rw [hl, List.length_set], ?_, hR, hB⟩
    have := congrArg (List.take o) ht
    rw [List.take_take, List.take_take, Nat.min_eq_left (by omega)] at this
    rw [this, List.take_set_of_le (Nat.le_refl _)]
set_option maxHeartbeats 4000000 in
set_option maxRecDepth 100000 in
theorem slices_DeleteFunc_int_int.del (g : Nat) (lb : Array Value) (p : Int → Option Bool) (P : Nat → Prop) (v : Value) (xs r : List Int) (w0 w : World)
    (eg : ∀ args w, (callFunc g args).run Try.prog w = .ok (.enter g args) w) (hB : Below w0.heap.size w0 w)
    (ho : Kd.R (Kd.int .i64) 3 w w0.heap.size P v xs)
    (hp : ∀ (W : World) (x : Int), x ∈ xs → Below w0.heap.size w0 W → ∀ b : Bool, p x = some b → Calls Try.prog g (#[.int .i64 x] ++ lb) W fun e w' => e = .returned (.bool b) ∧ Below W.heap.size W w')
    (h : Mine.delO p xs = some r) :
    Calls Try.prog 66 #[v, .func (.func g) #[] lb] w fun e w' => ∃ v0_ : Value, e = .returned v0_ ∧ Kd.R (Kd.int .i64) 3 w' w0.heap.size P v0_ r ∧ Below w0.heap.size w0 w' := by
  obtain ⟨A0, c0, rfl⟩ := Kd.R_slice ho
  obtain ⟨i, hi, hcase⟩ := Mine.delO_idx p xs r 0 (Int.le_refl 0) h
  have hmax : xs.length ≤ 9223372036854775807 := (Kd.R_reads' ho).2.2.2.1
  have HO := Aside0.mk ho
  have HB := Aside0.mk hB
  have HP := Aside0.mk hp
  have HC := Aside0.mk hcase
  have HI := Aside0.mk hi
  clear ho hB hp hcase hi h
  go_enter Try.func66, Try.ntmps66
  go_wp2_with fail
  refine (slices_IndexFunc_int_int_103.anyO g lb p A0 c0 xs w i eg (Kd.R_reads' HO.out).2.2 (Kd.R_reads' HO.out).2.1 (fun W x hx bW b hb => HP.out W x hx (below_then HB.out HB.out.size bW) b hb) HI.out).mono ?_
  rintro e w1 ⟨rfl, hb1⟩
  have n0_ := Aside0.mk (Kd.R_below HO.out hb1)
  have n1_ := Aside0.mk (below_then HB.out HB.out.size hb1)
  clear HO HB HI hb1
  have HO := n0_
  have HB := n1_
  clear n0_ n1_
  rcases HC.out with ⟨rfl, rfl⟩ | ⟨m, rfl, hm, rest, hr1, rfl⟩
  · clear HC HP
    go_wp2
    go_ret
    exact ⟨_, rfl, HO.out, HB.out⟩
  · clear HC
    obtain ⟨gb, cap, hv, hbg, hgl, _⟩ := Kd.R_form HO.out (by omega)
    injection hv with hv1 hv2 hv3
    subst hv1
    subst hv3
    clear hv2 hgl
    have HG := Aside0.mk hbg
    clear hbg
    have hcap : xs.length ≤ c0 := (Kd.R_reads' HO.out).2.1
    have HS := Aside0.mk (show Mine.delO p (xs.drop (m + 1)) = some rest from hr1)
    clear hr1
    have hz : (0 : Int) + (m : Int) = (m : Int) := by omega
    simp only [hz]
    clear hz
    have hne : ((m : Int) == -1) = false := by rw [beq_eq_false_iff_ne]; omega
    have hw : IntKind.i64.wrap ((m : Int) + 1) = ((m + 1 : Nat) : Int) := by rw [IntWalk.i64_in _ (by omega)]; omega
    go_wp2
    clear hw hne
    go_loopg [5, 6] xs.length (fun gg s5 s6 wr => ∃ (kk jj : Nat) (acc rs : List Int), kk < jj ∧ jj ≤ xs.length ∧ xs.length - jj ≤ gg ∧ s5 = .int .i64 kk ∧ s6 = .int .i64 jj ∧ Aside0 (acc.length = xs.length) ∧ Aside0 (acc.drop jj = xs.drop jj) ∧ Aside0 (Mine.delO p (xs.drop jj) = some rs) ∧ Aside0 (xs.take m ++ rest = acc.take kk ++ rs) ∧ Aside0 (Kd.R (Kd.int .i64) 3 wr w0.heap.size P (.slice (some ⟨gb, 0, none⟩) xs.length c0) acc) ∧ Aside0 (Below w0.heap.size w0 wr))
    case atStart => exact ⟨m, m + 1, xs, rest, by omega, by omega, by omega, rfl, (by first | rfl | go_num), ⟨rfl⟩, ⟨rfl⟩, HS, ⟨rfl⟩, HO, HB⟩
    case round =>
      obtain ⟨kk, jj, acc, rs, hkj, hjn, hg, rfl, rfl, HL, HD, HS, HR, HO, HB⟩ := hrel
      by_cases hlt : jj < xs.length
      · have hltz : (jj : Int) < (xs.length : Int) := by omega
        have hxe : Aside0 (acc.getD jj 0 = xs.getD jj 0) := ⟨by
          have h1 := HD.out
          rw [Mine.drop_at acc 0 jj (by rw [HL.out]; exact hlt), Mine.drop_at xs 0 jj hlt] at h1
          exact (List.cons.inj h1).1⟩
        have hde : Aside0 (acc.drop (jj + 1) = xs.drop (jj + 1)) := ⟨by
          have h1 := HD.out
          rw [Mine.drop_at acc 0 jj (by rw [HL.out]; exact hlt), Mine.drop_at xs 0 jj hlt] at h1
          exact (List.cons.inj h1).2⟩
        obtain ⟨ad, had, hx⟩ := Kd.at_int (Kd.R_reads' HO.out).2.2 (jj : Int) (by omega) (by rw [HL.out]; exact hltz)
        injection had with had
        subst had
        rw [add_plain, rd, Int.toNat_natCast, hxe.out] at hx
        have PS : Aside0 ((p (xs.getD jj 0)).bind (fun b => (Mine.delO p (xs.drop (jj + 1))).bind fun r => some (if b = true then r else xs.getD jj 0 :: r)) = some rs) := ⟨by have h1 := HS.out; rw [Mine.drop_at xs 0 jj hlt] at h1; exact h1⟩
        have hcall := HP.out wr (xs.getD jj 0) (Mine.getD_mem xs 0 jj hlt) HB.out
        clear HS HD hxe
        generalize xs.getD jj 0 = y at hx hcall PS
        cases hq : p y with
        | none => exact absurd PS.out (by rw [hq]; simp)
        | some b =>
          cases hd : Mine.delO p (xs.drop (jj + 1)) with
          | none => exact absurd PS.out (by rw [hq, hd]; simp)
          | some rs' =>
          have HS' := Aside0.mk hd
          have hcall := hcall b hq
          have PG : Aside0 ((if b = true then rs' else y :: rs') = rs) := ⟨by have h1 := PS.out; rw [hq, hd] at h1; simpa using h1⟩
          clear PS hq hd
          have hwj : IntKind.i64.wrap ((jj : Int) + 1) = ((jj + 1 : Nat) : Int) := by rw [IntWalk.i64_in _ (by omega)]; omega
          have hwk : IntKind.i64.wrap ((kk : Int) + 1) = ((kk + 1 : Nat) : Int) := by rw [IntWalk.i64_in _ (by omega)]; omega
          have HWJ := Aside0.mk hwj
          have HWK := Aside0.mk hwk
          clear hwj hwk
          cases b with
          | true =>
            go_wp2_with fail
            refine hcall.mono ?_; rintro e w' ⟨rfl, hb'⟩
            have HO' := Aside0.mk (Kd.R_below HO.out hb')
            have HB' := Aside0.mk (below_then HB.out HB.out.size hb')
            clear hx hcall hb'
            go_wp2
            go_roundg (xs.length - (jj + 1))
            case measure => omega
            case rel => exact ⟨kk, jj + 1, acc, rs', by omega, by omega, by omega, rfl, by go_num, HL, hde, HS', ⟨HR.out.trans (by rw [show rs' = rs by simpa using PG.out])⟩, HO', HB'⟩
          | false =>
            go_wp2_with fail
            refine hcall.mono ?_; rintro e w' ⟨rfl, hb'⟩
            have HO' := Aside0.mk (Kd.R_below HO.out hb')
            have HB' := Aside0.mk (below_then HB.out HB.out.size hb')
            clear hx hcall hb'
            obtain ⟨c, hcl, hM, hcc, hfr⟩ := Kd.R_elem HO'.out 0 (kk : Int) (by omega) (by omega)
            have hM : c = [.int .i64 (acc.getD kk 0)] := by have h1 := hM; rw [Int.toNat_natCast] at h1; exact h1
            subst hM
            have hck := hcc 0 _ rfl
            have hfk := hfr 0
            have hck : w'.cell? (⟨gb, kk, none⟩ : Addr) = some (.int .i64 (acc.getD kk 0)) := by simpa [Kd.int, Kd.scalar] using hck
            have hfk : w'.frozen? (⟨gb, kk, none⟩ : Addr) = false := by simpa [Kd.int, Kd.scalar] using hfk
            clear hcl hcc hfr
            have hki : (kk : Int) < (xs.length : Int) := by omega
            generalize acc.getD kk 0 = y0 at hck
            go_wp2
            go_roundg (xs.length - (jj + 1))
            case measure => omega
            case rel =>
              refine ⟨kk + 1, jj + 1, acc.set kk y, rs', by omega, by omega, by omega, by go_num, by go_num, ⟨by rw [List.length_set]; exact HL.out⟩, ⟨by rw [List.drop_set_of_lt (by omega)]; exact hde.out⟩, HS', ⟨?_⟩, ⟨?_⟩, ⟨below_set HB'.out HG.out⟩⟩
              · have h1 := HR.out
                have h2 : y :: rs' = rs := by simpa using PG.out
                rw [h1, ← h2, List.take_add_one, List.take_set_of_le (Nat.le_refl _)]
                have : (acc.set kk y)[kk]? = some y := List.getElem?_set_self (by rw [HL.out]; omega)
                rw [this]
                simp
              · have h1 := Kd.R_putn (enc := Value.int .i64) (h1 := fun _ => rfl) HO'.out (kk : Int) y
                rw [Int.toNat_natCast] at h1
                exact h1
      · obtain rfl : jj = xs.length := by omega
        have PR : Aside0 (xs.take m ++ rest = acc.take kk) := ⟨by
          have h1 := HS.out
          rw [List.drop_eq_nil_of_le (Nat.le_refl _)] at h1
          have h2 : ([] : List Int) = rs := Option.some.inj h1
          rw [HR.out, ← h2, List.append_nil]⟩
        have hltz : ¬ (xs.length : Int) < (xs.length : Int) := by omega
        have hcell : ∀ j, j < xs.length - kk → (wr.cell? (⟨gb, kk + j, none⟩ : Addr)).isSome = true := fun j hj => by
          obtain ⟨ad, had, hx⟩ := Kd.at_int (Kd.R_reads' HO.out).2.2 ((kk + j : Nat) : Int) (by omega) (by rw [HL.out]; omega)
          injection had with had
          subst had
          rw [add_plain, Int.toNat_natCast] at hx
          rw [hx]; rfl
        have hfro : ∀ j, j < xs.length - kk → wr.frozen? (⟨gb, kk + j, none⟩ : Addr) = false := fun j hj => by
          obtain ⟨_, _, _, _, hfr⟩ := Kd.R_elem HO.out 0 ((kk + j : Nat) : Int) (by omega) (by omega)
          have h1 := hfr 0
          rw [Int.toNat_natCast] at h1
          simpa [Kd.int, Kd.scalar] using h1
        have hcl : ∀ ty, (Builtin.clear_ #[27] ty #[.slice (some ⟨gb, kk, none⟩) (xs.length - kk) (c0 - kk)]).run Try.prog wr = .ok (.tuple #[]) (wr.setCells gb kk (List.replicate (xs.length - kk) (.int .i64 0))) := fun ty => Lib.run_clear_slice wr 27 3 ty (.int .i64 0) Try.underlying27 (fun w => by rfl) rfl rfl gb kk (xs.length - kk) (c0 - kk) (by omega) hcell hfro
        clear hcell hfro
        have hkn : (kk : Int) ≤ (xs.length : Int) := by omega
        have hkc : ¬ c0 = kk := by omega
        have hk0 : (0 : Int) ≤ (kk : Int) := by omega
        obtain ⟨l', hl', ht', hR', hB'⟩ := slices_DeleteFunc_int_int.clear HG.out (xs.length - kk) kk wr acc HO.out HB.out
        have HR' := Aside0.mk hR'
        have HB' := Aside0.mk hB'
        have HT' := Aside0.mk ht'
        have HL' := Aside0.mk hl'
        clear hR' hB' ht' hl'
        go_wp2
        go_ret
        refine ⟨_, rfl, ?_, HB'.out⟩
        rw [PR.out, ← HT'.out]
        exact Kd.R_take HR'.out (by rw [HL'.out, HL.out]; omega)

/-! ### slices_Clone_int_int: function 67 -/
def slices_Clone_int_int.f (l0 : List Int) : Option (List Int) := if l0.length < 17592186044416 then some l0 else none
set_option maxHeartbeats 8000000 in
set_option maxRecDepth 100000 in
theorem slices_Clone_int_int.calls (A0 : Option Addr) (c0 : Nat) (l0 : List Int) (r : List Int) (w : World) (hr0 : Kd.C (Kd.int .i64) w A0 l0.length l0) (hc0 : l0.length ≤ c0) (h : slices_Clone_int_int.f l0 = some r) :
    Calls Try.prog 67 #[.slice A0 l0.length c0] w fun e w' => ∃ v0_ : Value, e = .returned (v0_) ∧ Kd.R (Kd.int .i64) 3 w' w.heap.size (fun _ => True) v0_ r ∧ Below w.heap.size w w' := by
  unfold slices_Clone_int_int.f at h
  by_cases c2 : l0.length < 17592186044416
  · rw [if_pos c2] at h
    obtain rfl := Option.some.inj h
    clear h
    cases A0 with
    | none =>
      have hl : l0.length = 0 := by
        rcases Nat.eq_zero_or_pos l0.length with h | h
        · exact h
        · obtain ⟨ad, he, _⟩ := hr0.2.2 h
          cases he
      have hl : l0 = [] := List.eq_nil_of_length_eq_zero hl
      subst hl
      go_enter Try.func67, Try.ntmps67
      go_wp2_with (first | ((with_reducible refine gate_dst (N := 4) rfl ?_); refine Kd.event_run (w1 := w) (v := .bool true) rfl ?hr ?_; (case hr => rfl)))
      go_ret
      exact ⟨_, rfl, Kd.R_nil _ _ _ _ _, Below.refl _ _⟩
    | some ad =>
      have HR0 := Aside0.mk hr0
      have HC0 := Aside0.mk hc0
      clear hr0 hc0
      have HB := Aside0.mk (Below.refl w.heap.size w)
      obtain ⟨y1, hy1⟩ : ∃ y_ : List Int, y_ = (([] : List Int)) := ⟨_, rfl⟩
      have LM := Aside0.mk (show y1.length + l0.length < 17592186044416 by rw [hy1]; simpa using c2)
      obtain ⟨y2, hy2⟩ : ∃ y_ : List Int, y_ = (y1 ++ l0) := ⟨_, rfl⟩
      have E2 := Aside0.mk (show y2 = l0 by rw [hy2, hy1, List.nil_append])
      have Ny1 := Aside0.mk hy1
      have Ny2 := Aside0.mk hy2
      clear hy1 hy2 c2
      go_enter Try.func67, Try.ntmps67
      go_wp2_with (first | ((with_reducible refine gate_dst (N := 4) rfl ?_); refine Kd.event_run (w1 := w) (v := .bool false) rfl ?hr ?_; (case hr => rfl)) | ((with_reducible refine gate_dst (N := 5) rfl ?_); refine Kd.R_lit (Kd.int .i64) _ 3 ?hg (N := 5) ?hd (xs := ([] : List Int)) (inner := []) (ok := fun _ => True) (okp := fun _ => True) ?hr ?hp (fun _ hk => hk) trivial (Below.refl _ _) (Nat.le_refl _) (by simp) ?_; (case hd => rfl); (case hg => rfl); (case hr => first | (go_simp; done) | (go_simp; rfl)); (case hp => exact (Reps.none _ _)); intro v121 w3 ho4 hb hg_ hnew_; clear hg_ hnew_; (first | rw [← Ny1.out] at ho4 | (simp only [Int.reduceToNat] at ho4; rw [← Ny1.out] at ho4)); have n0_ := Aside0.mk (Kd.R_lower ho4 (below_size (by repeat (first | (with_reducible first | exact HB.out | apply below_alloc | apply pw_below_drewN | apply below_drew1) | exact HB.out)))); have n1_ := Aside0.mk (below_step (by repeat (first | (with_reducible first | exact HB.out | apply below_alloc | apply pw_below_drewN | apply below_drew1) | exact HB.out)) hb); clear HB; have HO1 := n0_; have HB := n1_; clear n0_ n1_; clear hb ho4) | ((with_reducible refine gate_builtin (b := .append) (xs := #[.tmp 5, .tmp 6]) rfl ?_); at_builtin; refine Kd.R_append_rows (Kd.int .i64) (w0 := w) w.heap.size rfl (.tmp 5) (.tmp 6) 27 3 (.int .i64 0) 8 rfl Try.underlying27 info3 rfl (by decide) (by omega) v121 y1 l0 _ _ _ (fun _ => True) (fun _ => False) rfl rfl ?aO ?aR (fun _ _ h => h) (fun _ h => h.elim) ?aF ?aB ?aS ?aL ?_; (case aR => repeat (first | exact (Kd.C_below HR0.out HB.out) | (with_reducible refine Kd.C_alloc ?_ _) | (with_reducible refine Kd.C_drewN ?_ _) | (with_reducible refine Kd.C_drew ?_))); (case aB => exact (by repeat (first | (with_reducible first | exact HB.out | apply below_alloc | apply pw_below_drewN | apply below_drew1) | exact HB.out))); (case aF => exact (fun _ _ => trivial)); (case aO => exact (by (with_reducible repeat (first | apply Kd.R_alloc | apply Kd.R_drewN | apply Kd.R_drew)); exact HO1.out)); (case aS => exact (below_size (by repeat (first | (with_reducible first | exact HB.out | apply below_alloc | apply pw_below_drewN | apply below_drew1) | exact HB.out)))); (case aL => have := LM.out; omega); intro v124 w5 ho hb hg hat; rw [← Ny2.out] at ho; have n0_ := Aside0.mk (hb); have n1_ := Aside0.mk (ho); clear HB; clear HO1; have HB := n0_; have HO2 := n1_; clear n0_ n1_; clear ho hb hg hat))
      go_ret
      exact ⟨_, by first | rfl | (simp [errW_none, errW_some] <;> rfl) | (simp [*, errW_none, errW_some] <;> rfl), by rw [← E2.out]; (with_reducible repeat (first | apply Kd.R_alloc | apply Kd.R_drewN | apply Kd.R_drew)); exact HO2.out, (by repeat (first | (with_reducible first | exact HB.out | apply below_alloc | apply pw_below_drewN | apply below_drew1) | exact HB.out))⟩
  · rw [if_neg c2] at h
    exact absurd h (by simp)

end Go.Proofs.Ytghblkjhecoaoaa.QFnExactClosedIn
