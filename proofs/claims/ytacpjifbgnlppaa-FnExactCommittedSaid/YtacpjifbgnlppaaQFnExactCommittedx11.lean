-- Written by a program of this session (wip/mk.py) over the kit's print: Lean checks it.
import Derived.Test.YtacpjifbgnlppaaQFnExactCommittedx0
import Derived.Test.YtacpjifbgnlppaaQFnExactCommittedx3
import Derived.Test.YtacpjifbgnlppaaQFnExactCommittedx5
import Derived.Test.YtacpjifbgnlppaaQFnExactCommittedx8
import Derived.Test.YtacpjifbgnlppaaQFnExactCommittedx9
import Derived.Test.YtacpjifbgnlppaaQFnExactCommittedx10
namespace Go.Proofs.Ytacpjifbgnlppaa.QFnExactCommitted
open Go.RowKit Go.Proofs.YtacpjifbgnlppaaW.PrintWords Go.Proofs.YtacpjifbgnlppaaW.PrintLast Go.Proofs.YtacpjifbgnlppaaW.PrintMore
attribute [local go_sem] max2_int min2_int max_two min_two max_three min_three max_four min_four   -- for this text's walks alone
set_option linter.unusedVariables false
set_option linter.unusedSimpArgs false

/-! ### impl_GoodTable_1_1: function 46 -/
def impl_GoodTable_1_1.f (k : Nat) (a0_0 : Int) (a0_1 : Int) (a0_2 : Int) (a0_3 : Int) (a0_4 : Int) (a0_5 : Int) (a0_6 : Int) (a0_7 : Int) (a0_8 : Int) (l0_9 : List Int) (a1_0 : Int) (l1_1 : List (List (S72))) : Option (Bool) := (impl_goodRow.f k a1_0 a0_0 a0_1 a0_2 a0_3 a0_4 a0_5 a0_6 a0_7 a0_8 l0_9).bind fun t275 => (some (!t275))
theorem impl_GoodTable_1_1.mono : ∀ a0 a1 a2 a3 a4 a5 a6 a7 a8 a9 a10 a11 k, LeO (impl_GoodTable_1_1.f k a0 a1 a2 a3 a4 a5 a6 a7 a8 a9 a10 a11) (impl_GoodTable_1_1.f (k + 1) a0 a1 a2 a3 a4 a5 a6 a7 a8 a9 a10 a11) := by
  intro a0 a1 a2 a3 a4 a5 a6 a7 a8 a9 a10 a11 k
  unfold impl_GoodTable_1_1.f
  repeat' first
      | (with_reducible exact impl_goodRow.mono _ _ _ _ _ _ _ _ _ _ _ _)
      | (with_reducible exact LeO.refl _)
      | (with_reducible exact LeO.none _)
      | (with_reducible refine LeO.ite ?_ ?_)
      | (with_reducible refine LeO.bind ?_ (fun _ => ?_))
      | exact impl_goodRow.mono _ _ _ _ _ _ _ _ _ _ _ _
      | exact LeO.none _
      | refine LeO.ite ?_ ?_
      | refine LeO.bind ?_ (fun _ => ?_)
set_option maxHeartbeats 8000000 in
set_option maxRecDepth 100000 in
theorem impl_GoodTable_1_1.calls (k : Nat) (a0_0 : Int) (a0_1 : Int) (a0_2 : Int) (a0_3 : Int) (a0_4 : Int) (a0_5 : Int) (a0_6 : Int) (a0_7 : Int) (a0_8 : Int) (A0_9 : Option Addr) (c0_9 : Nat) (l0_9 : List Int) (gq1 : Nat) (a1_0 : Int) (A1_1 : Option Addr) (c1_1 : Nat) (l1_1 : List (List (S72))) (r : Bool) (w : World) (hr0_9 : Kd.C (Kd.int .i64) w A0_9 l0_9.length l0_9) (hc0_9 : l0_9.length ≤ c0_9) (hr1_1 : Kd.C (Kd.slice 72 k72) w A1_1 l1_1.length l1_1) (hc1_1 : l1_1.length ≤ c1_1) (hb1 : w.heap[gq1]? = some (.cells #[.int .i64 a1_0, .slice A1_1 l1_1.length c1_1] 29 (0, 0))) (h : impl_GoodTable_1_1.f k a0_0 a0_1 a0_2 a0_3 a0_4 a0_5 a0_6 a0_7 a0_8 l0_9 a1_0 l1_1 = some r) :
    Calls Try.prog 46 #[.agg #[.int .i64 a0_0, .int .i64 a0_1, .int .i64 a0_2, .int .i64 a0_3, .int .i64 a0_4, .int .i64 a0_5, .int .i64 a0_6, .int .i64 a0_7, .int .i64 a0_8, .slice A0_9 l0_9.length c0_9], .pointer (some ⟨gq1, 0, none⟩)] w fun e w' => e = .returned (.bool r) ∧ Below w.heap.size w w' := by
  have hu72 := Try.underlying72
  have HR0_9 := Aside0.mk hr0_9
  have HC0_9 := Aside0.mk hc0_9
  clear hr0_9 hc0_9
  have HR1_1 := Aside0.mk hr1_1
  have HC1_1 := Aside0.mk hc1_1
  clear hr1_1 hc1_1
  have BK273 := Aside0.mk hb1
  clear hb1
  have HB := Aside0.mk (Below.refl w.heap.size w)
  have H : ((impl_goodRow.f k a1_0 a0_0 a0_1 a0_2 a0_3 a0_4 a0_5 a0_6 a0_7 a0_8 l0_9).bind fun t275 => (some (!t275))) = some r := h
  clear h
  replace H := Option.bind_eq_some_iff.mp H
  obtain ⟨t275, A30, H⟩ := H
  replace H : (some (!t275)) = some r := H
  have A3 := Aside0.mk A30
  clear A30
  obtain rfl := Option.some.inj H
  go_enter Try.func46, Try.ntmps46
  go_wp2_with (first | ((with_reducible refine gate_dst (N := 2) rfl ?_); refine box_event ?hg (N := 2) ?hd (cs := #[.int .i64 a0_0, .int .i64 a0_1, .int .i64 a0_2, .int .i64 a0_3, .int .i64 a0_4, .int .i64 a0_5, .int .i64 a0_6, .int .i64 a0_7, .int .i64 a0_8, .slice A0_9 l0_9.length c0_9]) (t := 72) ?hr ?_; (case hd => rfl); (case hg => rfl); (case hr => first | (go_simp; done) | (go_simp; rfl)); intro gb274 hg w4 hbox hb; have n0_ := Aside0.mk (blk_below (g := gq1) (o := .cells #[.int .i64 a1_0, .slice A1_1 l1_1.length c1_1] 29 (0, 0)) (by (with_reducible repeat (first | refine blk_drewN ?_ _ | refine blk_drew ?_ | refine blk_alloc ?_ _)); exact BK273.out) hb); have n1_ := Aside0.mk (below_step (by repeat (first | (with_reducible first | exact HB.out | apply below_alloc | apply pw_below_drewN | apply below_drew1 | refine below_set ?_ GE273.out) | exact HB.out)) hb); have n2_ := Aside0.mk (hbox); have n3_ := Aside0.mk ((by rw [hg]; exact (below_size (by repeat (first | (with_reducible first | exact HB.out | apply below_alloc | apply pw_below_drewN | apply below_drew1 | refine below_set ?_ GE273.out) | exact HB.out))) : w.heap.size ≤ gb274)); have n4_ := Aside0.mk ((by rw [hg]; exact (below_size (by repeat (first | (with_reducible first | exact HB.out | apply below_alloc | apply pw_below_drewN | apply below_drew1 | refine below_set ?_ GE273.out) | exact HB.out))) : w.heap.size ≤ gb274)); have n5_ := Aside0.mk ((by rw [hg]; exact Nat.ne_of_lt (blk_lt (g := gq1) (o := .cells #[.int .i64 a1_0, .slice A1_1 l1_1.length c1_1] 29 (0, 0)) (by (with_reducible repeat (first | refine blk_drewN ?_ _ | refine blk_drew ?_ | refine blk_alloc ?_ _)); exact BK273.out)) : gq1 ≠ gb274)); have n6_ := Aside0.mk ((by rw [hg]; exact Nat.ne_of_gt (blk_lt (g := gq1) (o := .cells #[.int .i64 a1_0, .slice A1_1 l1_1.length c1_1] 29 (0, 0)) (by (with_reducible repeat (first | refine blk_drewN ?_ _ | refine blk_drew ?_ | refine blk_alloc ?_ _)); exact BK273.out)) : gb274 ≠ gq1)); clear BK273; clear HB; have BK273 := n0_; have HB := n1_; have BK274 := n2_; have GW274 := n3_; have GE274 := n4_; have NB273_274 := n5_; have NB274_273 := n6_; clear n0_ n1_ n2_ n3_ n4_ n5_ n6_; clear hb hbox hg; have hnb5 := NB273_274.out; have hnc5 := NB274_273.out; have hcz6_0 : w4.cell? ⟨gq1, 0, none⟩ = some (.int .i64 a1_0) := (blk_cell BK273.out 0).trans rfl; have hcz6_1 : w4.cell? ⟨gq1, 1, none⟩ = some (.slice A1_1 l1_1.length c1_1) := (blk_cell BK273.out 1).trans rfl; have hfz6_0 := blk_frozen BK273.out 0; have hfz6_1 := blk_frozen BK273.out 1; have hcz7_0 : w4.cell? ⟨gb274, 0, none⟩ = some (.int .i64 a0_0) := (blk_cell BK274.out 0).trans rfl; have hcz7_1 : w4.cell? ⟨gb274, 1, none⟩ = some (.int .i64 a0_1) := (blk_cell BK274.out 1).trans rfl; have hcz7_2 : w4.cell? ⟨gb274, 2, none⟩ = some (.int .i64 a0_2) := (blk_cell BK274.out 2).trans rfl; have hcz7_3 : w4.cell? ⟨gb274, 3, none⟩ = some (.int .i64 a0_3) := (blk_cell BK274.out 3).trans rfl; have hcz7_4 : w4.cell? ⟨gb274, 4, none⟩ = some (.int .i64 a0_4) := (blk_cell BK274.out 4).trans rfl; have hcz7_5 : w4.cell? ⟨gb274, 5, none⟩ = some (.int .i64 a0_5) := (blk_cell BK274.out 5).trans rfl; have hcz7_6 : w4.cell? ⟨gb274, 6, none⟩ = some (.int .i64 a0_6) := (blk_cell BK274.out 6).trans rfl; have hcz7_7 : w4.cell? ⟨gb274, 7, none⟩ = some (.int .i64 a0_7) := (blk_cell BK274.out 7).trans rfl; have hcz7_8 : w4.cell? ⟨gb274, 8, none⟩ = some (.int .i64 a0_8) := (blk_cell BK274.out 8).trans rfl; have hcz7_9 : w4.cell? ⟨gb274, 9, none⟩ = some (.slice A0_9 l0_9.length c0_9) := (blk_cell BK274.out 9).trans rfl; have hfz7_0 := blk_frozen BK274.out 0; have hfz7_1 := blk_frozen BK274.out 1; have hfz7_2 := blk_frozen BK274.out 2; have hfz7_3 := blk_frozen BK274.out 3; have hfz7_4 := blk_frozen BK274.out 4; have hfz7_5 := blk_frozen BK274.out 5; have hfz7_6 := blk_frozen BK274.out 6; have hfz7_7 := blk_frozen BK274.out 7; have hfz7_8 := blk_frozen BK274.out 8; have hfz7_9 := blk_frozen BK274.out 9) | ((with_reducible refine gate_callee (f := 47) rfl ?_); refine goesL_ (some 7) rfl rfl Try.func47 (by kernel_rfl) rfl #[.int .i64 a1_0, .agg #[.int .i64 a0_0, .int .i64 a0_1, .int .i64 a0_2, .int .i64 a0_3, .int .i64 a0_4, .int .i64 a0_5, .int .i64 a0_6, .int .i64 a0_7, .int .i64 a0_8, .slice A0_9 l0_9.length c0_9]] rfl (by (try simp only [List.map_toArray, List.map_cons, List.map_nil]); first | done | rfl | (simp only [List.length_drop, List.length_take]; rfl)) ?_; (with_reducible refine (impl_goodRow.calls k a1_0 a0_0 a0_1 a0_2 a0_3 a0_4 a0_5 a0_6 a0_7 a0_8 _ _ l0_9 t275 _ ?side1 ?side2 A3.out).mono ?_); (case side1 => repeat (first | exact (Kd.C_below HR0_9.out HB.out) | (with_reducible refine Kd.C_alloc ?_ _) | (with_reducible refine Kd.C_drewN ?_ _) | (with_reducible refine Kd.C_drew ?_))); (case side2 => exact HC0_9.out); rintro e w8 ⟨rfl, hb⟩; refine ⟨_, rfl, ?_⟩; have n0_ := Aside0.mk (blk_below (g := gq1) (o := .cells #[.int .i64 a1_0, .slice A1_1 l1_1.length c1_1] 29 (0, 0)) (by (with_reducible repeat (first | refine blk_drewN ?_ _ | refine blk_drew ?_ | refine blk_alloc ?_ _)); exact BK273.out) hb); have n1_ := Aside0.mk (blk_below (g := gb274) (o := .cells #[.int .i64 a0_0, .int .i64 a0_1, .int .i64 a0_2, .int .i64 a0_3, .int .i64 a0_4, .int .i64 a0_5, .int .i64 a0_6, .int .i64 a0_7, .int .i64 a0_8, .slice A0_9 l0_9.length c0_9] 72 (0, 0)) (by (with_reducible repeat (first | refine blk_drewN ?_ _ | refine blk_drew ?_ | refine blk_alloc ?_ _)); exact BK274.out) hb); have n2_ := Aside0.mk (below_step (by repeat (first | (with_reducible first | exact HB.out | apply below_alloc | apply pw_below_drewN | apply below_drew1 | refine below_set ?_ GE273.out | refine below_set ?_ GE274.out) | exact HB.out)) hb); clear BK273; clear BK274; clear HB; have BK273 := n0_; have BK274 := n1_; have HB := n2_; clear n0_ n1_ n2_; (try clear hb); (try clear hb2); (try clear hk); (try clear hi)))
  go_ret
  exact ⟨by first | rfl | (simp [errW_none, errW_some] <;> rfl) | (simp [*, errW_none, errW_some] <;> rfl), by repeat (first | (with_reducible first | exact HB.out | apply below_alloc | apply pw_below_drewN | apply below_drew1 | refine below_set ?_ GE273.out | refine below_set ?_ GE274.out) | exact HB.out)⟩

/-! ### impl_GoodTable_1_1_in_c: function 45 with the closure 46 -/
def impl_GoodTable_1_1_in_c.f (k : Nat) (l0 : List S72) (aa0_0 : Int) (ll0_1 : List (List (S72))) : Option Bool := Mine.anyO (fun x : S72 => impl_GoodTable_1_1.f k x.f0 x.f1 x.f2 x.f3.f0 x.f3.f1 x.f3.f2 x.f3.f3 x.f3.f4 x.f4.f0 x.f4.f1 aa0_0 ll0_1) l0
theorem impl_GoodTable_1_1_in_c.mono : ∀ a0 b0 b1 k, LeO (impl_GoodTable_1_1_in_c.f k a0 b0 b1) (impl_GoodTable_1_1_in_c.f (k + 1) a0 b0 b1) := by
  intro a0 b0 b1 k
  unfold impl_GoodTable_1_1_in_c.f
  exact Mine.anyO_mono (fun (x : S72) b_ hb_ => impl_GoodTable_1_1.mono x.f0 x.f1 x.f2 x.f3.f0 x.f3.f1 x.f3.f2 x.f3.f3 x.f3.f4 x.f4.f0 x.f4.f1 b0 b1 k b_ hb_) a0
set_option maxHeartbeats 2000000 in
theorem impl_GoodTable_1_1_in_c.calls (k : Nat) (A0 : Option Addr) (c0 : Nat) (l0 : List S72) (gq0 : Nat) (aa0_0 : Int) (AA0_1 : Option Addr) (cc0_1 : Nat) (ll0_1 : List (List (S72))) (r : Bool) (w : World) (hr0 : Kd.C k72 w A0 l0.length l0) (hc0 : l0.length ≤ c0) (hr10_1 : Kd.C (Kd.slice 72 k72) w AA0_1 ll0_1.length ll0_1) (hc10_1 : ll0_1.length ≤ cc0_1) (hb0 : w.heap[gq0]? = some (.cells #[.int .i64 aa0_0, .slice AA0_1 ll0_1.length cc0_1] 29 (0, 0))) (h : impl_GoodTable_1_1_in_c.f k l0 aa0_0 ll0_1 = some r) :
    Calls Try.prog 45 #[.slice A0 l0.length c0, .func (.func 46) #[] #[.pointer (some ⟨gq0, 0, none⟩)]] w fun e w' => e = .returned (.bool r) ∧ Below w.heap.size w w' :=
  impl_Row_45.anyO 46 #[.pointer (some ⟨gq0, 0, none⟩)] (fun x : S72 => impl_GoodTable_1_1.f k x.f0 x.f1 x.f2 x.f3.f0 x.f3.f1 x.f3.f2 x.f3.f3 x.f3.f4 x.f4.f0 x.f4.f1 aa0_0 ll0_1) A0 c0 l0 w r (fun args w => enters_ Try.func46 (by kernel_rfl) rfl args w) hr0 hc0
    (fun W x A9 c9 hx bW hi9 hl9 b hb_ => (impl_GoodTable_1_1.calls k x.f0 x.f1 x.f2 x.f3.f0 x.f3.f1 x.f3.f2 x.f3.f3 x.f3.f4 x.f4.f0 A9 c9 x.f4.f1 gq0 aa0_0 AA0_1 cc0_1 ll0_1 b W hi9 hl9 (Kd.C_below hr10_1 bW) hc10_1 (blk_below hb0 bW) hb_).mono (fun e w' hh => ⟨hh.1, hh.2⟩)) h

/-! ### impl_GoodTable_1: function 44 -/
def impl_GoodTable_1.f (k : Nat) (l0 : List (S72)) (a1_0 : Int) (l1_1 : List (List (S72))) : Option (Bool) := if (l0.length : Int) > 6 then (some true) else ((impl_GoodTable_1_1_in_c.f k l0 a1_0 l1_1).bind fun t277 => (some t277))
theorem impl_GoodTable_1.mono : ∀ a0 a1 a2 k, LeO (impl_GoodTable_1.f k a0 a1 a2) (impl_GoodTable_1.f (k + 1) a0 a1 a2) := by
  intro a0 a1 a2 k
  unfold impl_GoodTable_1.f
  repeat' first
      | (with_reducible exact impl_GoodTable_1_1_in_c.mono _ _ _ _)
      | (with_reducible exact LeO.refl _)
      | (with_reducible exact LeO.none _)
      | (with_reducible refine LeO.ite ?_ ?_)
      | (with_reducible refine LeO.bind ?_ (fun _ => ?_))
      | exact impl_GoodTable_1_1_in_c.mono _ _ _ _
      | exact LeO.none _
      | refine LeO.ite ?_ ?_
      | refine LeO.bind ?_ (fun _ => ?_)
set_option maxHeartbeats 8000000 in
set_option maxRecDepth 100000 in
theorem impl_GoodTable_1.calls (k : Nat) (A0 : Option Addr) (c0 : Nat) (l0 : List (S72)) (gq1 : Nat) (a1_0 : Int) (A1_1 : Option Addr) (c1_1 : Nat) (l1_1 : List (List (S72))) (r : Bool) (w : World) (hr0 : Kd.C k72 w A0 l0.length l0) (hc0 : l0.length ≤ c0) (hr1_1 : Kd.C (Kd.slice 72 k72) w A1_1 l1_1.length l1_1) (hc1_1 : l1_1.length ≤ c1_1) (hb1 : w.heap[gq1]? = some (.cells #[.int .i64 a1_0, .slice A1_1 l1_1.length c1_1] 29 (0, 0))) (h : impl_GoodTable_1.f k l0 a1_0 l1_1 = some r) :
    Calls Try.prog 44 #[.slice A0 l0.length c0, .pointer (some ⟨gq1, 0, none⟩)] w fun e w' => e = .returned (.bool r) ∧ Below w.heap.size w w' := by
  have HR0 := Aside0.mk hr0
  have HC0 := Aside0.mk hc0
  clear hr0 hc0
  have HR1_1 := Aside0.mk hr1_1
  have HC1_1 := Aside0.mk hc1_1
  clear hr1_1 hc1_1
  have BK276 := Aside0.mk hb1
  clear hb1
  have HB := Aside0.mk (Below.refl w.heap.size w)
  have H : (if (l0.length : Int) > 6 then (some true) else ((impl_GoodTable_1_1_in_c.f k l0 a1_0 l1_1).bind fun t277 => (some t277))) = some r := h
  clear h
  by_cases c3 : (l0.length : Int) > 6
  · rw [if_pos c3] at H
    have c3b0 : decide (6 < (l0.length : Int)) = true := decide_eq_true c3
    have c3b1 : decide (6 < l0.length) = true := decide_eq_true (by omega)
    clear c3
    obtain rfl := Option.some.inj H
    go_enter Try.func44, Try.ntmps44
    go_wp2
    go_ret
    exact ⟨by first | rfl | (simp [errW_none, errW_some] <;> rfl) | (simp [*, errW_none, errW_some] <;> rfl), by repeat (first | (with_reducible first | exact HB.out | apply below_alloc | apply pw_below_drewN | apply below_drew1 | refine below_set ?_ GE276.out) | exact HB.out)⟩
  · rw [if_neg c3] at H
    have c3b0 : decide (6 < (l0.length : Int)) = false := decide_eq_false c3
    have c3b1 : decide (6 < l0.length) = false := decide_eq_false (by omega)
    clear c3
    replace H := Option.bind_eq_some_iff.mp H
    obtain ⟨t277, A40, H⟩ := H
    replace H : (some t277) = some r := H
    have A4 := Aside0.mk A40
    clear A40
    obtain rfl := Option.some.inj H
    go_enter Try.func44, Try.ntmps44
    go_wp2_with (first | (go_at_call 45; (with_reducible refine (impl_GoodTable_1_1_in_c.calls k _ _ l0 gq1 a1_0 A1_1 c1_1 l1_1 t277 _ ?side1 ?side2 ?side3 ?side4 ?side5 A4.out).mono ?_); (case side1 => repeat (first | exact HR0.out | (with_reducible refine Kd.C_alloc ?_ _) | (with_reducible refine Kd.C_drewN ?_ _) | (with_reducible refine Kd.C_drew ?_))); (case side2 => exact HC0.out); (case side3 => repeat (first | exact HR1_1.out | (with_reducible refine Kd.C_alloc ?_ _) | (with_reducible refine Kd.C_drewN ?_ _) | (with_reducible refine Kd.C_drew ?_))); (case side4 => exact HC1_1.out); (case side5 => exact by (with_reducible repeat (first | refine blk_drewN ?_ _ | refine blk_drew ?_ | refine blk_alloc ?_ _)); exact BK276.out); rintro e w5 ⟨rfl, hb⟩; have n0_ := Aside0.mk (blk_below (g := gq1) (o := .cells #[.int .i64 a1_0, .slice A1_1 l1_1.length c1_1] 29 (0, 0)) (by (with_reducible repeat (first | refine blk_drewN ?_ _ | refine blk_drew ?_ | refine blk_alloc ?_ _)); exact BK276.out) hb); have n1_ := Aside0.mk (below_step (by repeat (first | (with_reducible first | exact HB.out | apply below_alloc | apply pw_below_drewN | apply below_drew1 | refine below_set ?_ GE276.out) | exact HB.out)) hb); clear BK276; clear HB; have BK276 := n0_; have HB := n1_; clear n0_ n1_; (try clear hb); (try clear hb2); (try clear hk); (try clear hi)))
    go_ret
    exact ⟨by first | rfl | (simp [errW_none, errW_some] <;> rfl) | (simp [*, errW_none, errW_some] <;> rfl), by repeat (first | (with_reducible first | exact HB.out | apply below_alloc | apply pw_below_drewN | apply below_drew1 | refine below_set ?_ GE276.out) | exact HB.out)⟩

/-! ### impl_GoodTable_1_in_c: function 43 with the closure 44 -/
def impl_GoodTable_1_in_c.f (k : Nat) (l0 : List (List (S72))) (aa0_0 : Int) (ll0_1 : List (List (S72))) : Option Bool := Mine.anyO (fun x : (List (S72)) => impl_GoodTable_1.f k x aa0_0 ll0_1) l0
theorem impl_GoodTable_1_in_c.mono : ∀ a0 b0 b1 k, LeO (impl_GoodTable_1_in_c.f k a0 b0 b1) (impl_GoodTable_1_in_c.f (k + 1) a0 b0 b1) := by
  intro a0 b0 b1 k
  unfold impl_GoodTable_1_in_c.f
  exact Mine.anyO_mono (fun (x : (List (S72))) b_ hb_ => impl_GoodTable_1.mono x b0 b1 k b_ hb_) a0
set_option maxHeartbeats 2000000 in
theorem impl_GoodTable_1_in_c.calls (k : Nat) (A0 : Option Addr) (c0 : Nat) (l0 : List (List (S72))) (gq0 : Nat) (aa0_0 : Int) (AA0_1 : Option Addr) (cc0_1 : Nat) (ll0_1 : List (List (S72))) (r : Bool) (w : World) (hr0 : Kd.C (Kd.slice 72 k72) w A0 l0.length l0) (hc0 : l0.length ≤ c0) (hr10_1 : Kd.C (Kd.slice 72 k72) w AA0_1 ll0_1.length ll0_1) (hc10_1 : ll0_1.length ≤ cc0_1) (hb0 : w.heap[gq0]? = some (.cells #[.int .i64 aa0_0, .slice AA0_1 ll0_1.length cc0_1] 29 (0, 0))) (h : impl_GoodTable_1_in_c.f k l0 aa0_0 ll0_1 = some r) :
    Calls Try.prog 43 #[.slice A0 l0.length c0, .func (.func 44) #[] #[.pointer (some ⟨gq0, 0, none⟩)]] w fun e w' => e = .returned (.bool r) ∧ Below w.heap.size w w' :=
  impl_Row_43.anyO 44 #[.pointer (some ⟨gq0, 0, none⟩)] (fun x : (List (S72)) => impl_GoodTable_1.f k x aa0_0 ll0_1) A0 c0 l0 w r (fun args w => enters_ Try.func44 (by kernel_rfl) rfl args w) hr0 hc0
    (fun W x A c hx bW hi hl b hb_ => (impl_GoodTable_1.calls k A c x gq0 aa0_0 AA0_1 cc0_1 ll0_1 b W hi hl (Kd.C_below hr10_1 bW) hc10_1 (blk_below hb0 bW) hb_).mono (fun e w' hh => ⟨hh.1, hh.2⟩)) h

/-! ### impl_GoodTable: function 12 -/
def impl_GoodTable.f (k : Nat) (a0_0 : Int) (l0_1 : List (List (S72))) : Option (Bool) := (impl_IsGroup.f a0_0).bind fun t279 => (if t279 = true then (if (l0_1.length : Int) = a0_0 then ((impl_GoodTable_1_in_c.f k l0_1 a0_0 l0_1).bind fun t280 => (some (!t280))) else (some false)) else (some false))
theorem impl_GoodTable.mono : ∀ a0 a1 k, LeO (impl_GoodTable.f k a0 a1) (impl_GoodTable.f (k + 1) a0 a1) := by
  intro a0 a1 k
  unfold impl_GoodTable.f
  repeat' first
      | (with_reducible exact impl_GoodTable_1_in_c.mono _ _ _ _)
      | (with_reducible exact LeO.refl _)
      | (with_reducible exact LeO.none _)
      | (with_reducible refine LeO.ite ?_ ?_)
      | (with_reducible refine LeO.bind ?_ (fun _ => ?_))
      | exact impl_GoodTable_1_in_c.mono _ _ _ _
      | exact LeO.none _
      | refine LeO.ite ?_ ?_
      | refine LeO.bind ?_ (fun _ => ?_)
set_option maxHeartbeats 8000000 in
set_option maxRecDepth 100000 in
theorem impl_GoodTable.calls (k : Nat) (a0_0 : Int) (A0_1 : Option Addr) (c0_1 : Nat) (l0_1 : List (List (S72))) (r : Bool) (w : World) (hr0_1 : Kd.C (Kd.slice 72 k72) w A0_1 l0_1.length l0_1) (hc0_1 : l0_1.length ≤ c0_1) (h : impl_GoodTable.f k a0_0 l0_1 = some r) :
    Calls Try.prog 12 #[.agg #[.int .i64 a0_0, .slice A0_1 l0_1.length c0_1]] w fun e w' => e = .returned (.bool r) ∧ Below w.heap.size w w' := by
  have hu29 := Try.underlying29
  have HR0_1 := Aside0.mk hr0_1
  have HC0_1 := Aside0.mk hc0_1
  clear hr0_1 hc0_1
  have HB := Aside0.mk (Below.refl w.heap.size w)
  have H : ((impl_IsGroup.f a0_0).bind fun t279 => (if t279 = true then (if (l0_1.length : Int) = a0_0 then ((impl_GoodTable_1_in_c.f k l0_1 a0_0 l0_1).bind fun t280 => (some (!t280))) else (some false)) else (some false))) = some r := h
  clear h
  replace H := Option.bind_eq_some_iff.mp H
  obtain ⟨t279, A20, H⟩ := H
  replace H : (if t279 = true then (if (l0_1.length : Int) = a0_0 then ((impl_GoodTable_1_in_c.f k l0_1 a0_0 l0_1).bind fun t280 => (some (!t280))) else (some false)) else (some false)) = some r := H
  have A2 := Aside0.mk A20
  clear A20
  by_cases c3 : t279 = true
  · subst c3
    have H1 : (if (l0_1.length : Int) = a0_0 then ((impl_GoodTable_1_in_c.f k l0_1 a0_0 l0_1).bind fun t280 => (some (!t280))) else (some false)) = some r := by rw [if_pos rfl] at H; exact H
    clear H
    have H := H1
    clear H1
    by_cases c4 : (l0_1.length : Int) = a0_0
    · rw [if_pos c4] at H
      have c4b0 : ((l0_1.length : Int) == a0_0) = true := beq_iff_eq.mpr c4
      have c4b1 : ((l0_1.length : Int) != a0_0) = false := bne_eq_false_iff_eq.mpr c4
      clear c4
      replace H := Option.bind_eq_some_iff.mp H
      obtain ⟨t280, A50, H⟩ := H
      replace H : (some (!t280)) = some r := H
      have A5 := Aside0.mk A50
      clear A50
      obtain rfl := Option.some.inj H
      go_enter Try.func12, Try.ntmps12
      go_wp2_with (first | ((with_reducible refine gate_dst (N := 1) rfl ?_); (try (refine gate_guard (by rfl) ?_; dsimp only)); refine box_event ?hg (N := 1) ?hd (cs := #[.int .i64 a0_0, .slice A0_1 l0_1.length c0_1]) (t := 29) ?hr ?_; (case hd => rfl); (case hg => rfl); (case hr => first | (go_simp; done) | (go_simp; rfl)); intro gb278 hg w6 hbox hb; have n0_ := Aside0.mk (below_step (by repeat (first | (with_reducible first | exact HB.out | apply below_alloc | apply pw_below_drewN | apply below_drew1) | exact HB.out)) hb); have n1_ := Aside0.mk (hbox); have n2_ := Aside0.mk ((by rw [hg]; exact (below_size (by repeat (first | (with_reducible first | exact HB.out | apply below_alloc | apply pw_below_drewN | apply below_drew1) | exact HB.out))) : w.heap.size ≤ gb278)); have n3_ := Aside0.mk ((by rw [hg]; exact (below_size (by repeat (first | (with_reducible first | exact HB.out | apply below_alloc | apply pw_below_drewN | apply below_drew1) | exact HB.out))) : w.heap.size ≤ gb278)); clear HB; have HB := n0_; have BK278 := n1_; have GW278 := n2_; have GE278 := n3_; clear n0_ n1_ n2_ n3_; clear hb hbox hg; have hcz7_0 : w6.cell? ⟨gb278, 0, none⟩ = some (.int .i64 a0_0) := (blk_cell BK278.out 0).trans rfl; have hcz7_1 : w6.cell? ⟨gb278, 1, none⟩ = some (.slice A0_1 l0_1.length c0_1) := (blk_cell BK278.out 1).trans rfl; have hfz7_0 := blk_frozen BK278.out 0; have hfz7_1 := blk_frozen BK278.out 1) | ((with_reducible refine gate_callee (f := 42) rfl ?_); refine goesL_ (some 5) rfl rfl Try.func42 (by kernel_rfl) rfl #[.int .i64 a0_0] rfl (by (try simp only [List.map_toArray, List.map_cons, List.map_nil]); first | done | rfl | (simp only [List.length_drop, List.length_take]; rfl)) ?_; (with_reducible refine (impl_IsGroup.calls a0_0 true _ A2.out).mono ?_); rintro e w' ⟨rfl, ⟨nd, rfl⟩⟩; refine ⟨_, rfl, ?_⟩) | (go_at_call 43; (with_reducible refine (impl_GoodTable_1_in_c.calls k _ _ l0_1 gb278 a0_0 A0_1 c0_1 l0_1 t280 _ ?side1 ?side2 ?side3 ?side4 ?side5 A5.out).mono ?_); (case side1 => repeat (first | exact (Kd.C_below HR0_1.out (by repeat (first | (with_reducible first | exact HB.out | apply below_alloc | apply pw_below_drewN | apply below_drew1 | refine below_set ?_ GE278.out) | exact HB.out))) | (with_reducible refine Kd.C_alloc ?_ _) | (with_reducible refine Kd.C_drewN ?_ _) | (with_reducible refine Kd.C_drew ?_))); (case side2 => exact HC0_1.out); (case side3 => repeat (first | exact (Kd.C_below HR0_1.out (by repeat (first | (with_reducible first | exact HB.out | apply below_alloc | apply pw_below_drewN | apply below_drew1 | refine below_set ?_ GE278.out) | exact HB.out))) | (with_reducible refine Kd.C_alloc ?_ _) | (with_reducible refine Kd.C_drewN ?_ _) | (with_reducible refine Kd.C_drew ?_))); (case side4 => exact HC0_1.out); (case side5 => exact by (with_reducible repeat (first | refine blk_drewN ?_ _ | refine blk_drew ?_ | refine blk_alloc ?_ _)); exact BK278.out); rintro e w8 ⟨rfl, hb⟩; have n0_ := Aside0.mk (blk_below (g := gb278) (o := .cells #[.int .i64 a0_0, .slice A0_1 l0_1.length c0_1] 29 (0, 0)) (by (with_reducible repeat (first | refine blk_drewN ?_ _ | refine blk_drew ?_ | refine blk_alloc ?_ _)); exact BK278.out) hb); have n1_ := Aside0.mk (below_step (by repeat (first | (with_reducible first | exact HB.out | apply below_alloc | apply pw_below_drewN | apply below_drew1 | refine below_set ?_ GE278.out) | exact HB.out)) hb); clear BK278; clear HB; have BK278 := n0_; have HB := n1_; clear n0_ n1_; (try clear hb); (try clear hb2); (try clear hk); (try clear hi)))
      go_ret
      exact ⟨by first | rfl | (simp [errW_none, errW_some] <;> rfl) | (simp [*, errW_none, errW_some] <;> rfl), by repeat (first | (with_reducible first | exact HB.out | apply below_alloc | apply pw_below_drewN | apply below_drew1 | refine below_set ?_ GE278.out) | exact HB.out)⟩
    · rw [if_neg c4] at H
      have c4b0 : ((l0_1.length : Int) == a0_0) = false := beq_eq_false_iff_ne.mpr c4
      have c4b1 : ((l0_1.length : Int) != a0_0) = true := bne_iff_ne.mpr c4
      obtain rfl := Option.some.inj H
      go_enter Try.func12, Try.ntmps12
      go_wp2_with (first | ((with_reducible refine gate_dst (N := 1) rfl ?_); (try (refine gate_guard (by rfl) ?_; dsimp only)); refine box_event ?hg (N := 1) ?hd (cs := #[.int .i64 a0_0, .slice A0_1 l0_1.length c0_1]) (t := 29) ?hr ?_; (case hd => rfl); (case hg => rfl); (case hr => first | (go_simp; done) | (go_simp; rfl)); intro gb278 hg w9 hbox hb; have n0_ := Aside0.mk (below_step (by repeat (first | (with_reducible first | exact HB.out | apply below_alloc | apply pw_below_drewN | apply below_drew1) | exact HB.out)) hb); have n1_ := Aside0.mk (hbox); have n2_ := Aside0.mk ((by rw [hg]; exact (below_size (by repeat (first | (with_reducible first | exact HB.out | apply below_alloc | apply pw_below_drewN | apply below_drew1) | exact HB.out))) : w.heap.size ≤ gb278)); have n3_ := Aside0.mk ((by rw [hg]; exact (below_size (by repeat (first | (with_reducible first | exact HB.out | apply below_alloc | apply pw_below_drewN | apply below_drew1) | exact HB.out))) : w.heap.size ≤ gb278)); clear HB; have HB := n0_; have BK278 := n1_; have GW278 := n2_; have GE278 := n3_; clear n0_ n1_ n2_ n3_; clear hb hbox hg; have hcz10_0 : w9.cell? ⟨gb278, 0, none⟩ = some (.int .i64 a0_0) := (blk_cell BK278.out 0).trans rfl; have hcz10_1 : w9.cell? ⟨gb278, 1, none⟩ = some (.slice A0_1 l0_1.length c0_1) := (blk_cell BK278.out 1).trans rfl; have hfz10_0 := blk_frozen BK278.out 0; have hfz10_1 := blk_frozen BK278.out 1) | ((with_reducible refine gate_callee (f := 42) rfl ?_); refine goesL_ (some 5) rfl rfl Try.func42 (by kernel_rfl) rfl #[.int .i64 a0_0] rfl (by (try simp only [List.map_toArray, List.map_cons, List.map_nil]); first | done | rfl | (simp only [List.length_drop, List.length_take]; rfl)) ?_; (with_reducible refine (impl_IsGroup.calls a0_0 true _ A2.out).mono ?_); rintro e w' ⟨rfl, ⟨nd, rfl⟩⟩; refine ⟨_, rfl, ?_⟩))
      go_ret
      exact ⟨by first | rfl | (simp [errW_none, errW_some] <;> rfl) | (simp [*, errW_none, errW_some] <;> rfl), by repeat (first | (with_reducible first | exact HB.out | apply below_alloc | apply pw_below_drewN | apply below_drew1 | refine below_set ?_ GE278.out) | exact HB.out)⟩
  · replace c3 := Bool.eq_false_iff.mpr c3
    subst c3
    have H1 : (some false) = some r := by rw [if_neg (show ¬ (false = true) by decide)] at H; exact H
    clear H
    have H := H1
    clear H1
    obtain rfl := Option.some.inj H
    go_enter Try.func12, Try.ntmps12
    go_wp2_with (first | ((with_reducible refine gate_dst (N := 1) rfl ?_); (try (refine gate_guard (by rfl) ?_; dsimp only)); refine box_event ?hg (N := 1) ?hd (cs := #[.int .i64 a0_0, .slice A0_1 l0_1.length c0_1]) (t := 29) ?hr ?_; (case hd => rfl); (case hg => rfl); (case hr => first | (go_simp; done) | (go_simp; rfl)); intro gb278 hg w11 hbox hb; have n0_ := Aside0.mk (below_step (by repeat (first | (with_reducible first | exact HB.out | apply below_alloc | apply pw_below_drewN | apply below_drew1) | exact HB.out)) hb); have n1_ := Aside0.mk (hbox); have n2_ := Aside0.mk ((by rw [hg]; exact (below_size (by repeat (first | (with_reducible first | exact HB.out | apply below_alloc | apply pw_below_drewN | apply below_drew1) | exact HB.out))) : w.heap.size ≤ gb278)); have n3_ := Aside0.mk ((by rw [hg]; exact (below_size (by repeat (first | (with_reducible first | exact HB.out | apply below_alloc | apply pw_below_drewN | apply below_drew1) | exact HB.out))) : w.heap.size ≤ gb278)); clear HB; have HB := n0_; have BK278 := n1_; have GW278 := n2_; have GE278 := n3_; clear n0_ n1_ n2_ n3_; clear hb hbox hg; have hcz12_0 : w11.cell? ⟨gb278, 0, none⟩ = some (.int .i64 a0_0) := (blk_cell BK278.out 0).trans rfl; have hcz12_1 : w11.cell? ⟨gb278, 1, none⟩ = some (.slice A0_1 l0_1.length c0_1) := (blk_cell BK278.out 1).trans rfl; have hfz12_0 := blk_frozen BK278.out 0; have hfz12_1 := blk_frozen BK278.out 1) | ((with_reducible refine gate_callee (f := 42) rfl ?_); refine goesL_ (some 5) rfl rfl Try.func42 (by kernel_rfl) rfl #[.int .i64 a0_0] rfl (by (try simp only [List.map_toArray, List.map_cons, List.map_nil]); first | done | rfl | (simp only [List.length_drop, List.length_take]; rfl)) ?_; (with_reducible refine (impl_IsGroup.calls a0_0 false _ A2.out).mono ?_); rintro e w' ⟨rfl, ⟨nd, rfl⟩⟩; refine ⟨_, rfl, ?_⟩))
    go_ret
    exact ⟨by first | rfl | (simp [errW_none, errW_some] <;> rfl) | (simp [*, errW_none, errW_some] <;> rfl), by repeat (first | (with_reducible first | exact HB.out | apply below_alloc | apply pw_below_drewN | apply below_drew1 | refine below_set ?_ GE278.out) | exact HB.out)⟩

/-! ### impl_Table_each: function 88 -/
def impl_Table_each.rowO {α : Type} (step : α → Int → Int → S72 → Option α) (i : Int) : List S72 → Nat → α → Option α
  | [], _, s => some s
  | x :: xs, j, s => (step s i ((j : Int) + 1) x).bind fun s' => impl_Table_each.rowO step i xs (j + 1) s'
def impl_Table_each.allO {α : Type} (step : α → Int → Int → S72 → Option α) : List (List S72) → Nat → α → Option α
  | [], _, s => some s
  | y :: ys, i, s => (impl_Table_each.rowO step (i : Int) y 0 s).bind fun s' => impl_Table_each.allO step ys (i + 1) s'
set_option maxHeartbeats 4000000 in
set_option maxRecDepth 100000 in
theorem impl_Table_each.gen {α : Type} (g : FuncId) (lb : Array Value) (Rel : α → World → Prop) (step : α → Int → Int → S72 → Option α) (n : Int) (A : Option Addr) (c : Nat) (l : List (List S72)) (s r : α) (wb w : World)
    (eg : ∀ args w, (callFunc g args).run Try.prog w = .ok (.enter g args) w)
    (hr : Kd.C (Kd.slice 72 k72) wb A l.length l)
    (hbel : ∀ s W, Rel s W → Below wb.heap.size wb W) (hmono : ∀ s W W', Rel s W → Below W.heap.size W W' → Rel s W')
    (hstep : ∀ (s s' : α) (i j : Int) (x : S72) (A9 : Option Addr) (c9 : Nat) (W : World), Rel s W → step s i j x = some s' → Calls Try.prog g (#[.int .i64 i, .int .i64 j, .agg #[.int .i64 x.f0, .int .i64 x.f1, .int .i64 x.f2, .int .i64 x.f3.f0, .int .i64 x.f3.f1, .int .i64 x.f3.f2, .int .i64 x.f3.f3, .int .i64 x.f3.f4, .int .i64 x.f4.f0, .slice A9 x.f4.f1.length c9]] ++ lb) W fun e W' => e = .returned (.tuple #[]) ∧ Rel s' W')
    (h0 : Rel s w) (h : impl_Table_each.allO step l 0 s = some r) :
    Calls Try.prog 88 #[.agg #[.int .i64 n, .slice A l.length c], .func (.func g) #[] lb] w fun e w' => e = .returned (.tuple #[]) ∧ Rel r w' := by
  have hu := Try.underlying72
  have hu2 := Try.underlying29
  have hm : l.length ≤ 9223372036854775807 := hr.2.1
  have HR := Aside0.mk hr
  have HB := Aside0.mk hbel
  have HM := Aside0.mk hmono
  have HS := Aside0.mk hstep
  have H0 := Aside0.mk h0
  have HI := Aside0.mk h
  clear hr hbel hmono hstep h0 h
  go_enter Try.func88, Try.ntmps88
  go_upto_region 1 with (fail)
  refine letC (fun W_ => Below w.heap.size w W_ ∧ W_.heap[w.heap.size]? = some (.cells #[.int .i64 n, .slice A l.length c] 29 (0, 0))) ⟨below_alloc (Below.refl _ _) _, blk_new w (.cells #[.int .i64 n, .slice A l.length c] 29)⟩ ?_
  rintro W0 ⟨hb, hx⟩
  have HR0 := Aside0.mk (HM.out _ _ _ H0.out hb)
  have qt : W0.cell? ⟨w.heap.size, 1, none⟩ = some (.slice A l.length c) := (blk_cell hx 1).trans rfl
  clear hb hx H0
  go_wp2
  clear qt
  go_loopg [11] l.length (fun gg s11 wr => ∃ (kk : Nat) (t : α), kk ≤ l.length ∧ l.length - kk ≤ gg ∧ s11 = .int .i64 kk ∧ Aside0 (Rel t wr) ∧ Aside0 (impl_Table_each.allO step (l.drop kk) kk t = some r))
  case atStart => exact ⟨0, s, Nat.zero_le _, by omega, rfl, HR0, ⟨by simpa using HI.out⟩⟩
  case round =>
    clear HI HR0
    obtain ⟨kk, t, hkk, hg, rfl, HT, PF⟩ := hrel
    by_cases hlt : kk < l.length
    · have hltz : (kk : Int) < (l.length : Int) := by omega
      obtain ⟨ad, Ay, cy, rfl, hy0, hly, hiy⟩ := at_L9 HR.out (kk : Int) (by omega) hltz
      have hy0 := ((HB.out _ _ HT.out).cell (World.block_lt_of_cell? wb _ hy0)).trans hy0
      simp only [Int.toNat_natCast] at hy0
      have he : Aside0 (l.getD kk [] = rd_L9 l (kk : Int)) := ⟨by unfold rd_L9; rw [Int.toNat_natCast]⟩
      have PG : Aside0 ((impl_Table_each.rowO step (kk : Int) (rd_L9 l (kk : Int)) 0 t).bind (fun s' => impl_Table_each.allO step (l.drop (kk + 1)) (kk + 1) s') = some r) := ⟨by have h_ := PF.out; rw [Mine.drop_at l [] kk hlt, he.out] at h_; exact h_⟩
      have HIY := Aside0.mk hiy
      clear PF he hiy
      generalize rd_L9 l (kk : Int) = y at hy0 hly HIY PG
      have hmy : y.length ≤ 9223372036854775807 := HIY.out.2.1
      go_wp2
      go_loopg [18] y.length (fun gg s18 wr2 => ∃ (jj : Nat) (t2 : α), jj ≤ y.length ∧ y.length - jj ≤ gg ∧ s18 = .int .i64 jj ∧ Aside0 (Rel t2 wr2) ∧ Aside0 ((impl_Table_each.rowO step (kk : Int) (y.drop jj) jj t2).bind (fun s' => impl_Table_each.allO step (l.drop (kk + 1)) (kk + 1) s') = some r))
      case atStart => exact ⟨0, t, Nat.zero_le _, by omega, rfl, HT, ⟨by simpa using PG.out⟩⟩
      case round =>
        clear HT PG hy0
        obtain ⟨jj, t2, hjj, hg2, rfl, HT, PF⟩ := hrel
        by_cases hlt2 : jj < y.length
        · have hltz2 : (jj : Int) < (y.length : Int) := by omega
          obtain ⟨ad2, A9, c9, rfl, hx0, hx1, hx2, hx3, hx4, hx5, hx6, hx7, hx8, hx9, hl9, hi9⟩ := at_T72 (Kd.C_below HIY.out (HB.out _ _ HT.out)) (jj : Int) (by omega) hltz2
          simp only [Int.toNat_natCast] at hx0 hx1 hx2 hx3 hx4 hx5 hx6 hx7 hx8 hx9
          have he : Aside0 (y.getD jj z72 = rd_T72 y (jj : Int)) := ⟨by unfold rd_T72; rw [Int.toNat_natCast]⟩
          have PG : Aside0 (((step t2 (kk : Int) ((jj : Int) + 1) (rd_T72 y (jj : Int))).bind fun s' => impl_Table_each.rowO step (kk : Int) (y.drop (jj + 1)) (jj + 1) s').bind (fun s' => impl_Table_each.allO step (l.drop (kk + 1)) (kk + 1) s') = some r) := ⟨by have h_ := PF.out; rw [Mine.drop_at y z72 jj hlt2, he.out] at h_; exact h_⟩
          clear PF he hl9 hi9
          generalize rd_T72 y (jj : Int) = x at hx0 hx1 hx2 hx3 hx4 hx5 hx6 hx7 hx8 hx9 PG
          cases hq : step t2 (kk : Int) ((jj : Int) + 1) x with
          | none => exact absurd PG.out (by rw [hq]; simp)
          | some t3 =>
          have PG : Aside0 ((impl_Table_each.rowO step (kk : Int) (y.drop (jj + 1)) (jj + 1) t3).bind (fun s' => impl_Table_each.allO step (l.drop (kk + 1)) (kk + 1) s') = some r) := ⟨by have h_ := PG.out; rw [hq, Option.bind_some] at h_; exact h_⟩
          have HQ := Aside0.mk hq
          clear hq
          go_upto_region 7 with (fail)
          refine letC (fun W_ => Below wr.heap.size wr W_ ∧ W_.heap[wr.heap.size]? = some (.cells #[.int .i64 x.f0, .int .i64 x.f1, .int .i64 x.f2, .int .i64 x.f3.f0, .int .i64 x.f3.f1, .int .i64 x.f3.f2, .int .i64 x.f3.f3, .int .i64 x.f3.f4, .int .i64 x.f4.f0, .slice A9 x.f4.f1.length c9] 72 (0, 0))) ⟨below_alloc (Below.refl _ _) _, blk_new wr (.cells #[.int .i64 x.f0, .int .i64 x.f1, .int .i64 x.f2, .int .i64 x.f3.f0, .int .i64 x.f3.f1, .int .i64 x.f3.f2, .int .i64 x.f3.f3, .int .i64 x.f3.f4, .int .i64 x.f4.f0, .slice A9 x.f4.f1.length c9] 72)⟩ ?_
          rintro W1 ⟨hb, hbx⟩
          have HT1 := Aside0.mk (HM.out _ _ _ HT.out hb)
          have HX1 := Aside0.mk hbx
          clear hb hbx HT hx0 hx1 hx2 hx3 hx4 hx5 hx6 hx7 hx8 hx9
          generalize wr.heap.size = gb at HX1
          have q0 : W1.cell? ⟨gb, 0, none⟩ = some (.int .i64 x.f0) := (blk_cell HX1.out 0).trans rfl
          have q1 : W1.cell? ⟨gb, 1, none⟩ = some (.int .i64 x.f1) := (blk_cell HX1.out 1).trans rfl
          have q2 : W1.cell? ⟨gb, 2, none⟩ = some (.int .i64 x.f2) := (blk_cell HX1.out 2).trans rfl
          have q3 : W1.cell? ⟨gb, 3, none⟩ = some (.int .i64 x.f3.f0) := (blk_cell HX1.out 3).trans rfl
          have q4 : W1.cell? ⟨gb, 4, none⟩ = some (.int .i64 x.f3.f1) := (blk_cell HX1.out 4).trans rfl
          have q5 : W1.cell? ⟨gb, 5, none⟩ = some (.int .i64 x.f3.f2) := (blk_cell HX1.out 5).trans rfl
          have q6 : W1.cell? ⟨gb, 6, none⟩ = some (.int .i64 x.f3.f3) := (blk_cell HX1.out 6).trans rfl
          have q7 : W1.cell? ⟨gb, 7, none⟩ = some (.int .i64 x.f3.f4) := (blk_cell HX1.out 7).trans rfl
          have q8 : W1.cell? ⟨gb, 8, none⟩ = some (.int .i64 x.f4.f0) := (blk_cell HX1.out 8).trans rfl
          have q9 : W1.cell? ⟨gb, 9, none⟩ = some (.slice A9 x.f4.f1.length c9) := (blk_cell HX1.out 9).trans rfl
          go_wp2_with fail
          refine (HS.out t2 t3 (kk : Int) ((jj : Int) + 1) x A9 c9 W1 HT1.out HQ.out).mono ?_
          rintro e W2 ⟨rfl, hT⟩
          have HT2 := Aside0.mk hT
          clear hT q0 q1 q2 q3 q4 q5 q6 q7 q8 q9
          go_wp2
          go_roundg (y.length - (jj + 1))
          case measure => omega
          case rel => exact ⟨jj + 1, t3, by omega, by omega, by go_num, HT2, PG⟩
        · have hltz2 : ¬ (jj : Int) < (y.length : Int) := by omega
          have PG : Aside0 (impl_Table_each.allO step (l.drop (kk + 1)) (kk + 1) t2 = some r) := ⟨by have h_ := PF.out; rw [List.drop_eq_nil_of_le (by omega)] at h_; simpa [impl_Table_each.rowO] using h_⟩
          go_wp2
          go_roundg (l.length - (kk + 1))
          case measure => omega
          case rel => exact ⟨kk + 1, t2, by omega, by omega, by go_num, HT, PG⟩
    · have hltz : ¬ (kk : Int) < (l.length : Int) := by omega
      have PG : Aside0 (t = r) := ⟨by have h_ := PF.out; rw [List.drop_eq_nil_of_le (by omega)] at h_; simpa [impl_Table_each.allO] using h_⟩
      go_wp2
      go_end0
      exact ⟨rfl, by have e_ := PG.out; subst e_; exact HT.out⟩

/-! ### impl_Table_committed_1: function 89 -/
def impl_Table_committed_1.Rel (gq : Nat) (w0 : World) (s : List (List Int)) (W : World) : Prop := ∃ v, W.heap[gq]? = some (.cells #[v] 37 (0, 0)) ∧ Kd.S (Kd.slice 3 (Kd.int .i64)) 44 W w0.heap.size (fun _ => True) v s ∧ Below w0.heap.size w0 W
def impl_Table_committed_1.stepC (s : List (List Int)) (i j : Int) (x : S72) : Option (List (List Int)) := if x.f2 = 3 then (if s.length < 5864062014805 then some (s ++ [[i, j]]) else none) else some s
set_option maxHeartbeats 4000000 in
set_option maxRecDepth 100000 in
theorem impl_Table_committed_1.closed (gq : Nat) (w0 : World) (hgq : w0.heap.size ≤ gq) (s s' : List (List Int)) (i j : Int) (x : S72) (A9 : Option Addr) (c9 : Nat) (W : World) (hrel : impl_Table_committed_1.Rel gq w0 s W) (h : impl_Table_committed_1.stepC s i j x = some s') :
    Calls Try.prog 89 #[.int .i64 i, .int .i64 j, .agg #[.int .i64 x.f0, .int .i64 x.f1, .int .i64 x.f2, .int .i64 x.f3.f0, .int .i64 x.f3.f1, .int .i64 x.f3.f2, .int .i64 x.f3.f3, .int .i64 x.f3.f4, .int .i64 x.f4.f0, .slice A9 x.f4.f1.length c9], .pointer (some ⟨gq, 0, none⟩)] W fun e W' => e = .returned (.tuple #[]) ∧ impl_Table_committed_1.Rel gq w0 s' W' := by
  have hu := Try.underlying72
  obtain ⟨v, hbox, hS, hB⟩ := hrel
  have HQ := Aside0.mk hbox
  have HS := Aside0.mk hS
  have HB := Aside0.mk hB
  have HI := Aside0.mk h
  clear hbox hS hB h
  go_enter Try.func89, Try.ntmps89
  go_upto_region 1 with (fail)
  refine letC (fun W_ => Below W.heap.size W W_ ∧ W_.heap[W.heap.size]? = some (.cells #[.int .i64 x.f0, .int .i64 x.f1, .int .i64 x.f2, .int .i64 x.f3.f0, .int .i64 x.f3.f1, .int .i64 x.f3.f2, .int .i64 x.f3.f3, .int .i64 x.f3.f4, .int .i64 x.f4.f0, .slice A9 x.f4.f1.length c9] 72 (0, 0))) ⟨below_alloc (Below.refl _ _) _, blk_new W (.cells #[.int .i64 x.f0, .int .i64 x.f1, .int .i64 x.f2, .int .i64 x.f3.f0, .int .i64 x.f3.f1, .int .i64 x.f3.f2, .int .i64 x.f3.f3, .int .i64 x.f3.f4, .int .i64 x.f4.f0, .slice A9 x.f4.f1.length c9] 72)⟩ ?_
  rintro W1 ⟨hb, hx⟩
  have HQ1 := Aside0.mk (blk_below HQ.out hb)
  have HS1 := Aside0.mk (Kd.S_below HS.out hb)
  have HB1 := Aside0.mk (below_then HB.out HB.out.size hb)
  have q2 : W1.cell? ⟨W.heap.size, 2, none⟩ = some (.int .i64 x.f2) := (blk_cell hx 2).trans rfl
  clear hb hx HQ HS HB
  unfold impl_Table_committed_1.stepC at HI
  by_cases h3 : x.f2 = 3
  · have HI : Aside0 ((if s.length < 5864062014805 then some (s ++ [[i, j]]) else none) = some s') := ⟨by have h_ := HI.out; rw [if_pos h3] at h_; exact h_⟩
    by_cases hl : s.length < 5864062014805
    · have HE : Aside0 (s ++ [[i, j]] = s') := ⟨by have h_ := HI.out; rw [if_pos hl] at h_; exact Option.some.inj h_⟩
      have hd : (x.f2 == 3) = true := by rw [h3]; rfl
      have qv : W1.cell? ⟨gq, 0, none⟩ = some v := (blk_cell HQ1.out 0).trans rfl
      have HL := Aside0.mk hl
      have hv := Kd.R_val (Kd.S_R HS1.out)
      obtain ⟨Av, cv, rfl⟩ := Kd.S_slice HS1.out
      clear HI h3 hl
      go_wp2_with (first | ((with_reducible refine gate_dst (N := 13) rfl ?_); refine Kd.R_lit (Kd.int .i64) _ 3 ?hg (N := 13) ?hd (xs := ([i, j] : List Int)) (inner := [.int .i64 i, .int .i64 j]) (ok := fun _ => True) (okp := fun _ => True) ?hr ?hp (fun _ hk => hk) trivial (Below.refl _ _) (Nat.le_refl _) (by simp) ?_; (case hd => rfl); (case hg => rfl); (case hr => first | (go_simp; done) | (go_simp; rfl)); (case hp => exact (Reps.one (show Kd.M (Kd.int .i64) _ _ _ i [.int .i64 i] from rfl) (Reps.one (show Kd.M (Kd.int .i64) _ _ _ j [.int .i64 j] from rfl) (Reps.none _ _)))); intro u2 W2 ho2 hb hg_ hnew_; clear hg_ hnew_ qv; have HO2 := Aside0.mk (Kd.R_lower ho2 HB1.out.size); have HN2 := Aside0.mk (Kd.S_elder' HS1.out (Kd.R_base ho2) hb); have HS2 := Aside0.mk (Kd.S_below HS1.out hb); have HQ2 := Aside0.mk (blk_below HQ1.out hb); have HB2 := Aside0.mk (below_then HB1.out HB1.out.size hb); clear ho2 hb HS1 HQ1 HB1; obtain ⟨Au, cu, rfl⟩ := Kd.R_slice HO2.out) | ((with_reducible refine gate_builtin (b := .append) (xs := #[.tmp 10, .tmp 14]) rfl ?_); at_builtin; refine Kd.S_append (Kd.slice 3 (Kd.int .i64)) (w0 := w0) w0.heap.size rfl (.tmp 10) (.tmp 14) 37 44 (.slice none 0 0) 24 rfl Try.underlying37 info44 rfl (by decide) (by omega) (.slice Av s.length cv) s [i, j] [.slice Au [i, j].length cu] (fun _ => True) (fun k_ => some k_ = (.slice Au [i, j].length cu : Value).ownBlock) rfl rfl ?aP (fun k_ hk_ => ((Kd.R_mono (ok' := fun k_ => ((fun _ => True)) k_ ∧ some k_ ≠ ((.slice Av s.length cv) : Value).ownBlock) (Kd.R_apart' (HO2.out) (Kd.S_typed HS2.out) (by decide)) (fun k_ hk => ⟨trivial, hk.2⟩))).1 k_ hk_.symm) ?aF ?aO ?aB ?aS ?aL ?_; (case aP => exact Kd.M_row (Kd.R_mono (Kd.R_tight rfl (Kd.R_mono (ok' := fun k_ => ((fun _ => True)) k_ ∧ some k_ ≠ ((.slice Av s.length cv) : Value).ownBlock) (Kd.R_apart' (HO2.out) (Kd.S_typed HS2.out) (by decide)) (fun k_ hk => ⟨trivial, hk.2⟩))) (fun _ h_ => h_))); (case aB => exact HB2.out); (case aF => exact (fun _ _ => trivial)); (case aO => exact Kd.S_mono HN2.out (fun k_ hk => ⟨trivial, fun e_ => hk.2 e_⟩)); (case aS => exact HB2.out.size); (case aL => have := HL.out; omega); intro u3 W3 ho hb hg hat; have HO3 := Aside0.mk ho; have HB3 := Aside0.mk hb; have HQ3 := Aside0.mk (blk_grown HQ2.out hg (Kd.S_ne HS2.out HQ2.out (by decide))); clear ho hb hg hat HS2 HQ2 HB2 HO2 HN2; have qs := blk_cell HQ3.out 0; have fs := blk_frozen HQ3.out 0; obtain ⟨Aw, cw, rfl⟩ := Kd.S_slice HO3.out))
      go_end0
      refine ⟨rfl, _, blk_put HQ3.out 0 _ rfl, ?_, below_set HB3.out hgq⟩
      rw [← HE.out]
      have hs := Kd.S_set HO3.out HQ3.out (by decide) 0 (.slice Aw (s.length + 1) cw)
      rw [show (s ++ [[i, j]]).length = s.length + 1 by simp] at hs
      exact hs
    · exact absurd HI.out (by rw [if_neg hl]; simp)
  · have HE : Aside0 (s = s') := ⟨by have h_ := HI.out; rw [if_neg h3] at h_; exact Option.some.inj h_⟩
    have hd : (x.f2 == 3) = false := by rw [beq_eq_false_iff_ne]; exact h3
    clear HI h3
    go_wp2
    go_end0
    exact ⟨rfl, v, HQ1.out, by rw [← HE.out]; exact HS1.out, HB1.out⟩

/-! ### impl_Table_committed: function 54 -/
def impl_Table_committed.f (n : Int) (l : List (List S72)) : Option (List (List Int)) := impl_Table_each.allO impl_Table_committed_1.stepC l 0 []
set_option maxHeartbeats 4000000 in
set_option maxRecDepth 100000 in
theorem impl_Table_committed.calls (n : Int) (A0 : Option Addr) (c0 : Nat) (l0 : List (List S72)) (r : List (List Int)) (w : World) (hr0 : Kd.C (Kd.slice 72 k72) w A0 l0.length l0) (hc0 : l0.length ≤ c0) (h : impl_Table_committed.f n l0 = some r) :
    Calls Try.prog 54 #[.agg #[.int .i64 n, .slice A0 l0.length c0]] w fun e w' => ∃ v0_ : Value, e = .returned (v0_) ∧ Kd.S (Kd.slice 3 (Kd.int .i64)) 44 w' w.heap.size (fun _ => True) v0_ r ∧ Below w.heap.size w w' := by
  have hu2 := Try.underlying29
  have HR := Aside0.mk hr0
  have HI := Aside0.mk h
  clear hr0 hc0 h
  go_enter Try.func54, Try.ntmps54
  go_upto_region 1 with (fail)
  refine letC (fun W_ => Below w.heap.size w W_ ∧ W_.heap[w.heap.size]? = some (.cells #[.int .i64 n, .slice A0 l0.length c0] 29 (0, 0))) ⟨below_alloc (Below.refl _ _) _, blk_new w (.cells #[.int .i64 n, .slice A0 l0.length c0] 29)⟩ ?_
  rintro W1 ⟨hb, hx⟩
  have HB1 := Aside0.mk hb
  have HX1 := Aside0.mk hx
  clear hb hx
  go_upto_region 2 with (first | ((with_reducible refine gate_dst (N := 4) rfl ?_); refine Kd.S_lit (Kd.slice 3 (Kd.int .i64)) (w0 := W1) W1.heap.size 44 ?hg (N := 4) ?hd (xs := ([] : List (List Int))) (inner := []) (ok := fun _ => True) (okp := fun _ => True) ?hr ?hp (fun _ hk => hk) trivial (Below.refl _ _) (Nat.le_refl _) (by simp) ?_; (case hd => rfl); (case hg => rfl); (case hr => first | (go_simp; done) | (go_simp; rfl)); (case hp => exact (Reps.none _ _)); intro vo_ W2 ho2 hb hg_ hnew_; clear hg_ hnew_; have HS2 := Aside0.mk (Kd.S_lower ho2 HB1.out.size); have HB2 := Aside0.mk (below_then HB1.out HB1.out.size hb); have HX2 := Aside0.mk (blk_below HX1.out hb); clear ho2 hb HX1; obtain ⟨Av, cv, rfl⟩ := Kd.S_slice HS2.out))
  refine letC (fun W_ => Below W2.heap.size W2 W_ ∧ W_.heap[W2.heap.size]? = some (.cells #[.slice Av 0 cv] 37 (0, 0))) ⟨below_alloc (Below.refl _ _) _, blk_new W2 (.cells #[.slice Av 0 cv] 37)⟩ ?_
  rintro W3 ⟨hb, hbx⟩
  have HX3 := Aside0.mk (blk_below HX2.out hb)
  have HREL : Aside0 (impl_Table_committed_1.Rel W2.heap.size w [] W3) := ⟨_, hbx, Kd.S_below HS2.out hb, below_then HB2.out HB2.out.size hb⟩
  have HG := Aside0.mk HB2.out.size
  clear hb hbx HX2 HS2 HB2 HB1
  have q0 : W3.cell? ⟨w.heap.size, 0, none⟩ = some (.int .i64 n) := (blk_cell HX3.out 0).trans rfl
  have q1 : W3.cell? ⟨w.heap.size, 1, none⟩ = some (.slice A0 l0.length c0) := (blk_cell HX3.out 1).trans rfl
  generalize W2.heap.size = gq at HREL HG
  go_wp2_with fail
  refine (impl_Table_each.gen 89 #[.pointer (some ⟨gq, 0, none⟩)] (impl_Table_committed_1.Rel gq w) impl_Table_committed_1.stepC n A0 c0 l0 [] r w W3 (fun args w => enters_ Try.func89 (by kernel_rfl) rfl args w) HR.out (fun s W hR => by obtain ⟨_, _, _, hB⟩ := hR; exact hB) (fun s W W' hR hb => by obtain ⟨v, h1, h2, h3⟩ := hR; exact ⟨v, blk_below h1 hb, Kd.S_below h2 hb, below_then h3 h3.size hb⟩) (fun s s' i j x A9 c9 W hR hs => impl_Table_committed_1.closed gq w HG.out s s' i j x A9 c9 W hR hs) HREL.out HI.out).mono ?_
  rintro e W4 ⟨rfl, v, hbox, hS, hB⟩
  have HS4 := Aside0.mk hS
  have HB4 := Aside0.mk hB
  have q2 : W4.cell? ⟨gq, 0, none⟩ = some v := (blk_cell hbox 0).trans rfl
  clear hbox hS hB q0 q1
  go_wp2
  go_ret
  exact ⟨v, rfl, HS4.out, HB4.out⟩

/-! ### impl_Committed: function 19 -/
def impl_Committed.f (k : Nat) (n : Int) (l : List (List S72)) : Option (List (List Int) × Bool) := (impl_GoodTable.f k n l).bind fun b => if b = true then ((impl_Table_committed.f n l).bind fun r => some (r, true)) else some ([], false)
set_option maxHeartbeats 4000000 in
set_option maxRecDepth 100000 in
theorem impl_Committed.calls (k : Nat) (n : Int) (A0 : Option Addr) (c0 : Nat) (l0 : List (List S72)) (r1 : List (List Int)) (r2 : Bool) (w : World) (hr0 : Kd.C (Kd.slice 72 k72) w A0 l0.length l0) (hc0 : l0.length ≤ c0) (h : impl_Committed.f k n l0 = some (r1, r2)) :
    Calls Try.prog 19 #[.agg #[.int .i64 n, .slice A0 l0.length c0]] w fun e w' => ∃ v0_ : Value, e = .returned (.tuple #[v0_, .bool r2]) ∧ Kd.S (Kd.slice 3 (Kd.int .i64)) 44 w' w.heap.size (fun _ => True) v0_ r1 ∧ Below w.heap.size w w' := by
  have hu2 := Try.underlying29
  have HR := Aside0.mk hr0
  have HC := Aside0.mk hc0
  unfold impl_Committed.f at h
  cases hg : impl_GoodTable.f k n l0 with
  | none => rw [hg] at h; cases h
  | some b =>
  rw [hg, Option.bind_some] at h
  have HG := Aside0.mk hg
  have HF := Aside0.mk h
  clear hr0 hc0 h hg
  go_enter Try.func19, Try.ntmps19
  go_upto_region 1 with (fail)
  refine letC (fun W_ => Below w.heap.size w W_ ∧ W_.heap[w.heap.size]? = some (.cells #[.int .i64 n, .slice A0 l0.length c0] 29 (0, 0))) ⟨below_alloc (Below.refl _ _) _, blk_new w (.cells #[.int .i64 n, .slice A0 l0.length c0] 29)⟩ ?_
  rintro W1 ⟨hb, hx⟩
  have HB1 := Aside0.mk hb
  have HX1 := Aside0.mk hx
  have q0 : W1.cell? ⟨w.heap.size, 0, none⟩ = some (.int .i64 n) := (blk_cell hx 0).trans rfl
  have q1 : W1.cell? ⟨w.heap.size, 1, none⟩ = some (.slice A0 l0.length c0) := (blk_cell hx 1).trans rfl
  clear hb hx
  go_wp2_with fail
  refine (impl_GoodTable.calls k n A0 c0 l0 b W1 (Kd.C_below HR.out HB1.out) HC.out HG.out).mono ?_
  rintro e W2 ⟨rfl, hb⟩
  have hb : Below W1.heap.size W1 W2 := by first | exact hb | exact hb.below
  have HB2 := Aside0.mk (below_then HB1.out HB1.out.size hb)
  have HX2 := Aside0.mk (blk_below HX1.out hb)
  clear hb q0 q1 HX1 HB1
  have q0 : W2.cell? ⟨w.heap.size, 0, none⟩ = some (.int .i64 n) := (blk_cell HX2.out 0).trans rfl
  have q1 : W2.cell? ⟨w.heap.size, 1, none⟩ = some (.slice A0 l0.length c0) := (blk_cell HX2.out 1).trans rfl
  cases b with
  | false =>
    have HE : Aside0 (([] : List (List Int)) = r1 ∧ false = r2) := ⟨by simpa using HF.out⟩
    go_wp2
    go_ret2
    obtain ⟨rfl, rfl⟩ := HE.out
    exact ⟨_, rfl, Kd.S_nil _ _ _ _ _, HB2.out⟩
  | true =>
    cases hm : impl_Table_committed.f n l0 with
    | none => exact absurd HF.out (by simp [hm])
    | some r =>
    have HM := Aside0.mk hm
    have HE : Aside0 (r = r1 ∧ true = r2) := ⟨by have h_ := HF.out; rw [if_pos rfl, hm] at h_; simpa using h_⟩
    clear hm HF
    go_wp2_with fail
    refine (impl_Table_committed.calls n A0 c0 l0 r W2 (Kd.C_below HR.out HB2.out) HC.out HM.out).mono ?_
    rintro e W3 ⟨v, rfl, hS, hb⟩
    have HS := Aside0.mk (Kd.S_lower hS HB2.out.size)
    have HB3 := Aside0.mk (below_then HB2.out HB2.out.size hb)
    clear hS hb q0 q1
    go_wp2
    go_ret2
    obtain ⟨rfl, rfl⟩ := HE.out
    exact ⟨v, rfl, HS.out, HB3.out⟩

/-! ### laws_eqIntSS: function 20 -/
def laws_eqIntSS.l0 : Nat → List (List Int) → List (List Int) → Int → Option (Bool)
  | 0, _, _, _ => none
  | k + 1, x0, x1, x5 => if x5 < (x0.length : Int) then (if 0 ≤ x5 then (if x5 < (x1.length : Int) then ((laws_eqIntS.f k (rd_L2 x0 x5) (rd_L2 x1 x5)).bind fun t283 => (if t283 = true then (laws_eqIntSS.l0 k x0 x1 (wrap64 (x5 + 1))) else (some false))) else (none)) else (none)) else (some true)
def laws_eqIntSS.f (k : Nat) (l0 : List (List Int)) (l1 : List (List Int)) : Option (Bool) := if (l0.length : Int) = (l1.length : Int) then (laws_eqIntSS.l0 k l0 l1 0) else (some false)
theorem laws_eqIntSS.mono_l : ∀ k, (∀ y0 y1 y2, LeO (laws_eqIntSS.l0 k y0 y1 y2) (laws_eqIntSS.l0 (k + 1) y0 y1 y2))
  | 0 => fun _ _ _ r h => by simp [laws_eqIntSS.l0] at h
  | k + 1 => by
    have ih0 := laws_eqIntSS.mono_l k
    · intro y0 y1 y2
      unfold laws_eqIntSS.l0
      repeat' first
      | (with_reducible exact ih0 _ _ _)
      | (with_reducible exact laws_eqIntS.mono _ _ _)
      | (with_reducible exact LeO.refl _)
      | (with_reducible exact LeO.none _)
      | (with_reducible refine LeO.ite ?_ ?_)
      | (with_reducible refine LeO.bind ?_ (fun _ => ?_))
      | exact ih0 _ _ _
      | exact laws_eqIntS.mono _ _ _
      | exact LeO.none _
      | refine LeO.ite ?_ ?_
      | refine LeO.bind ?_ (fun _ => ?_)
theorem laws_eqIntSS.mono : ∀ a0 a1 k, LeO (laws_eqIntSS.f k a0 a1) (laws_eqIntSS.f (k + 1) a0 a1) := by
  intro a0 a1 k
  have ih0 := laws_eqIntSS.mono_l k
  unfold laws_eqIntSS.f
  repeat' first
      | (with_reducible exact ih0 _ _ _)
      | (with_reducible exact laws_eqIntS.mono _ _ _)
      | (with_reducible exact LeO.refl _)
      | (with_reducible exact LeO.none _)
      | (with_reducible refine LeO.ite ?_ ?_)
      | (with_reducible refine LeO.bind ?_ (fun _ => ?_))
      | exact ih0 _ _ _
      | exact laws_eqIntS.mono _ _ _
      | exact LeO.none _
      | refine LeO.ite ?_ ?_
      | refine LeO.bind ?_ (fun _ => ?_)
set_option maxHeartbeats 8000000 in
set_option maxRecDepth 100000 in
theorem laws_eqIntSS.calls (k : Nat) (A0 : Option Addr) (c0 : Nat) (l0 : List (List Int)) (A1 : Option Addr) (c1 : Nat) (l1 : List (List Int)) (r : Bool) (w : World) (hr0 : Kd.C (Kd.slice 3 (Kd.int .i64)) w A0 l0.length l0) (hc0 : l0.length ≤ c0) (hr1 : Kd.C (Kd.slice 3 (Kd.int .i64)) w A1 l1.length l1) (hc1 : l1.length ≤ c1) (h : laws_eqIntSS.f k l0 l1 = some r) :
    Calls Try.prog 20 #[.slice A0 l0.length c0, .slice A1 l1.length c1] w fun e w' => e = .returned (.bool r) ∧ Drawn0 w w' := by
  have HR0 := Aside0.mk hr0
  have HC0 := Aside0.mk hc0
  clear hr0 hc0
  have HR1 := Aside0.mk hr1
  have HC1 := Aside0.mk hc1
  clear hr1 hc1
  have H : (if (l0.length : Int) = (l1.length : Int) then (laws_eqIntSS.l0 k l0 l1 0) else (some false)) = some r := h
  clear h
  by_cases c3 : (l0.length : Int) = (l1.length : Int)
  · rw [if_pos c3] at H
    have c3b0 : ((l0.length : Int) == (l1.length : Int)) = true := beq_iff_eq.mpr c3
    have c3b1 : ((l0.length : Int) != (l1.length : Int)) = false := bne_eq_false_iff_eq.mpr c3
    have c3b2 : (l0.length == l1.length) = true := by first | simpa using c3 | (simp at c3 ⊢; omega)
    clear c3
    have H' := Aside0.mk H
    clear H
    go_enter Try.func20, Try.ntmps20
    go_wp2
    repeat (go_quiet (fail); try go_wp2)
    go_loopg [5] k (fun kq v5 w' => ∃ (x5_1 : Int), v5 = .int .i64 x5_1 ∧ Aside0 (laws_eqIntSS.l0 kq l0 l1 x5_1 = some r) ∧ Aside0 (kq ≤ k) ∧ Drawn0 w w')
    case atStart => exact ⟨(0), (by first | rfl | (simp; done) | (simp [*]; done)), H', ⟨Nat.le_refl _⟩, by repeat (first | exact Drawn0.refl _ | apply Drawn0.step)⟩
    case round =>
      clear H'
      try clear c1
      try clear c2
      try clear p2
      try clear c3
      try clear c3b0
      try clear c3b1
      try clear c3b2
      obtain ⟨x5_1, rfl, HA, HK1, ⟨m1, rfl⟩⟩ := hrel
      cases gk with
      | zero => exact absurd HA.out (by simp [laws_eqIntSS.l0])
      | succ k1 =>
        have H := HA.out
        clear HA
        simp only [laws_eqIntSS.l0] at H
        by_cases c4 : x5_1 < (l0.length : Int)
        · rw [if_pos c4] at H
          have c4b0 : decide (x5_1 < (l0.length : Int)) = true := decide_eq_true c4
          clear c4
          by_cases c5 : 0 ≤ x5_1
          · rw [if_pos c5] at H
            have c5b0 : decide (0 ≤ x5_1) = true := decide_eq_true c5
            clear c5
            by_cases c6 : x5_1 < (l1.length : Int)
            · rw [if_pos c6] at H
              have c6b0 : decide (x5_1 < (l1.length : Int)) = true := decide_eq_true c6
              clear c6
              replace H := Option.bind_eq_some_iff.mp H
              obtain ⟨t283, A70, H⟩ := H
              replace H : (if t283 = true then (laws_eqIntSS.l0 k1 l0 l1 (wrap64 (x5_1 + 1))) else (some false)) = some r := H
              have A7 := Aside0.mk A70
              clear A70
              by_cases c8 : t283 = true
              · subst c8
                have H1 : (laws_eqIntSS.l0 k1 l0 l1 (wrap64 (x5_1 + 1))) = some r := by rw [if_pos rfl] at H; exact H
                clear H
                have H := H1
                clear H1
                have H' := Aside0.mk H
                clear H
                have p281 : 0 ≤ (x5_1 : Int) := of_decide_eq_true (by first | (with_reducible assumption) | assumption)
                have q281 : x5_1 < (l0.length : Int) := of_decide_eq_true (by first | (with_reducible assumption) | assumption)
                obtain ⟨ad281, A281_0, c281_0, e281, hx281_0, hl281_0, hi281_0⟩ := at_L2 HR0.out x5_1 p281 q281
                cases e281
                have HR281_0 := Aside0.mk hi281_0
                have HC281_0 := Aside0.mk hl281_0
                clear hi281_0 hl281_0
                replace p281 := eq_true p281
                replace q281 := eq_true q281
                have p282 : 0 ≤ (x5_1 : Int) := of_decide_eq_true (by first | (with_reducible assumption) | assumption)
                have q282 : x5_1 < (l1.length : Int) := of_decide_eq_true (by first | (with_reducible assumption) | assumption)
                obtain ⟨ad282, A282_0, c282_0, e282, hx282_0, hl282_0, hi282_0⟩ := at_L2 HR1.out x5_1 p282 q282
                cases e282
                have HR282_0 := Aside0.mk hi282_0
                have HC282_0 := Aside0.mk hl282_0
                clear hi282_0 hl282_0
                replace p282 := eq_true p282
                replace q282 := eq_true q282
                go_wp2_with (first | (go_at_call 55; (with_reducible refine (laws_eqIntS.calls k1 _ _ (rd_L2 l0 x5_1) _ _ (rd_L2 l1 x5_1) true _ ?side1 ?side2 ?side3 ?side4 A7.out).mono ?_); (case side1 => repeat (first | exact HR281_0.out | (with_reducible refine Kd.C_alloc ?_ _) | (with_reducible refine Kd.C_drewN ?_ _) | (with_reducible refine Kd.C_drew ?_))); (case side2 => exact HC281_0.out); (case side3 => repeat (first | exact HR282_0.out | (with_reducible refine Kd.C_alloc ?_ _) | (with_reducible refine Kd.C_drewN ?_ _) | (with_reducible refine Kd.C_drew ?_))); (case side4 => exact HC282_0.out); rintro e w' ⟨rfl, ⟨nd, rfl⟩⟩; (try first | exact ⟨rfl, _, World.drewN_drewN _ _ _⟩ | exact ⟨rfl, _, Eq.trans (World.drewN_drewN _ _ _) (congrArg (World.drewN _) (Nat.add_assoc _ _ _))⟩)))
                repeat (go_quiet (first | (go_at_call 55; (with_reducible refine (laws_eqIntS.calls k1 _ _ (rd_L2 l0 x5_1) _ _ (rd_L2 l1 x5_1) true _ ?side1 ?side2 ?side3 ?side4 A7.out).mono ?_); (case side1 => repeat (first | exact HR281_0.out | (with_reducible refine Kd.C_alloc ?_ _) | (with_reducible refine Kd.C_drewN ?_ _) | (with_reducible refine Kd.C_drew ?_))); (case side2 => exact HC281_0.out); (case side3 => repeat (first | exact HR282_0.out | (with_reducible refine Kd.C_alloc ?_ _) | (with_reducible refine Kd.C_drewN ?_ _) | (with_reducible refine Kd.C_drew ?_))); (case side4 => exact HC282_0.out); rintro e w' ⟨rfl, ⟨nd, rfl⟩⟩; (try first | exact ⟨rfl, _, World.drewN_drewN _ _ _⟩ | exact ⟨rfl, _, Eq.trans (World.drewN_drewN _ _ _) (congrArg (World.drewN _) (Nat.add_assoc _ _ _))⟩))); try go_wp2_with (first | (go_at_call 55; (with_reducible refine (laws_eqIntS.calls k1 _ _ (rd_L2 l0 x5_1) _ _ (rd_L2 l1 x5_1) true _ ?side1 ?side2 ?side3 ?side4 A7.out).mono ?_); (case side1 => repeat (first | exact HR281_0.out | (with_reducible refine Kd.C_alloc ?_ _) | (with_reducible refine Kd.C_drewN ?_ _) | (with_reducible refine Kd.C_drew ?_))); (case side2 => exact HC281_0.out); (case side3 => repeat (first | exact HR282_0.out | (with_reducible refine Kd.C_alloc ?_ _) | (with_reducible refine Kd.C_drewN ?_ _) | (with_reducible refine Kd.C_drew ?_))); (case side4 => exact HC282_0.out); rintro e w' ⟨rfl, ⟨nd, rfl⟩⟩; (try first | exact ⟨rfl, _, World.drewN_drewN _ _ _⟩ | exact ⟨rfl, _, Eq.trans (World.drewN_drewN _ _ _) (congrArg (World.drewN _) (Nat.add_assoc _ _ _))⟩))))
                go_roundg k1
                case measure => have := HK1.out; omega
                case rel => exact ⟨(wrap64 (x5_1 + 1)), (by first | rfl | (simp; done) | (simp [*]; done)), H', ⟨by have := HK1.out; omega⟩, by repeat (first | exact Drawn0.refl _ | apply Drawn0.step)⟩
              · replace c8 := Bool.eq_false_iff.mpr c8
                subst c8
                have H1 : (some false) = some r := by rw [if_neg (show ¬ (false = true) by decide)] at H; exact H
                clear H
                have H := H1
                clear H1
                obtain rfl := Option.some.inj H
                have p281 : 0 ≤ (x5_1 : Int) := of_decide_eq_true (by first | (with_reducible assumption) | assumption)
                have q281 : x5_1 < (l0.length : Int) := of_decide_eq_true (by first | (with_reducible assumption) | assumption)
                obtain ⟨ad281, A281_0, c281_0, e281, hx281_0, hl281_0, hi281_0⟩ := at_L2 HR0.out x5_1 p281 q281
                cases e281
                have HR281_0 := Aside0.mk hi281_0
                have HC281_0 := Aside0.mk hl281_0
                clear hi281_0 hl281_0
                replace p281 := eq_true p281
                replace q281 := eq_true q281
                have p282 : 0 ≤ (x5_1 : Int) := of_decide_eq_true (by first | (with_reducible assumption) | assumption)
                have q282 : x5_1 < (l1.length : Int) := of_decide_eq_true (by first | (with_reducible assumption) | assumption)
                obtain ⟨ad282, A282_0, c282_0, e282, hx282_0, hl282_0, hi282_0⟩ := at_L2 HR1.out x5_1 p282 q282
                cases e282
                have HR282_0 := Aside0.mk hi282_0
                have HC282_0 := Aside0.mk hl282_0
                clear hi282_0 hl282_0
                replace p282 := eq_true p282
                replace q282 := eq_true q282
                go_wp2_with (first | (go_at_call 55; (with_reducible refine (laws_eqIntS.calls k1 _ _ (rd_L2 l0 x5_1) _ _ (rd_L2 l1 x5_1) false _ ?side1 ?side2 ?side3 ?side4 A7.out).mono ?_); (case side1 => repeat (first | exact HR281_0.out | (with_reducible refine Kd.C_alloc ?_ _) | (with_reducible refine Kd.C_drewN ?_ _) | (with_reducible refine Kd.C_drew ?_))); (case side2 => exact HC281_0.out); (case side3 => repeat (first | exact HR282_0.out | (with_reducible refine Kd.C_alloc ?_ _) | (with_reducible refine Kd.C_drewN ?_ _) | (with_reducible refine Kd.C_drew ?_))); (case side4 => exact HC282_0.out); rintro e w' ⟨rfl, ⟨nd, rfl⟩⟩; (try first | exact ⟨rfl, _, World.drewN_drewN _ _ _⟩ | exact ⟨rfl, _, Eq.trans (World.drewN_drewN _ _ _) (congrArg (World.drewN _) (Nat.add_assoc _ _ _))⟩)))
                repeat (go_quiet (first | (go_at_call 55; (with_reducible refine (laws_eqIntS.calls k1 _ _ (rd_L2 l0 x5_1) _ _ (rd_L2 l1 x5_1) false _ ?side1 ?side2 ?side3 ?side4 A7.out).mono ?_); (case side1 => repeat (first | exact HR281_0.out | (with_reducible refine Kd.C_alloc ?_ _) | (with_reducible refine Kd.C_drewN ?_ _) | (with_reducible refine Kd.C_drew ?_))); (case side2 => exact HC281_0.out); (case side3 => repeat (first | exact HR282_0.out | (with_reducible refine Kd.C_alloc ?_ _) | (with_reducible refine Kd.C_drewN ?_ _) | (with_reducible refine Kd.C_drew ?_))); (case side4 => exact HC282_0.out); rintro e w' ⟨rfl, ⟨nd, rfl⟩⟩; (try first | exact ⟨rfl, _, World.drewN_drewN _ _ _⟩ | exact ⟨rfl, _, Eq.trans (World.drewN_drewN _ _ _) (congrArg (World.drewN _) (Nat.add_assoc _ _ _))⟩))); try go_wp2_with (first | (go_at_call 55; (with_reducible refine (laws_eqIntS.calls k1 _ _ (rd_L2 l0 x5_1) _ _ (rd_L2 l1 x5_1) false _ ?side1 ?side2 ?side3 ?side4 A7.out).mono ?_); (case side1 => repeat (first | exact HR281_0.out | (with_reducible refine Kd.C_alloc ?_ _) | (with_reducible refine Kd.C_drewN ?_ _) | (with_reducible refine Kd.C_drew ?_))); (case side2 => exact HC281_0.out); (case side3 => repeat (first | exact HR282_0.out | (with_reducible refine Kd.C_alloc ?_ _) | (with_reducible refine Kd.C_drewN ?_ _) | (with_reducible refine Kd.C_drew ?_))); (case side4 => exact HC282_0.out); rintro e w' ⟨rfl, ⟨nd, rfl⟩⟩; (try first | exact ⟨rfl, _, World.drewN_drewN _ _ _⟩ | exact ⟨rfl, _, Eq.trans (World.drewN_drewN _ _ _) (congrArg (World.drewN _) (Nat.add_assoc _ _ _))⟩))))
                go_ret
                exact ⟨by first | rfl | (simp; done) | (simp [*]; done), by repeat (first | exact Drawn0.refl _ | apply Drawn0.step)⟩
            · rw [if_neg c6] at H
              exact absurd H (by simp)
          · rw [if_neg c5] at H
            exact absurd H (by simp)
        · rw [if_neg c4] at H
          have c4b0 : decide (x5_1 < (l0.length : Int)) = false := decide_eq_false c4
          clear c4
          obtain rfl := Option.some.inj H
          go_wp2
          repeat (go_quiet (fail); try go_wp2)
          go_ret
          exact ⟨by first | rfl | (simp; done) | (simp [*]; done), by repeat (first | exact Drawn0.refl _ | apply Drawn0.step)⟩
  · rw [if_neg c3] at H
    have c3b0 : ((l0.length : Int) == (l1.length : Int)) = false := beq_eq_false_iff_ne.mpr c3
    have c3b1 : ((l0.length : Int) != (l1.length : Int)) = true := bne_iff_ne.mpr c3
    have c3b2 : (l0.length == l1.length) = false := by first | simpa using c3 | (simp at c3 ⊢; omega)
    obtain rfl := Option.some.inj H
    go_enter Try.func20, Try.ntmps20
    go_wp2
    repeat (go_quiet (fail); try go_wp2)
    go_ret
    exact ⟨by first | rfl | (simp; done) | (simp [*]; done), by repeat (first | exact Drawn0.refl _ | apply Drawn0.step)⟩

/-! ### laws_markIntSS: function 21 -/
def laws_markIntSS.l0 : Nat → List (List Int) → Int → Int → Option (Int × List (List Int))
  | 0, _, _, _ => none
  | k + 1, x0, x1, x5 => if x5 < (x0.length : Int) then ((laws_markIntS.f k (x0.getD x5.toNat []) x1).bind fun t => laws_markIntSS.l0 k (x0.set x5.toNat t.2) t.1 (wrap64 (x5 + 1))) else some (x1, x0)
def laws_markIntSS.f (k : Nat) (l0 : List (List Int)) (a1 : Int) : Option (Int × List (List Int)) := laws_markIntSS.l0 k l0 a1 0
set_option maxHeartbeats 2000000 in
set_option maxRecDepth 100000 in
theorem laws_markIntSS.calls (k : Nat) (P : Nat → Prop) (v : Value) (l0 : List (List Int)) (a1 r1 : Int) (r2 : List (List Int)) (w0 w : World) (hB : Below w0.heap.size w0 w) (ho : Kd.S (Kd.slice 3 (Kd.int .i64)) 44 w w0.heap.size P v l0) (h : laws_markIntSS.f k l0 a1 = some (r1, r2)) :
    Calls Try.prog 21 #[v, .int .i64 a1] w fun e w' => e = .returned (.int .i64 r1) ∧ Kd.S (Kd.slice 3 (Kd.int .i64)) 44 w' w0.heap.size P v r2 ∧ Below w0.heap.size w0 w' ∧ Kept w w' P := by
  obtain ⟨A0, c0, rfl⟩ := Kd.S_slice ho
  have hm : l0.length ≤ 9223372036854775807 := (Kd.S_reads' ho).2.2.2.1
  have HO := Aside0.mk ho
  have HB := Aside0.mk hB
  have HI := Aside0.mk h
  clear ho hB h
  go_enter Try.func21, Try.ntmps21
  go_wp2
  go_loopg [1, 5] l0.length (fun gg s1 s5 wr => ∃ (kk fu : Nat) (m : Int) (acc : List (List Int)), kk ≤ l0.length ∧ l0.length - kk ≤ gg ∧ s5 = .int .i64 kk ∧ s1 = .int .i64 m ∧ Aside0 (acc.length = l0.length) ∧ Aside0 (Kd.S (Kd.slice 3 (Kd.int .i64)) 44 wr w0.heap.size P (.slice A0 l0.length c0) acc) ∧ Aside0 (Below w0.heap.size w0 wr) ∧ Aside0 (Kept w wr P) ∧ Aside0 (laws_markIntSS.l0 fu acc m (kk : Int) = some (r1, r2)))
  case atStart => exact ⟨0, k, a1, l0, Nat.zero_le _, by omega, rfl, rfl, ⟨rfl⟩, HO, HB, ⟨Kept.refl _ _⟩, ⟨by simpa [laws_markIntSS.f] using HI.out⟩⟩
  case round =>
    obtain ⟨kk, fu, m, acc, hkk, hg, rfl, rfl, HL, HS, BW, KW, PF⟩ := hrel
    clear HO HB HI
    cases fu with
    | zero => exact absurd PF.out (by simp [laws_markIntSS.l0])
    | succ fu =>
    by_cases hlt : kk < l0.length
    · have hltz : (kk : Int) < (l0.length : Int) := by omega
      obtain ⟨g, cap, hv, hbg, hgl, _⟩ := Kd.S_form HS.out (by rw [HL.out]; omega)
      injection hv with hv1 hv2 hv3
      subst hv1
      clear hv2 hv3 hbg hgl
      obtain ⟨oki, c, hcl, hM, hcc, hoki, hback⟩ := Kd.S_borrow HS.out [] (kk : Int) (by omega) (by omega)
      obtain ⟨u, rfl, hR⟩ := hM
      have hx := hcc 0 u rfl
      have PG : Aside0 ((laws_markIntS.f fu (acc.getD kk []) m).bind (fun t => laws_markIntSS.l0 fu (acc.set kk t.2) t.1 ((kk + 1 : Nat) : Int)) = some (r1, r2)) := ⟨by
        have h_ := PF.out
        simp only [laws_markIntSS.l0] at h_
        rw [HL.out, if_pos hltz, show wrap64 ((kk : Int) + 1) = ((kk + 1 : Nat) : Int) by (unfold wrap64; omega), Int.toNat_natCast] at h_
        exact h_⟩
      clear PF hcc hcl
      simp only [Int.toNat_natCast] at hx hR
      obtain ⟨A, cu, rfl⟩ := Kd.R_slice hR
      cases hq : laws_markIntS.f fu (acc.getD kk []) m with
      | none => exact absurd PG.out (by rw [hq]; simp)
      | some t =>
      obtain ⟨t1, t2⟩ := t
      have PG : Aside0 (laws_markIntSS.l0 fu (acc.set kk t2) t1 ((kk + 1 : Nat) : Int) = some (r1, r2)) := ⟨by have h_ := PG.out; rw [hq] at h_; exact h_⟩
      have hcall := laws_markIntS.calls fu (fun k_ => some k_ = (Value.slice A (acc.getD kk []).length cu).ownBlock) (.slice A (acc.getD kk []).length cu) (acc.getD kk []) m t1 t2 w0 wr BW.out (Kd.R_tight rfl hR) hq
      have HR := Aside0.mk hR
      have HOK := Aside0.mk hoki
      have HBK := Aside0.mk @hback
      clear hR hq hoki hback
      generalize hz : acc.getD kk [] = y at hx hcall HR HBK
      clear hz
      have hx : wr.cell? (⟨g, kk, none⟩ : Addr) = some (.slice A y.length cu) := by rw [add_plain] at hx; simpa [Kd.slice] using hx
      go_wp2_with fail
      refine hcall.mono ?_; rintro e w' ⟨rfl, hR', hB', hK'⟩
      have hgr : wr.grownBy w' (Value.slice A y.length cu).ownBlock := ⟨hB'.os.trans BW.out.os.symm, hB'.tape.trans BW.out.tape.symm, hB'.output.trans BW.out.output.symm, hK'.1, fun i hi hn => hK'.2 i hi hn⟩
      have HS' := Aside0.mk (HBK.out hgr (fun k hk => HR.out.1 k hk) (x' := t2) ⟨_, rfl, Kd.R_mono (Kd.R_tight rfl hR') (fun k hk => HR.out.1 k hk.symm)⟩)
      have KW' := Aside0.mk (Kept.then_ KW.out hK' (fun k hk => .inl (HOK.out k (HR.out.1 k hk.symm)).1))
      have BW' := Aside0.mk hB'
      clear hgr HBK hR' hB' hK' HOK HR hcall hx
      go_wp2
      go_roundg (l0.length - (kk + 1))
      case measure => omega
      case rel => exact ⟨kk + 1, fu, t1, acc.set kk t2, by omega, by omega, by go_num, rfl, ⟨by rw [List.length_set]; exact HL.out⟩, ⟨by simpa using HS'.out⟩, BW', KW', PG⟩
    · have hltz : ¬ (kk : Int) < (l0.length : Int) := by omega
      have PG : Aside0 (m = r1 ∧ acc = r2) := ⟨by
        have h_ := PF.out
        simp only [laws_markIntSS.l0] at h_
        rw [HL.out, if_neg hltz] at h_
        simpa using h_⟩
      clear PF
      go_wp2
      go_ret
      obtain ⟨rfl, rfl⟩ := PG.out
      exact ⟨rfl, HS.out, BW.out, KW.out⟩

/-! ### laws_heldIntS: function 57 -/
def laws_heldIntS.l0 : Nat → List Int → Int → Int → Option (Int)
  | 0, _, _, _ => none
  | k + 1, x0, x1, x5 => if x5 < (x0.length : Int) then (if 0 ≤ x5 then (if (rd x0 x5) = x1 then (laws_heldIntS.l0 k x0 (wrap64 (x1 + 1)) (wrap64 (x5 + 1))) else (some (-1))) else (none)) else (some x1)
def laws_heldIntS.f (k : Nat) (l0 : List Int) (a1 : Int) : Option (Int) := laws_heldIntS.l0 k l0 a1 0
theorem laws_heldIntS.mono_l : ∀ k, (∀ y0 y1 y2, LeO (laws_heldIntS.l0 k y0 y1 y2) (laws_heldIntS.l0 (k + 1) y0 y1 y2))
  | 0 => fun _ _ _ r h => by simp [laws_heldIntS.l0] at h
  | k + 1 => by
    have ih0 := laws_heldIntS.mono_l k
    · intro y0 y1 y2
      unfold laws_heldIntS.l0
      repeat' first
      | (with_reducible exact ih0 _ _ _)
      | (with_reducible exact LeO.refl _)
      | (with_reducible exact LeO.none _)
      | (with_reducible refine LeO.ite ?_ ?_)
      | (with_reducible refine LeO.bind ?_ (fun _ => ?_))
      | exact ih0 _ _ _
      | exact LeO.none _
      | refine LeO.ite ?_ ?_
      | refine LeO.bind ?_ (fun _ => ?_)
theorem laws_heldIntS.mono : ∀ a0 a1 k, LeO (laws_heldIntS.f k a0 a1) (laws_heldIntS.f (k + 1) a0 a1) := by
  intro a0 a1 k
  have ih0 := laws_heldIntS.mono_l k
  unfold laws_heldIntS.f
  repeat' first
      | (with_reducible exact ih0 _ _ _)
      | (with_reducible exact LeO.refl _)
      | (with_reducible exact LeO.none _)
      | (with_reducible refine LeO.ite ?_ ?_)
      | (with_reducible refine LeO.bind ?_ (fun _ => ?_))
      | exact ih0 _ _ _
      | exact LeO.none _
      | refine LeO.ite ?_ ?_
      | refine LeO.bind ?_ (fun _ => ?_)
set_option maxHeartbeats 8000000 in
set_option maxRecDepth 100000 in
theorem laws_heldIntS.calls (k : Nat) (A0 : Option Addr) (c0 : Nat) (l0 : List Int) (a1 : Int) (r : Int) (w : World) (hr0 : Kd.C (Kd.int .i64) w A0 l0.length l0) (hc0 : l0.length ≤ c0) (h : laws_heldIntS.f k l0 a1 = some r) :
    Calls Try.prog 57 #[.slice A0 l0.length c0, .int .i64 a1] w fun e w' => e = .returned (.int .i64 r) ∧ Drawn0 w w' := by
  have HR0 := Aside0.mk hr0
  have HC0 := Aside0.mk hc0
  clear hr0 hc0
  have H : (laws_heldIntS.l0 k l0 a1 0) = some r := h
  clear h
  have H' := Aside0.mk H
  clear H
  go_enter Try.func57, Try.ntmps57
  go_wp2
  go_loopg [1, 5] k (fun kq v1 v5 w' => ∃ (x1_1 : Int) (x5_1 : Int), v1 = .int .i64 x1_1 ∧ v5 = .int .i64 x5_1 ∧ Aside0 (laws_heldIntS.l0 kq l0 x1_1 x5_1 = some r) ∧ Aside0 (kq ≤ k) ∧ Drawn0 w w')
  case atStart => exact ⟨(a1), (0), (by first | rfl | (simp; done) | (simp [*]; done)), (by first | rfl | (simp; done) | (simp [*]; done)), H', ⟨Nat.le_refl _⟩, by repeat (first | exact Drawn0.refl _ | apply Drawn0.step)⟩
  case round =>
    clear H'
    try clear p2
    obtain ⟨x1_1, x5_1, rfl, rfl, HA, HK1, ⟨m1, rfl⟩⟩ := hrel
    cases gk with
    | zero => exact absurd HA.out (by simp [laws_heldIntS.l0])
    | succ k1 =>
      have H := HA.out
      clear HA
      simp only [laws_heldIntS.l0] at H
      by_cases c3 : x5_1 < (l0.length : Int)
      · rw [if_pos c3] at H
        have c3b0 : decide (x5_1 < (l0.length : Int)) = true := decide_eq_true c3
        clear c3
        by_cases c4 : 0 ≤ x5_1
        · rw [if_pos c4] at H
          have c4b0 : decide (0 ≤ x5_1) = true := decide_eq_true c4
          clear c4
          by_cases c5 : (rd l0 x5_1) = x1_1
          · rw [if_pos c5] at H
            have c5b0 : ((rd l0 x5_1) == x1_1) = true := beq_iff_eq.mpr c5
            have c5b1 : ((rd l0 x5_1) != x1_1) = false := bne_eq_false_iff_eq.mpr c5
            clear c5
            have H' := Aside0.mk H
            clear H
            have p284 : 0 ≤ (x5_1 : Int) := of_decide_eq_true (by first | (with_reducible assumption) | assumption)
            have q284 : x5_1 < (l0.length : Int) := of_decide_eq_true (by first | (with_reducible assumption) | assumption)
            obtain ⟨ad284, e284, hx284_0⟩ := Kd.at_int HR0.out x5_1 p284 q284
            cases e284
            replace p284 := eq_true p284
            replace q284 := eq_true q284
            go_wp2
            go_roundg k1
            case measure => have := HK1.out; omega
            case rel => exact ⟨(wrap64 (x1_1 + 1)), (wrap64 (x5_1 + 1)), (by first | rfl | (simp; done) | (simp [*]; done)), (by first | rfl | (simp; done) | (simp [*]; done)), H', ⟨by have := HK1.out; omega⟩, by repeat (first | exact Drawn0.refl _ | apply Drawn0.step)⟩
          · rw [if_neg c5] at H
            have c5b0 : ((rd l0 x5_1) == x1_1) = false := beq_eq_false_iff_ne.mpr c5
            have c5b1 : ((rd l0 x5_1) != x1_1) = true := bne_iff_ne.mpr c5
            obtain rfl := Option.some.inj H
            have p284 : 0 ≤ (x5_1 : Int) := of_decide_eq_true (by first | (with_reducible assumption) | assumption)
            have q284 : x5_1 < (l0.length : Int) := of_decide_eq_true (by first | (with_reducible assumption) | assumption)
            obtain ⟨ad284, e284, hx284_0⟩ := Kd.at_int HR0.out x5_1 p284 q284
            cases e284
            replace p284 := eq_true p284
            replace q284 := eq_true q284
            go_wp2
            go_ret
            exact ⟨by first | rfl | (simp; done) | (simp [*]; done), by repeat (first | exact Drawn0.refl _ | apply Drawn0.step)⟩
        · rw [if_neg c4] at H
          exact absurd H (by simp)
      · rw [if_neg c3] at H
        have c3b0 : decide (x5_1 < (l0.length : Int)) = false := decide_eq_false c3
        clear c3
        obtain rfl := Option.some.inj H
        go_wp2
        go_ret
        exact ⟨by first | rfl | (simp; done) | (simp [*]; done), by repeat (first | exact Drawn0.refl _ | apply Drawn0.step)⟩

end Go.Proofs.Ytacpjifbgnlppaa.QFnExactCommitted
