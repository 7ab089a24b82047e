-- Written by a program of this session (wip/mk.py) over the kit's print: Lean checks it.
import Derived.Test.YtacpjifbgnlppaaQFnExactGoodTablex0
import Derived.Test.YtacpjifbgnlppaaQFnExactGoodTablex2
import Derived.Test.YtacpjifbgnlppaaQFnExactGoodTablex5
import Derived.Test.YtacpjifbgnlppaaQFnExactGoodTablex6
import Derived.Test.YtacpjifbgnlppaaQFnExactGoodTablex9
import Derived.Test.YtacpjifbgnlppaaQFnExactGoodTablex10
namespace Go.Proofs.Ytacpjifbgnlppaa.QFnExactGoodTable
open Go.RowKit Go.Proofs.YtacpjifbgnlppaaW.PrintWords Go.Proofs.YtacpjifbgnlppaaW.PrintLast Go.Proofs.YtacpjifbgnlppaaW.PrintMore
attribute [local go_sem] max2_int min2_int max_two min_two max_three min_three max_four min_four   -- for this text's walks alone
set_option linter.unusedVariables false
set_option linter.unusedSimpArgs false

/-! ### laws_eqTable: function 13 -/
def laws_eqTable.f (k : Nat) (a0_0 : Int) (l0_1 : List (List (S72))) (a1_0 : Int) (l1_1 : List (List (S72))) : Option (Bool) := if a0_0 = a1_0 then ((laws_eqRowSS.f k l0_1 l1_1).bind fun t264 => (if t264 = true then (some true) else (some false))) else (some false)
theorem laws_eqTable.mono : ∀ a0 a1 a2 a3 k, LeO (laws_eqTable.f k a0 a1 a2 a3) (laws_eqTable.f (k + 1) a0 a1 a2 a3) := by
  intro a0 a1 a2 a3 k
  unfold laws_eqTable.f
  repeat' first
      | (with_reducible exact laws_eqRowSS.mono _ _ _)
      | (with_reducible exact LeO.refl _)
      | (with_reducible exact LeO.none _)
      | (with_reducible refine LeO.ite ?_ ?_)
      | (with_reducible refine LeO.bind ?_ (fun _ => ?_))
      | exact laws_eqRowSS.mono _ _ _
      | exact LeO.none _
      | refine LeO.ite ?_ ?_
      | refine LeO.bind ?_ (fun _ => ?_)
set_option maxHeartbeats 8000000 in
set_option maxRecDepth 100000 in
theorem laws_eqTable.calls (k : Nat) (a0_0 : Int) (A0_1 : Option Addr) (c0_1 : Nat) (l0_1 : List (List (S72))) (a1_0 : Int) (A1_1 : Option Addr) (c1_1 : Nat) (l1_1 : List (List (S72))) (r : Bool) (w : World) (hr0_1 : Kd.C (Kd.slice 72 k72) w A0_1 l0_1.length l0_1) (hc0_1 : l0_1.length ≤ c0_1) (hr1_1 : Kd.C (Kd.slice 72 k72) w A1_1 l1_1.length l1_1) (hc1_1 : l1_1.length ≤ c1_1) (h : laws_eqTable.f k a0_0 l0_1 a1_0 l1_1 = some r) :
    Calls Try.prog 13 #[.agg #[.int .i64 a0_0, .slice A0_1 l0_1.length c0_1], .agg #[.int .i64 a1_0, .slice A1_1 l1_1.length c1_1]] w fun e w' => e = .returned (.bool r) ∧ Below w.heap.size w w' := by
  have hu29 := Try.underlying29
  have HR0_1 := Aside0.mk hr0_1
  have HC0_1 := Aside0.mk hc0_1
  clear hr0_1 hc0_1
  have HR1_1 := Aside0.mk hr1_1
  have HC1_1 := Aside0.mk hc1_1
  clear hr1_1 hc1_1
  have HB := Aside0.mk (Below.refl w.heap.size w)
  have H : (if a0_0 = a1_0 then ((laws_eqRowSS.f k l0_1 l1_1).bind fun t264 => (if t264 = true then (some true) else (some false))) else (some false)) = some r := h
  clear h
  by_cases c3 : a0_0 = a1_0
  · rw [if_pos c3] at H
    have c3b0 : (a0_0 == a1_0) = true := beq_iff_eq.mpr c3
    have c3b1 : (a0_0 != a1_0) = false := bne_eq_false_iff_eq.mpr c3
    clear c3
    replace H := Option.bind_eq_some_iff.mp H
    obtain ⟨t264, A40, H⟩ := H
    replace H : (if t264 = true then (some true) else (some false)) = some r := H
    have A4 := Aside0.mk A40
    clear A40
    by_cases c5 : t264 = true
    · subst c5
      have H1 : (some true) = some r := by rw [if_pos rfl] at H; exact H
      clear H
      have H := H1
      clear H1
      obtain rfl := Option.some.inj H
      go_enter Try.func13, Try.ntmps13
      go_wp2_with (first | ((with_reducible refine gate_dst (N := 2) rfl ?_); refine box_event ?hg (N := 2) ?hd (cs := #[.int .i64 a0_0, .slice A0_1 l0_1.length c0_1]) (t := 29) ?hr ?_; (case hd => rfl); (case hg => rfl); (case hr => first | (go_simp; done) | (go_simp; rfl)); intro gb262 hg w6 hbox hb; have n0_ := Aside0.mk (below_step (by repeat (first | (with_reducible first | exact HB.out | apply below_alloc | apply pw_below_drewN | apply below_drew1) | exact HB.out)) hb); have n1_ := Aside0.mk (hbox); have n2_ := Aside0.mk ((by rw [hg]; exact (below_size (by repeat (first | (with_reducible first | exact HB.out | apply below_alloc | apply pw_below_drewN | apply below_drew1) | exact HB.out))) : w.heap.size ≤ gb262)); have n3_ := Aside0.mk ((by rw [hg]; exact (below_size (by repeat (first | (with_reducible first | exact HB.out | apply below_alloc | apply pw_below_drewN | apply below_drew1) | exact HB.out))) : w.heap.size ≤ gb262)); clear HB; have HB := n0_; have BK262 := n1_; have GW262 := n2_; have GE262 := n3_; clear n0_ n1_ n2_ n3_; clear hb hbox hg) | ((with_reducible refine gate_dst (N := 3) rfl ?_); refine box_event ?hg (N := 3) ?hd (cs := #[.int .i64 a1_0, .slice A1_1 l1_1.length c1_1]) (t := 29) ?hr ?_; (case hd => rfl); (case hg => rfl); (case hr => first | (go_simp; done) | (go_simp; rfl)); intro gb263 hg w7 hbox hb; have n0_ := Aside0.mk (blk_below (g := gb262) (o := .cells #[.int .i64 a0_0, .slice A0_1 l0_1.length c0_1] 29 (0, 0)) (by (with_reducible repeat (first | refine blk_drewN ?_ _ | refine blk_drew ?_ | refine blk_alloc ?_ _)); exact BK262.out) hb); have n1_ := Aside0.mk (below_step (by repeat (first | (with_reducible first | exact HB.out | apply below_alloc | apply pw_below_drewN | apply below_drew1 | refine below_set ?_ GE262.out) | exact HB.out)) hb); have n2_ := Aside0.mk (hbox); have n3_ := Aside0.mk ((by rw [hg]; exact (below_size (by repeat (first | (with_reducible first | exact HB.out | apply below_alloc | apply pw_below_drewN | apply below_drew1 | refine below_set ?_ GE262.out) | exact HB.out))) : w.heap.size ≤ gb263)); have n4_ := Aside0.mk ((by rw [hg]; exact (below_size (by repeat (first | (with_reducible first | exact HB.out | apply below_alloc | apply pw_below_drewN | apply below_drew1 | refine below_set ?_ GE262.out) | exact HB.out))) : w.heap.size ≤ gb263)); have n5_ := Aside0.mk ((by rw [hg]; exact Nat.ne_of_lt (blk_lt (g := gb262) (o := .cells #[.int .i64 a0_0, .slice A0_1 l0_1.length c0_1] 29 (0, 0)) (by (with_reducible repeat (first | refine blk_drewN ?_ _ | refine blk_drew ?_ | refine blk_alloc ?_ _)); exact BK262.out)) : gb262 ≠ gb263)); have n6_ := Aside0.mk ((by rw [hg]; exact Nat.ne_of_gt (blk_lt (g := gb262) (o := .cells #[.int .i64 a0_0, .slice A0_1 l0_1.length c0_1] 29 (0, 0)) (by (with_reducible repeat (first | refine blk_drewN ?_ _ | refine blk_drew ?_ | refine blk_alloc ?_ _)); exact BK262.out)) : gb263 ≠ gb262)); clear BK262; clear HB; have BK262 := n0_; have HB := n1_; have BK263 := n2_; have GW263 := n3_; have GE263 := n4_; have NB262_263 := n5_; have NB263_262 := n6_; clear n0_ n1_ n2_ n3_ n4_ n5_ n6_; clear hb hbox hg; have hnb8 := NB262_263.out; have hnc8 := NB263_262.out; have hcz9_0 : w7.cell? ⟨gb262, 0, none⟩ = some (.int .i64 a0_0) := (blk_cell BK262.out 0).trans rfl; have hcz9_1 : w7.cell? ⟨gb262, 1, none⟩ = some (.slice A0_1 l0_1.length c0_1) := (blk_cell BK262.out 1).trans rfl; have hfz9_0 := blk_frozen BK262.out 0; have hfz9_1 := blk_frozen BK262.out 1; have hcz10_0 : w7.cell? ⟨gb263, 0, none⟩ = some (.int .i64 a1_0) := (blk_cell BK263.out 0).trans rfl; have hcz10_1 : w7.cell? ⟨gb263, 1, none⟩ = some (.slice A1_1 l1_1.length c1_1) := (blk_cell BK263.out 1).trans rfl; have hfz10_0 := blk_frozen BK263.out 0; have hfz10_1 := blk_frozen BK263.out 1) | ((with_reducible refine gate_callee (f := 48) rfl ?_); refine goesL_ (some 14) rfl rfl Try.func48 (by kernel_rfl) rfl #[.slice A0_1 l0_1.length c0_1, .slice A1_1 l1_1.length c1_1] rfl (by (try simp only [List.map_toArray, List.map_cons, List.map_nil]); first | done | rfl | (simp only [List.length_drop, List.length_take]; rfl)) ?_; (with_reducible refine (laws_eqRowSS.calls k _ _ l0_1 _ _ l1_1 true _ ?side1 ?side2 ?side3 ?side4 A4.out).mono ?_); (case side1 => repeat (first | exact (Kd.C_below HR0_1.out HB.out) | (with_reducible refine Kd.C_alloc ?_ _) | (with_reducible refine Kd.C_drewN ?_ _) | (with_reducible refine Kd.C_drew ?_))); (case side2 => exact HC0_1.out); (case side3 => repeat (first | exact (Kd.C_below HR1_1.out HB.out) | (with_reducible refine Kd.C_alloc ?_ _) | (with_reducible refine Kd.C_drewN ?_ _) | (with_reducible refine Kd.C_drew ?_))); (case side4 => exact HC1_1.out); rintro e w11 ⟨rfl, hb⟩; refine ⟨_, rfl, ?_⟩; have n0_ := Aside0.mk (blk_below (g := gb262) (o := .cells #[.int .i64 a0_0, .slice A0_1 l0_1.length c0_1] 29 (0, 0)) (by (with_reducible repeat (first | refine blk_drewN ?_ _ | refine blk_drew ?_ | refine blk_alloc ?_ _)); exact BK262.out) hb); have n1_ := Aside0.mk (blk_below (g := gb263) (o := .cells #[.int .i64 a1_0, .slice A1_1 l1_1.length c1_1] 29 (0, 0)) (by (with_reducible repeat (first | refine blk_drewN ?_ _ | refine blk_drew ?_ | refine blk_alloc ?_ _)); exact BK263.out) hb); have n2_ := Aside0.mk (below_step (by repeat (first | (with_reducible first | exact HB.out | apply below_alloc | apply pw_below_drewN | apply below_drew1 | refine below_set ?_ GE262.out | refine below_set ?_ GE263.out) | exact HB.out)) hb); clear BK262; clear BK263; clear HB; have BK262 := n0_; have BK263 := n1_; have HB := n2_; clear n0_ n1_ n2_; (try clear hb); (try clear hb2); (try clear hk); (try clear hi)))
      go_ret
      exact ⟨by first | rfl | (simp [errW_none, errW_some] <;> rfl) | (simp [*, errW_none, errW_some] <;> rfl), by repeat (first | (with_reducible first | exact HB.out | apply below_alloc | apply pw_below_drewN | apply below_drew1 | refine below_set ?_ GE262.out | refine below_set ?_ GE263.out) | exact HB.out)⟩
    · replace c5 := Bool.eq_false_iff.mpr c5
      subst c5
      have H1 : (some false) = some r := by rw [if_neg (show ¬ (false = true) by decide)] at H; exact H
      clear H
      have H := H1
      clear H1
      obtain rfl := Option.some.inj H
      go_enter Try.func13, Try.ntmps13
      go_wp2_with (first | ((with_reducible refine gate_dst (N := 2) rfl ?_); refine box_event ?hg (N := 2) ?hd (cs := #[.int .i64 a0_0, .slice A0_1 l0_1.length c0_1]) (t := 29) ?hr ?_; (case hd => rfl); (case hg => rfl); (case hr => first | (go_simp; done) | (go_simp; rfl)); intro gb262 hg w12 hbox hb; have n0_ := Aside0.mk (below_step (by repeat (first | (with_reducible first | exact HB.out | apply below_alloc | apply pw_below_drewN | apply below_drew1) | exact HB.out)) hb); have n1_ := Aside0.mk (hbox); have n2_ := Aside0.mk ((by rw [hg]; exact (below_size (by repeat (first | (with_reducible first | exact HB.out | apply below_alloc | apply pw_below_drewN | apply below_drew1) | exact HB.out))) : w.heap.size ≤ gb262)); have n3_ := Aside0.mk ((by rw [hg]; exact (below_size (by repeat (first | (with_reducible first | exact HB.out | apply below_alloc | apply pw_below_drewN | apply below_drew1) | exact HB.out))) : w.heap.size ≤ gb262)); clear HB; have HB := n0_; have BK262 := n1_; have GW262 := n2_; have GE262 := n3_; clear n0_ n1_ n2_ n3_; clear hb hbox hg) | ((with_reducible refine gate_dst (N := 3) rfl ?_); refine box_event ?hg (N := 3) ?hd (cs := #[.int .i64 a1_0, .slice A1_1 l1_1.length c1_1]) (t := 29) ?hr ?_; (case hd => rfl); (case hg => rfl); (case hr => first | (go_simp; done) | (go_simp; rfl)); intro gb263 hg w13 hbox hb; have n0_ := Aside0.mk (blk_below (g := gb262) (o := .cells #[.int .i64 a0_0, .slice A0_1 l0_1.length c0_1] 29 (0, 0)) (by (with_reducible repeat (first | refine blk_drewN ?_ _ | refine blk_drew ?_ | refine blk_alloc ?_ _)); exact BK262.out) hb); have n1_ := Aside0.mk (below_step (by repeat (first | (with_reducible first | exact HB.out | apply below_alloc | apply pw_below_drewN | apply below_drew1 | refine below_set ?_ GE262.out) | exact HB.out)) hb); have n2_ := Aside0.mk (hbox); have n3_ := Aside0.mk ((by rw [hg]; exact (below_size (by repeat (first | (with_reducible first | exact HB.out | apply below_alloc | apply pw_below_drewN | apply below_drew1 | refine below_set ?_ GE262.out) | exact HB.out))) : w.heap.size ≤ gb263)); have n4_ := Aside0.mk ((by rw [hg]; exact (below_size (by repeat (first | (with_reducible first | exact HB.out | apply below_alloc | apply pw_below_drewN | apply below_drew1 | refine below_set ?_ GE262.out) | exact HB.out))) : w.heap.size ≤ gb263)); have n5_ := Aside0.mk ((by rw [hg]; exact Nat.ne_of_lt (blk_lt (g := gb262) (o := .cells #[.int .i64 a0_0, .slice A0_1 l0_1.length c0_1] 29 (0, 0)) (by (with_reducible repeat (first | refine blk_drewN ?_ _ | refine blk_drew ?_ | refine blk_alloc ?_ _)); exact BK262.out)) : gb262 ≠ gb263)); have n6_ := Aside0.mk ((by rw [hg]; exact Nat.ne_of_gt (blk_lt (g := gb262) (o := .cells #[.int .i64 a0_0, .slice A0_1 l0_1.length c0_1] 29 (0, 0)) (by (with_reducible repeat (first | refine blk_drewN ?_ _ | refine blk_drew ?_ | refine blk_alloc ?_ _)); exact BK262.out)) : gb263 ≠ gb262)); clear BK262; clear HB; have BK262 := n0_; have HB := n1_; have BK263 := n2_; have GW263 := n3_; have GE263 := n4_; have NB262_263 := n5_; have NB263_262 := n6_; clear n0_ n1_ n2_ n3_ n4_ n5_ n6_; clear hb hbox hg; have hnb14 := NB262_263.out; have hnc14 := NB263_262.out; have hcz15_0 : w13.cell? ⟨gb262, 0, none⟩ = some (.int .i64 a0_0) := (blk_cell BK262.out 0).trans rfl; have hcz15_1 : w13.cell? ⟨gb262, 1, none⟩ = some (.slice A0_1 l0_1.length c0_1) := (blk_cell BK262.out 1).trans rfl; have hfz15_0 := blk_frozen BK262.out 0; have hfz15_1 := blk_frozen BK262.out 1; have hcz16_0 : w13.cell? ⟨gb263, 0, none⟩ = some (.int .i64 a1_0) := (blk_cell BK263.out 0).trans rfl; have hcz16_1 : w13.cell? ⟨gb263, 1, none⟩ = some (.slice A1_1 l1_1.length c1_1) := (blk_cell BK263.out 1).trans rfl; have hfz16_0 := blk_frozen BK263.out 0; have hfz16_1 := blk_frozen BK263.out 1) | ((with_reducible refine gate_callee (f := 48) rfl ?_); refine goesL_ (some 14) rfl rfl Try.func48 (by kernel_rfl) rfl #[.slice A0_1 l0_1.length c0_1, .slice A1_1 l1_1.length c1_1] rfl (by (try simp only [List.map_toArray, List.map_cons, List.map_nil]); first | done | rfl | (simp only [List.length_drop, List.length_take]; rfl)) ?_; (with_reducible refine (laws_eqRowSS.calls k _ _ l0_1 _ _ l1_1 false _ ?side1 ?side2 ?side3 ?side4 A4.out).mono ?_); (case side1 => repeat (first | exact (Kd.C_below HR0_1.out HB.out) | (with_reducible refine Kd.C_alloc ?_ _) | (with_reducible refine Kd.C_drewN ?_ _) | (with_reducible refine Kd.C_drew ?_))); (case side2 => exact HC0_1.out); (case side3 => repeat (first | exact (Kd.C_below HR1_1.out HB.out) | (with_reducible refine Kd.C_alloc ?_ _) | (with_reducible refine Kd.C_drewN ?_ _) | (with_reducible refine Kd.C_drew ?_))); (case side4 => exact HC1_1.out); rintro e w17 ⟨rfl, hb⟩; refine ⟨_, rfl, ?_⟩; have n0_ := Aside0.mk (blk_below (g := gb262) (o := .cells #[.int .i64 a0_0, .slice A0_1 l0_1.length c0_1] 29 (0, 0)) (by (with_reducible repeat (first | refine blk_drewN ?_ _ | refine blk_drew ?_ | refine blk_alloc ?_ _)); exact BK262.out) hb); have n1_ := Aside0.mk (blk_below (g := gb263) (o := .cells #[.int .i64 a1_0, .slice A1_1 l1_1.length c1_1] 29 (0, 0)) (by (with_reducible repeat (first | refine blk_drewN ?_ _ | refine blk_drew ?_ | refine blk_alloc ?_ _)); exact BK263.out) hb); have n2_ := Aside0.mk (below_step (by repeat (first | (with_reducible first | exact HB.out | apply below_alloc | apply pw_below_drewN | apply below_drew1 | refine below_set ?_ GE262.out | refine below_set ?_ GE263.out) | exact HB.out)) hb); clear BK262; clear BK263; clear HB; have BK262 := n0_; have BK263 := n1_; have HB := n2_; clear n0_ n1_ n2_; (try clear hb); (try clear hb2); (try clear hk); (try clear hi)))
      go_ret
      exact ⟨by first | rfl | (simp [errW_none, errW_some] <;> rfl) | (simp [*, errW_none, errW_some] <;> rfl), by repeat (first | (with_reducible first | exact HB.out | apply below_alloc | apply pw_below_drewN | apply below_drew1 | refine below_set ?_ GE262.out | refine below_set ?_ GE263.out) | exact HB.out)⟩
  · rw [if_neg c3] at H
    have c3b0 : (a0_0 == a1_0) = false := beq_eq_false_iff_ne.mpr c3
    have c3b1 : (a0_0 != a1_0) = true := bne_iff_ne.mpr c3
    obtain rfl := Option.some.inj H
    go_enter Try.func13, Try.ntmps13
    go_wp2_with (first | ((with_reducible refine gate_dst (N := 2) rfl ?_); refine box_event ?hg (N := 2) ?hd (cs := #[.int .i64 a0_0, .slice A0_1 l0_1.length c0_1]) (t := 29) ?hr ?_; (case hd => rfl); (case hg => rfl); (case hr => first | (go_simp; done) | (go_simp; rfl)); intro gb262 hg w18 hbox hb; have n0_ := Aside0.mk (below_step (by repeat (first | (with_reducible first | exact HB.out | apply below_alloc | apply pw_below_drewN | apply below_drew1) | exact HB.out)) hb); have n1_ := Aside0.mk (hbox); have n2_ := Aside0.mk ((by rw [hg]; exact (below_size (by repeat (first | (with_reducible first | exact HB.out | apply below_alloc | apply pw_below_drewN | apply below_drew1) | exact HB.out))) : w.heap.size ≤ gb262)); have n3_ := Aside0.mk ((by rw [hg]; exact (below_size (by repeat (first | (with_reducible first | exact HB.out | apply below_alloc | apply pw_below_drewN | apply below_drew1) | exact HB.out))) : w.heap.size ≤ gb262)); clear HB; have HB := n0_; have BK262 := n1_; have GW262 := n2_; have GE262 := n3_; clear n0_ n1_ n2_ n3_; clear hb hbox hg) | ((with_reducible refine gate_dst (N := 3) rfl ?_); refine box_event ?hg (N := 3) ?hd (cs := #[.int .i64 a1_0, .slice A1_1 l1_1.length c1_1]) (t := 29) ?hr ?_; (case hd => rfl); (case hg => rfl); (case hr => first | (go_simp; done) | (go_simp; rfl)); intro gb263 hg w19 hbox hb; have n0_ := Aside0.mk (blk_below (g := gb262) (o := .cells #[.int .i64 a0_0, .slice A0_1 l0_1.length c0_1] 29 (0, 0)) (by (with_reducible repeat (first | refine blk_drewN ?_ _ | refine blk_drew ?_ | refine blk_alloc ?_ _)); exact BK262.out) hb); have n1_ := Aside0.mk (below_step (by repeat (first | (with_reducible first | exact HB.out | apply below_alloc | apply pw_below_drewN | apply below_drew1 | refine below_set ?_ GE262.out) | exact HB.out)) hb); have n2_ := Aside0.mk (hbox); have n3_ := Aside0.mk ((by rw [hg]; exact (below_size (by repeat (first | (with_reducible first | exact HB.out | apply below_alloc | apply pw_below_drewN | apply below_drew1 | refine below_set ?_ GE262.out) | exact HB.out))) : w.heap.size ≤ gb263)); have n4_ := Aside0.mk ((by rw [hg]; exact (below_size (by repeat (first | (with_reducible first | exact HB.out | apply below_alloc | apply pw_below_drewN | apply below_drew1 | refine below_set ?_ GE262.out) | exact HB.out))) : w.heap.size ≤ gb263)); have n5_ := Aside0.mk ((by rw [hg]; exact Nat.ne_of_lt (blk_lt (g := gb262) (o := .cells #[.int .i64 a0_0, .slice A0_1 l0_1.length c0_1] 29 (0, 0)) (by (with_reducible repeat (first | refine blk_drewN ?_ _ | refine blk_drew ?_ | refine blk_alloc ?_ _)); exact BK262.out)) : gb262 ≠ gb263)); have n6_ := Aside0.mk ((by rw [hg]; exact Nat.ne_of_gt (blk_lt (g := gb262) (o := .cells #[.int .i64 a0_0, .slice A0_1 l0_1.length c0_1] 29 (0, 0)) (by (with_reducible repeat (first | refine blk_drewN ?_ _ | refine blk_drew ?_ | refine blk_alloc ?_ _)); exact BK262.out)) : gb263 ≠ gb262)); clear BK262; clear HB; have BK262 := n0_; have HB := n1_; have BK263 := n2_; have GW263 := n3_; have GE263 := n4_; have NB262_263 := n5_; have NB263_262 := n6_; clear n0_ n1_ n2_ n3_ n4_ n5_ n6_; clear hb hbox hg; have hnb20 := NB262_263.out; have hnc20 := NB263_262.out; have hcz21_0 : w19.cell? ⟨gb262, 0, none⟩ = some (.int .i64 a0_0) := (blk_cell BK262.out 0).trans rfl; have hcz21_1 : w19.cell? ⟨gb262, 1, none⟩ = some (.slice A0_1 l0_1.length c0_1) := (blk_cell BK262.out 1).trans rfl; have hfz21_0 := blk_frozen BK262.out 0; have hfz21_1 := blk_frozen BK262.out 1; have hcz22_0 : w19.cell? ⟨gb263, 0, none⟩ = some (.int .i64 a1_0) := (blk_cell BK263.out 0).trans rfl; have hcz22_1 : w19.cell? ⟨gb263, 1, none⟩ = some (.slice A1_1 l1_1.length c1_1) := (blk_cell BK263.out 1).trans rfl; have hfz22_0 := blk_frozen BK263.out 0; have hfz22_1 := blk_frozen BK263.out 1))
    go_ret
    exact ⟨by first | rfl | (simp [errW_none, errW_some] <;> rfl) | (simp [*, errW_none, errW_some] <;> rfl), by repeat (first | (with_reducible first | exact HB.out | apply below_alloc | apply pw_below_drewN | apply below_drew1 | refine below_set ?_ GE262.out | refine below_set ?_ GE263.out) | exact HB.out)⟩

/-! ### laws_FnExactGoodTable: function 3 -/
section
open Go.RowKit
/-- A struct's variable is loaded whole. -/
theorem load_run {P : Program} {o : Oper} {a : Act} {W : World} {g : Nat} {cs : Array Value} {t : TypeId} (hg : W.heap[g]? = some (.cells cs t (0, 0))) (n : Nat) (hn : cs.size = n) (ty : TypeId) (x : Operand) (ho : o.op = .load ty x)
    (hx : a.eval x = .pointer (some ⟨g, 0, none⟩)) (d : TypeDesc) (hu : P.underlying ty = some d) (hd : (match d with | .struct _ | .array _ _ => true | _ => false) = true) (hi : (P.info? ty).map (·.size) = some n) :
    (execOp a.eval o).run P W = .ok (.value (.agg cs)) W := by
  subst hn
  unfold execOp
  simp only [ho, hx, Instr.loadAt, Instr.sureAddr, Sem.run_bind, Sem.run_pure, Result.andThen_ok, run_loadVar_row W g t ty cs (0, 0) d hg hu hd hi]

theorem store_run {P : Program} {o : Oper} {a : Act} {W : World} {g : Nat} {cs cs' : Array Value} {t : TypeId} (hg : W.heap[g]? = some (.cells cs t (0, 0))) (n : Nat) (hn : cs.size = n) (hn' : cs'.size = n) (ty : TypeId) (x y : Operand) (ho : o.op = .store ty x y)
    (hx : a.eval x = .pointer (some ⟨g, 0, none⟩)) (hy : a.eval y = .agg cs') (hi : (P.info? ty).map (·.size) = some n) (h1 : cs'.all (·.oneCell') = true) :
    (execOp a.eval o).run P W = .ok .skip (W.setRow g cs') := by
  unfold execOp
  simp only [ho, hx, hy, Instr.storeAt, Instr.sureAddr, Sem.run_bind, Sem.run_pure, Result.andThen_ok, run_storeVar_row W g t ty cs cs' hg (by rw [hn']; exact hi) (by rw [hn, hn']) h1]
theorem kept_setRow (W : World) (g : Nat) (cs : Array Value) : Kept W (W.setRow g cs) (fun k => k = g) := ⟨by simp, fun i _ hi => setRow_other W g i cs hi⟩
theorem below_setRow_ {B g : Nat} {w0 w : World} (hb : Below B w0 w) (hBg : B ≤ g) (cs : Array Value) : Below B w0 (w.setRow g cs) :=
  ⟨hb.os, hb.tape, hb.output, by simpa using hb.size, fun k hk => (setRow_other w g k cs (by omega)).trans (hb.block k hk)⟩
end
/-- What the law's calls answer. -/
def laws_FnExactGoodTable.Facts (a0_0 : Int) (l0_1 : List (List (S125))) : Prop :=
  ∃ z1 : Int, (∃ K, laws_szTable.f K a0_0 l0_1 1048576 = some z1) ∧ (z1 < 0 ∨ (0 ≤ z1 ∧ ∃ r2 : Int, ∃ r3 : List (List (S72)), (∃ K, laws_toTable.f K a0_0 l0_1 = some (r2, r3)) ∧ ∃ r4 : Bool, (∃ K, spec_GoodTable.f K r2 r3 = some r4) ∧ (∃ K, impl_GoodTable.f K r2 r3 = some r4) ∧ (∃ K, laws_eqTable.f K r2 r3 r2 r3 = some true) ∧ True))
set_option maxHeartbeats 8000000 in
set_option maxRecDepth 100000 in
theorem laws_FnExactGoodTable.calls (a0_0 : Int) (A0_1 : Option Addr) (c0_1 : Nat) (l0_1 : List (List (S125))) (w : World) (hr0_1 : Kd.C (Kd.slice 125 k125) w A0_1 l0_1.length l0_1) (hc0_1 : l0_1.length ≤ c0_1) (h : laws_FnExactGoodTable.Facts a0_0 l0_1) :
    Calls Try.prog 3 #[.agg #[.int .i64 a0_0, .slice A0_1 l0_1.length c0_1]] w fun e w' => e = .returned (.bool true) ∧ Below w.heap.size w w' := by
  unfold laws_FnExactGoodTable.Facts at h
  have HR0_1 := Aside0.mk hr0_1
  have HC0_1 := Aside0.mk hc0_1
  clear hr0_1 hc0_1
  have HF := Aside0.mk h
  clear h
  have HB := Aside0.mk (Below.refl w.heap.size w)
  obtain ⟨z1, ⟨Kz1, hs⟩, hF⟩ := HF.out
  clear HF
  have HF := Aside0.mk hF
  clear hF
  have HSz1 := Aside0.mk hs
  clear hs
  go_enter Try.func3, Try.ntmps3
  go_upto_region 2 with (fail)
  refine letC (fun W_ => Below w.heap.size w W_ ∧ W_.heap[w.heap.size]? = some (.cells #[.int .i64 a0_0, .slice A0_1 l0_1.length c0_1] 24 (0, 0))) ?_ ?_
  · refine ⟨?_, ?_⟩
    · repeat (first | exact Below.refl _ _ | apply below_alloc | refine below_set ?_ (by first | exact Nat.le_refl _ | omega | (simp; done)))
    · simpa using blk_new w (.cells #[.int .i64 a0_0, .slice A0_1 l0_1.length c0_1] 24)
  intro w1 hq_
  obtain ⟨hb, hx0_⟩ := hq_
  have Z1 : Aside0 (w.heap.size ≤ w1.heap.size) := ⟨hb.size⟩
  have hb_ := Aside0.mk (below_then HB.out HB.out.size hb)
  clear HB
  have HB := hb_
  clear hb_
  clear hb
  have BX1 : Aside0 (w1.heap[w.heap.size]? = some (.cells #[.int .i64 a0_0, .slice A0_1 l0_1.length c0_1] 24 (0, 0))) := ⟨hx0_⟩
  clear hx0_
  have GBX1 : Aside0 (w.heap.size < w1.heap.size) := ⟨blk_lt BX1.out⟩
  go_wp2_with (first | ((with_reducible refine gate_dst (N := 7) rfl ?_); first | refine Kd.event_run rfl (load_run BX1.out 2 rfl 24 _ (by rfl) (by rfl) _ Try.underlying24 rfl (by kernel_rfl)) ?_) | ((with_reducible refine gate_dst (N := 12) rfl ?_); first | refine Kd.event_run rfl (load_run BX1.out 2 rfl 24 _ (by rfl) (by rfl) _ Try.underlying24 rfl (by kernel_rfl)) ?_) | ((with_reducible refine gate_dst (N := 15) rfl ?_); first | refine Kd.event_run rfl (load_run BX1.out 2 rfl 24 _ (by rfl) (by rfl) _ Try.underlying24 rfl (by kernel_rfl)) ?_) | ((with_reducible refine gate_dst (N := 17) rfl ?_); first | refine Kd.event_run rfl (load_run BX1.out 2 rfl 24 _ (by rfl) (by rfl) _ Try.underlying24 rfl (by kernel_rfl)) ?_) | ((with_reducible refine gate_dst (N := 22) rfl ?_); first | refine Kd.event_run rfl (load_run BX1.out 2 rfl 24 _ (by rfl) (by rfl) _ Try.underlying24 rfl (by kernel_rfl)) ?_) | ((with_reducible refine gate_dst (N := 23) rfl ?_); first | refine Kd.event_run rfl (load_run BX1.out 2 rfl 24 _ (by rfl) (by rfl) _ Try.underlying24 rfl (by kernel_rfl)) ?_))
  (refine (laws_szTable.calls Kz1 a0_0 A0_1 c0_1 l0_1 1048576 z1 w1 (Kd.C_below HR0_1.out HB.out) HC0_1.out HSz1.out).mono ?_)
  rintro e w2 ⟨rfl, hb⟩
  have Z2 : Aside0 (w1.heap.size ≤ w2.heap.size) := ⟨hb.size⟩
  have n0_ := Aside0.mk (blk_below BX1.out hb)
  have hb_ := Aside0.mk (below_then HB.out HB.out.size hb)
  clear BX1
  have BX1 := n0_
  clear n0_
  clear HB
  have HB := hb_
  clear hb_
  clear hb
  rcases HF.out with hneg | ⟨hpos, hF⟩
  · clear HF
    go_wp2
    go_ret
    exact ⟨rfl, HB.out⟩
  clear HF
  have HF := Aside0.mk hF
  clear hF
  obtain ⟨r2, r3, ⟨K1, h1⟩, hF⟩ := HF.out
  clear HF
  have HF := Aside0.mk hF
  clear hF
  have H1 := Aside0.mk h1
  clear h1
  go_wp2_with (first | ((with_reducible refine gate_dst (N := 7) rfl ?_); first | refine Kd.event_run rfl (load_run BX1.out 2 rfl 24 _ (by rfl) (by rfl) _ Try.underlying24 rfl (by kernel_rfl)) ?_) | ((with_reducible refine gate_dst (N := 12) rfl ?_); first | refine Kd.event_run rfl (load_run BX1.out 2 rfl 24 _ (by rfl) (by rfl) _ Try.underlying24 rfl (by kernel_rfl)) ?_) | ((with_reducible refine gate_dst (N := 15) rfl ?_); first | refine Kd.event_run rfl (load_run BX1.out 2 rfl 24 _ (by rfl) (by rfl) _ Try.underlying24 rfl (by kernel_rfl)) ?_) | ((with_reducible refine gate_dst (N := 17) rfl ?_); first | refine Kd.event_run rfl (load_run BX1.out 2 rfl 24 _ (by rfl) (by rfl) _ Try.underlying24 rfl (by kernel_rfl)) ?_) | ((with_reducible refine gate_dst (N := 22) rfl ?_); first | refine Kd.event_run rfl (load_run BX1.out 2 rfl 24 _ (by rfl) (by rfl) _ Try.underlying24 rfl (by kernel_rfl)) ?_) | ((with_reducible refine gate_dst (N := 23) rfl ?_); first | refine Kd.event_run rfl (load_run BX1.out 2 rfl 24 _ (by rfl) (by rfl) _ Try.underlying24 rfl (by kernel_rfl)) ?_))
  (refine (laws_toTable.calls K1 a0_0 A0_1 c0_1 l0_1 r2 r3 w2 (Kd.C_below HR0_1.out HB.out) HC0_1.out H1.out).mono ?_)
  rintro e w3 ⟨v1_, rfl, hS0, hb⟩
  have X1 : Aside0 (Kd.R (Kd.slice 72 k72) 70 w3 w.heap.size (fun k => w2.heap.size ≤ k ∧ k < w3.heap.size) v1_ r3) := ⟨Kd.R_mono (Kd.R_lower (Kd.R_bound hS0) HB.out.size) (fun k hk => ⟨hk.2.1, hk.2.2.1⟩)⟩
  have Z3 : Aside0 (w2.heap.size ≤ w3.heap.size) := ⟨hb.size⟩
  have n0_ := Aside0.mk (blk_below BX1.out hb)
  have hb_ := Aside0.mk (below_then HB.out HB.out.size hb)
  clear BX1
  have BX1 := n0_
  clear n0_
  clear HB
  have HB := hb_
  clear hb_
  clear hb hS0
  obtain ⟨A1_, c1_, rfl⟩ := Kd.R_slice X1.out
  obtain ⟨r4, ⟨K2, h2⟩, hF⟩ := HF.out
  clear HF
  have HF := Aside0.mk hF
  clear hF
  have H2 := Aside0.mk h2
  clear h2
  go_wp2_with (first | ((with_reducible refine gate_dst (N := 7) rfl ?_); first | refine Kd.event_run rfl (load_run BX1.out 2 rfl 24 _ (by rfl) (by rfl) _ Try.underlying24 rfl (by kernel_rfl)) ?_) | ((with_reducible refine gate_dst (N := 12) rfl ?_); first | refine Kd.event_run rfl (load_run BX1.out 2 rfl 24 _ (by rfl) (by rfl) _ Try.underlying24 rfl (by kernel_rfl)) ?_) | ((with_reducible refine gate_dst (N := 15) rfl ?_); first | refine Kd.event_run rfl (load_run BX1.out 2 rfl 24 _ (by rfl) (by rfl) _ Try.underlying24 rfl (by kernel_rfl)) ?_) | ((with_reducible refine gate_dst (N := 17) rfl ?_); first | refine Kd.event_run rfl (load_run BX1.out 2 rfl 24 _ (by rfl) (by rfl) _ Try.underlying24 rfl (by kernel_rfl)) ?_) | ((with_reducible refine gate_dst (N := 22) rfl ?_); first | refine Kd.event_run rfl (load_run BX1.out 2 rfl 24 _ (by rfl) (by rfl) _ Try.underlying24 rfl (by kernel_rfl)) ?_) | ((with_reducible refine gate_dst (N := 23) rfl ?_); first | refine Kd.event_run rfl (load_run BX1.out 2 rfl 24 _ (by rfl) (by rfl) _ Try.underlying24 rfl (by kernel_rfl)) ?_))
  (refine (spec_GoodTable.calls K2 r2 A1_ c1_ r3 r4 w3 (Kd.R_reads' X1.out).2.2 (Kd.R_reads' X1.out).2.1 H2.out).mono ?_)
  rintro e w4 ⟨rfl, hb⟩
  have Z4 : Aside0 (w3.heap.size ≤ w4.heap.size) := ⟨hb.size⟩
  have n0_ := Aside0.mk (Kd.R_below X1.out hb)
  have n1_ := Aside0.mk (blk_below BX1.out hb)
  have hb_ := Aside0.mk (below_then HB.out HB.out.size hb)
  clear X1 BX1
  have X1 := n0_
  have BX1 := n1_
  clear n0_ n1_
  clear HB
  have HB := hb_
  clear hb_
  clear hb
  go_wp2_with (first | ((with_reducible refine gate_dst (N := 7) rfl ?_); first | refine Kd.event_run rfl (load_run BX1.out 2 rfl 24 _ (by rfl) (by rfl) _ Try.underlying24 rfl (by kernel_rfl)) ?_) | ((with_reducible refine gate_dst (N := 12) rfl ?_); first | refine Kd.event_run rfl (load_run BX1.out 2 rfl 24 _ (by rfl) (by rfl) _ Try.underlying24 rfl (by kernel_rfl)) ?_) | ((with_reducible refine gate_dst (N := 15) rfl ?_); first | refine Kd.event_run rfl (load_run BX1.out 2 rfl 24 _ (by rfl) (by rfl) _ Try.underlying24 rfl (by kernel_rfl)) ?_) | ((with_reducible refine gate_dst (N := 17) rfl ?_); first | refine Kd.event_run rfl (load_run BX1.out 2 rfl 24 _ (by rfl) (by rfl) _ Try.underlying24 rfl (by kernel_rfl)) ?_) | ((with_reducible refine gate_dst (N := 22) rfl ?_); first | refine Kd.event_run rfl (load_run BX1.out 2 rfl 24 _ (by rfl) (by rfl) _ Try.underlying24 rfl (by kernel_rfl)) ?_) | ((with_reducible refine gate_dst (N := 23) rfl ?_); first | refine Kd.event_run rfl (load_run BX1.out 2 rfl 24 _ (by rfl) (by rfl) _ Try.underlying24 rfl (by kernel_rfl)) ?_))
  (refine (laws_toTable.calls K1 a0_0 A0_1 c0_1 l0_1 r2 r3 w4 (Kd.C_below HR0_1.out HB.out) HC0_1.out H1.out).mono ?_)
  rintro e w5 ⟨v1_, rfl, hS0, hb⟩
  have X2 : Aside0 (Kd.R (Kd.slice 72 k72) 70 w5 w.heap.size (fun k => w4.heap.size ≤ k ∧ k < w5.heap.size) v1_ r3) := ⟨Kd.R_mono (Kd.R_lower (Kd.R_bound hS0) HB.out.size) (fun k hk => ⟨hk.2.1, hk.2.2.1⟩)⟩
  have Z5 : Aside0 (w4.heap.size ≤ w5.heap.size) := ⟨hb.size⟩
  have n0_ := Aside0.mk (Kd.R_below X1.out hb)
  have n1_ := Aside0.mk (blk_below BX1.out hb)
  have hb_ := Aside0.mk (below_then HB.out HB.out.size hb)
  clear X1 BX1
  have X1 := n0_
  have BX1 := n1_
  clear n0_ n1_
  clear HB
  have HB := hb_
  clear hb_
  clear hb hS0
  obtain ⟨A2_, c2_, rfl⟩ := Kd.R_slice X2.out
  obtain ⟨⟨K3, h3⟩, hF⟩ := HF.out
  clear HF
  have HF := Aside0.mk hF
  clear hF
  have H3 := Aside0.mk h3
  clear h3
  go_upto_region 7 with (fail)
  refine letC (fun W_ => Below w5.heap.size w5 W_ ∧ W_.heap[w5.heap.size]? = some (.cells #[.int .i64 r2, .slice A2_ r3.length c2_] 29 (0, 0))) ?_ ?_
  · refine ⟨?_, ?_⟩
    · repeat (first | exact Below.refl _ _ | apply below_alloc | refine below_set ?_ (by first | exact Nat.le_refl _ | omega | (simp; done)))
    · exact blk_new w5 (.cells #[.int .i64 r2, .slice A2_ r3.length c2_] 29)
  intro w6 hq_
  obtain ⟨hb, hx0_⟩ := hq_
  have Z6 : Aside0 (w5.heap.size ≤ w6.heap.size) := ⟨hb.size⟩
  have n0_ := Aside0.mk (Kd.R_below X1.out hb)
  have n1_ := Aside0.mk (Kd.R_below X2.out hb)
  have n2_ := Aside0.mk (blk_below BX1.out hb)
  have hb_ := Aside0.mk (below_then HB.out HB.out.size hb)
  clear X1 X2 BX1
  have X1 := n0_
  have X2 := n1_
  have BX1 := n2_
  clear n0_ n1_ n2_
  clear HB
  have HB := hb_
  clear hb_
  clear hb
  have BX2 : Aside0 (w6.heap[w5.heap.size]? = some (.cells #[.int .i64 r2, .slice A2_ r3.length c2_] 29 (0, 0))) := ⟨hx0_⟩
  clear hx0_
  have GBX2 : Aside0 (w5.heap.size < w6.heap.size) := ⟨blk_lt BX2.out⟩
  go_wp2_with (first | ((with_reducible refine gate_dst (N := 7) rfl ?_); first | refine Kd.event_run rfl (load_run BX2.out 2 rfl 29 _ (by rfl) (by rfl) _ Try.underlying29 rfl (by kernel_rfl)) ?_) | ((with_reducible refine gate_dst (N := 12) rfl ?_); first | refine Kd.event_run rfl (load_run BX2.out 2 rfl 29 _ (by rfl) (by rfl) _ Try.underlying29 rfl (by kernel_rfl)) ?_) | ((with_reducible refine gate_dst (N := 15) rfl ?_); first | refine Kd.event_run rfl (load_run BX2.out 2 rfl 29 _ (by rfl) (by rfl) _ Try.underlying29 rfl (by kernel_rfl)) ?_) | ((with_reducible refine gate_dst (N := 17) rfl ?_); first | refine Kd.event_run rfl (load_run BX2.out 2 rfl 29 _ (by rfl) (by rfl) _ Try.underlying29 rfl (by kernel_rfl)) ?_) | ((with_reducible refine gate_dst (N := 22) rfl ?_); first | refine Kd.event_run rfl (load_run BX2.out 2 rfl 29 _ (by rfl) (by rfl) _ Try.underlying29 rfl (by kernel_rfl)) ?_) | ((with_reducible refine gate_dst (N := 23) rfl ?_); first | refine Kd.event_run rfl (load_run BX2.out 2 rfl 29 _ (by rfl) (by rfl) _ Try.underlying29 rfl (by kernel_rfl)) ?_))
  (refine (impl_GoodTable.calls K3 r2 A2_ c2_ r3 r4 w6 (Kd.R_reads' X2.out).2.2 (Kd.R_reads' X2.out).2.1 H3.out).mono ?_)
  rintro e w7 ⟨rfl, hb⟩
  have Z7 : Aside0 (w6.heap.size ≤ w7.heap.size) := ⟨hb.size⟩
  have n0_ := Aside0.mk (Kd.R_below X1.out hb)
  have n1_ := Aside0.mk (Kd.R_below X2.out hb)
  have n2_ := Aside0.mk (blk_below BX1.out hb)
  have n3_ := Aside0.mk (blk_below BX2.out hb)
  have hb_ := Aside0.mk (below_then HB.out HB.out.size hb)
  clear X1 X2 BX1 BX2
  have X1 := n0_
  have X2 := n1_
  have BX1 := n2_
  have BX2 := n3_
  clear n0_ n1_ n2_ n3_
  clear HB
  have HB := hb_
  clear hb_
  clear hb
  go_wp2_with (first | ((with_reducible refine gate_dst (N := 7) rfl ?_); first | refine Kd.event_run rfl (load_run BX1.out 2 rfl 24 _ (by rfl) (by rfl) _ Try.underlying24 rfl (by kernel_rfl)) ?_ | refine Kd.event_run rfl (load_run BX2.out 2 rfl 29 _ (by rfl) (by rfl) _ Try.underlying29 rfl (by kernel_rfl)) ?_) | ((with_reducible refine gate_dst (N := 12) rfl ?_); first | refine Kd.event_run rfl (load_run BX1.out 2 rfl 24 _ (by rfl) (by rfl) _ Try.underlying24 rfl (by kernel_rfl)) ?_ | refine Kd.event_run rfl (load_run BX2.out 2 rfl 29 _ (by rfl) (by rfl) _ Try.underlying29 rfl (by kernel_rfl)) ?_) | ((with_reducible refine gate_dst (N := 15) rfl ?_); first | refine Kd.event_run rfl (load_run BX1.out 2 rfl 24 _ (by rfl) (by rfl) _ Try.underlying24 rfl (by kernel_rfl)) ?_ | refine Kd.event_run rfl (load_run BX2.out 2 rfl 29 _ (by rfl) (by rfl) _ Try.underlying29 rfl (by kernel_rfl)) ?_) | ((with_reducible refine gate_dst (N := 17) rfl ?_); first | refine Kd.event_run rfl (load_run BX1.out 2 rfl 24 _ (by rfl) (by rfl) _ Try.underlying24 rfl (by kernel_rfl)) ?_ | refine Kd.event_run rfl (load_run BX2.out 2 rfl 29 _ (by rfl) (by rfl) _ Try.underlying29 rfl (by kernel_rfl)) ?_) | ((with_reducible refine gate_dst (N := 22) rfl ?_); first | refine Kd.event_run rfl (load_run BX1.out 2 rfl 24 _ (by rfl) (by rfl) _ Try.underlying24 rfl (by kernel_rfl)) ?_ | refine Kd.event_run rfl (load_run BX2.out 2 rfl 29 _ (by rfl) (by rfl) _ Try.underlying29 rfl (by kernel_rfl)) ?_) | ((with_reducible refine gate_dst (N := 23) rfl ?_); first | refine Kd.event_run rfl (load_run BX1.out 2 rfl 24 _ (by rfl) (by rfl) _ Try.underlying24 rfl (by kernel_rfl)) ?_ | refine Kd.event_run rfl (load_run BX2.out 2 rfl 29 _ (by rfl) (by rfl) _ Try.underlying29 rfl (by kernel_rfl)) ?_))
  refine start_ (n := 5) (S := fun w' => w'.heap[w.heap.size]? = some (.cells #[.int .i64 a0_0, .slice A0_1 l0_1.length c0_1] 24 (0, 0)) ∧ w'.heap[w5.heap.size]? = some (.cells #[.int .i64 r2, .slice A2_ r3.length c2_] 29 (0, 0))) (ds := []) #[false, false, false, false, false] (by kernel_rfl) rfl rfl ⟨BX1.out, BX2.out⟩ (fun hHeld => ?_)
  have hb : Below w7.heap.size w7 w7.drew := below_drew (Below.refl _ _)
  generalize w7.drew = w8 at hb hHeld ⊢
  have Z8 : Aside0 (w7.heap.size ≤ w8.heap.size) := ⟨hb.size⟩
  have n0_ := Aside0.mk (Kd.R_below X1.out hb)
  have n1_ := Aside0.mk (Kd.R_below X2.out hb)
  have n2_ := Aside0.mk (blk_below BX1.out hb)
  have n3_ := Aside0.mk (blk_below BX2.out hb)
  have hb_ := Aside0.mk (below_then HB.out HB.out.size hb)
  clear X1 X2 BX1 BX2
  have X1 := n0_
  have X2 := n1_
  have BX1 := n2_
  have BX2 := n3_
  clear n0_ n1_ n2_ n3_
  clear HB
  have HB := hb_
  clear hb_
  clear hb
  refine take_ (i := 0) (N := some 22) (v := ?_) (a' := ?_) #[true, false, false, false, false] rfl rfl (by kernel_rfl) (fun _ _ _ h => h) (Or.inl ⟨by rfl, ?_⟩) hHeld ?_ ?_
  rotate_left
  · rintro w' ⟨s0, s1⟩
    first | (refine Eq.trans (load_run s0 2 rfl 24 _ (by rfl) (by rfl) _ Try.underlying24 rfl (by kernel_rfl)) ?_; with_reducible rfl) | (refine Eq.trans (load_run s1 2 rfl 29 _ (by rfl) (by rfl) _ Try.underlying29 rfl (by kernel_rfl)) ?_; with_reducible rfl)
  rotate_left
  · simp only [Act.put, List.setIfInBounds_toArray, List.set_cons_zero, List.set_cons_succ, i64_w, i32_w]
    rfl
  refine take_ (i := 1) (N := some 23) (v := ?_) (a' := ?_) #[true, true, false, false, false] rfl rfl (by kernel_rfl) (fun _ _ _ h => h) (Or.inl ⟨by rfl, ?_⟩) hHeld ?_ ?_
  rotate_left
  · rintro w' ⟨s0, s1⟩
    first | (refine Eq.trans (load_run s0 2 rfl 24 _ (by rfl) (by rfl) _ Try.underlying24 rfl (by kernel_rfl)) ?_; with_reducible rfl) | (refine Eq.trans (load_run s1 2 rfl 29 _ (by rfl) (by rfl) _ Try.underlying29 rfl (by kernel_rfl)) ?_; with_reducible rfl)
  rotate_left
  · simp only [Act.put, List.setIfInBounds_toArray, List.set_cons_zero, List.set_cons_succ, i64_w, i32_w]
    rfl
  refine one_ (i := 2) (N := some 24) #[true, true, true, false, false] rfl rfl (by kernel_rfl) (by decide) (fun K hK => ?_)
  refine goes_ Try.func11 (by kernel_rfl) rfl #[.agg #[.int .i64 a0_0, .slice A0_1 l0_1.length c0_1]] (by rfl) rfl rfl (by (try simp only [List.map_toArray, List.map_cons, List.map_nil]); first | done | rfl) ?_
  (refine (laws_toTable.calls K1 a0_0 A0_1 c0_1 l0_1 r2 r3 w8 (Kd.C_below HR0_1.out HB.out) HC0_1.out H1.out).mono ?_)
  rintro e w9 ⟨v1_, rfl, hS0, hb⟩
  refine ⟨_, rfl, ?_⟩
  have X3 : Aside0 (Kd.R (Kd.slice 72 k72) 70 w9 w.heap.size (fun k => w8.heap.size ≤ k ∧ k < w9.heap.size) v1_ r3) := ⟨Kd.R_mono (Kd.R_lower (Kd.R_bound hS0) HB.out.size) (fun k hk => ⟨hk.2.1, hk.2.2.1⟩)⟩
  have Z9 : Aside0 (w8.heap.size ≤ w9.heap.size) := ⟨hb.size⟩
  have n0_ := Aside0.mk (Kd.R_below X1.out hb)
  have n1_ := Aside0.mk (Kd.R_below X2.out hb)
  have n2_ := Aside0.mk (blk_below BX1.out hb)
  have n3_ := Aside0.mk (blk_below BX2.out hb)
  have hb_ := Aside0.mk (below_then HB.out HB.out.size hb)
  clear X1 X2 BX1 BX2
  have X1 := n0_
  have X2 := n1_
  have BX1 := n2_
  have BX2 := n3_
  clear n0_ n1_ n2_ n3_
  clear HB
  have HB := hb_
  clear hb_
  clear hb hS0
  obtain ⟨A3_, c3_, rfl⟩ := Kd.R_slice X3.out
  refine hK.out _ _ ⟨BX1.out, BX2.out⟩ (fun hHeld => ?_)
  clear hK K
  refine norm_ (a' := ?_) ?_ ?_
  rotate_left
  · show Act.put _ (some 24) _ = _
    simp only [Act.put, List.setIfInBounds_toArray, List.set_cons_zero, List.set_cons_succ, i64_w, i32_w]
    rfl
  obtain ⟨⟨K4, h4⟩, hF⟩ := HF.out
  clear HF
  have HF := Aside0.mk hF
  clear hF
  have H4 := Aside0.mk h4
  clear h4
  refine one_ (i := 3) (N := some 25) #[true, true, true, true, false] rfl rfl (by kernel_rfl) (by decide) (fun K hK => ?_)
  refine goes_ Try.func13 (by kernel_rfl) rfl #[.agg #[.int .i64 r2, .slice A2_ r3.length c2_], .agg #[.int .i64 r2, .slice A3_ r3.length c3_]] (by rfl) rfl rfl (by (try simp only [List.map_toArray, List.map_cons, List.map_nil]); first | done | rfl) ?_
  (refine (laws_eqTable.calls K4 r2 A2_ c2_ r3 r2 A3_ c3_ r3 true w9 (Kd.R_reads' X2.out).2.2 (Kd.R_reads' X2.out).2.1 (Kd.R_reads' X3.out).2.2 (Kd.R_reads' X3.out).2.1 H4.out).mono ?_)
  rintro e w10 ⟨rfl, hb⟩
  refine ⟨_, rfl, ?_⟩
  have Z10 : Aside0 (w9.heap.size ≤ w10.heap.size) := ⟨hb.size⟩
  have n0_ := Aside0.mk (Kd.R_below X1.out hb)
  have n1_ := Aside0.mk (Kd.R_below X2.out hb)
  have n2_ := Aside0.mk (Kd.R_below X3.out hb)
  have n3_ := Aside0.mk (blk_below BX1.out hb)
  have n4_ := Aside0.mk (blk_below BX2.out hb)
  have hb_ := Aside0.mk (below_then HB.out HB.out.size hb)
  clear X1 X2 X3 BX1 BX2
  have X1 := n0_
  have X2 := n1_
  have X3 := n2_
  have BX1 := n3_
  have BX2 := n4_
  clear n0_ n1_ n2_ n3_ n4_
  clear HB
  have HB := hb_
  clear hb_
  clear hb
  refine hK.out _ _ ⟨BX1.out, BX2.out⟩ (fun hHeld => ?_)
  clear hK K
  refine norm_ (a' := ?_) ?_ ?_
  rotate_left
  · show Act.put _ (some 25) _ = _
    simp only [Act.put, List.setIfInBounds_toArray, List.set_cons_zero, List.set_cons_succ, i64_w, i32_w]
    rfl
  refine pure_ (i := 4) (N := some 26) (v := ?_) (a' := ?_) #[true, true, true, true, true] rfl rfl (by kernel_rfl) (fun _ _ _ h => h) (Or.inl ⟨by rfl, ?_⟩) ?_ ?_
  rotate_left
  · intro w'
    go_simp
    with_reducible rfl
  rotate_left
  · simp only [Act.put, List.setIfInBounds_toArray, List.set_cons_zero, List.set_cons_succ, i64_w, i32_w]
    rfl
  refine done_ (by kernel_rfl) ?_
  go_wp2
  go_ret
  exact ⟨rfl, HB.out⟩

def q43 (x : S43) : Prop := (Lit.int .i64 x.f0).wf = true ∧ (Lit.int .i64 x.f1).wf = true ∧ (Lit.int .i64 x.f2).wf = true ∧ (Lit.int .i64 x.f3).wf = true ∧ (Lit.int .i64 x.f4).wf = true
def q115 (x : S115) : Prop := (Lit.int .i64 x.f0).wf = true ∧ (x.f1.length ≤ 9223372036854775807 ∧ ∀ y ∈ x.f1, (Lit.int .i64 y).wf = true)
def q125 (x : S125) : Prop := (Lit.int .i64 x.f0).wf = true ∧ (Lit.int .i64 x.f1).wf = true ∧ (Lit.int .i64 x.f2).wf = true ∧ q43 x.f3 ∧ q115 x.f4
def q24 (x : S24) : Prop := (Lit.int .i64 x.f0).wf = true ∧ (x.f1.length ≤ 9223372036854775807 ∧ ∀ y ∈ x.f1, (y.length ≤ 9223372036854775807 ∧ ∀ yy ∈ y, q125 yy))
/-- THE ONE PURE STATEMENT of laws_FnExactGoodTable. -/
def laws_FnExactGoodTable.Pure : Prop := ∀ (x0 : S24), q24 x0 → laws_FnExactGoodTable.Facts x0.f0 x0.f1

end Go.Proofs.Ytacpjifbgnlppaa.QFnExactGoodTable
