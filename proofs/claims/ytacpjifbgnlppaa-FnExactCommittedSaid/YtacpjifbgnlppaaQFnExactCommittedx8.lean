-- Written by a program of this session (wip/mk.py) over the kit's print: Lean checks it.
import Derived.Test.YtacpjifbgnlppaaQFnExactCommittedx0
import Derived.Test.YtacpjifbgnlppaaQFnExactCommittedx5
import Derived.Test.YtacpjifbgnlppaaQFnExactCommittedx7
namespace Go.Proofs.Ytacpjifbgnlppaa.QFnExactCommitted
open Go.RowKit Go.Proofs.YtacpjifbgnlppaaW.PrintWords Go.Proofs.YtacpjifbgnlppaaW.PrintLast Go.Proofs.YtacpjifbgnlppaaW.PrintMore
attribute [local go_sem] max2_int min2_int max_two min_two max_three min_three max_four min_four   -- for this text's walks alone
set_option linter.unusedVariables false
set_option linter.unusedSimpArgs false

/-! ### spec_GoodTable: function 10 -/
mutual
def spec_GoodTable.j0 : Nat → Bool → Int → List (List (S72)) → Option (Bool)
  | 0, _, _, _ => none
  | k + 1, x18, x225000, x225001 => if x18 = true then (some false) else (spec_GoodTable.l0 k x225001 (x225001.length : Int) 0 x225000 x225001)
def spec_GoodTable.l0 : Nat → List (List (S72)) → Int → Int → Int → List (List (S72)) → Option (Bool)
  | 0, _, _, _, _, _ => none
  | k + 1, x20, x21, x22, x225000, x225001 => if x22 < x21 then (if 0 ≤ x22 then (if x22 < (x20.length : Int) then (spec_GoodTable.l1 k (rd_L9 x20 x22) x20 x21 x22 (rd_L9 x20 x22) ((rd_L9 x20 x22).length : Int) 0 x225000 x225001) else (none)) else (none)) else (some true)
def spec_GoodTable.l1 : Nat → List (S72) → List (List (S72)) → Int → Int → List (S72) → Int → Int → Int → List (List (S72)) → Option (Bool)
  | 0, _, _, _, _, _, _, _, _, _ => none
  | k + 1, x4, x20, x21, x22, x26, x27, x28, x225000, x225001 => if x28 < x27 then (if 0 ≤ x28 then (if x28 < (x26.length : Int) then ((spec_l4Row.f k x225000 ((rd_T72 x26 x28).f0) ((rd_T72 x26 x28).f1) ((rd_T72 x26 x28).f2) ((rd_T72 x26 x28).f3.f0) ((rd_T72 x26 x28).f3.f1) ((rd_T72 x26 x28).f3.f2) ((rd_T72 x26 x28).f3.f3) ((rd_T72 x26 x28).f3.f4) ((rd_T72 x26 x28).f4.f0) ((rd_T72 x26 x28).f4.f1)).bind fun t229 => (if t229 = true then (spec_GoodTable.l1 k x4 x20 x21 x22 x26 x27 (wrap64 (x28 + 1)) x225000 x225001) else (some false))) else (none)) else (none)) else (if (x4.length : Int) > 6 then (some false) else (spec_GoodTable.l0 k x20 x21 (wrap64 (x22 + 1)) x225000 x225001))
end
def spec_GoodTable.f (k : Nat) (a0_0 : Int) (l0_1 : List (List (S72))) : Option (Bool) := (spec_IsGroup.f a0_0).bind fun t225 => (if t225 = true then (spec_GoodTable.j0 k ((l0_1.length : Int) != a0_0) a0_0 l0_1) else (spec_GoodTable.j0 k true a0_0 l0_1))
theorem spec_GoodTable.mono_l : ∀ k, (∀ y0 y1 y2, LeO (spec_GoodTable.j0 k y0 y1 y2) (spec_GoodTable.j0 (k + 1) y0 y1 y2)) ∧ (∀ y0 y1 y2 y3 y4, LeO (spec_GoodTable.l0 k y0 y1 y2 y3 y4) (spec_GoodTable.l0 (k + 1) y0 y1 y2 y3 y4)) ∧ (∀ y0 y1 y2 y3 y4 y5 y6 y7 y8, LeO (spec_GoodTable.l1 k y0 y1 y2 y3 y4 y5 y6 y7 y8) (spec_GoodTable.l1 (k + 1) y0 y1 y2 y3 y4 y5 y6 y7 y8))
  | 0 => ⟨fun _ _ _ r h => by simp [spec_GoodTable.j0] at h, fun _ _ _ _ _ r h => by simp [spec_GoodTable.l0] at h, fun _ _ _ _ _ _ _ _ _ r h => by simp [spec_GoodTable.l1] at h⟩
  | k + 1 => by
    obtain ⟨ih0, ih1, ih2⟩ := spec_GoodTable.mono_l k
    refine ⟨?_, ?_, ?_⟩
    · intro y0 y1 y2
      unfold spec_GoodTable.j0
      repeat' first
      | (with_reducible exact ih0 _ _ _)
      | (with_reducible exact ih1 _ _ _ _ _)
      | (with_reducible exact ih2 _ _ _ _ _ _ _ _ _)
      | (with_reducible exact spec_l4Row.mono _ _ _ _ _ _ _ _ _ _ _ _)
      | (with_reducible exact LeO.refl _)
      | (with_reducible exact LeO.none _)
      | (with_reducible refine LeO.ite ?_ ?_)
      | (with_reducible refine LeO.bind ?_ (fun _ => ?_))
      | exact ih0 _ _ _
      | exact ih1 _ _ _ _ _
      | exact ih2 _ _ _ _ _ _ _ _ _
      | exact spec_l4Row.mono _ _ _ _ _ _ _ _ _ _ _ _
      | exact LeO.none _
      | refine LeO.ite ?_ ?_
      | refine LeO.bind ?_ (fun _ => ?_)
    · intro y0 y1 y2 y3 y4
      unfold spec_GoodTable.l0
      repeat' first
      | (with_reducible exact ih0 _ _ _)
      | (with_reducible exact ih1 _ _ _ _ _)
      | (with_reducible exact ih2 _ _ _ _ _ _ _ _ _)
      | (with_reducible exact spec_l4Row.mono _ _ _ _ _ _ _ _ _ _ _ _)
      | (with_reducible exact LeO.refl _)
      | (with_reducible exact LeO.none _)
      | (with_reducible refine LeO.ite ?_ ?_)
      | (with_reducible refine LeO.bind ?_ (fun _ => ?_))
      | exact ih0 _ _ _
      | exact ih1 _ _ _ _ _
      | exact ih2 _ _ _ _ _ _ _ _ _
      | exact spec_l4Row.mono _ _ _ _ _ _ _ _ _ _ _ _
      | exact LeO.none _
      | refine LeO.ite ?_ ?_
      | refine LeO.bind ?_ (fun _ => ?_)
    · intro y0 y1 y2 y3 y4 y5 y6 y7 y8
      unfold spec_GoodTable.l1
      repeat' first
      | (with_reducible exact ih0 _ _ _)
      | (with_reducible exact ih1 _ _ _ _ _)
      | (with_reducible exact ih2 _ _ _ _ _ _ _ _ _)
      | (with_reducible exact spec_l4Row.mono _ _ _ _ _ _ _ _ _ _ _ _)
      | (with_reducible exact LeO.refl _)
      | (with_reducible exact LeO.none _)
      | (with_reducible refine LeO.ite ?_ ?_)
      | (with_reducible refine LeO.bind ?_ (fun _ => ?_))
      | exact ih0 _ _ _
      | exact ih1 _ _ _ _ _
      | exact ih2 _ _ _ _ _ _ _ _ _
      | exact spec_l4Row.mono _ _ _ _ _ _ _ _ _ _ _ _
      | exact LeO.none _
      | refine LeO.ite ?_ ?_
      | refine LeO.bind ?_ (fun _ => ?_)
theorem spec_GoodTable.mono : ∀ a0 a1 k, LeO (spec_GoodTable.f k a0 a1) (spec_GoodTable.f (k + 1) a0 a1) := by
  intro a0 a1 k
  obtain ⟨ih0, ih1, ih2⟩ := spec_GoodTable.mono_l k
  unfold spec_GoodTable.f
  repeat' first
      | (with_reducible exact ih0 _ _ _)
      | (with_reducible exact ih1 _ _ _ _ _)
      | (with_reducible exact ih2 _ _ _ _ _ _ _ _ _)
      | (with_reducible exact spec_l4Row.mono _ _ _ _ _ _ _ _ _ _ _ _)
      | (with_reducible exact LeO.refl _)
      | (with_reducible exact LeO.none _)
      | (with_reducible refine LeO.ite ?_ ?_)
      | (with_reducible refine LeO.bind ?_ (fun _ => ?_))
      | exact ih0 _ _ _
      | exact ih1 _ _ _ _ _
      | exact ih2 _ _ _ _ _ _ _ _ _
      | exact spec_l4Row.mono _ _ _ _ _ _ _ _ _ _ _ _
      | exact LeO.none _
      | refine LeO.ite ?_ ?_
      | refine LeO.bind ?_ (fun _ => ?_)
set_option maxHeartbeats 8000000 in
set_option maxRecDepth 100000 in
theorem spec_GoodTable.calls (k : Nat) (a0_0 : Int) (A0_1 : Option Addr) (c0_1 : Nat) (l0_1 : List (List (S72))) (r : Bool) (w : World) (hr0_1 : Kd.C (Kd.slice 72 k72) w A0_1 l0_1.length l0_1) (hc0_1 : l0_1.length ≤ c0_1) (h : spec_GoodTable.f k a0_0 l0_1 = some r) :
    Calls Try.prog 10 #[.agg #[.int .i64 a0_0, .slice A0_1 l0_1.length c0_1]] w fun e w' => e = .returned (.bool r) ∧ Below w.heap.size w w' := by
  have hu29 := Try.underlying29
  have hu72 := Try.underlying72
  have HR0_1 := Aside0.mk hr0_1
  have HC0_1 := Aside0.mk hc0_1
  clear hr0_1 hc0_1
  have HB := Aside0.mk (Below.refl w.heap.size w)
  have H : ((spec_IsGroup.f a0_0).bind fun t225 => (if t225 = true then (spec_GoodTable.j0 k ((l0_1.length : Int) != a0_0) a0_0 l0_1) else (spec_GoodTable.j0 k true a0_0 l0_1))) = some r := h
  clear h
  have HC2 := Aside0.mk H
  clear H
  go_enter Try.func10, Try.ntmps10
  go_upto_region 1 with (first | ((with_reducible refine gate_dst (N := 1) rfl ?_); (try (refine gate_guard (by rfl) ?_; dsimp only)); refine box_event ?hg (N := 1) ?hd (cs := #[.int .i64 a0_0, .slice A0_1 l0_1.length c0_1]) (t := 29) ?hr ?_; (case hd => rfl); (case hg => rfl); (case hr => first | (go_simp; done) | (go_simp; rfl)); intro gb224 hg w3 hbox hb; have n0_ := Aside0.mk (below_step (by repeat (first | (with_reducible first | exact HB.out | apply below_alloc | apply pw_below_drewN | apply below_drew1) | exact HB.out)) hb); have n1_ := Aside0.mk (hbox); have n2_ := Aside0.mk ((by rw [hg]; exact (below_size (by repeat (first | (with_reducible first | exact HB.out | apply below_alloc | apply pw_below_drewN | apply below_drew1) | exact HB.out))) : w.heap.size ≤ gb224)); have n3_ := Aside0.mk ((by rw [hg]; exact (below_size (by repeat (first | (with_reducible first | exact HB.out | apply below_alloc | apply pw_below_drewN | apply below_drew1) | exact HB.out))) : w.heap.size ≤ gb224)); clear HB; have HB := n0_; have BK224 := n1_; have GW224 := n2_; have GE224 := n3_; clear n0_ n1_ n2_ n3_; clear hb hbox hg))
  (try simp only [Act.put, List.setIfInBounds_toArray, List.set_cons_zero, List.set_cons_succ])
  go_cut [18] (fun v18 wc => ∃ (kq : Nat) (x18_1 : Bool), v18 = .bool x18_1 ∧ Aside0 (spec_GoodTable.j0 kq x18_1 a0_0 l0_1 = some r) ∧ Aside0 (kq ≤ k) ∧ Aside0 (wc.heap[gb224]? = some (.cells #[.int .i64 a0_0, (.slice A0_1 l0_1.length c0_1)] 29 (0, 0))) ∧ Aside0 (Below w.heap.size w wc))
  case first =>
    have H := HC2.out
    clear HC2
    replace H := Option.bind_eq_some_iff.mp H
    obtain ⟨t225, A40, H⟩ := H
    replace H : (if t225 = true then (spec_GoodTable.j0 k ((l0_1.length : Int) != a0_0) a0_0 l0_1) else (spec_GoodTable.j0 k true a0_0 l0_1)) = some r := H
    have A4 := Aside0.mk A40
    clear A40
    by_cases c5 : t225 = true
    · subst c5
      have H1 : (spec_GoodTable.j0 k ((l0_1.length : Int) != a0_0) a0_0 l0_1) = some r := by rw [if_pos rfl] at H; exact H
      clear H
      have H := H1
      clear H1
      have H' := Aside0.mk H
      clear H
      have hcz6_0 : w3.cell? ⟨gb224, 0, none⟩ = some (.int .i64 a0_0) := (blk_cell BK224.out 0).trans rfl
      have hcz6_1 : w3.cell? ⟨gb224, 1, none⟩ = some (.slice A0_1 l0_1.length c0_1) := (blk_cell BK224.out 1).trans rfl
      have hfz6_0 := blk_frozen BK224.out 0
      have hfz6_1 := blk_frozen BK224.out 1
      go_wp2_with (first | ((with_reducible refine gate_callee (f := 39) rfl ?_); refine goesL_ (some 9) rfl rfl Try.func39 (by kernel_rfl) rfl #[.int .i64 a0_0] rfl (by (try simp only [List.map_toArray, List.map_cons, List.map_nil]); first | done | rfl | (simp only [List.length_drop, List.length_take]; rfl)) ?_; (with_reducible refine (spec_IsGroup.calls a0_0 true _ A4.out).mono ?_); rintro e w' ⟨rfl, ⟨nd, rfl⟩⟩; refine ⟨_, rfl, ?_⟩))
      go_meet
      case rel => exact ⟨_, (((l0_1.length : Int) != a0_0)), (by first | rfl | (simp; done) | (simp [*]; done)), H', ⟨by first | omega | exact Nat.le_refl _⟩, ⟨by (with_reducible repeat (first | refine blk_drewN ?_ _ | refine blk_drew ?_ | refine blk_alloc ?_ _)); exact BK224.out⟩, ⟨by repeat (first | (with_reducible first | exact HB.out | apply below_alloc | apply pw_below_drewN | apply below_drew1 | refine below_set ?_ GE224.out) | exact HB.out)⟩⟩
    · replace c5 := Bool.eq_false_iff.mpr c5
      subst c5
      have H1 : (spec_GoodTable.j0 k true a0_0 l0_1) = some r := by rw [if_neg (show ¬ (false = true) by decide)] at H; exact H
      clear H
      have H := H1
      clear H1
      have H' := Aside0.mk H
      clear H
      have hcz7_0 : w3.cell? ⟨gb224, 0, none⟩ = some (.int .i64 a0_0) := (blk_cell BK224.out 0).trans rfl
      have hcz7_1 : w3.cell? ⟨gb224, 1, none⟩ = some (.slice A0_1 l0_1.length c0_1) := (blk_cell BK224.out 1).trans rfl
      have hfz7_0 := blk_frozen BK224.out 0
      have hfz7_1 := blk_frozen BK224.out 1
      go_wp2_with (first | ((with_reducible refine gate_callee (f := 39) rfl ?_); refine goesL_ (some 9) rfl rfl Try.func39 (by kernel_rfl) rfl #[.int .i64 a0_0] rfl (by (try simp only [List.map_toArray, List.map_cons, List.map_nil]); first | done | rfl | (simp only [List.length_drop, List.length_take]; rfl)) ?_; (with_reducible refine (spec_IsGroup.calls a0_0 false _ A4.out).mono ?_); rintro e w' ⟨rfl, ⟨nd, rfl⟩⟩; refine ⟨_, rfl, ?_⟩))
      go_meet
      case rel => exact ⟨_, (true), (by first | rfl | (simp; done) | (simp [*]; done)), H', ⟨by first | omega | exact Nat.le_refl _⟩, ⟨by (with_reducible repeat (first | refine blk_drewN ?_ _ | refine blk_drew ?_ | refine blk_alloc ?_ _)); exact BK224.out⟩, ⟨by repeat (first | (with_reducible first | exact HB.out | apply below_alloc | apply pw_below_drewN | apply below_drew1 | refine below_set ?_ GE224.out) | exact HB.out)⟩⟩
  case rest =>
    clear HC2
    try clear c1
    try clear p2
    try clear c3
    try clear c5
    try clear hcz6_0
    try clear hcz6_1
    try clear hcz7_0
    try clear hcz7_1
    try clear hfz6_0
    try clear hfz6_1
    try clear hfz7_0
    try clear hfz7_1
    obtain ⟨kq, x18_1, rfl, HA, HJ1, BK224, HB⟩ := hcut
    cases kq with
    | zero => exact absurd HA.out (by simp [spec_GoodTable.j0])
    | succ kj1 =>
      have H := HA.out
      clear HA
      simp only [spec_GoodTable.j0] at H
      by_cases c8 : x18_1 = true
      · subst c8
        have H1 : (some false) = some r := by rw [if_pos rfl] at H; exact H
        clear H
        have H := H1
        clear H1
        obtain rfl := Option.some.inj H
        go_wp2
        go_ret
        exact ⟨by first | rfl | (simp [errW_none, errW_some] <;> rfl) | (simp [*, errW_none, errW_some] <;> rfl), by repeat (first | (with_reducible first | exact HB.out | apply below_alloc | apply pw_below_drewN | apply below_drew1 | refine below_set ?_ GE224.out) | exact HB.out)⟩
      · replace c8 := Bool.eq_false_iff.mpr c8
        subst c8
        have H1 : (spec_GoodTable.l0 kj1 l0_1 (l0_1.length : Int) 0 a0_0 l0_1) = some r := by rw [if_neg (show ¬ (false = true) by decide)] at H; exact H
        clear H
        have H := H1
        clear H1
        have H' := Aside0.mk H
        clear H
        have hcz9_0 : wc.cell? ⟨gb224, 0, none⟩ = some (.int .i64 a0_0) := (blk_cell BK224.out 0).trans rfl
        have hcz9_1 : wc.cell? ⟨gb224, 1, none⟩ = some (.slice A0_1 l0_1.length c0_1) := (blk_cell BK224.out 1).trans rfl
        have hfz9_0 := blk_frozen BK224.out 0
        have hfz9_1 := blk_frozen BK224.out 1
        go_wp2
        go_loopg [22] kj1 (fun kq v22 w' => ∃ (x22_2 : Int), v22 = .int .i64 x22_2 ∧ Aside0 (spec_GoodTable.l0 kq l0_1 (l0_1.length : Int) x22_2 a0_0 l0_1 = some r) ∧ Aside0 (kq ≤ kj1) ∧ Aside0 (w'.heap[gb224]? = some (.cells #[.int .i64 a0_0, (.slice A0_1 l0_1.length c0_1)] 29 (0, 0))) ∧ Aside0 (Below w.heap.size w w'))
        case atStart => exact ⟨(0), (by first | rfl | (simp; done) | (simp [*]; done)), H', ⟨Nat.le_refl _⟩, ⟨by (with_reducible repeat (first | refine blk_drewN ?_ _ | refine blk_drew ?_ | refine blk_alloc ?_ _)); exact BK224.out⟩, ⟨by repeat (first | (with_reducible first | exact HB.out | apply below_alloc | apply pw_below_drewN | apply below_drew1 | refine below_set ?_ GE224.out) | exact HB.out)⟩⟩
        case round =>
          clear H'
          try clear c1
          try clear p2
          try clear c3
          try clear c5
          try clear c8
          try clear hcz6_0
          try clear hcz6_1
          try clear hcz7_0
          try clear hcz7_1
          try clear hcz9_0
          try clear hcz9_1
          try clear hfz6_0
          try clear hfz6_1
          try clear hfz7_0
          try clear hfz7_1
          try clear hfz9_0
          try clear hfz9_1
          try clear p2
          obtain ⟨x22_2, rfl, HA, HK2, BK224, HB⟩ := hrel
          cases gk with
          | zero => exact absurd HA.out (by simp [spec_GoodTable.l0])
          | succ k2 =>
            have H := HA.out
            clear HA
            simp only [spec_GoodTable.l0] at H
            by_cases c10 : x22_2 < (l0_1.length : Int)
            · rw [if_pos c10] at H
              have c10b0 : decide (x22_2 < (l0_1.length : Int)) = true := decide_eq_true c10
              clear c10
              by_cases c11 : 0 ≤ x22_2
              · rw [if_pos c11] at H
                have c11b0 : decide (0 ≤ x22_2) = true := decide_eq_true c11
                clear c11
                by_cases c12 : x22_2 < (l0_1.length : Int)
                · rw [if_pos c12] at H
                  have c12b0 : decide (x22_2 < (l0_1.length : Int)) = true := decide_eq_true c12
                  clear c12
                  have H' := Aside0.mk H
                  clear H
                  have p226 : 0 ≤ (x22_2 : Int) := of_decide_eq_true (by first | (with_reducible assumption) | assumption)
                  have q226 : x22_2 < (l0_1.length : Int) := of_decide_eq_true (by first | (with_reducible assumption) | assumption)
                  obtain ⟨ad226, A226_0, c226_0, e226, hx226_0, hl226_0, hi226_0⟩ := at_L9 HR0_1.out x22_2 p226 q226
                  cases e226
                  replace hx226_0 := (HB.out.cell (World.block_lt_of_cell? w _ hx226_0)).trans hx226_0
                  have HR226_0 := Aside0.mk hi226_0
                  have HC226_0 := Aside0.mk hl226_0
                  clear hi226_0 hl226_0
                  replace p226 := eq_true p226
                  replace q226 := eq_true q226
                  go_wp2
                  go_loopg [28] k2 (fun kq v28 w' => ∃ (x28_3 : Int), v28 = .int .i64 x28_3 ∧ Aside0 (spec_GoodTable.l1 kq (rd_L9 l0_1 x22_2) l0_1 (l0_1.length : Int) x22_2 (rd_L9 l0_1 x22_2) ((rd_L9 l0_1 x22_2).length : Int) x28_3 a0_0 l0_1 = some r) ∧ Aside0 (kq ≤ k2) ∧ Aside0 (w'.heap[gb224]? = some (.cells #[.int .i64 a0_0, (.slice (some ad226) l0_1.length c0_1)] 29 (0, 0))) ∧ Aside0 (Below w.heap.size w w'))
                  case atStart => exact ⟨(0), (by first | rfl | (simp; done) | (simp [*]; done)), H', ⟨Nat.le_refl _⟩, ⟨by (with_reducible repeat (first | refine blk_drewN ?_ _ | refine blk_drew ?_ | refine blk_alloc ?_ _)); exact BK224.out⟩, ⟨by repeat (first | (with_reducible first | exact HB.out | apply below_alloc | apply pw_below_drewN | apply below_drew1 | refine below_set ?_ GE224.out) | exact HB.out)⟩⟩
                  case round =>
                    clear H'
                    try clear c1
                    try clear c2
                    try clear p2
                    try clear q2
                    try clear hx2
                    try clear c3
                    try clear c5
                    try clear c8
                    try clear c10
                    try clear c10b0
                    try clear c11
                    try clear c11b0
                    try clear c12
                    try clear c12b0
                    try clear hcz6_0
                    try clear hcz6_1
                    try clear hcz7_0
                    try clear hcz7_1
                    try clear hcz9_0
                    try clear hcz9_1
                    try clear hfz6_0
                    try clear hfz6_1
                    try clear hfz7_0
                    try clear hfz7_1
                    try clear hfz9_0
                    try clear hfz9_1
                    try clear hx226_0
                    try clear p2
                    try clear p226
                    try clear q226
                    obtain ⟨x28_3, rfl, HA, HK3, BK224, HB⟩ := hrel
                    cases gk with
                    | zero => exact absurd HA.out (by simp [spec_GoodTable.l1])
                    | succ k3 =>
                      have H := HA.out
                      clear HA
                      simp only [spec_GoodTable.l1] at H
                      by_cases c13 : x28_3 < ((rd_L9 l0_1 x22_2).length : Int)
                      · rw [if_pos c13] at H
                        have c13b0 : decide (x28_3 < ((rd_L9 l0_1 x22_2).length : Int)) = true := decide_eq_true c13
                        clear c13
                        by_cases c14 : 0 ≤ x28_3
                        · rw [if_pos c14] at H
                          have c14b0 : decide (0 ≤ x28_3) = true := decide_eq_true c14
                          clear c14
                          by_cases c15 : x28_3 < ((rd_L9 l0_1 x22_2).length : Int)
                          · rw [if_pos c15] at H
                            have c15b0 : decide (x28_3 < ((rd_L9 l0_1 x22_2).length : Int)) = true := decide_eq_true c15
                            clear c15
                            replace H := Option.bind_eq_some_iff.mp H
                            obtain ⟨t229, A160, H⟩ := H
                            replace H : (if t229 = true then (spec_GoodTable.l1 k3 (rd_L9 l0_1 x22_2) l0_1 (l0_1.length : Int) x22_2 (rd_L9 l0_1 x22_2) ((rd_L9 l0_1 x22_2).length : Int) (wrap64 (x28_3 + 1)) a0_0 l0_1) else (some false)) = some r := H
                            have A16 := Aside0.mk A160
                            clear A160
                            by_cases c17 : t229 = true
                            · subst c17
                              have H1 : (spec_GoodTable.l1 k3 (rd_L9 l0_1 x22_2) l0_1 (l0_1.length : Int) x22_2 (rd_L9 l0_1 x22_2) ((rd_L9 l0_1 x22_2).length : Int) (wrap64 (x28_3 + 1)) a0_0 l0_1) = some r := by rw [if_pos rfl] at H; exact H
                              clear H
                              have H := H1
                              clear H1
                              have H' := Aside0.mk H
                              clear H
                              have p227 : 0 ≤ (x28_3 : Int) := of_decide_eq_true (by first | (with_reducible assumption) | assumption)
                              have q227 : x28_3 < ((rd_L9 l0_1 x22_2).length : Int) := of_decide_eq_true (by first | (with_reducible assumption) | assumption)
                              obtain ⟨ad227, A227_9, c227_9, e227, hx227_0, hx227_1, hx227_2, hx227_3, hx227_4, hx227_5, hx227_6, hx227_7, hx227_8, hx227_9, hl227_9, hi227_9⟩ := at_T72 HR226_0.out x28_3 p227 q227
                              cases e227
                              replace hx227_0 := (HB.out.cell (World.block_lt_of_cell? w _ hx227_0)).trans hx227_0
                              replace hx227_1 := (HB.out.cell (World.block_lt_of_cell? w _ hx227_1)).trans hx227_1
                              replace hx227_2 := (HB.out.cell (World.block_lt_of_cell? w _ hx227_2)).trans hx227_2
                              replace hx227_3 := (HB.out.cell (World.block_lt_of_cell? w _ hx227_3)).trans hx227_3
                              replace hx227_4 := (HB.out.cell (World.block_lt_of_cell? w _ hx227_4)).trans hx227_4
                              replace hx227_5 := (HB.out.cell (World.block_lt_of_cell? w _ hx227_5)).trans hx227_5
                              replace hx227_6 := (HB.out.cell (World.block_lt_of_cell? w _ hx227_6)).trans hx227_6
                              replace hx227_7 := (HB.out.cell (World.block_lt_of_cell? w _ hx227_7)).trans hx227_7
                              replace hx227_8 := (HB.out.cell (World.block_lt_of_cell? w _ hx227_8)).trans hx227_8
                              replace hx227_9 := (HB.out.cell (World.block_lt_of_cell? w _ hx227_9)).trans hx227_9
                              have HR227_9 := Aside0.mk hi227_9
                              have HC227_9 := Aside0.mk hl227_9
                              clear hi227_9 hl227_9
                              replace p227 := eq_true p227
                              replace q227 := eq_true q227
                              go_wp2_with (first | ((with_reducible refine gate_dst (N := 6) rfl ?_); (try (refine gate_guard (by rfl) ?_; dsimp only)); refine box_event ?hg (N := 6) ?hd (cs := #[.int .i64 0, .int .i64 0, .int .i64 0, .int .i64 0, .int .i64 0, .int .i64 0, .int .i64 0, .int .i64 0, .int .i64 0, .slice none 0 0]) (t := 72) ?hr ?_; (case hd => rfl); (case hg => rfl); (case hr => first | (go_simp; done) | (go_simp; rfl)); intro gb228 hg w18 hbox hb; have n0_ := Aside0.mk (blk_below (g := gb224) (o := .cells #[.int .i64 a0_0, .slice (some ad226) l0_1.length c0_1] 29 (0, 0)) (by (with_reducible repeat (first | refine blk_drewN ?_ _ | refine blk_drew ?_ | refine blk_alloc ?_ _)); exact BK224.out) hb); have n1_ := Aside0.mk (below_step (by repeat (first | (with_reducible first | exact HB.out | apply below_alloc | apply pw_below_drewN | apply below_drew1 | refine below_set ?_ GE224.out) | exact HB.out)) hb); have n2_ := Aside0.mk (hbox); have n3_ := Aside0.mk ((by rw [hg]; exact (below_size (by repeat (first | (with_reducible first | exact HB.out | apply below_alloc | apply pw_below_drewN | apply below_drew1 | refine below_set ?_ GE224.out) | exact HB.out))) : w.heap.size ≤ gb228)); have n4_ := Aside0.mk ((by rw [hg]; exact (below_size (by repeat (first | (with_reducible first | exact HB.out | apply below_alloc | apply pw_below_drewN | apply below_drew1 | refine below_set ?_ GE224.out) | exact HB.out))) : w.heap.size ≤ gb228)); have n5_ := Aside0.mk ((by rw [hg]; exact Nat.ne_of_lt (blk_lt (g := gb224) (o := .cells #[.int .i64 a0_0, .slice (some ad226) l0_1.length c0_1] 29 (0, 0)) (by (with_reducible repeat (first | refine blk_drewN ?_ _ | refine blk_drew ?_ | refine blk_alloc ?_ _)); exact BK224.out)) : gb224 ≠ gb228)); have n6_ := Aside0.mk ((by rw [hg]; exact Nat.ne_of_gt (blk_lt (g := gb224) (o := .cells #[.int .i64 a0_0, .slice (some ad226) l0_1.length c0_1] 29 (0, 0)) (by (with_reducible repeat (first | refine blk_drewN ?_ _ | refine blk_drew ?_ | refine blk_alloc ?_ _)); exact BK224.out)) : gb228 ≠ gb224)); clear BK224; clear HB; have BK224 := n0_; have HB := n1_; have BK228 := n2_; have GW228 := n3_; have GE228 := n4_; have NB224_228 := n5_; have NB228_224 := n6_; clear n0_ n1_ n2_ n3_ n4_ n5_ n6_; clear hb hbox hg; have hnb19 := NB228_224.out; have hnc19 := NB224_228.out; have hcz20_0 : w18.cell? ⟨gb228, 0, none⟩ = some (.int .i64 0) := (blk_cell BK228.out 0).trans rfl; have hcz20_1 : w18.cell? ⟨gb228, 1, none⟩ = some (.int .i64 0) := (blk_cell BK228.out 1).trans rfl; have hcz20_2 : w18.cell? ⟨gb228, 2, none⟩ = some (.int .i64 0) := (blk_cell BK228.out 2).trans rfl; have hcz20_3 : w18.cell? ⟨gb228, 3, none⟩ = some (.int .i64 0) := (blk_cell BK228.out 3).trans rfl; have hcz20_4 : w18.cell? ⟨gb228, 4, none⟩ = some (.int .i64 0) := (blk_cell BK228.out 4).trans rfl; have hcz20_5 : w18.cell? ⟨gb228, 5, none⟩ = some (.int .i64 0) := (blk_cell BK228.out 5).trans rfl; have hcz20_6 : w18.cell? ⟨gb228, 6, none⟩ = some (.int .i64 0) := (blk_cell BK228.out 6).trans rfl; have hcz20_7 : w18.cell? ⟨gb228, 7, none⟩ = some (.int .i64 0) := (blk_cell BK228.out 7).trans rfl; have hcz20_8 : w18.cell? ⟨gb228, 8, none⟩ = some (.int .i64 0) := (blk_cell BK228.out 8).trans rfl; have hcz20_9 : w18.cell? ⟨gb228, 9, none⟩ = some (.slice none 0 0) := (blk_cell BK228.out 9).trans rfl; have hfz20_0 := blk_frozen BK228.out 0; have hfz20_1 := blk_frozen BK228.out 1; have hfz20_2 := blk_frozen BK228.out 2; have hfz20_3 := blk_frozen BK228.out 3; have hfz20_4 := blk_frozen BK228.out 4; have hfz20_5 := blk_frozen BK228.out 5; have hfz20_6 := blk_frozen BK228.out 6; have hfz20_7 := blk_frozen BK228.out 7; have hfz20_8 := blk_frozen BK228.out 8; have hfz20_9 := blk_frozen BK228.out 9; have hcz21_0 : w18.cell? ⟨gb224, 0, none⟩ = some (.int .i64 a0_0) := (blk_cell BK224.out 0).trans rfl; have hcz21_1 : w18.cell? ⟨gb224, 1, none⟩ = some (.slice (some ad226) l0_1.length c0_1) := (blk_cell BK224.out 1).trans rfl; have hfz21_0 := blk_frozen BK224.out 0; have hfz21_1 := blk_frozen BK224.out 1) | ((with_reducible refine gate_callee (f := 40) rfl ?_); refine goesL_ (some 35) rfl rfl Try.func40 (by kernel_rfl) rfl #[.int .i64 a0_0, .agg #[.int .i64 ((rd_T72 (rd_L9 l0_1 x22_2) x28_3).f0), .int .i64 ((rd_T72 (rd_L9 l0_1 x22_2) x28_3).f1), .int .i64 ((rd_T72 (rd_L9 l0_1 x22_2) x28_3).f2), .int .i64 ((rd_T72 (rd_L9 l0_1 x22_2) x28_3).f3.f0), .int .i64 ((rd_T72 (rd_L9 l0_1 x22_2) x28_3).f3.f1), .int .i64 ((rd_T72 (rd_L9 l0_1 x22_2) x28_3).f3.f2), .int .i64 ((rd_T72 (rd_L9 l0_1 x22_2) x28_3).f3.f3), .int .i64 ((rd_T72 (rd_L9 l0_1 x22_2) x28_3).f3.f4), .int .i64 ((rd_T72 (rd_L9 l0_1 x22_2) x28_3).f4.f0), .slice A227_9 ((rd_T72 (rd_L9 l0_1 x22_2) x28_3).f4.f1).length c227_9]] rfl (by (try simp only [List.map_toArray, List.map_cons, List.map_nil]); first | done | rfl | (simp only [List.length_drop, List.length_take]; rfl)) ?_; (with_reducible refine (spec_l4Row.calls k3 a0_0 ((rd_T72 (rd_L9 l0_1 x22_2) x28_3).f0) ((rd_T72 (rd_L9 l0_1 x22_2) x28_3).f1) ((rd_T72 (rd_L9 l0_1 x22_2) x28_3).f2) ((rd_T72 (rd_L9 l0_1 x22_2) x28_3).f3.f0) ((rd_T72 (rd_L9 l0_1 x22_2) x28_3).f3.f1) ((rd_T72 (rd_L9 l0_1 x22_2) x28_3).f3.f2) ((rd_T72 (rd_L9 l0_1 x22_2) x28_3).f3.f3) ((rd_T72 (rd_L9 l0_1 x22_2) x28_3).f3.f4) ((rd_T72 (rd_L9 l0_1 x22_2) x28_3).f4.f0) _ _ ((rd_T72 (rd_L9 l0_1 x22_2) x28_3).f4.f1) true _ ?side1 ?side2 A16.out).mono ?_); (case side1 => exact Kd.C_below HR227_9.out (by repeat (first | (with_reducible first | exact HB.out | apply below_alloc | apply pw_below_drewN | apply below_drew1 | refine below_set ?_ GE224.out | refine below_set ?_ GE228.out) | exact HB.out))); (case side2 => exact HC227_9.out); rintro e w22 ⟨rfl, hb⟩; refine ⟨_, rfl, ?_⟩; have n0_ := Aside0.mk (blk_below (g := gb224) (o := .cells #[.int .i64 a0_0, .slice (some ad226) l0_1.length c0_1] 29 (0, 0)) (by (with_reducible repeat (first | refine blk_drewN ?_ _ | refine blk_drew ?_ | refine blk_alloc ?_ _)); refine blk_far ?_ NB224_228.out _; (with_reducible repeat (first | refine blk_drewN ?_ _ | refine blk_drew ?_ | refine blk_alloc ?_ _)); refine blk_far ?_ NB224_228.out _; (with_reducible repeat (first | refine blk_drewN ?_ _ | refine blk_drew ?_ | refine blk_alloc ?_ _)); refine blk_far ?_ NB224_228.out _; (with_reducible repeat (first | refine blk_drewN ?_ _ | refine blk_drew ?_ | refine blk_alloc ?_ _)); refine blk_far ?_ NB224_228.out _; (with_reducible repeat (first | refine blk_drewN ?_ _ | refine blk_drew ?_ | refine blk_alloc ?_ _)); refine blk_far ?_ NB224_228.out _; (with_reducible repeat (first | refine blk_drewN ?_ _ | refine blk_drew ?_ | refine blk_alloc ?_ _)); refine blk_far ?_ NB224_228.out _; (with_reducible repeat (first | refine blk_drewN ?_ _ | refine blk_drew ?_ | refine blk_alloc ?_ _)); refine blk_far ?_ NB224_228.out _; (with_reducible repeat (first | refine blk_drewN ?_ _ | refine blk_drew ?_ | refine blk_alloc ?_ _)); refine blk_far ?_ NB224_228.out _; (with_reducible repeat (first | refine blk_drewN ?_ _ | refine blk_drew ?_ | refine blk_alloc ?_ _)); refine blk_far ?_ NB224_228.out _; (with_reducible repeat (first | refine blk_drewN ?_ _ | refine blk_drew ?_ | refine blk_alloc ?_ _)); refine blk_far ?_ NB224_228.out _; (with_reducible repeat (first | refine blk_drewN ?_ _ | refine blk_drew ?_ | refine blk_alloc ?_ _)); exact BK224.out) hb); have n1_ := Aside0.mk (blk_below (g := gb228) (o := .cells #[.int .i64 ((rd_T72 (rd_L9 l0_1 x22_2) x28_3).f0), .int .i64 ((rd_T72 (rd_L9 l0_1 x22_2) x28_3).f1), .int .i64 ((rd_T72 (rd_L9 l0_1 x22_2) x28_3).f2), .int .i64 ((rd_T72 (rd_L9 l0_1 x22_2) x28_3).f3.f0), .int .i64 ((rd_T72 (rd_L9 l0_1 x22_2) x28_3).f3.f1), .int .i64 ((rd_T72 (rd_L9 l0_1 x22_2) x28_3).f3.f2), .int .i64 ((rd_T72 (rd_L9 l0_1 x22_2) x28_3).f3.f3), .int .i64 ((rd_T72 (rd_L9 l0_1 x22_2) x28_3).f3.f4), .int .i64 ((rd_T72 (rd_L9 l0_1 x22_2) x28_3).f4.f0), .slice A227_9 ((rd_T72 (rd_L9 l0_1 x22_2) x28_3).f4.f1).length c227_9] 72 (0, 0)) (by (with_reducible repeat (first | refine blk_drewN ?_ _ | refine blk_drew ?_ | refine blk_alloc ?_ _)); refine blk_put (cs := #[.int .i64 ((rd_T72 (rd_L9 l0_1 x22_2) x28_3).f0), .int .i64 ((rd_T72 (rd_L9 l0_1 x22_2) x28_3).f1), .int .i64 ((rd_T72 (rd_L9 l0_1 x22_2) x28_3).f2), .int .i64 ((rd_T72 (rd_L9 l0_1 x22_2) x28_3).f3.f0), .int .i64 ((rd_T72 (rd_L9 l0_1 x22_2) x28_3).f3.f1), .int .i64 ((rd_T72 (rd_L9 l0_1 x22_2) x28_3).f3.f2), .int .i64 ((rd_T72 (rd_L9 l0_1 x22_2) x28_3).f3.f3), .int .i64 ((rd_T72 (rd_L9 l0_1 x22_2) x28_3).f3.f4), .int .i64 ((rd_T72 (rd_L9 l0_1 x22_2) x28_3).f4.f0), .slice none 0 0]) ?_ 9 _ rfl; (with_reducible repeat (first | refine blk_drewN ?_ _ | refine blk_drew ?_ | refine blk_alloc ?_ _)); refine blk_put (cs := #[.int .i64 ((rd_T72 (rd_L9 l0_1 x22_2) x28_3).f0), .int .i64 ((rd_T72 (rd_L9 l0_1 x22_2) x28_3).f1), .int .i64 ((rd_T72 (rd_L9 l0_1 x22_2) x28_3).f2), .int .i64 ((rd_T72 (rd_L9 l0_1 x22_2) x28_3).f3.f0), .int .i64 ((rd_T72 (rd_L9 l0_1 x22_2) x28_3).f3.f1), .int .i64 ((rd_T72 (rd_L9 l0_1 x22_2) x28_3).f3.f2), .int .i64 ((rd_T72 (rd_L9 l0_1 x22_2) x28_3).f3.f3), .int .i64 ((rd_T72 (rd_L9 l0_1 x22_2) x28_3).f3.f4), .int .i64 0, .slice none 0 0]) ?_ 8 _ rfl; (with_reducible repeat (first | refine blk_drewN ?_ _ | refine blk_drew ?_ | refine blk_alloc ?_ _)); refine blk_put (cs := #[.int .i64 ((rd_T72 (rd_L9 l0_1 x22_2) x28_3).f0), .int .i64 ((rd_T72 (rd_L9 l0_1 x22_2) x28_3).f1), .int .i64 ((rd_T72 (rd_L9 l0_1 x22_2) x28_3).f2), .int .i64 ((rd_T72 (rd_L9 l0_1 x22_2) x28_3).f3.f0), .int .i64 ((rd_T72 (rd_L9 l0_1 x22_2) x28_3).f3.f1), .int .i64 ((rd_T72 (rd_L9 l0_1 x22_2) x28_3).f3.f2), .int .i64 ((rd_T72 (rd_L9 l0_1 x22_2) x28_3).f3.f3), .int .i64 0, .int .i64 0, .slice none 0 0]) ?_ 7 _ rfl; (with_reducible repeat (first | refine blk_drewN ?_ _ | refine blk_drew ?_ | refine blk_alloc ?_ _)); refine blk_put (cs := #[.int .i64 ((rd_T72 (rd_L9 l0_1 x22_2) x28_3).f0), .int .i64 ((rd_T72 (rd_L9 l0_1 x22_2) x28_3).f1), .int .i64 ((rd_T72 (rd_L9 l0_1 x22_2) x28_3).f2), .int .i64 ((rd_T72 (rd_L9 l0_1 x22_2) x28_3).f3.f0), .int .i64 ((rd_T72 (rd_L9 l0_1 x22_2) x28_3).f3.f1), .int .i64 ((rd_T72 (rd_L9 l0_1 x22_2) x28_3).f3.f2), .int .i64 0, .int .i64 0, .int .i64 0, .slice none 0 0]) ?_ 6 _ rfl; (with_reducible repeat (first | refine blk_drewN ?_ _ | refine blk_drew ?_ | refine blk_alloc ?_ _)); refine blk_put (cs := #[.int .i64 ((rd_T72 (rd_L9 l0_1 x22_2) x28_3).f0), .int .i64 ((rd_T72 (rd_L9 l0_1 x22_2) x28_3).f1), .int .i64 ((rd_T72 (rd_L9 l0_1 x22_2) x28_3).f2), .int .i64 ((rd_T72 (rd_L9 l0_1 x22_2) x28_3).f3.f0), .int .i64 ((rd_T72 (rd_L9 l0_1 x22_2) x28_3).f3.f1), .int .i64 0, .int .i64 0, .int .i64 0, .int .i64 0, .slice none 0 0]) ?_ 5 _ rfl; (with_reducible repeat (first | refine blk_drewN ?_ _ | refine blk_drew ?_ | refine blk_alloc ?_ _)); refine blk_put (cs := #[.int .i64 ((rd_T72 (rd_L9 l0_1 x22_2) x28_3).f0), .int .i64 ((rd_T72 (rd_L9 l0_1 x22_2) x28_3).f1), .int .i64 ((rd_T72 (rd_L9 l0_1 x22_2) x28_3).f2), .int .i64 ((rd_T72 (rd_L9 l0_1 x22_2) x28_3).f3.f0), .int .i64 0, .int .i64 0, .int .i64 0, .int .i64 0, .int .i64 0, .slice none 0 0]) ?_ 4 _ rfl; (with_reducible repeat (first | refine blk_drewN ?_ _ | refine blk_drew ?_ | refine blk_alloc ?_ _)); refine blk_put (cs := #[.int .i64 ((rd_T72 (rd_L9 l0_1 x22_2) x28_3).f0), .int .i64 ((rd_T72 (rd_L9 l0_1 x22_2) x28_3).f1), .int .i64 ((rd_T72 (rd_L9 l0_1 x22_2) x28_3).f2), .int .i64 0, .int .i64 0, .int .i64 0, .int .i64 0, .int .i64 0, .int .i64 0, .slice none 0 0]) ?_ 3 _ rfl; (with_reducible repeat (first | refine blk_drewN ?_ _ | refine blk_drew ?_ | refine blk_alloc ?_ _)); refine blk_put (cs := #[.int .i64 ((rd_T72 (rd_L9 l0_1 x22_2) x28_3).f0), .int .i64 ((rd_T72 (rd_L9 l0_1 x22_2) x28_3).f1), .int .i64 0, .int .i64 0, .int .i64 0, .int .i64 0, .int .i64 0, .int .i64 0, .int .i64 0, .slice none 0 0]) ?_ 2 _ rfl; (with_reducible repeat (first | refine blk_drewN ?_ _ | refine blk_drew ?_ | refine blk_alloc ?_ _)); refine blk_put (cs := #[.int .i64 ((rd_T72 (rd_L9 l0_1 x22_2) x28_3).f0), .int .i64 0, .int .i64 0, .int .i64 0, .int .i64 0, .int .i64 0, .int .i64 0, .int .i64 0, .int .i64 0, .slice none 0 0]) ?_ 1 _ rfl; (with_reducible repeat (first | refine blk_drewN ?_ _ | refine blk_drew ?_ | refine blk_alloc ?_ _)); refine blk_put (cs := #[.int .i64 0, .int .i64 0, .int .i64 0, .int .i64 0, .int .i64 0, .int .i64 0, .int .i64 0, .int .i64 0, .int .i64 0, .slice none 0 0]) ?_ 0 _ rfl; (with_reducible repeat (first | refine blk_drewN ?_ _ | refine blk_drew ?_ | refine blk_alloc ?_ _)); exact BK228.out) hb); have n2_ := Aside0.mk (below_step (by repeat (first | (with_reducible first | exact HB.out | apply below_alloc | apply pw_below_drewN | apply below_drew1 | refine below_set ?_ GE224.out | refine below_set ?_ GE228.out) | exact HB.out)) hb); clear BK224; clear BK228; clear HB; have BK224 := n0_; have BK228 := n1_; have HB := n2_; clear n0_ n1_ n2_; (try clear hb); (try clear hb2); (try clear hk); (try clear hi)))
                              go_roundg k3
                              case measure => have := HJ1.out; have := HK2.out; have := HK3.out; omega
                              case rel => exact ⟨(wrap64 (x28_3 + 1)), (by first | rfl | (simp; done) | (simp [*]; done)), H', ⟨by have := HJ1.out; have := HK2.out; have := HK3.out; omega⟩, ⟨by (with_reducible repeat (first | refine blk_drewN ?_ _ | refine blk_drew ?_ | refine blk_alloc ?_ _)); exact BK224.out⟩, ⟨by repeat (first | (with_reducible first | exact HB.out | apply below_alloc | apply pw_below_drewN | apply below_drew1 | refine below_set ?_ GE224.out | refine below_set ?_ GE228.out) | exact HB.out)⟩⟩
                            · replace c17 := Bool.eq_false_iff.mpr c17
                              subst c17
                              have H1 : (some false) = some r := by rw [if_neg (show ¬ (false = true) by decide)] at H; exact H
                              clear H
                              have H := H1
                              clear H1
                              obtain rfl := Option.some.inj H
                              have p227 : 0 ≤ (x28_3 : Int) := of_decide_eq_true (by first | (with_reducible assumption) | assumption)
                              have q227 : x28_3 < ((rd_L9 l0_1 x22_2).length : Int) := of_decide_eq_true (by first | (with_reducible assumption) | assumption)
                              obtain ⟨ad227, A227_9, c227_9, e227, hx227_0, hx227_1, hx227_2, hx227_3, hx227_4, hx227_5, hx227_6, hx227_7, hx227_8, hx227_9, hl227_9, hi227_9⟩ := at_T72 HR226_0.out x28_3 p227 q227
                              cases e227
                              replace hx227_0 := (HB.out.cell (World.block_lt_of_cell? w _ hx227_0)).trans hx227_0
                              replace hx227_1 := (HB.out.cell (World.block_lt_of_cell? w _ hx227_1)).trans hx227_1
                              replace hx227_2 := (HB.out.cell (World.block_lt_of_cell? w _ hx227_2)).trans hx227_2
                              replace hx227_3 := (HB.out.cell (World.block_lt_of_cell? w _ hx227_3)).trans hx227_3
                              replace hx227_4 := (HB.out.cell (World.block_lt_of_cell? w _ hx227_4)).trans hx227_4
                              replace hx227_5 := (HB.out.cell (World.block_lt_of_cell? w _ hx227_5)).trans hx227_5
                              replace hx227_6 := (HB.out.cell (World.block_lt_of_cell? w _ hx227_6)).trans hx227_6
                              replace hx227_7 := (HB.out.cell (World.block_lt_of_cell? w _ hx227_7)).trans hx227_7
                              replace hx227_8 := (HB.out.cell (World.block_lt_of_cell? w _ hx227_8)).trans hx227_8
                              replace hx227_9 := (HB.out.cell (World.block_lt_of_cell? w _ hx227_9)).trans hx227_9
                              have HR227_9 := Aside0.mk hi227_9
                              have HC227_9 := Aside0.mk hl227_9
                              clear hi227_9 hl227_9
                              replace p227 := eq_true p227
                              replace q227 := eq_true q227
                              go_wp2_with (first | ((with_reducible refine gate_dst (N := 6) rfl ?_); (try (refine gate_guard (by rfl) ?_; dsimp only)); refine box_event ?hg (N := 6) ?hd (cs := #[.int .i64 0, .int .i64 0, .int .i64 0, .int .i64 0, .int .i64 0, .int .i64 0, .int .i64 0, .int .i64 0, .int .i64 0, .slice none 0 0]) (t := 72) ?hr ?_; (case hd => rfl); (case hg => rfl); (case hr => first | (go_simp; done) | (go_simp; rfl)); intro gb228 hg w23 hbox hb; have n0_ := Aside0.mk (blk_below (g := gb224) (o := .cells #[.int .i64 a0_0, .slice (some ad226) l0_1.length c0_1] 29 (0, 0)) (by (with_reducible repeat (first | refine blk_drewN ?_ _ | refine blk_drew ?_ | refine blk_alloc ?_ _)); exact BK224.out) hb); have n1_ := Aside0.mk (below_step (by repeat (first | (with_reducible first | exact HB.out | apply below_alloc | apply pw_below_drewN | apply below_drew1 | refine below_set ?_ GE224.out) | exact HB.out)) hb); have n2_ := Aside0.mk (hbox); have n3_ := Aside0.mk ((by rw [hg]; exact (below_size (by repeat (first | (with_reducible first | exact HB.out | apply below_alloc | apply pw_below_drewN | apply below_drew1 | refine below_set ?_ GE224.out) | exact HB.out))) : w.heap.size ≤ gb228)); have n4_ := Aside0.mk ((by rw [hg]; exact (below_size (by repeat (first | (with_reducible first | exact HB.out | apply below_alloc | apply pw_below_drewN | apply below_drew1 | refine below_set ?_ GE224.out) | exact HB.out))) : w.heap.size ≤ gb228)); have n5_ := Aside0.mk ((by rw [hg]; exact Nat.ne_of_lt (blk_lt (g := gb224) (o := .cells #[.int .i64 a0_0, .slice (some ad226) l0_1.length c0_1] 29 (0, 0)) (by (with_reducible repeat (first | refine blk_drewN ?_ _ | refine blk_drew ?_ | refine blk_alloc ?_ _)); exact BK224.out)) : gb224 ≠ gb228)); have n6_ := Aside0.mk ((by rw [hg]; exact Nat.ne_of_gt (blk_lt (g := gb224) (o := .cells #[.int .i64 a0_0, .slice (some ad226) l0_1.length c0_1] 29 (0, 0)) (by (with_reducible repeat (first | refine blk_drewN ?_ _ | refine blk_drew ?_ | refine blk_alloc ?_ _)); exact BK224.out)) : gb228 ≠ gb224)); clear BK224; clear HB; have BK224 := n0_; have HB := n1_; have BK228 := n2_; have GW228 := n3_; have GE228 := n4_; have NB224_228 := n5_; have NB228_224 := n6_; clear n0_ n1_ n2_ n3_ n4_ n5_ n6_; clear hb hbox hg; have hnb24 := NB228_224.out; have hnc24 := NB224_228.out; have hcz25_0 : w23.cell? ⟨gb228, 0, none⟩ = some (.int .i64 0) := (blk_cell BK228.out 0).trans rfl; have hcz25_1 : w23.cell? ⟨gb228, 1, none⟩ = some (.int .i64 0) := (blk_cell BK228.out 1).trans rfl; have hcz25_2 : w23.cell? ⟨gb228, 2, none⟩ = some (.int .i64 0) := (blk_cell BK228.out 2).trans rfl; have hcz25_3 : w23.cell? ⟨gb228, 3, none⟩ = some (.int .i64 0) := (blk_cell BK228.out 3).trans rfl; have hcz25_4 : w23.cell? ⟨gb228, 4, none⟩ = some (.int .i64 0) := (blk_cell BK228.out 4).trans rfl; have hcz25_5 : w23.cell? ⟨gb228, 5, none⟩ = some (.int .i64 0) := (blk_cell BK228.out 5).trans rfl; have hcz25_6 : w23.cell? ⟨gb228, 6, none⟩ = some (.int .i64 0) := (blk_cell BK228.out 6).trans rfl; have hcz25_7 : w23.cell? ⟨gb228, 7, none⟩ = some (.int .i64 0) := (blk_cell BK228.out 7).trans rfl; have hcz25_8 : w23.cell? ⟨gb228, 8, none⟩ = some (.int .i64 0) := (blk_cell BK228.out 8).trans rfl; have hcz25_9 : w23.cell? ⟨gb228, 9, none⟩ = some (.slice none 0 0) := (blk_cell BK228.out 9).trans rfl; have hfz25_0 := blk_frozen BK228.out 0; have hfz25_1 := blk_frozen BK228.out 1; have hfz25_2 := blk_frozen BK228.out 2; have hfz25_3 := blk_frozen BK228.out 3; have hfz25_4 := blk_frozen BK228.out 4; have hfz25_5 := blk_frozen BK228.out 5; have hfz25_6 := blk_frozen BK228.out 6; have hfz25_7 := blk_frozen BK228.out 7; have hfz25_8 := blk_frozen BK228.out 8; have hfz25_9 := blk_frozen BK228.out 9; have hcz26_0 : w23.cell? ⟨gb224, 0, none⟩ = some (.int .i64 a0_0) := (blk_cell BK224.out 0).trans rfl; have hcz26_1 : w23.cell? ⟨gb224, 1, none⟩ = some (.slice (some ad226) l0_1.length c0_1) := (blk_cell BK224.out 1).trans rfl; have hfz26_0 := blk_frozen BK224.out 0; have hfz26_1 := blk_frozen BK224.out 1) | ((with_reducible refine gate_callee (f := 40) rfl ?_); refine goesL_ (some 35) rfl rfl Try.func40 (by kernel_rfl) rfl #[.int .i64 a0_0, .agg #[.int .i64 ((rd_T72 (rd_L9 l0_1 x22_2) x28_3).f0), .int .i64 ((rd_T72 (rd_L9 l0_1 x22_2) x28_3).f1), .int .i64 ((rd_T72 (rd_L9 l0_1 x22_2) x28_3).f2), .int .i64 ((rd_T72 (rd_L9 l0_1 x22_2) x28_3).f3.f0), .int .i64 ((rd_T72 (rd_L9 l0_1 x22_2) x28_3).f3.f1), .int .i64 ((rd_T72 (rd_L9 l0_1 x22_2) x28_3).f3.f2), .int .i64 ((rd_T72 (rd_L9 l0_1 x22_2) x28_3).f3.f3), .int .i64 ((rd_T72 (rd_L9 l0_1 x22_2) x28_3).f3.f4), .int .i64 ((rd_T72 (rd_L9 l0_1 x22_2) x28_3).f4.f0), .slice A227_9 ((rd_T72 (rd_L9 l0_1 x22_2) x28_3).f4.f1).length c227_9]] rfl (by (try simp only [List.map_toArray, List.map_cons, List.map_nil]); first | done | rfl | (simp only [List.length_drop, List.length_take]; rfl)) ?_; (with_reducible refine (spec_l4Row.calls k3 a0_0 ((rd_T72 (rd_L9 l0_1 x22_2) x28_3).f0) ((rd_T72 (rd_L9 l0_1 x22_2) x28_3).f1) ((rd_T72 (rd_L9 l0_1 x22_2) x28_3).f2) ((rd_T72 (rd_L9 l0_1 x22_2) x28_3).f3.f0) ((rd_T72 (rd_L9 l0_1 x22_2) x28_3).f3.f1) ((rd_T72 (rd_L9 l0_1 x22_2) x28_3).f3.f2) ((rd_T72 (rd_L9 l0_1 x22_2) x28_3).f3.f3) ((rd_T72 (rd_L9 l0_1 x22_2) x28_3).f3.f4) ((rd_T72 (rd_L9 l0_1 x22_2) x28_3).f4.f0) _ _ ((rd_T72 (rd_L9 l0_1 x22_2) x28_3).f4.f1) false _ ?side1 ?side2 A16.out).mono ?_); (case side1 => exact Kd.C_below HR227_9.out (by repeat (first | (with_reducible first | exact HB.out | apply below_alloc | apply pw_below_drewN | apply below_drew1 | refine below_set ?_ GE224.out | refine below_set ?_ GE228.out) | exact HB.out))); (case side2 => exact HC227_9.out); rintro e w27 ⟨rfl, hb⟩; refine ⟨_, rfl, ?_⟩; have n0_ := Aside0.mk (blk_below (g := gb224) (o := .cells #[.int .i64 a0_0, .slice (some ad226) l0_1.length c0_1] 29 (0, 0)) (by (with_reducible repeat (first | refine blk_drewN ?_ _ | refine blk_drew ?_ | refine blk_alloc ?_ _)); refine blk_far ?_ NB224_228.out _; (with_reducible repeat (first | refine blk_drewN ?_ _ | refine blk_drew ?_ | refine blk_alloc ?_ _)); refine blk_far ?_ NB224_228.out _; (with_reducible repeat (first | refine blk_drewN ?_ _ | refine blk_drew ?_ | refine blk_alloc ?_ _)); refine blk_far ?_ NB224_228.out _; (with_reducible repeat (first | refine blk_drewN ?_ _ | refine blk_drew ?_ | refine blk_alloc ?_ _)); refine blk_far ?_ NB224_228.out _; (with_reducible repeat (first | refine blk_drewN ?_ _ | refine blk_drew ?_ | refine blk_alloc ?_ _)); refine blk_far ?_ NB224_228.out _; (with_reducible repeat (first | refine blk_drewN ?_ _ | refine blk_drew ?_ | refine blk_alloc ?_ _)); refine blk_far ?_ NB224_228.out _; (with_reducible repeat (first | refine blk_drewN ?_ _ | refine blk_drew ?_ | refine blk_alloc ?_ _)); refine blk_far ?_ NB224_228.out _; (with_reducible repeat (first | refine blk_drewN ?_ _ | refine blk_drew ?_ | refine blk_alloc ?_ _)); refine blk_far ?_ NB224_228.out _; (with_reducible repeat (first | refine blk_drewN ?_ _ | refine blk_drew ?_ | refine blk_alloc ?_ _)); refine blk_far ?_ NB224_228.out _; (with_reducible repeat (first | refine blk_drewN ?_ _ | refine blk_drew ?_ | refine blk_alloc ?_ _)); refine blk_far ?_ NB224_228.out _; (with_reducible repeat (first | refine blk_drewN ?_ _ | refine blk_drew ?_ | refine blk_alloc ?_ _)); exact BK224.out) hb); have n1_ := Aside0.mk (blk_below (g := gb228) (o := .cells #[.int .i64 ((rd_T72 (rd_L9 l0_1 x22_2) x28_3).f0), .int .i64 ((rd_T72 (rd_L9 l0_1 x22_2) x28_3).f1), .int .i64 ((rd_T72 (rd_L9 l0_1 x22_2) x28_3).f2), .int .i64 ((rd_T72 (rd_L9 l0_1 x22_2) x28_3).f3.f0), .int .i64 ((rd_T72 (rd_L9 l0_1 x22_2) x28_3).f3.f1), .int .i64 ((rd_T72 (rd_L9 l0_1 x22_2) x28_3).f3.f2), .int .i64 ((rd_T72 (rd_L9 l0_1 x22_2) x28_3).f3.f3), .int .i64 ((rd_T72 (rd_L9 l0_1 x22_2) x28_3).f3.f4), .int .i64 ((rd_T72 (rd_L9 l0_1 x22_2) x28_3).f4.f0), .slice A227_9 ((rd_T72 (rd_L9 l0_1 x22_2) x28_3).f4.f1).length c227_9] 72 (0, 0)) (by (with_reducible repeat (first | refine blk_drewN ?_ _ | refine blk_drew ?_ | refine blk_alloc ?_ _)); refine blk_put (cs := #[.int .i64 ((rd_T72 (rd_L9 l0_1 x22_2) x28_3).f0), .int .i64 ((rd_T72 (rd_L9 l0_1 x22_2) x28_3).f1), .int .i64 ((rd_T72 (rd_L9 l0_1 x22_2) x28_3).f2), .int .i64 ((rd_T72 (rd_L9 l0_1 x22_2) x28_3).f3.f0), .int .i64 ((rd_T72 (rd_L9 l0_1 x22_2) x28_3).f3.f1), .int .i64 ((rd_T72 (rd_L9 l0_1 x22_2) x28_3).f3.f2), .int .i64 ((rd_T72 (rd_L9 l0_1 x22_2) x28_3).f3.f3), .int .i64 ((rd_T72 (rd_L9 l0_1 x22_2) x28_3).f3.f4), .int .i64 ((rd_T72 (rd_L9 l0_1 x22_2) x28_3).f4.f0), .slice none 0 0]) ?_ 9 _ rfl; (with_reducible repeat (first | refine blk_drewN ?_ _ | refine blk_drew ?_ | refine blk_alloc ?_ _)); refine blk_put (cs := #[.int .i64 ((rd_T72 (rd_L9 l0_1 x22_2) x28_3).f0), .int .i64 ((rd_T72 (rd_L9 l0_1 x22_2) x28_3).f1), .int .i64 ((rd_T72 (rd_L9 l0_1 x22_2) x28_3).f2), .int .i64 ((rd_T72 (rd_L9 l0_1 x22_2) x28_3).f3.f0), .int .i64 ((rd_T72 (rd_L9 l0_1 x22_2) x28_3).f3.f1), .int .i64 ((rd_T72 (rd_L9 l0_1 x22_2) x28_3).f3.f2), .int .i64 ((rd_T72 (rd_L9 l0_1 x22_2) x28_3).f3.f3), .int .i64 ((rd_T72 (rd_L9 l0_1 x22_2) x28_3).f3.f4), .int .i64 0, .slice none 0 0]) ?_ 8 _ rfl; (with_reducible repeat (first | refine blk_drewN ?_ _ | refine blk_drew ?_ | refine blk_alloc ?_ _)); refine blk_put (cs := #[.int .i64 ((rd_T72 (rd_L9 l0_1 x22_2) x28_3).f0), .int .i64 ((rd_T72 (rd_L9 l0_1 x22_2) x28_3).f1), .int .i64 ((rd_T72 (rd_L9 l0_1 x22_2) x28_3).f2), .int .i64 ((rd_T72 (rd_L9 l0_1 x22_2) x28_3).f3.f0), .int .i64 ((rd_T72 (rd_L9 l0_1 x22_2) x28_3).f3.f1), .int .i64 ((rd_T72 (rd_L9 l0_1 x22_2) x28_3).f3.f2), .int .i64 ((rd_T72 (rd_L9 l0_1 x22_2) x28_3).f3.f3), .int .i64 0, .int .i64 0, .slice none 0 0]) ?_ 7 _ rfl; (with_reducible repeat (first | refine blk_drewN ?_ _ | refine blk_drew ?_ | refine blk_alloc ?_ _)); refine blk_put (cs := #[.int .i64 ((rd_T72 (rd_L9 l0_1 x22_2) x28_3).f0), .int .i64 ((rd_T72 (rd_L9 l0_1 x22_2) x28_3).f1), .int .i64 ((rd_T72 (rd_L9 l0_1 x22_2) x28_3).f2), .int .i64 ((rd_T72 (rd_L9 l0_1 x22_2) x28_3).f3.f0), .int .i64 ((rd_T72 (rd_L9 l0_1 x22_2) x28_3).f3.f1), .int .i64 ((rd_T72 (rd_L9 l0_1 x22_2) x28_3).f3.f2), .int .i64 0, .int .i64 0, .int .i64 0, .slice none 0 0]) ?_ 6 _ rfl; (with_reducible repeat (first | refine blk_drewN ?_ _ | refine blk_drew ?_ | refine blk_alloc ?_ _)); refine blk_put (cs := #[.int .i64 ((rd_T72 (rd_L9 l0_1 x22_2) x28_3).f0), .int .i64 ((rd_T72 (rd_L9 l0_1 x22_2) x28_3).f1), .int .i64 ((rd_T72 (rd_L9 l0_1 x22_2) x28_3).f2), .int .i64 ((rd_T72 (rd_L9 l0_1 x22_2) x28_3).f3.f0), .int .i64 ((rd_T72 (rd_L9 l0_1 x22_2) x28_3).f3.f1), .int .i64 0, .int .i64 0, .int .i64 0, .int .i64 0, .slice none 0 0]) ?_ 5 _ rfl; (with_reducible repeat (first | refine blk_drewN ?_ _ | refine blk_drew ?_ | refine blk_alloc ?_ _)); refine blk_put (cs := #[.int .i64 ((rd_T72 (rd_L9 l0_1 x22_2) x28_3).f0), .int .i64 ((rd_T72 (rd_L9 l0_1 x22_2) x28_3).f1), .int .i64 ((rd_T72 (rd_L9 l0_1 x22_2) x28_3).f2), .int .i64 ((rd_T72 (rd_L9 l0_1 x22_2) x28_3).f3.f0), .int .i64 0, .int .i64 0, .int .i64 0, .int .i64 0, .int .i64 0, .slice none 0 0]) ?_ 4 _ rfl; (with_reducible repeat (first | refine blk_drewN ?_ _ | refine blk_drew ?_ | refine blk_alloc ?_ _)); refine blk_put (cs := #[.int .i64 ((rd_T72 (rd_L9 l0_1 x22_2) x28_3).f0), .int .i64 ((rd_T72 (rd_L9 l0_1 x22_2) x28_3).f1), .int .i64 ((rd_T72 (rd_L9 l0_1 x22_2) x28_3).f2), .int .i64 0, .int .i64 0, .int .i64 0, .int .i64 0, .int .i64 0, .int .i64 0, .slice none 0 0]) ?_ 3 _ rfl; (with_reducible repeat (first | refine blk_drewN ?_ _ | refine blk_drew ?_ | refine blk_alloc ?_ _)); refine blk_put (cs := #[.int .i64 ((rd_T72 (rd_L9 l0_1 x22_2) x28_3).f0), .int .i64 ((rd_T72 (rd_L9 l0_1 x22_2) x28_3).f1), .int .i64 0, .int .i64 0, .int .i64 0, .int .i64 0, .int .i64 0, .int .i64 0, .int .i64 0, .slice none 0 0]) ?_ 2 _ rfl; (with_reducible repeat (first | refine blk_drewN ?_ _ | refine blk_drew ?_ | refine blk_alloc ?_ _)); refine blk_put (cs := #[.int .i64 ((rd_T72 (rd_L9 l0_1 x22_2) x28_3).f0), .int .i64 0, .int .i64 0, .int .i64 0, .int .i64 0, .int .i64 0, .int .i64 0, .int .i64 0, .int .i64 0, .slice none 0 0]) ?_ 1 _ rfl; (with_reducible repeat (first | refine blk_drewN ?_ _ | refine blk_drew ?_ | refine blk_alloc ?_ _)); refine blk_put (cs := #[.int .i64 0, .int .i64 0, .int .i64 0, .int .i64 0, .int .i64 0, .int .i64 0, .int .i64 0, .int .i64 0, .int .i64 0, .slice none 0 0]) ?_ 0 _ rfl; (with_reducible repeat (first | refine blk_drewN ?_ _ | refine blk_drew ?_ | refine blk_alloc ?_ _)); exact BK228.out) hb); have n2_ := Aside0.mk (below_step (by repeat (first | (with_reducible first | exact HB.out | apply below_alloc | apply pw_below_drewN | apply below_drew1 | refine below_set ?_ GE224.out | refine below_set ?_ GE228.out) | exact HB.out)) hb); clear BK224; clear BK228; clear HB; have BK224 := n0_; have BK228 := n1_; have HB := n2_; clear n0_ n1_ n2_; (try clear hb); (try clear hb2); (try clear hk); (try clear hi)))
                              go_ret
                              exact ⟨by first | rfl | (simp [errW_none, errW_some] <;> rfl) | (simp [*, errW_none, errW_some] <;> rfl), by repeat (first | (with_reducible first | exact HB.out | apply below_alloc | apply pw_below_drewN | apply below_drew1 | refine below_set ?_ GE224.out | refine below_set ?_ GE228.out) | exact HB.out)⟩
                          · rw [if_neg c15] at H
                            exact absurd H (by simp)
                        · rw [if_neg c14] at H
                          exact absurd H (by simp)
                      · rw [if_neg c13] at H
                        have c13b0 : decide (x28_3 < ((rd_L9 l0_1 x22_2).length : Int)) = false := decide_eq_false c13
                        clear c13
                        by_cases c28 : ((rd_L9 l0_1 x22_2).length : Int) > 6
                        · rw [if_pos c28] at H
                          have c28b0 : decide (6 < ((rd_L9 l0_1 x22_2).length : Int)) = true := decide_eq_true c28
                          have c28b1 : decide (6 < (rd_L9 l0_1 x22_2).length) = true := decide_eq_true (by omega)
                          clear c28
                          obtain rfl := Option.some.inj H
                          go_wp2
                          go_ret
                          exact ⟨by first | rfl | (simp [errW_none, errW_some] <;> rfl) | (simp [*, errW_none, errW_some] <;> rfl), by repeat (first | (with_reducible first | exact HB.out | apply below_alloc | apply pw_below_drewN | apply below_drew1 | refine below_set ?_ GE224.out) | exact HB.out)⟩
                        · rw [if_neg c28] at H
                          have c28b0 : decide (6 < ((rd_L9 l0_1 x22_2).length : Int)) = false := decide_eq_false c28
                          have c28b1 : decide (6 < (rd_L9 l0_1 x22_2).length) = false := decide_eq_false (by omega)
                          clear c28
                          have H' := Aside0.mk H
                          clear H
                          go_wp2
                          go_roundg k3
                          case measure => have := HJ1.out; have := HK2.out; have := HK3.out; omega
                          case rel => exact ⟨(wrap64 (x22_2 + 1)), (by first | rfl | (simp; done) | (simp [*]; done)), H', ⟨by have := HJ1.out; have := HK2.out; have := HK3.out; omega⟩, ⟨by (with_reducible repeat (first | refine blk_drewN ?_ _ | refine blk_drew ?_ | refine blk_alloc ?_ _)); exact BK224.out⟩, ⟨by repeat (first | (with_reducible first | exact HB.out | apply below_alloc | apply pw_below_drewN | apply below_drew1 | refine below_set ?_ GE224.out) | exact HB.out)⟩⟩
                · rw [if_neg c12] at H
                  exact absurd H (by simp)
              · rw [if_neg c11] at H
                exact absurd H (by simp)
            · rw [if_neg c10] at H
              have c10b0 : decide (x22_2 < (l0_1.length : Int)) = false := decide_eq_false c10
              clear c10
              obtain rfl := Option.some.inj H
              go_wp2
              go_ret
              exact ⟨by first | rfl | (simp [errW_none, errW_some] <;> rfl) | (simp [*, errW_none, errW_some] <;> rfl), by repeat (first | (with_reducible first | exact HB.out | apply below_alloc | apply pw_below_drewN | apply below_drew1 | refine below_set ?_ GE224.out) | exact HB.out)⟩

/-! ### spec_l4Committed: function 53 -/
mutual
def spec_l4Committed.l0 : Nat → List (List Int) → List (List (S72)) → Int → Int → Option ((List (List Int)))
  | 0, _, _, _, _ => none
  | k + 1, x3, x9, x10, x11 => if x11 < x10 then (if 0 ≤ x11 then (if x11 < (x9.length : Int) then (spec_l4Committed.l1 k x3 x11 x9 x10 x11 (rd_L9 x9 x11) ((rd_L9 x9 x11).length : Int) 0) else (none)) else (none)) else (some x3)
def spec_l4Committed.l1 : Nat → List (List Int) → Int → List (List (S72)) → Int → Int → List (S72) → Int → Int → Option ((List (List Int)))
  | 0, _, _, _, _, _, _, _, _ => none
  | k + 1, x3, x4, x9, x10, x11, x16, x17, x18 => if x18 < x17 then (if 0 ≤ x18 then (if x18 < (x16.length : Int) then (if ((rd_T72 x16 x18).f2) = 3 then (if x3.length < 5864062014805 then (spec_l4Committed.l1 k (x3 ++ [(([x4, wrap64 (x18 + 1)] : List Int))]) x4 x9 x10 x11 x16 x17 (wrap64 (x18 + 1))) else (none)) else (spec_l4Committed.l1 k x3 x4 x9 x10 x11 x16 x17 (wrap64 (x18 + 1)))) else (none)) else (none)) else (spec_l4Committed.l0 k x3 x9 x10 (wrap64 (x11 + 1)))
end
def spec_l4Committed.f (k : Nat) (a0_0 : Int) (l0_1 : List (List (S72))) : Option ((List (List Int))) := spec_l4Committed.l0 k ([] : List (List Int)) l0_1 (l0_1.length : Int) 0
theorem spec_l4Committed.mono_l : ∀ k, (∀ y0 y1 y2 y3, LeO (spec_l4Committed.l0 k y0 y1 y2 y3) (spec_l4Committed.l0 (k + 1) y0 y1 y2 y3)) ∧ (∀ y0 y1 y2 y3 y4 y5 y6 y7, LeO (spec_l4Committed.l1 k y0 y1 y2 y3 y4 y5 y6 y7) (spec_l4Committed.l1 (k + 1) y0 y1 y2 y3 y4 y5 y6 y7))
  | 0 => ⟨fun _ _ _ _ r h => by simp [spec_l4Committed.l0] at h, fun _ _ _ _ _ _ _ _ r h => by simp [spec_l4Committed.l1] at h⟩
  | k + 1 => by
    obtain ⟨ih0, ih1⟩ := spec_l4Committed.mono_l k
    refine ⟨?_, ?_⟩
    · intro y0 y1 y2 y3
      unfold spec_l4Committed.l0
      repeat' first
      | (with_reducible exact ih0 _ _ _ _)
      | (with_reducible exact ih1 _ _ _ _ _ _ _ _)
      | (with_reducible exact LeO.refl _)
      | (with_reducible exact LeO.none _)
      | (with_reducible refine LeO.ite ?_ ?_)
      | (with_reducible refine LeO.bind ?_ (fun _ => ?_))
      | exact ih0 _ _ _ _
      | exact ih1 _ _ _ _ _ _ _ _
      | exact LeO.none _
      | refine LeO.ite ?_ ?_
      | refine LeO.bind ?_ (fun _ => ?_)
    · intro y0 y1 y2 y3 y4 y5 y6 y7
      unfold spec_l4Committed.l1
      repeat' first
      | (with_reducible exact ih0 _ _ _ _)
      | (with_reducible exact ih1 _ _ _ _ _ _ _ _)
      | (with_reducible exact LeO.refl _)
      | (with_reducible exact LeO.none _)
      | (with_reducible refine LeO.ite ?_ ?_)
      | (with_reducible refine LeO.bind ?_ (fun _ => ?_))
      | exact ih0 _ _ _ _
      | exact ih1 _ _ _ _ _ _ _ _
      | exact LeO.none _
      | refine LeO.ite ?_ ?_
      | refine LeO.bind ?_ (fun _ => ?_)
theorem spec_l4Committed.mono : ∀ a0 a1 k, LeO (spec_l4Committed.f k a0 a1) (spec_l4Committed.f (k + 1) a0 a1) := by
  intro a0 a1 k
  obtain ⟨ih0, ih1⟩ := spec_l4Committed.mono_l k
  unfold spec_l4Committed.f
  repeat' first
      | (with_reducible exact ih0 _ _ _ _)
      | (with_reducible exact ih1 _ _ _ _ _ _ _ _)
      | (with_reducible exact LeO.refl _)
      | (with_reducible exact LeO.none _)
      | (with_reducible refine LeO.ite ?_ ?_)
      | (with_reducible refine LeO.bind ?_ (fun _ => ?_))
      | exact ih0 _ _ _ _
      | exact ih1 _ _ _ _ _ _ _ _
      | exact LeO.none _
      | refine LeO.ite ?_ ?_
      | refine LeO.bind ?_ (fun _ => ?_)
set_option maxHeartbeats 8000000 in
set_option maxRecDepth 100000 in
theorem spec_l4Committed.calls (k : Nat) (a0_0 : Int) (A0_1 : Option Addr) (c0_1 : Nat) (l0_1 : List (List (S72))) (r : List (List Int)) (w : World) (hr0_1 : Kd.C (Kd.slice 72 k72) w A0_1 l0_1.length l0_1) (hc0_1 : l0_1.length ≤ c0_1) (h : spec_l4Committed.f k a0_0 l0_1 = some r) :
    Calls Try.prog 53 #[.agg #[.int .i64 a0_0, .slice A0_1 l0_1.length c0_1]] w fun e w' => ∃ v0_ : Value, e = .returned (v0_) ∧ Kd.S (Kd.slice 3 (Kd.int .i64)) 44 w' w.heap.size (fun _ => True) v0_ r ∧ Below w.heap.size w w' := by
  have hu29 := Try.underlying29
  have hu72 := Try.underlying72
  have HR0_1 := Aside0.mk hr0_1
  have HC0_1 := Aside0.mk hc0_1
  clear hr0_1 hc0_1
  have HB := Aside0.mk (Below.refl w.heap.size w)
  have H : (spec_l4Committed.l0 k ([] : List (List Int)) l0_1 (l0_1.length : Int) 0) = some r := h
  clear h
  have H' := Aside0.mk H
  clear H
  go_enter Try.func53, Try.ntmps53
  go_wp2_with (first | ((with_reducible refine gate_dst (N := 1) rfl ?_); refine box_event ?hg (N := 1) ?hd (cs := #[.int .i64 a0_0, .slice A0_1 l0_1.length c0_1]) (t := 29) ?hr ?_; (case hd => rfl); (case hg => rfl); (case hr => first | (go_simp; done) | (go_simp; rfl)); intro gb230 hg w2 hbox hb; have n0_ := Aside0.mk (below_step (by repeat (first | (with_reducible first | exact HB.out | apply below_alloc | apply pw_below_drewN | apply below_drew1) | exact HB.out)) hb); have n1_ := Aside0.mk (hbox); have n2_ := Aside0.mk ((by rw [hg]; exact (below_size (by repeat (first | (with_reducible first | exact HB.out | apply below_alloc | apply pw_below_drewN | apply below_drew1) | exact HB.out))) : w.heap.size ≤ gb230)); have n3_ := Aside0.mk ((by rw [hg]; exact (below_size (by repeat (first | (with_reducible first | exact HB.out | apply below_alloc | apply pw_below_drewN | apply below_drew1) | exact HB.out))) : w.heap.size ≤ gb230)); clear HB; have HB := n0_; have BK230 := n1_; have GW230 := n2_; have GE230 := n3_; clear n0_ n1_ n2_ n3_; clear hb hbox hg; have hcz3_0 : w2.cell? ⟨gb230, 0, none⟩ = some (.int .i64 a0_0) := (blk_cell BK230.out 0).trans rfl; have hcz3_1 : w2.cell? ⟨gb230, 1, none⟩ = some (.slice A0_1 l0_1.length c0_1) := (blk_cell BK230.out 1).trans rfl; have hfz3_0 := blk_frozen BK230.out 0; have hfz3_1 := blk_frozen BK230.out 1))
  go_loopg [3, 11] k (fun kq v3 v11 w' => ∃ (x3_1 : List (List Int)) (x11_1 : Int), v11 = .int .i64 x11_1 ∧ Aside0 (spec_l4Committed.l0 kq x3_1 l0_1 (l0_1.length : Int) x11_1 = some r) ∧ Aside0 (kq ≤ k) ∧ Aside0 (Kd.S (Kd.slice 3 (Kd.int .i64)) 44 w' w.heap.size (fun _ => True) v3 x3_1) ∧ Aside0 (w'.heap[gb230]? = some (.cells #[.int .i64 a0_0, (.slice A0_1 l0_1.length c0_1)] 29 (0, 0))) ∧ Aside0 (Below w.heap.size w w'))
  case atStart => exact ⟨(([] : List (List Int))), (0), (by first | rfl | (simp; done) | (simp [*]; done)), H', ⟨Nat.le_refl _⟩, ⟨by first | exact Kd.S_nil _ _ _ _ _ | exact Kd.N_nil _ _ _ _ _ | exact Kd.V_nil _ _ _ _ _ | exact Kd.Q_nil _ _ _ _ _ | exact Kd.R_nil _ _ _ _ _⟩, ⟨by (with_reducible repeat (first | refine blk_drewN ?_ _ | refine blk_drew ?_ | refine blk_alloc ?_ _)); exact BK230.out⟩, ⟨by repeat (first | (with_reducible first | exact HB.out | apply below_alloc | apply pw_below_drewN | apply below_drew1 | refine below_set ?_ GE230.out) | exact HB.out)⟩⟩
  case round =>
    clear H'
    try clear p2
    try clear hcz3_0
    try clear hcz3_1
    try clear hfz3_0
    try clear hfz3_1
    obtain ⟨x3_1, x11_1, rfl, HA, HK1, HO_3, BK230, HB⟩ := hrel
    cases gk with
    | zero => exact absurd HA.out (by simp [spec_l4Committed.l0])
    | succ k1 =>
      have H := HA.out
      clear HA
      simp only [spec_l4Committed.l0] at H
      by_cases c4 : x11_1 < (l0_1.length : Int)
      · rw [if_pos c4] at H
        have c4b0 : decide (x11_1 < (l0_1.length : Int)) = true := decide_eq_true c4
        clear c4
        by_cases c5 : 0 ≤ x11_1
        · rw [if_pos c5] at H
          have c5b0 : decide (0 ≤ x11_1) = true := decide_eq_true c5
          clear c5
          by_cases c6 : x11_1 < (l0_1.length : Int)
          · rw [if_pos c6] at H
            have c6b0 : decide (x11_1 < (l0_1.length : Int)) = true := decide_eq_true c6
            clear c6
            have H' := Aside0.mk H
            clear H
            have p231 : 0 ≤ (x11_1 : Int) := of_decide_eq_true (by first | (with_reducible assumption) | assumption)
            have q231 : x11_1 < (l0_1.length : Int) := of_decide_eq_true (by first | (with_reducible assumption) | assumption)
            obtain ⟨ad231, A231_0, c231_0, e231, hx231_0, hl231_0, hi231_0⟩ := at_L9 HR0_1.out x11_1 p231 q231
            cases e231
            replace hx231_0 := (HB.out.cell (World.block_lt_of_cell? w _ hx231_0)).trans hx231_0
            have HR231_0 := Aside0.mk hi231_0
            have HC231_0 := Aside0.mk hl231_0
            clear hi231_0 hl231_0
            replace p231 := eq_true p231
            replace q231 := eq_true q231
            go_wp2
            go_loopg [3, 18] k1 (fun kq v3 v18 w' => ∃ (x3_2 : List (List Int)) (x18_2 : Int), v18 = .int .i64 x18_2 ∧ Aside0 (spec_l4Committed.l1 kq x3_2 x11_1 l0_1 (l0_1.length : Int) x11_1 (rd_L9 l0_1 x11_1) ((rd_L9 l0_1 x11_1).length : Int) x18_2 = some r) ∧ Aside0 (kq ≤ k1) ∧ Aside0 (Kd.S (Kd.slice 3 (Kd.int .i64)) 44 w' w.heap.size (fun _ => True) v3 x3_2) ∧ Aside0 (w'.heap[gb230]? = some (.cells #[.int .i64 a0_0, (.slice (some ad231) l0_1.length c0_1)] 29 (0, 0))) ∧ Aside0 (Below w.heap.size w w'))
            case atStart => exact ⟨(x3_1), (0), (by first | rfl | (simp; done) | (simp [*]; done)), H', ⟨Nat.le_refl _⟩, ⟨by (with_reducible repeat (first | apply Kd.S_alloc | apply Kd.S_drewN | apply Kd.S_drew)); exact HO_3.out⟩, ⟨by (with_reducible repeat (first | refine blk_drewN ?_ _ | refine blk_drew ?_ | refine blk_alloc ?_ _)); exact BK230.out⟩, ⟨by repeat (first | (with_reducible first | exact HB.out | apply below_alloc | apply pw_below_drewN | apply below_drew1 | refine below_set ?_ GE230.out) | exact HB.out)⟩⟩
            case round =>
              clear H'
              try clear c2
              try clear p2
              try clear q2
              try clear hx2
              try clear c4
              try clear c4b0
              try clear c5
              try clear c5b0
              try clear c6
              try clear c6b0
              try clear hcz3_0
              try clear hcz3_1
              try clear hfz3_0
              try clear hfz3_1
              try clear hx231_0
              try clear p2
              try clear p231
              try clear q231
              obtain ⟨x3_2, x18_2, rfl, HA, HK2, HO_3, BK230, HB⟩ := hrel
              cases gk with
              | zero => exact absurd HA.out (by simp [spec_l4Committed.l1])
              | succ k2 =>
                have H := HA.out
                clear HA
                simp only [spec_l4Committed.l1] at H
                by_cases c7 : x18_2 < ((rd_L9 l0_1 x11_1).length : Int)
                · rw [if_pos c7] at H
                  have c7b0 : decide (x18_2 < ((rd_L9 l0_1 x11_1).length : Int)) = true := decide_eq_true c7
                  clear c7
                  by_cases c8 : 0 ≤ x18_2
                  · rw [if_pos c8] at H
                    have c8b0 : decide (0 ≤ x18_2) = true := decide_eq_true c8
                    clear c8
                    by_cases c9 : x18_2 < ((rd_L9 l0_1 x11_1).length : Int)
                    · rw [if_pos c9] at H
                      have c9b0 : decide (x18_2 < ((rd_L9 l0_1 x11_1).length : Int)) = true := decide_eq_true c9
                      clear c9
                      by_cases c10 : ((rd_T72 (rd_L9 l0_1 x11_1) x18_2).f2) = 3
                      · rw [if_pos c10] at H
                        have c10b0 : (((rd_T72 (rd_L9 l0_1 x11_1) x18_2).f2) == 3) = true := beq_iff_eq.mpr c10
                        have c10b1 : (((rd_T72 (rd_L9 l0_1 x11_1) x18_2).f2) != 3) = false := bne_eq_false_iff_eq.mpr c10
                        clear c10
                        obtain ⟨y234, hy234⟩ : ∃ y_ : List Int, y_ = (([x11_1, wrap64 (x18_2 + 1)] : List Int)) := ⟨_, rfl⟩
                        replace H : (if x3_2.length < 5864062014805 then (spec_l4Committed.l1 k2 (x3_2 ++ [y234]) x11_1 l0_1 (l0_1.length : Int) x11_1 (rd_L9 l0_1 x11_1) ((rd_L9 l0_1 x11_1).length : Int) (wrap64 (x18_2 + 1))) else (none)) = some r := by first | (rw [hy234]; with_reducible exact H) | (have H2_ := (Option.bind_some _ _).symm.trans H; rw [hy234]; with_reducible exact H2_) | (have H2_ := (Option.bind_some _ _).symm.trans H; with_reducible exact H2_) | with_reducible exact H | (rw [hy234]; exact H) | exact H
                        have Ny234 := Aside0.mk hy234
                        clear hy234
                        by_cases c11 : x3_2.length < 5864062014805
                        · rw [if_pos c11] at H
                          have LMc11 := Aside0.mk c11
                          clear c11
                          obtain ⟨y237, hy237⟩ : ∃ y_ : List (List Int), y_ = (x3_2 ++ [y234]) := ⟨_, rfl⟩
                          replace H : (spec_l4Committed.l1 k2 y237 x11_1 l0_1 (l0_1.length : Int) x11_1 (rd_L9 l0_1 x11_1) ((rd_L9 l0_1 x11_1).length : Int) (wrap64 (x18_2 + 1))) = some r := by first | (rw [hy237]; with_reducible exact H) | (have H2_ := (Option.bind_some _ _).symm.trans H; rw [hy237]; with_reducible exact H2_) | (have H2_ := (Option.bind_some _ _).symm.trans H; with_reducible exact H2_) | with_reducible exact H | (rw [hy237]; exact H) | exact H
                          have Ny237 := Aside0.mk hy237
                          clear hy237
                          have H' := Aside0.mk H
                          clear H
                          have p232 : 0 ≤ (x18_2 : Int) := of_decide_eq_true (by first | (with_reducible assumption) | assumption)
                          have q232 : x18_2 < ((rd_L9 l0_1 x11_1).length : Int) := of_decide_eq_true (by first | (with_reducible assumption) | assumption)
                          obtain ⟨ad232, A232_9, c232_9, e232, hx232_0, hx232_1, hx232_2, hx232_3, hx232_4, hx232_5, hx232_6, hx232_7, hx232_8, hx232_9, hl232_9, hi232_9⟩ := at_T72 HR231_0.out x18_2 p232 q232
                          cases e232
                          replace hx232_0 := (HB.out.cell (World.block_lt_of_cell? w _ hx232_0)).trans hx232_0
                          replace hx232_1 := (HB.out.cell (World.block_lt_of_cell? w _ hx232_1)).trans hx232_1
                          replace hx232_2 := (HB.out.cell (World.block_lt_of_cell? w _ hx232_2)).trans hx232_2
                          replace hx232_3 := (HB.out.cell (World.block_lt_of_cell? w _ hx232_3)).trans hx232_3
                          replace hx232_4 := (HB.out.cell (World.block_lt_of_cell? w _ hx232_4)).trans hx232_4
                          replace hx232_5 := (HB.out.cell (World.block_lt_of_cell? w _ hx232_5)).trans hx232_5
                          replace hx232_6 := (HB.out.cell (World.block_lt_of_cell? w _ hx232_6)).trans hx232_6
                          replace hx232_7 := (HB.out.cell (World.block_lt_of_cell? w _ hx232_7)).trans hx232_7
                          replace hx232_8 := (HB.out.cell (World.block_lt_of_cell? w _ hx232_8)).trans hx232_8
                          replace hx232_9 := (HB.out.cell (World.block_lt_of_cell? w _ hx232_9)).trans hx232_9
                          have HR232_9 := Aside0.mk hi232_9
                          have HC232_9 := Aside0.mk hl232_9
                          clear hi232_9 hl232_9
                          replace p232 := eq_true p232
                          replace q232 := eq_true q232
                          go_wp2_with (first | ((with_reducible refine gate_dst (N := 7) rfl ?_); refine box_event ?hg (N := 7) ?hd (cs := #[.int .i64 0, .int .i64 0, .int .i64 0, .int .i64 0, .int .i64 0, .int .i64 0, .int .i64 0, .int .i64 0, .int .i64 0, .slice none 0 0]) (t := 72) ?hr ?_; (case hd => rfl); (case hg => rfl); (case hr => first | (go_simp; done) | (go_simp; rfl)); intro gb233 hg w12 hbox hb; have n0_ := Aside0.mk (Kd.S_below (by (with_reducible repeat (first | apply Kd.S_alloc | apply Kd.S_drewN | apply Kd.S_drew)); exact HO_3.out) hb); have n1_ := Aside0.mk (blk_below (g := gb230) (o := .cells #[.int .i64 a0_0, .slice (some ad231) l0_1.length c0_1] 29 (0, 0)) (by (with_reducible repeat (first | refine blk_drewN ?_ _ | refine blk_drew ?_ | refine blk_alloc ?_ _)); exact BK230.out) hb); have n2_ := Aside0.mk (below_step (by repeat (first | (with_reducible first | exact HB.out | apply below_alloc | apply pw_below_drewN | apply below_drew1 | refine below_set ?_ GE230.out) | exact HB.out)) hb); have n3_ := Aside0.mk (hbox); have n4_ := Aside0.mk ((by rw [hg]; exact (below_size (by repeat (first | (with_reducible first | exact HB.out | apply below_alloc | apply pw_below_drewN | apply below_drew1 | refine below_set ?_ GE230.out) | exact HB.out))) : w.heap.size ≤ gb233)); have n5_ := Aside0.mk ((by rw [hg]; exact (below_size (by repeat (first | (with_reducible first | exact HB.out | apply below_alloc | apply pw_below_drewN | apply below_drew1 | refine below_set ?_ GE230.out) | exact HB.out))) : w.heap.size ≤ gb233)); have n6_ := Aside0.mk ((by rw [hg]; exact Nat.ne_of_lt (blk_lt (g := gb230) (o := .cells #[.int .i64 a0_0, .slice (some ad231) l0_1.length c0_1] 29 (0, 0)) (by (with_reducible repeat (first | refine blk_drewN ?_ _ | refine blk_drew ?_ | refine blk_alloc ?_ _)); exact BK230.out)) : gb230 ≠ gb233)); have n7_ := Aside0.mk ((by rw [hg]; exact Nat.ne_of_gt (blk_lt (g := gb230) (o := .cells #[.int .i64 a0_0, .slice (some ad231) l0_1.length c0_1] 29 (0, 0)) (by (with_reducible repeat (first | refine blk_drewN ?_ _ | refine blk_drew ?_ | refine blk_alloc ?_ _)); exact BK230.out)) : gb233 ≠ gb230)); clear HO_3; clear BK230; clear HB; have HO_3 := n0_; have BK230 := n1_; have HB := n2_; have BK233 := n3_; have GW233 := n4_; have GE233 := n5_; have NB230_233 := n6_; have NB233_230 := n7_; clear n0_ n1_ n2_ n3_ n4_ n5_ n6_ n7_; clear hb hbox hg; have hnb13 := NB233_230.out; have hnc13 := NB230_233.out; have hcz14_0 : w12.cell? ⟨gb233, 0, none⟩ = some (.int .i64 0) := (blk_cell BK233.out 0).trans rfl; have hcz14_1 : w12.cell? ⟨gb233, 1, none⟩ = some (.int .i64 0) := (blk_cell BK233.out 1).trans rfl; have hcz14_2 : w12.cell? ⟨gb233, 2, none⟩ = some (.int .i64 0) := (blk_cell BK233.out 2).trans rfl; have hcz14_3 : w12.cell? ⟨gb233, 3, none⟩ = some (.int .i64 0) := (blk_cell BK233.out 3).trans rfl; have hcz14_4 : w12.cell? ⟨gb233, 4, none⟩ = some (.int .i64 0) := (blk_cell BK233.out 4).trans rfl; have hcz14_5 : w12.cell? ⟨gb233, 5, none⟩ = some (.int .i64 0) := (blk_cell BK233.out 5).trans rfl; have hcz14_6 : w12.cell? ⟨gb233, 6, none⟩ = some (.int .i64 0) := (blk_cell BK233.out 6).trans rfl; have hcz14_7 : w12.cell? ⟨gb233, 7, none⟩ = some (.int .i64 0) := (blk_cell BK233.out 7).trans rfl; have hcz14_8 : w12.cell? ⟨gb233, 8, none⟩ = some (.int .i64 0) := (blk_cell BK233.out 8).trans rfl; have hcz14_9 : w12.cell? ⟨gb233, 9, none⟩ = some (.slice none 0 0) := (blk_cell BK233.out 9).trans rfl; have hfz14_0 := blk_frozen BK233.out 0; have hfz14_1 := blk_frozen BK233.out 1; have hfz14_2 := blk_frozen BK233.out 2; have hfz14_3 := blk_frozen BK233.out 3; have hfz14_4 := blk_frozen BK233.out 4; have hfz14_5 := blk_frozen BK233.out 5; have hfz14_6 := blk_frozen BK233.out 6; have hfz14_7 := blk_frozen BK233.out 7; have hfz14_8 := blk_frozen BK233.out 8; have hfz14_9 := blk_frozen BK233.out 9) | ((with_reducible refine gate_dst (N := 30) rfl ?_); refine Kd.R_lit (Kd.int .i64) _ 3 ?hg (N := 30) ?hd (xs := ([x11_1, wrap64 (x18_2 + 1)] : List Int)) (inner := [.int .i64 x11_1, .int .i64 (wrap64 (x18_2 + 1))]) (ok := fun _ => True) (okp := fun _ => True) ?hr ?hp (fun _ hk => hk) trivial (Below.refl _ _) (Nat.le_refl _) (by simp) ?_; (case hd => rfl); (case hg => rfl); (case hr => first | (go_simp; done) | (go_simp; rfl)); (case hp => exact (Reps.one (show Kd.M (Kd.int .i64) _ _ _ x11_1 [.int .i64 x11_1] from rfl) (Reps.one (show Kd.M (Kd.int .i64) _ _ _ (wrap64 (x18_2 + 1)) [.int .i64 (wrap64 (x18_2 + 1))] from rfl) (Reps.none _ _)))); intro v235 w15 ho16 hb hg_ hnew_; clear hg_ hnew_; (first | rw [← Ny234.out] at ho16 | (simp only [Int.reduceToNat] at ho16; rw [← Ny234.out] at ho16)); have n0_ := Aside0.mk (Kd.S_elder' (by (with_reducible repeat (first | apply Kd.S_alloc | apply Kd.S_drewN | apply Kd.S_drew)); exact (Kd.S_mono (Kd.S_far (p := ⟨gb233, 9, none⟩) (Kd.S_far (p := ⟨gb233, 8, none⟩) (Kd.S_far (p := ⟨gb233, 7, none⟩) (Kd.S_far (p := ⟨gb233, 6, none⟩) (Kd.S_far (p := ⟨gb233, 5, none⟩) (Kd.S_far (p := ⟨gb233, 4, none⟩) (Kd.S_far (p := ⟨gb233, 3, none⟩) (Kd.S_far (p := ⟨gb233, 2, none⟩) (Kd.S_far (p := ⟨gb233, 1, none⟩) (Kd.S_far (p := ⟨gb233, 0, none⟩) (Kd.S_types HO_3.out BK233.out (by decide)) (fun _ hk => hk.2) (.int .i64 ((rd_T72 (rd_L9 l0_1 x11_1) x18_2).f0))) (fun _ hk => hk.2) (.int .i64 ((rd_T72 (rd_L9 l0_1 x11_1) x18_2).f1))) (fun _ hk => hk.2) (.int .i64 ((rd_T72 (rd_L9 l0_1 x11_1) x18_2).f2))) (fun _ hk => hk.2) (.int .i64 ((rd_T72 (rd_L9 l0_1 x11_1) x18_2).f3.f0))) (fun _ hk => hk.2) (.int .i64 ((rd_T72 (rd_L9 l0_1 x11_1) x18_2).f3.f1))) (fun _ hk => hk.2) (.int .i64 ((rd_T72 (rd_L9 l0_1 x11_1) x18_2).f3.f2))) (fun _ hk => hk.2) (.int .i64 ((rd_T72 (rd_L9 l0_1 x11_1) x18_2).f3.f3))) (fun _ hk => hk.2) (.int .i64 ((rd_T72 (rd_L9 l0_1 x11_1) x18_2).f3.f4))) (fun _ hk => hk.2) (.int .i64 ((rd_T72 (rd_L9 l0_1 x11_1) x18_2).f4.f0))) (fun _ hk => hk.2) (.slice A232_9 ((rd_T72 (rd_L9 l0_1 x11_1) x18_2).f4.f1).length c232_9)) (fun _ h_ => h_.1))) (Kd.R_base ho16) hb); have n1_ := Aside0.mk (Kd.R_lower ho16 (below_size (by repeat (first | (with_reducible first | exact HB.out | apply below_alloc | apply pw_below_drewN | apply below_drew1 | refine below_set ?_ GE230.out | refine below_set ?_ GE233.out) | exact HB.out)))); have n2_ := Aside0.mk (blk_below (g := gb230) (o := .cells #[.int .i64 a0_0, .slice (some ad231) l0_1.length c0_1] 29 (0, 0)) (by (with_reducible repeat (first | refine blk_drewN ?_ _ | refine blk_drew ?_ | refine blk_alloc ?_ _)); refine blk_far ?_ NB230_233.out _; (with_reducible repeat (first | refine blk_drewN ?_ _ | refine blk_drew ?_ | refine blk_alloc ?_ _)); refine blk_far ?_ NB230_233.out _; (with_reducible repeat (first | refine blk_drewN ?_ _ | refine blk_drew ?_ | refine blk_alloc ?_ _)); refine blk_far ?_ NB230_233.out _; (with_reducible repeat (first | refine blk_drewN ?_ _ | refine blk_drew ?_ | refine blk_alloc ?_ _)); refine blk_far ?_ NB230_233.out _; (with_reducible repeat (first | refine blk_drewN ?_ _ | refine blk_drew ?_ | refine blk_alloc ?_ _)); refine blk_far ?_ NB230_233.out _; (with_reducible repeat (first | refine blk_drewN ?_ _ | refine blk_drew ?_ | refine blk_alloc ?_ _)); refine blk_far ?_ NB230_233.out _; (with_reducible repeat (first | refine blk_drewN ?_ _ | refine blk_drew ?_ | refine blk_alloc ?_ _)); refine blk_far ?_ NB230_233.out _; (with_reducible repeat (first | refine blk_drewN ?_ _ | refine blk_drew ?_ | refine blk_alloc ?_ _)); refine blk_far ?_ NB230_233.out _; (with_reducible repeat (first | refine blk_drewN ?_ _ | refine blk_drew ?_ | refine blk_alloc ?_ _)); refine blk_far ?_ NB230_233.out _; (with_reducible repeat (first | refine blk_drewN ?_ _ | refine blk_drew ?_ | refine blk_alloc ?_ _)); refine blk_far ?_ NB230_233.out _; (with_reducible repeat (first | refine blk_drewN ?_ _ | refine blk_drew ?_ | refine blk_alloc ?_ _)); exact BK230.out) hb); have n3_ := Aside0.mk (blk_below (g := gb233) (o := .cells #[.int .i64 ((rd_T72 (rd_L9 l0_1 x11_1) x18_2).f0), .int .i64 ((rd_T72 (rd_L9 l0_1 x11_1) x18_2).f1), .int .i64 ((rd_T72 (rd_L9 l0_1 x11_1) x18_2).f2), .int .i64 ((rd_T72 (rd_L9 l0_1 x11_1) x18_2).f3.f0), .int .i64 ((rd_T72 (rd_L9 l0_1 x11_1) x18_2).f3.f1), .int .i64 ((rd_T72 (rd_L9 l0_1 x11_1) x18_2).f3.f2), .int .i64 ((rd_T72 (rd_L9 l0_1 x11_1) x18_2).f3.f3), .int .i64 ((rd_T72 (rd_L9 l0_1 x11_1) x18_2).f3.f4), .int .i64 ((rd_T72 (rd_L9 l0_1 x11_1) x18_2).f4.f0), .slice A232_9 ((rd_T72 (rd_L9 l0_1 x11_1) x18_2).f4.f1).length c232_9] 72 (0, 0)) (by (with_reducible repeat (first | refine blk_drewN ?_ _ | refine blk_drew ?_ | refine blk_alloc ?_ _)); refine blk_put (cs := #[.int .i64 ((rd_T72 (rd_L9 l0_1 x11_1) x18_2).f0), .int .i64 ((rd_T72 (rd_L9 l0_1 x11_1) x18_2).f1), .int .i64 ((rd_T72 (rd_L9 l0_1 x11_1) x18_2).f2), .int .i64 ((rd_T72 (rd_L9 l0_1 x11_1) x18_2).f3.f0), .int .i64 ((rd_T72 (rd_L9 l0_1 x11_1) x18_2).f3.f1), .int .i64 ((rd_T72 (rd_L9 l0_1 x11_1) x18_2).f3.f2), .int .i64 ((rd_T72 (rd_L9 l0_1 x11_1) x18_2).f3.f3), .int .i64 ((rd_T72 (rd_L9 l0_1 x11_1) x18_2).f3.f4), .int .i64 ((rd_T72 (rd_L9 l0_1 x11_1) x18_2).f4.f0), .slice none 0 0]) ?_ 9 _ rfl; (with_reducible repeat (first | refine blk_drewN ?_ _ | refine blk_drew ?_ | refine blk_alloc ?_ _)); refine blk_put (cs := #[.int .i64 ((rd_T72 (rd_L9 l0_1 x11_1) x18_2).f0), .int .i64 ((rd_T72 (rd_L9 l0_1 x11_1) x18_2).f1), .int .i64 ((rd_T72 (rd_L9 l0_1 x11_1) x18_2).f2), .int .i64 ((rd_T72 (rd_L9 l0_1 x11_1) x18_2).f3.f0), .int .i64 ((rd_T72 (rd_L9 l0_1 x11_1) x18_2).f3.f1), .int .i64 ((rd_T72 (rd_L9 l0_1 x11_1) x18_2).f3.f2), .int .i64 ((rd_T72 (rd_L9 l0_1 x11_1) x18_2).f3.f3), .int .i64 ((rd_T72 (rd_L9 l0_1 x11_1) x18_2).f3.f4), .int .i64 0, .slice none 0 0]) ?_ 8 _ rfl; (with_reducible repeat (first | refine blk_drewN ?_ _ | refine blk_drew ?_ | refine blk_alloc ?_ _)); refine blk_put (cs := #[.int .i64 ((rd_T72 (rd_L9 l0_1 x11_1) x18_2).f0), .int .i64 ((rd_T72 (rd_L9 l0_1 x11_1) x18_2).f1), .int .i64 ((rd_T72 (rd_L9 l0_1 x11_1) x18_2).f2), .int .i64 ((rd_T72 (rd_L9 l0_1 x11_1) x18_2).f3.f0), .int .i64 ((rd_T72 (rd_L9 l0_1 x11_1) x18_2).f3.f1), .int .i64 ((rd_T72 (rd_L9 l0_1 x11_1) x18_2).f3.f2), .int .i64 ((rd_T72 (rd_L9 l0_1 x11_1) x18_2).f3.f3), .int .i64 0, .int .i64 0, .slice none 0 0]) ?_ 7 _ rfl; (with_reducible repeat (first | refine blk_drewN ?_ _ | refine blk_drew ?_ | refine blk_alloc ?_ _)); refine blk_put (cs := #[.int .i64 ((rd_T72 (rd_L9 l0_1 x11_1) x18_2).f0), .int .i64 ((rd_T72 (rd_L9 l0_1 x11_1) x18_2).f1), .int .i64 ((rd_T72 (rd_L9 l0_1 x11_1) x18_2).f2), .int .i64 ((rd_T72 (rd_L9 l0_1 x11_1) x18_2).f3.f0), .int .i64 ((rd_T72 (rd_L9 l0_1 x11_1) x18_2).f3.f1), .int .i64 ((rd_T72 (rd_L9 l0_1 x11_1) x18_2).f3.f2), .int .i64 0, .int .i64 0, .int .i64 0, .slice none 0 0]) ?_ 6 _ rfl; (with_reducible repeat (first | refine blk_drewN ?_ _ | refine blk_drew ?_ | refine blk_alloc ?_ _)); refine blk_put (cs := #[.int .i64 ((rd_T72 (rd_L9 l0_1 x11_1) x18_2).f0), .int .i64 ((rd_T72 (rd_L9 l0_1 x11_1) x18_2).f1), .int .i64 ((rd_T72 (rd_L9 l0_1 x11_1) x18_2).f2), .int .i64 ((rd_T72 (rd_L9 l0_1 x11_1) x18_2).f3.f0), .int .i64 ((rd_T72 (rd_L9 l0_1 x11_1) x18_2).f3.f1), .int .i64 0, .int .i64 0, .int .i64 0, .int .i64 0, .slice none 0 0]) ?_ 5 _ rfl; (with_reducible repeat (first | refine blk_drewN ?_ _ | refine blk_drew ?_ | refine blk_alloc ?_ _)); refine blk_put (cs := #[.int .i64 ((rd_T72 (rd_L9 l0_1 x11_1) x18_2).f0), .int .i64 ((rd_T72 (rd_L9 l0_1 x11_1) x18_2).f1), .int .i64 ((rd_T72 (rd_L9 l0_1 x11_1) x18_2).f2), .int .i64 ((rd_T72 (rd_L9 l0_1 x11_1) x18_2).f3.f0), .int .i64 0, .int .i64 0, .int .i64 0, .int .i64 0, .int .i64 0, .slice none 0 0]) ?_ 4 _ rfl; (with_reducible repeat (first | refine blk_drewN ?_ _ | refine blk_drew ?_ | refine blk_alloc ?_ _)); refine blk_put (cs := #[.int .i64 ((rd_T72 (rd_L9 l0_1 x11_1) x18_2).f0), .int .i64 ((rd_T72 (rd_L9 l0_1 x11_1) x18_2).f1), .int .i64 ((rd_T72 (rd_L9 l0_1 x11_1) x18_2).f2), .int .i64 0, .int .i64 0, .int .i64 0, .int .i64 0, .int .i64 0, .int .i64 0, .slice none 0 0]) ?_ 3 _ rfl; (with_reducible repeat (first | refine blk_drewN ?_ _ | refine blk_drew ?_ | refine blk_alloc ?_ _)); refine blk_put (cs := #[.int .i64 ((rd_T72 (rd_L9 l0_1 x11_1) x18_2).f0), .int .i64 ((rd_T72 (rd_L9 l0_1 x11_1) x18_2).f1), .int .i64 0, .int .i64 0, .int .i64 0, .int .i64 0, .int .i64 0, .int .i64 0, .int .i64 0, .slice none 0 0]) ?_ 2 _ rfl; (with_reducible repeat (first | refine blk_drewN ?_ _ | refine blk_drew ?_ | refine blk_alloc ?_ _)); refine blk_put (cs := #[.int .i64 ((rd_T72 (rd_L9 l0_1 x11_1) x18_2).f0), .int .i64 0, .int .i64 0, .int .i64 0, .int .i64 0, .int .i64 0, .int .i64 0, .int .i64 0, .int .i64 0, .slice none 0 0]) ?_ 1 _ rfl; (with_reducible repeat (first | refine blk_drewN ?_ _ | refine blk_drew ?_ | refine blk_alloc ?_ _)); refine blk_put (cs := #[.int .i64 0, .int .i64 0, .int .i64 0, .int .i64 0, .int .i64 0, .int .i64 0, .int .i64 0, .int .i64 0, .int .i64 0, .slice none 0 0]) ?_ 0 _ rfl; (with_reducible repeat (first | refine blk_drewN ?_ _ | refine blk_drew ?_ | refine blk_alloc ?_ _)); exact BK233.out) hb); have n4_ := Aside0.mk (below_step (by repeat (first | (with_reducible first | exact HB.out | apply below_alloc | apply pw_below_drewN | apply below_drew1 | refine below_set ?_ GE230.out | refine below_set ?_ GE233.out) | exact HB.out)) hb); clear HO_3; clear BK230; clear BK233; clear HB; have HO_3 := n0_; have HO236 := n1_; have BK230 := n2_; have BK233 := n3_; have HB := n4_; clear n0_ n1_ n2_ n3_ n4_; clear hb ho16; obtain ⟨Ao18, co18, eo18⟩ := Kd.R_slice HO236.out; subst eo18) | ((with_reducible refine gate_builtin (b := .append) (xs := #[.tmp 26, .tmp 31]) rfl ?_); at_builtin; refine Kd.S_append (Kd.slice 3 (Kd.int .i64)) (w0 := w) w.heap.size rfl (.tmp 26) (.tmp 31) 37 44 (.slice none 0 0) 24 rfl Try.underlying37 info44 rfl (by decide) (by omega) u3 x3_2 y234 [.slice Ao18 y234.length co18] (fun _ => True) (fun k_ => some k_ = (.slice Ao18 y234.length co18 : Value).ownBlock) rfl rfl ?aP (fun k_ hk_ => ((Kd.R_mono (ok' := fun k_ => ((fun _ => True)) k_ ∧ some k_ ≠ (u3 : Value).ownBlock) (Kd.R_apart' (HO236.out) (Kd.S_typed HO_3.out) (by decide)) (fun k_ hk => ⟨trivial, hk.2⟩))).1 k_ hk_.symm) ?aF ?aO ?aB ?aS ?aL ?_; (case aP => exact Kd.M_row (Kd.R_mono (Kd.R_tight rfl (Kd.R_mono (ok' := fun k_ => ((fun _ => True)) k_ ∧ some k_ ≠ (u3 : Value).ownBlock) (Kd.R_apart' (HO236.out) (Kd.S_typed HO_3.out) (by decide)) (fun k_ hk => ⟨trivial, hk.2⟩))) (fun _ h_ => h_))); (case aB => exact (by repeat (first | (with_reducible first | exact HB.out | apply below_alloc | apply pw_below_drewN | apply below_drew1 | refine below_set ?_ GE230.out | refine below_set ?_ GE233.out) | exact HB.out))); (case aF => exact (fun _ _ => trivial)); (case aO => exact (by (with_reducible repeat (first | apply Kd.S_alloc | apply Kd.S_drewN | apply Kd.S_drew)); exact Kd.S_mono HO_3.out (fun k_ hk => ⟨trivial, fun e_ => hk.2 e_⟩))); (case aS => exact (below_size (by repeat (first | (with_reducible first | exact HB.out | apply below_alloc | apply pw_below_drewN | apply below_drew1 | refine below_set ?_ GE230.out | refine below_set ?_ GE233.out) | exact HB.out)))); (case aL => have := LMc11.out; omega); intro v238 w17 ho hb hg hat; rw [← Ny237.out] at ho; have n0_ := Aside0.mk (blk_grown (g := gb230) (o := .cells #[.int .i64 a0_0, .slice (some ad231) l0_1.length c0_1] 29 (0, 0)) (by (with_reducible repeat (first | refine blk_drewN ?_ _ | refine blk_drew ?_ | refine blk_alloc ?_ _)); exact BK230.out) hg (Kd.S_ne HO_3.out BK230.out (by decide))); have n1_ := Aside0.mk (blk_grown (g := gb233) (o := .cells #[.int .i64 ((rd_T72 (rd_L9 l0_1 x11_1) x18_2).f0), .int .i64 ((rd_T72 (rd_L9 l0_1 x11_1) x18_2).f1), .int .i64 ((rd_T72 (rd_L9 l0_1 x11_1) x18_2).f2), .int .i64 ((rd_T72 (rd_L9 l0_1 x11_1) x18_2).f3.f0), .int .i64 ((rd_T72 (rd_L9 l0_1 x11_1) x18_2).f3.f1), .int .i64 ((rd_T72 (rd_L9 l0_1 x11_1) x18_2).f3.f2), .int .i64 ((rd_T72 (rd_L9 l0_1 x11_1) x18_2).f3.f3), .int .i64 ((rd_T72 (rd_L9 l0_1 x11_1) x18_2).f3.f4), .int .i64 ((rd_T72 (rd_L9 l0_1 x11_1) x18_2).f4.f0), .slice A232_9 ((rd_T72 (rd_L9 l0_1 x11_1) x18_2).f4.f1).length c232_9] 72 (0, 0)) (by (with_reducible repeat (first | refine blk_drewN ?_ _ | refine blk_drew ?_ | refine blk_alloc ?_ _)); exact BK233.out) hg (Kd.S_ne HO_3.out BK233.out (by decide))); have n2_ := Aside0.mk (hb); have n3_ := Aside0.mk (ho); clear BK230; clear BK233; clear HB; clear HO_3; clear HO236; have BK230 := n0_; have BK233 := n1_; have HB := n2_; have HO239 := n3_; clear n0_ n1_ n2_ n3_; clear ho hb hg hat))
                          go_roundg k2
                          case measure => have := HK1.out; have := HK2.out; omega
                          case rel => exact ⟨(y237), (wrap64 (x18_2 + 1)), (by first | rfl | (simp; done) | (simp [*]; done)), H', ⟨by have := HK1.out; have := HK2.out; omega⟩, ⟨by (with_reducible repeat (first | apply Kd.S_alloc | apply Kd.S_drewN | apply Kd.S_drew)); exact HO239.out⟩, ⟨by (with_reducible repeat (first | refine blk_drewN ?_ _ | refine blk_drew ?_ | refine blk_alloc ?_ _)); exact BK230.out⟩, ⟨by repeat (first | (with_reducible first | exact HB.out | apply below_alloc | apply pw_below_drewN | apply below_drew1 | refine below_set ?_ GE230.out | refine below_set ?_ GE233.out) | exact HB.out)⟩⟩
                        · rw [if_neg c11] at H
                          exact absurd H (by simp)
                      · rw [if_neg c10] at H
                        have c10b0 : (((rd_T72 (rd_L9 l0_1 x11_1) x18_2).f2) == 3) = false := beq_eq_false_iff_ne.mpr c10
                        have c10b1 : (((rd_T72 (rd_L9 l0_1 x11_1) x18_2).f2) != 3) = true := bne_iff_ne.mpr c10
                        have H' := Aside0.mk H
                        clear H
                        have p232 : 0 ≤ (x18_2 : Int) := of_decide_eq_true (by first | (with_reducible assumption) | assumption)
                        have q232 : x18_2 < ((rd_L9 l0_1 x11_1).length : Int) := of_decide_eq_true (by first | (with_reducible assumption) | assumption)
                        obtain ⟨ad232, A232_9, c232_9, e232, hx232_0, hx232_1, hx232_2, hx232_3, hx232_4, hx232_5, hx232_6, hx232_7, hx232_8, hx232_9, hl232_9, hi232_9⟩ := at_T72 HR231_0.out x18_2 p232 q232
                        cases e232
                        replace hx232_0 := (HB.out.cell (World.block_lt_of_cell? w _ hx232_0)).trans hx232_0
                        replace hx232_1 := (HB.out.cell (World.block_lt_of_cell? w _ hx232_1)).trans hx232_1
                        replace hx232_2 := (HB.out.cell (World.block_lt_of_cell? w _ hx232_2)).trans hx232_2
                        replace hx232_3 := (HB.out.cell (World.block_lt_of_cell? w _ hx232_3)).trans hx232_3
                        replace hx232_4 := (HB.out.cell (World.block_lt_of_cell? w _ hx232_4)).trans hx232_4
                        replace hx232_5 := (HB.out.cell (World.block_lt_of_cell? w _ hx232_5)).trans hx232_5
                        replace hx232_6 := (HB.out.cell (World.block_lt_of_cell? w _ hx232_6)).trans hx232_6
                        replace hx232_7 := (HB.out.cell (World.block_lt_of_cell? w _ hx232_7)).trans hx232_7
                        replace hx232_8 := (HB.out.cell (World.block_lt_of_cell? w _ hx232_8)).trans hx232_8
                        replace hx232_9 := (HB.out.cell (World.block_lt_of_cell? w _ hx232_9)).trans hx232_9
                        have HR232_9 := Aside0.mk hi232_9
                        have HC232_9 := Aside0.mk hl232_9
                        clear hi232_9 hl232_9
                        replace p232 := eq_true p232
                        replace q232 := eq_true q232
                        go_wp2_with (first | ((with_reducible refine gate_dst (N := 7) rfl ?_); refine box_event ?hg (N := 7) ?hd (cs := #[.int .i64 0, .int .i64 0, .int .i64 0, .int .i64 0, .int .i64 0, .int .i64 0, .int .i64 0, .int .i64 0, .int .i64 0, .slice none 0 0]) (t := 72) ?hr ?_; (case hd => rfl); (case hg => rfl); (case hr => first | (go_simp; done) | (go_simp; rfl)); intro gb233 hg w19 hbox hb; have n0_ := Aside0.mk (Kd.S_below (by (with_reducible repeat (first | apply Kd.S_alloc | apply Kd.S_drewN | apply Kd.S_drew)); exact HO_3.out) hb); have n1_ := Aside0.mk (blk_below (g := gb230) (o := .cells #[.int .i64 a0_0, .slice (some ad231) l0_1.length c0_1] 29 (0, 0)) (by (with_reducible repeat (first | refine blk_drewN ?_ _ | refine blk_drew ?_ | refine blk_alloc ?_ _)); exact BK230.out) hb); have n2_ := Aside0.mk (below_step (by repeat (first | (with_reducible first | exact HB.out | apply below_alloc | apply pw_below_drewN | apply below_drew1 | refine below_set ?_ GE230.out) | exact HB.out)) hb); have n3_ := Aside0.mk (hbox); have n4_ := Aside0.mk ((by rw [hg]; exact (below_size (by repeat (first | (with_reducible first | exact HB.out | apply below_alloc | apply pw_below_drewN | apply below_drew1 | refine below_set ?_ GE230.out) | exact HB.out))) : w.heap.size ≤ gb233)); have n5_ := Aside0.mk ((by rw [hg]; exact (below_size (by repeat (first | (with_reducible first | exact HB.out | apply below_alloc | apply pw_below_drewN | apply below_drew1 | refine below_set ?_ GE230.out) | exact HB.out))) : w.heap.size ≤ gb233)); have n6_ := Aside0.mk ((by rw [hg]; exact Nat.ne_of_lt (blk_lt (g := gb230) (o := .cells #[.int .i64 a0_0, .slice (some ad231) l0_1.length c0_1] 29 (0, 0)) (by (with_reducible repeat (first | refine blk_drewN ?_ _ | refine blk_drew ?_ | refine blk_alloc ?_ _)); exact BK230.out)) : gb230 ≠ gb233)); have n7_ := Aside0.mk ((by rw [hg]; exact Nat.ne_of_gt (blk_lt (g := gb230) (o := .cells #[.int .i64 a0_0, .slice (some ad231) l0_1.length c0_1] 29 (0, 0)) (by (with_reducible repeat (first | refine blk_drewN ?_ _ | refine blk_drew ?_ | refine blk_alloc ?_ _)); exact BK230.out)) : gb233 ≠ gb230)); clear HO_3; clear BK230; clear HB; have HO_3 := n0_; have BK230 := n1_; have HB := n2_; have BK233 := n3_; have GW233 := n4_; have GE233 := n5_; have NB230_233 := n6_; have NB233_230 := n7_; clear n0_ n1_ n2_ n3_ n4_ n5_ n6_ n7_; clear hb hbox hg; have hnb20 := NB233_230.out; have hnc20 := NB230_233.out; have hcz21_0 : w19.cell? ⟨gb233, 0, none⟩ = some (.int .i64 0) := (blk_cell BK233.out 0).trans rfl; have hcz21_1 : w19.cell? ⟨gb233, 1, none⟩ = some (.int .i64 0) := (blk_cell BK233.out 1).trans rfl; have hcz21_2 : w19.cell? ⟨gb233, 2, none⟩ = some (.int .i64 0) := (blk_cell BK233.out 2).trans rfl; have hcz21_3 : w19.cell? ⟨gb233, 3, none⟩ = some (.int .i64 0) := (blk_cell BK233.out 3).trans rfl; have hcz21_4 : w19.cell? ⟨gb233, 4, none⟩ = some (.int .i64 0) := (blk_cell BK233.out 4).trans rfl; have hcz21_5 : w19.cell? ⟨gb233, 5, none⟩ = some (.int .i64 0) := (blk_cell BK233.out 5).trans rfl; have hcz21_6 : w19.cell? ⟨gb233, 6, none⟩ = some (.int .i64 0) := (blk_cell BK233.out 6).trans rfl; have hcz21_7 : w19.cell? ⟨gb233, 7, none⟩ = some (.int .i64 0) := (blk_cell BK233.out 7).trans rfl; have hcz21_8 : w19.cell? ⟨gb233, 8, none⟩ = some (.int .i64 0) := (blk_cell BK233.out 8).trans rfl; have hcz21_9 : w19.cell? ⟨gb233, 9, none⟩ = some (.slice none 0 0) := (blk_cell BK233.out 9).trans rfl; have hfz21_0 := blk_frozen BK233.out 0; have hfz21_1 := blk_frozen BK233.out 1; have hfz21_2 := blk_frozen BK233.out 2; have hfz21_3 := blk_frozen BK233.out 3; have hfz21_4 := blk_frozen BK233.out 4; have hfz21_5 := blk_frozen BK233.out 5; have hfz21_6 := blk_frozen BK233.out 6; have hfz21_7 := blk_frozen BK233.out 7; have hfz21_8 := blk_frozen BK233.out 8; have hfz21_9 := blk_frozen BK233.out 9))
                        go_roundg k2
                        case measure => have := HK1.out; have := HK2.out; omega
                        case rel => exact ⟨(x3_2), (wrap64 (x18_2 + 1)), (by first | rfl | (simp; done) | (simp [*]; done)), H', ⟨by have := HK1.out; have := HK2.out; omega⟩, ⟨by (with_reducible repeat (first | apply Kd.S_alloc | apply Kd.S_drewN | apply Kd.S_drew)); exact Kd.S_mono (Kd.S_far (p := ⟨gb233, 9, none⟩) (Kd.S_far (p := ⟨gb233, 8, none⟩) (Kd.S_far (p := ⟨gb233, 7, none⟩) (Kd.S_far (p := ⟨gb233, 6, none⟩) (Kd.S_far (p := ⟨gb233, 5, none⟩) (Kd.S_far (p := ⟨gb233, 4, none⟩) (Kd.S_far (p := ⟨gb233, 3, none⟩) (Kd.S_far (p := ⟨gb233, 2, none⟩) (Kd.S_far (p := ⟨gb233, 1, none⟩) (Kd.S_far (p := ⟨gb233, 0, none⟩) (Kd.S_types HO_3.out BK233.out (by decide)) (fun _ hk => hk.2) (.int .i64 ((rd_T72 (rd_L9 l0_1 x11_1) x18_2).f0))) (fun _ hk => hk.2) (.int .i64 ((rd_T72 (rd_L9 l0_1 x11_1) x18_2).f1))) (fun _ hk => hk.2) (.int .i64 ((rd_T72 (rd_L9 l0_1 x11_1) x18_2).f2))) (fun _ hk => hk.2) (.int .i64 ((rd_T72 (rd_L9 l0_1 x11_1) x18_2).f3.f0))) (fun _ hk => hk.2) (.int .i64 ((rd_T72 (rd_L9 l0_1 x11_1) x18_2).f3.f1))) (fun _ hk => hk.2) (.int .i64 ((rd_T72 (rd_L9 l0_1 x11_1) x18_2).f3.f2))) (fun _ hk => hk.2) (.int .i64 ((rd_T72 (rd_L9 l0_1 x11_1) x18_2).f3.f3))) (fun _ hk => hk.2) (.int .i64 ((rd_T72 (rd_L9 l0_1 x11_1) x18_2).f3.f4))) (fun _ hk => hk.2) (.int .i64 ((rd_T72 (rd_L9 l0_1 x11_1) x18_2).f4.f0))) (fun _ hk => hk.2) (.slice A232_9 ((rd_T72 (rd_L9 l0_1 x11_1) x18_2).f4.f1).length c232_9)) (fun _ hk => trivial)⟩, ⟨by (with_reducible repeat (first | refine blk_drewN ?_ _ | refine blk_drew ?_ | refine blk_alloc ?_ _)); refine blk_far ?_ NB230_233.out _; (with_reducible repeat (first | refine blk_drewN ?_ _ | refine blk_drew ?_ | refine blk_alloc ?_ _)); refine blk_far ?_ NB230_233.out _; (with_reducible repeat (first | refine blk_drewN ?_ _ | refine blk_drew ?_ | refine blk_alloc ?_ _)); refine blk_far ?_ NB230_233.out _; (with_reducible repeat (first | refine blk_drewN ?_ _ | refine blk_drew ?_ | refine blk_alloc ?_ _)); refine blk_far ?_ NB230_233.out _; (with_reducible repeat (first | refine blk_drewN ?_ _ | refine blk_drew ?_ | refine blk_alloc ?_ _)); refine blk_far ?_ NB230_233.out _; (with_reducible repeat (first | refine blk_drewN ?_ _ | refine blk_drew ?_ | refine blk_alloc ?_ _)); refine blk_far ?_ NB230_233.out _; (with_reducible repeat (first | refine blk_drewN ?_ _ | refine blk_drew ?_ | refine blk_alloc ?_ _)); refine blk_far ?_ NB230_233.out _; (with_reducible repeat (first | refine blk_drewN ?_ _ | refine blk_drew ?_ | refine blk_alloc ?_ _)); refine blk_far ?_ NB230_233.out _; (with_reducible repeat (first | refine blk_drewN ?_ _ | refine blk_drew ?_ | refine blk_alloc ?_ _)); refine blk_far ?_ NB230_233.out _; (with_reducible repeat (first | refine blk_drewN ?_ _ | refine blk_drew ?_ | refine blk_alloc ?_ _)); refine blk_far ?_ NB230_233.out _; (with_reducible repeat (first | refine blk_drewN ?_ _ | refine blk_drew ?_ | refine blk_alloc ?_ _)); exact BK230.out⟩, ⟨by repeat (first | (with_reducible first | exact HB.out | apply below_alloc | apply pw_below_drewN | apply below_drew1 | refine below_set ?_ GE230.out | refine below_set ?_ GE233.out) | exact HB.out)⟩⟩
                    · rw [if_neg c9] at H
                      exact absurd H (by simp)
                  · rw [if_neg c8] at H
                    exact absurd H (by simp)
                · rw [if_neg c7] at H
                  have c7b0 : decide (x18_2 < ((rd_L9 l0_1 x11_1).length : Int)) = false := decide_eq_false c7
                  clear c7
                  have H' := Aside0.mk H
                  clear H
                  go_wp2
                  go_roundg k2
                  case measure => have := HK1.out; have := HK2.out; omega
                  case rel => exact ⟨(x3_2), (wrap64 (x11_1 + 1)), (by first | rfl | (simp; done) | (simp [*]; done)), H', ⟨by have := HK1.out; have := HK2.out; omega⟩, ⟨by (with_reducible repeat (first | apply Kd.S_alloc | apply Kd.S_drewN | apply Kd.S_drew)); exact HO_3.out⟩, ⟨by (with_reducible repeat (first | refine blk_drewN ?_ _ | refine blk_drew ?_ | refine blk_alloc ?_ _)); exact BK230.out⟩, ⟨by repeat (first | (with_reducible first | exact HB.out | apply below_alloc | apply pw_below_drewN | apply below_drew1 | refine below_set ?_ GE230.out) | exact HB.out)⟩⟩
          · rw [if_neg c6] at H
            exact absurd H (by simp)
        · rw [if_neg c5] at H
          exact absurd H (by simp)
      · rw [if_neg c4] at H
        have c4b0 : decide (x11_1 < (l0_1.length : Int)) = false := decide_eq_false c4
        clear c4
        obtain rfl := Option.some.inj H
        go_wp2
        go_ret
        exact ⟨_, by first | rfl | (simp [errW_none, errW_some] <;> rfl) | (simp [*, errW_none, errW_some] <;> rfl), by (with_reducible repeat (first | apply Kd.S_alloc | apply Kd.S_drewN | apply Kd.S_drew)); exact HO_3.out, by repeat (first | (with_reducible first | exact HB.out | apply below_alloc | apply pw_below_drewN | apply below_drew1 | refine below_set ?_ GE230.out) | exact HB.out)⟩

/-! ### spec_Committed: function 18 -/
def spec_Committed.f (k : Nat) (a0_0 : Int) (l0_1 : List (List (S72))) : Option ((List (List Int)) × Bool) := (spec_GoodTable.f k a0_0 l0_1).bind fun t241 => (if t241 = true then ((spec_l4Committed.f k a0_0 l0_1).bind fun t242 => (some (t242, true))) else (some (([] : List (List Int)), false)))
theorem spec_Committed.mono : ∀ a0 a1 k, LeO (spec_Committed.f k a0 a1) (spec_Committed.f (k + 1) a0 a1) := by
  intro a0 a1 k
  unfold spec_Committed.f
  repeat' first
      | (with_reducible exact spec_GoodTable.mono _ _ _)
      | (with_reducible exact spec_l4Committed.mono _ _ _)
      | (with_reducible exact LeO.refl _)
      | (with_reducible exact LeO.none _)
      | (with_reducible refine LeO.ite ?_ ?_)
      | (with_reducible refine LeO.bind ?_ (fun _ => ?_))
      | exact spec_GoodTable.mono _ _ _
      | exact spec_l4Committed.mono _ _ _
      | exact LeO.none _
      | refine LeO.ite ?_ ?_
      | refine LeO.bind ?_ (fun _ => ?_)
set_option maxHeartbeats 8000000 in
set_option maxRecDepth 100000 in
theorem spec_Committed.calls (k : Nat) (a0_0 : Int) (A0_1 : Option Addr) (c0_1 : Nat) (l0_1 : List (List (S72))) (r1 : List (List Int)) (r2 : Bool) (w : World) (hr0_1 : Kd.C (Kd.slice 72 k72) w A0_1 l0_1.length l0_1) (hc0_1 : l0_1.length ≤ c0_1) (h : spec_Committed.f k a0_0 l0_1 = some (r1, r2)) :
    Calls Try.prog 18 #[.agg #[.int .i64 a0_0, .slice A0_1 l0_1.length c0_1]] w fun e w' => ∃ v0_ : Value, e = .returned (.tuple #[v0_, .bool r2]) ∧ Kd.S (Kd.slice 3 (Kd.int .i64)) 44 w' w.heap.size (fun _ => True) v0_ r1 ∧ Below w.heap.size w w' := by
  have hu29 := Try.underlying29
  have HR0_1 := Aside0.mk hr0_1
  have HC0_1 := Aside0.mk hc0_1
  clear hr0_1 hc0_1
  have HB := Aside0.mk (Below.refl w.heap.size w)
  have H : ((spec_GoodTable.f k a0_0 l0_1).bind fun t241 => (if t241 = true then ((spec_l4Committed.f k a0_0 l0_1).bind fun t242 => (some (t242, true))) else (some (([] : List (List Int)), false)))) = some (r1, r2) := h
  clear h
  replace H := Option.bind_eq_some_iff.mp H
  obtain ⟨t241, A20, H⟩ := H
  replace H : (if t241 = true then ((spec_l4Committed.f k a0_0 l0_1).bind fun t242 => (some (t242, true))) else (some (([] : List (List Int)), false))) = some (r1, r2) := H
  have A2 := Aside0.mk A20
  clear A20
  by_cases c3 : t241 = true
  · subst c3
    have H1 : ((spec_l4Committed.f k a0_0 l0_1).bind fun t242 => (some (t242, true))) = some (r1, r2) := by rw [if_pos rfl] at H; exact H
    clear H
    have H := H1
    clear H1
    replace H := Option.bind_eq_some_iff.mp H
    obtain ⟨t242, A40, H⟩ := H
    replace H : (some (t242, true)) = some (r1, r2) := H
    have A4 := Aside0.mk A40
    clear A40
    simp only [Option.some.injEq, Prod.mk.injEq] at H
    obtain ⟨rfl, rfl⟩ := H
    go_enter Try.func18, Try.ntmps18
    go_wp2_with (first | ((with_reducible refine gate_dst (N := 1) rfl ?_); refine box_event ?hg (N := 1) ?hd (cs := #[.int .i64 a0_0, .slice A0_1 l0_1.length c0_1]) (t := 29) ?hr ?_; (case hd => rfl); (case hg => rfl); (case hr => first | (go_simp; done) | (go_simp; rfl)); intro gb240 hg w5 hbox hb; have n0_ := Aside0.mk (below_step (by repeat (first | (with_reducible first | exact HB.out | apply below_alloc | apply pw_below_drewN | apply below_drew1) | exact HB.out)) hb); have n1_ := Aside0.mk (hbox); have n2_ := Aside0.mk ((by rw [hg]; exact (below_size (by repeat (first | (with_reducible first | exact HB.out | apply below_alloc | apply pw_below_drewN | apply below_drew1) | exact HB.out))) : w.heap.size ≤ gb240)); have n3_ := Aside0.mk ((by rw [hg]; exact (below_size (by repeat (first | (with_reducible first | exact HB.out | apply below_alloc | apply pw_below_drewN | apply below_drew1) | exact HB.out))) : w.heap.size ≤ gb240)); clear HB; have HB := n0_; have BK240 := n1_; have GW240 := n2_; have GE240 := n3_; clear n0_ n1_ n2_ n3_; clear hb hbox hg; have hcz6_0 : w5.cell? ⟨gb240, 0, none⟩ = some (.int .i64 a0_0) := (blk_cell BK240.out 0).trans rfl; have hcz6_1 : w5.cell? ⟨gb240, 1, none⟩ = some (.slice A0_1 l0_1.length c0_1) := (blk_cell BK240.out 1).trans rfl; have hfz6_0 := blk_frozen BK240.out 0; have hfz6_1 := blk_frozen BK240.out 1) | ((with_reducible refine gate_callee (f := 10) rfl ?_); refine goesL_ (some 5) rfl rfl Try.func10 (by kernel_rfl) rfl #[.agg #[.int .i64 a0_0, .slice A0_1 l0_1.length c0_1]] rfl (by (try simp only [List.map_toArray, List.map_cons, List.map_nil]); first | done | rfl | (simp only [List.length_drop, List.length_take]; rfl)) ?_; (with_reducible refine (spec_GoodTable.calls k a0_0 _ _ l0_1 true _ ?side1 ?side2 A2.out).mono ?_); (case side1 => repeat (first | exact (Kd.C_below HR0_1.out HB.out) | (with_reducible refine Kd.C_alloc ?_ _) | (with_reducible refine Kd.C_drewN ?_ _) | (with_reducible refine Kd.C_drew ?_))); (case side2 => exact HC0_1.out); rintro e w7 ⟨rfl, hb⟩; refine ⟨_, rfl, ?_⟩; have n0_ := Aside0.mk (blk_below (g := gb240) (o := .cells #[.int .i64 a0_0, .slice A0_1 l0_1.length c0_1] 29 (0, 0)) (by (with_reducible repeat (first | refine blk_drewN ?_ _ | refine blk_drew ?_ | refine blk_alloc ?_ _)); exact BK240.out) hb); have n1_ := Aside0.mk (below_step (by repeat (first | (with_reducible first | exact HB.out | apply below_alloc | apply pw_below_drewN | apply below_drew1 | refine below_set ?_ GE240.out) | exact HB.out)) hb); clear BK240; clear HB; have BK240 := n0_; have HB := n1_; clear n0_ n1_; (try clear hb); (try clear hb2); (try clear hk); (try clear hi); have hcz8_0 : w7.cell? ⟨gb240, 0, none⟩ = some (.int .i64 a0_0) := (blk_cell BK240.out 0).trans rfl; have hcz8_1 : w7.cell? ⟨gb240, 1, none⟩ = some (.slice A0_1 l0_1.length c0_1) := (blk_cell BK240.out 1).trans rfl; have hfz8_0 := blk_frozen BK240.out 0; have hfz8_1 := blk_frozen BK240.out 1) | ((with_reducible refine gate_callee (f := 53) rfl ?_); refine goesL_ (some 8) rfl rfl Try.func53 (by kernel_rfl) rfl #[.agg #[.int .i64 a0_0, .slice A0_1 l0_1.length c0_1]] rfl (by (try simp only [List.map_toArray, List.map_cons, List.map_nil]); first | done | rfl | (simp only [List.length_drop, List.length_take]; rfl)) ?_; (with_reducible refine (spec_l4Committed.calls k a0_0 _ _ l0_1 t242 _ ?side1 ?side2 A4.out).mono ?_); (case side1 => repeat (first | exact (Kd.C_below HR0_1.out HB.out) | (with_reducible refine Kd.C_alloc ?_ _) | (with_reducible refine Kd.C_drewN ?_ _) | (with_reducible refine Kd.C_drew ?_))); (case side2 => exact HC0_1.out); rintro e w9 ⟨v243, rfl, ho0, hb⟩; refine ⟨_, rfl, ?_⟩; have n0_ := Aside0.mk (Kd.S_lower ho0 (below_size (by repeat (first | (with_reducible first | exact HB.out | apply below_alloc | apply pw_below_drewN | apply below_drew1 | refine below_set ?_ GE240.out) | exact HB.out)))); have n1_ := Aside0.mk (blk_below (g := gb240) (o := .cells #[.int .i64 a0_0, .slice A0_1 l0_1.length c0_1] 29 (0, 0)) (by (with_reducible repeat (first | refine blk_drewN ?_ _ | refine blk_drew ?_ | refine blk_alloc ?_ _)); exact BK240.out) hb); have n2_ := Aside0.mk (below_step (by repeat (first | (with_reducible first | exact HB.out | apply below_alloc | apply pw_below_drewN | apply below_drew1 | refine below_set ?_ GE240.out) | exact HB.out)) hb); clear BK240; clear HB; have HO244 := n0_; have BK240 := n1_; have HB := n2_; clear n0_ n1_ n2_; (try clear hb); (try clear hb2); (try clear hk); (try clear hi); (try clear ho0)))
    go_ret2
    exact ⟨_, by first | rfl | (simp [errW_none, errW_some] <;> rfl) | (simp [*, errW_none, errW_some] <;> rfl), by (with_reducible repeat (first | apply Kd.S_alloc | apply Kd.S_drewN | apply Kd.S_drew)); exact HO244.out, by repeat (first | (with_reducible first | exact HB.out | apply below_alloc | apply pw_below_drewN | apply below_drew1 | refine below_set ?_ GE240.out) | exact HB.out)⟩
  · replace c3 := Bool.eq_false_iff.mpr c3
    subst c3
    have H1 : (some (([] : List (List Int)), false)) = some (r1, r2) := by rw [if_neg (show ¬ (false = true) by decide)] at H; exact H
    clear H
    have H := H1
    clear H1
    simp only [Option.some.injEq, Prod.mk.injEq] at H
    obtain ⟨rfl, rfl⟩ := H
    go_enter Try.func18, Try.ntmps18
    go_wp2_with (first | ((with_reducible refine gate_dst (N := 1) rfl ?_); refine box_event ?hg (N := 1) ?hd (cs := #[.int .i64 a0_0, .slice A0_1 l0_1.length c0_1]) (t := 29) ?hr ?_; (case hd => rfl); (case hg => rfl); (case hr => first | (go_simp; done) | (go_simp; rfl)); intro gb240 hg w10 hbox hb; have n0_ := Aside0.mk (below_step (by repeat (first | (with_reducible first | exact HB.out | apply below_alloc | apply pw_below_drewN | apply below_drew1) | exact HB.out)) hb); have n1_ := Aside0.mk (hbox); have n2_ := Aside0.mk ((by rw [hg]; exact (below_size (by repeat (first | (with_reducible first | exact HB.out | apply below_alloc | apply pw_below_drewN | apply below_drew1) | exact HB.out))) : w.heap.size ≤ gb240)); have n3_ := Aside0.mk ((by rw [hg]; exact (below_size (by repeat (first | (with_reducible first | exact HB.out | apply below_alloc | apply pw_below_drewN | apply below_drew1) | exact HB.out))) : w.heap.size ≤ gb240)); clear HB; have HB := n0_; have BK240 := n1_; have GW240 := n2_; have GE240 := n3_; clear n0_ n1_ n2_ n3_; clear hb hbox hg; have hcz11_0 : w10.cell? ⟨gb240, 0, none⟩ = some (.int .i64 a0_0) := (blk_cell BK240.out 0).trans rfl; have hcz11_1 : w10.cell? ⟨gb240, 1, none⟩ = some (.slice A0_1 l0_1.length c0_1) := (blk_cell BK240.out 1).trans rfl; have hfz11_0 := blk_frozen BK240.out 0; have hfz11_1 := blk_frozen BK240.out 1) | ((with_reducible refine gate_callee (f := 10) rfl ?_); refine goesL_ (some 5) rfl rfl Try.func10 (by kernel_rfl) rfl #[.agg #[.int .i64 a0_0, .slice A0_1 l0_1.length c0_1]] rfl (by (try simp only [List.map_toArray, List.map_cons, List.map_nil]); first | done | rfl | (simp only [List.length_drop, List.length_take]; rfl)) ?_; (with_reducible refine (spec_GoodTable.calls k a0_0 _ _ l0_1 false _ ?side1 ?side2 A2.out).mono ?_); (case side1 => repeat (first | exact (Kd.C_below HR0_1.out HB.out) | (with_reducible refine Kd.C_alloc ?_ _) | (with_reducible refine Kd.C_drewN ?_ _) | (with_reducible refine Kd.C_drew ?_))); (case side2 => exact HC0_1.out); rintro e w12 ⟨rfl, hb⟩; refine ⟨_, rfl, ?_⟩; have n0_ := Aside0.mk (blk_below (g := gb240) (o := .cells #[.int .i64 a0_0, .slice A0_1 l0_1.length c0_1] 29 (0, 0)) (by (with_reducible repeat (first | refine blk_drewN ?_ _ | refine blk_drew ?_ | refine blk_alloc ?_ _)); exact BK240.out) hb); have n1_ := Aside0.mk (below_step (by repeat (first | (with_reducible first | exact HB.out | apply below_alloc | apply pw_below_drewN | apply below_drew1 | refine below_set ?_ GE240.out) | exact HB.out)) hb); clear BK240; clear HB; have BK240 := n0_; have HB := n1_; clear n0_ n1_; (try clear hb); (try clear hb2); (try clear hk); (try clear hi)))
    go_ret2
    exact ⟨_, by first | rfl | (simp [errW_none, errW_some] <;> rfl) | (simp [*, errW_none, errW_some] <;> rfl), by first | exact Kd.S_nil _ _ _ _ _ | exact Kd.N_nil _ _ _ _ _ | exact Kd.V_nil _ _ _ _ _ | exact Kd.Q_nil _ _ _ _ _ | exact Kd.R_nil _ _ _ _ _, by repeat (first | (with_reducible first | exact HB.out | apply below_alloc | apply pw_below_drewN | apply below_drew1 | refine below_set ?_ GE240.out) | exact HB.out)⟩

/-! ### impl_IsGroup: function 42 -/
def impl_IsGroup.f (a0 : Int) : Option (Bool) := if a0 = 3 then (some true) else (some (a0 == 5))
set_option maxHeartbeats 8000000 in
set_option maxRecDepth 100000 in
theorem impl_IsGroup.calls (a0 : Int) (r : Bool) (w : World) (h : impl_IsGroup.f a0 = some r) :
    Calls Try.prog 42 #[.int .i64 a0] w fun e w' => e = .returned (.bool r) ∧ Drawn0 w w' := by
  have H : (if a0 = 3 then (some true) else (some (a0 == 5))) = some r := h
  clear h
  by_cases c2 : a0 = 3
  · rw [if_pos c2] at H
    have c2b0 : (a0 == 3) = true := beq_iff_eq.mpr c2
    have c2b1 : (a0 != 3) = false := bne_eq_false_iff_eq.mpr c2
    clear c2
    obtain rfl := Option.some.inj H
    go_enter Try.func42, Try.ntmps42
    go_wp2
    go_ret
    exact ⟨by first | rfl | (simp; done) | (simp [*]; done), by repeat (first | exact Drawn0.refl _ | apply Drawn0.step)⟩
  · rw [if_neg c2] at H
    have c2b0 : (a0 == 3) = false := beq_eq_false_iff_ne.mpr c2
    have c2b1 : (a0 != 3) = true := bne_iff_ne.mpr c2
    obtain rfl := Option.some.inj H
    go_enter Try.func42, Try.ntmps42
    go_wp2
    go_ret
    exact ⟨by first | rfl | (simp; done) | (simp [*]; done), by repeat (first | exact Drawn0.refl _ | apply Drawn0.step)⟩

/-! ### impl_Row_80: function 80 -/
set_option maxHeartbeats 2000000 in
set_option maxRecDepth 100000 in
theorem impl_Row_80.anyO (g : Nat) (lb : Array Value) (p : (List (S72)) → Option Bool) (A : Option Addr) (c : Nat) (xs : List (List (S72))) (w : World) (r : Int)
    (eg : ∀ args w, (callFunc g args).run Try.prog w = .ok (.enter g args) w)
    (hr : Kd.C (Kd.slice 72 k72) w A xs.length xs) (hc : xs.length ≤ c)
    (hp : ∀ (W : World) (x : (List (S72))) (A : Option Addr) (c : Nat), x ∈ xs → Below w.heap.size w W → Kd.C k72 W A x.length x → x.length ≤ c → ∀ b : Bool, p x = some b → Calls Try.prog g (#[.slice A x.length c] ++ lb) W fun e w' => e = .returned (.bool b) ∧ Below W.heap.size W w') (h : Mine.idxO p xs 0 = some r) :
    Calls Try.prog 80 #[.slice A xs.length c, .func (.func g) #[] lb] w fun e w' => e = .returned (.int .i64 r) ∧ Below w.heap.size w w' := by
  have hm : xs.length ≤ 9223372036854775807 := hr.2.1
  have HR := Aside0.mk hr
  have HP := Aside0.mk hp
  have HI := Aside0.mk h
  clear hr hp h
  go_enter Try.func80, Try.ntmps80
  go_wp2
  go_loopg [5, 8] xs.length (fun gg _ s8 wr => ∃ kk : Nat, kk ≤ xs.length ∧ xs.length - kk ≤ gg ∧ s8 = .int .i64 kk ∧ Aside0 (Below w.heap.size w wr) ∧ Aside0 (Mine.idxO p (xs.drop kk) (kk : Int) = some r))
  case atStart => exact ⟨0, Nat.zero_le _, by omega, rfl, ⟨Below.refl _ w⟩, ⟨by simpa using HI.out⟩⟩
  case round =>
    obtain ⟨kk, hkk, hg, rfl, BW, PF⟩ := hrel
    by_cases hlt : kk < xs.length
    · have hltz : (kk : Int) < (xs.length : Int) := by omega
      obtain ⟨ad, _, _, rfl, hx0, hl0, hi0⟩ := at_L9 (Kd.C_below HR.out BW.out) (kk : Int) (by omega) hltz
      simp only [Int.toNat_natCast] at hx0
      have hy : Aside0 (xs.getD kk [] = rd_L9 xs (kk : Int)) := ⟨by unfold rd_L9; rw [Int.toNat_natCast]⟩
      have hmem : rd_L9 xs (kk : Int) ∈ xs := by rw [← hy.out]; exact Mine.getD_mem _ _ _ hlt
      have PG : Aside0 ((p (rd_L9 xs (kk : Int))).bind (fun b => if b = true then some (kk : Int) else Mine.idxO p (xs.drop (kk + 1)) ((kk : Int) + 1)) = some r) := ⟨by have h_ := PF.out; rw [Mine.drop_at xs [] kk hlt, hy.out] at h_; exact h_⟩
      have hcall := HP.out wr (rd_L9 xs (kk : Int)) _ _ hmem BW.out hi0 hl0
      clear hmem PF
      clear hi0 hl0
      generalize rd_L9 xs (kk : Int) = y at hx0 hcall hy PG
      cases hq : p y with
      | none => exact absurd PG.out (by rw [hq]; simp)
      | some b =>
        have hcall := hcall b hq
        have PG : Aside0 ((if b = true then some (kk : Int) else Mine.idxO p (xs.drop (kk + 1)) ((kk : Int) + 1)) = some r) := ⟨by have h_ := PG.out; rw [hq] at h_; exact h_⟩
        clear hq hy
        cases b with
        | true =>
          obtain rfl := Option.some.inj PG.out
          clear PG
          go_wp2_with fail
          refine hcall.mono ?_; rintro e w' ⟨rfl, hb'⟩
          go_wp2
          go_ret
          exact ⟨rfl, below_then BW.out BW.out.size hb'⟩
        | false =>
          go_wp2_with fail
          refine hcall.mono ?_; rintro e w' ⟨rfl, hb'⟩
          go_wp2
          go_roundg (xs.length - (kk + 1))
          case measure => omega
          case rel => exact ⟨kk + 1, by omega, by omega, by go_num, ⟨below_then BW.out BW.out.size hb'⟩, ⟨by have h_ := PG.out; simpa using h_⟩⟩
    · have hltz : ¬ (kk : Int) < (xs.length : Int) := by omega
      obtain rfl : kk = xs.length := by omega
      have PG : Aside0 ((-1 : Int) = r) := ⟨by have h_ := PF.out; rw [List.drop_eq_nil_of_le (Nat.le_refl _)] at h_; exact Option.some.inj h_⟩
      clear PF
      go_wp2
      go_ret
      refine ⟨?_, BW.out⟩
      rw [← PG.out]
      first | done | rfl
theorem impl_Row_80.any (g : Nat) (lb : Array Value) (p : (List (S72)) → Bool) (A : Option Addr) (c : Nat) (xs : List (List (S72))) (w : World)
    (eg : ∀ args w, (callFunc g args).run Try.prog w = .ok (.enter g args) w)
    (hr : Kd.C (Kd.slice 72 k72) w A xs.length xs) (hc : xs.length ≤ c)
    (hp : ∀ (W : World) (x : (List (S72))) (A : Option Addr) (c : Nat), x ∈ xs → Below w.heap.size w W → Kd.C k72 W A x.length x → x.length ≤ c → Calls Try.prog g (#[.slice A x.length c] ++ lb) W fun e w' => e = .returned (.bool (p x)) ∧ Below W.heap.size W w') :
    Calls Try.prog 80 #[.slice A xs.length c, .func (.func g) #[] lb] w fun e w' => e = .returned (.int .i64 (Mine.idxP p xs 0)) ∧ Below w.heap.size w w' :=
  impl_Row_80.anyO g lb (fun x => some (p x)) A c xs w _ eg hr hc (fun W x A c hx bW hi hl b hb_ => by cases hb_; exact hp W x A c hx bW hi hl) (Mine.idxO_total (fun _ _ => rfl) 0)

/-! ### impl_Row_43: function 43 -/
set_option maxHeartbeats 2000000 in
theorem impl_Row_43.anyO (g : Nat) (lb : Array Value) (p : (List (S72)) → Option Bool) (A : Option Addr) (c : Nat) (xs : List (List (S72))) (w : World) (r : Bool)
    (eg : ∀ args w, (callFunc g args).run Try.prog w = .ok (.enter g args) w)
    (hr : Kd.C (Kd.slice 72 k72) w A xs.length xs) (hc : xs.length ≤ c)
    (hp : ∀ (W : World) (x : (List (S72))) (A : Option Addr) (c : Nat), x ∈ xs → Below w.heap.size w W → Kd.C k72 W A x.length x → x.length ≤ c → ∀ b : Bool, p x = some b → Calls Try.prog g (#[.slice A x.length c] ++ lb) W fun e w' => e = .returned (.bool b) ∧ Below W.heap.size W w') (h : Mine.anyO p xs = some r) :
    Calls Try.prog 43 #[.slice A xs.length c, .func (.func g) #[] lb] w fun e w' => e = .returned (.bool r) ∧ Below w.heap.size w w' := by
  obtain ⟨y, hi, he⟩ := Mine.anyO_idx p xs r h
  have hcall := impl_Row_80.anyO g lb p A c xs w y eg hr hc hp hi
  have he := Aside0.mk he
  clear hp hr eg hi h
  go_enter Try.func43, Try.ntmps43
  go_wp2_with fail
  refine hcall.mono ?_; rintro e w' ⟨rfl, hb'⟩
  go_wp2
  go_ret
  refine ⟨?_, hb'⟩
  rw [← he.out]
  rfl
theorem impl_Row_43.any (g : Nat) (lb : Array Value) (p : (List (S72)) → Bool) (A : Option Addr) (c : Nat) (xs : List (List (S72))) (w : World)
    (eg : ∀ args w, (callFunc g args).run Try.prog w = .ok (.enter g args) w)
    (hr : Kd.C (Kd.slice 72 k72) w A xs.length xs) (hc : xs.length ≤ c)
    (hp : ∀ (W : World) (x : (List (S72))) (A : Option Addr) (c : Nat), x ∈ xs → Below w.heap.size w W → Kd.C k72 W A x.length x → x.length ≤ c → Calls Try.prog g (#[.slice A x.length c] ++ lb) W fun e w' => e = .returned (.bool (p x)) ∧ Below W.heap.size W w') :
    Calls Try.prog 43 #[.slice A xs.length c, .func (.func g) #[] lb] w fun e w' => e = .returned (.bool (Mine.anyP p xs)) ∧ Below w.heap.size w w' :=
  impl_Row_43.anyO g lb (fun x => some (p x)) A c xs w _ eg hr hc (fun W x A c hx bW hi hl b hb_ => by cases hb_; exact hp W x A c hx bW hi hl) (Mine.anyO_total (fun _ _ => rfl))

end Go.Proofs.Ytacpjifbgnlppaa.QFnExactCommitted
