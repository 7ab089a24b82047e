-- Written by a program of this session (wip/mk.py) over the kit's print: Lean checks it.
import Derived.Test.YteecmbfebenjjaaQFnTellsSamex0
import Derived.Test.YteecmbfebenjjaaQFnTellsSamex1
namespace Go.Proofs.Yteecmbfebenjjaa.QFnTellsSame
open Go.Proofs.YteecmbfebenjjaaW.PrintWords renaming below_alloc → Ba, pw_below_drewN → Bn, below_drew1 → Bd, below_set → Bs, below_size → Bz, below_step → Bt, gate_dst → Gd, box_event → Be, blk_alloc → Ka, blk_drewN → Kn, blk_drew → Ke, blk_below → Kb, blk_cell → Kc, blk_far → Kf, blk_frozen → Kz
open Go.World renaming block_lt_of_cell? → bl_
open Go.Proofs.YteecmbfebenjjaaW.PrintWords.Aside0 renaming mk → Am
open Go.Proofs.YteecmbfebenjjaaW.PrintWords renaming Aside0 → Ad
open Go.RowKit Go.Proofs.YteecmbfebenjjaaW.PrintWords Go.Proofs.YteecmbfebenjjaaW.PrintLast Go.Proofs.YteecmbfebenjjaaW.PrintMore
attribute [local go_sem] max2_int min2_int max_two min_two max_three min_three max_four min_four   -- for this text's walks alone
set_option linter.unusedVariables false
set_option linter.unusedSimpArgs false
attribute [local go_sem high] eqA26
def spec_l11Once.l0 : Nat → Int → List (S26) → Int → Int → Int → Int → Int → Int → Int → Option (Int)
 | 0, _, _, _, _, _, _, _, _, _ => none
 | k + 1, x5, x8, x9, x10, x312000, x312001, x312002, x312003, x312004 => if x10 < x9 then (if 0 ≤ x10 then (if x10 < (x8.length : Int) then (if (!(((rd_T26 x8 x10).f0) == x312000) || (!(((rd_T26 x8 x10).f1) == x312001) || (!(((rd_T26 x8 x10).f2) == x312002) || (!(((rd_T26 x8 x10).f3) == x312003) || (!(((rd_T26 x8 x10).f4) == x312004)))))) = true then (spec_l11Once.l0 k x5 x8 x9 (wrap64 (x10 + 1)) x312000 x312001 x312002 x312003 x312004) else (if x5 ≥ 0 then (some (-1)) else (spec_l11Once.l0 k x10 x8 x9 (wrap64 (x10 + 1)) x312000 x312001 x312002 x312003 x312004))) else (none)) else (none)) else (some x5)
def spec_l11Once.f (k : Nat) (l0 : List (S26)) (a1_0 : Int) (a1_1 : Int) (a1_2 : Int) (a1_3 : Int) (a1_4 : Int) : Option (Int) := spec_l11Once.l0 k (-1) l0 (l0.length : Int) 0 a1_0 a1_1 a1_2 a1_3 a1_4
theorem spec_l11Once.mono_l : ∀ k, (∀ y0 y1 y2 y3 y4 y5 y6 y7 y8, LeO (spec_l11Once.l0 k y0 y1 y2 y3 y4 y5 y6 y7 y8) (spec_l11Once.l0 (k + 1) y0 y1 y2 y3 y4 y5 y6 y7 y8))
 | 0 => fun _ _ _ _ _ _ _ _ _ r h => by simp [spec_l11Once.l0] at h
 | k + 1 => by
  have ih0 := spec_l11Once.mono_l k
  ·intro y0 y1 y2 y3 y4 y5 y6 y7 y8
   unfold spec_l11Once.l0
   repeat' first
   | (with_reducible exact ih0 _ _ _ _ _ _ _ _ _)
   | (with_reducible exact LeO.refl _)
   | (with_reducible exact LeO.none _)
   | (with_reducible refine LeO.ite ?_ ?_)
   | (with_reducible refine LeO.bind ?_ (fun _ => ?_))
   | exact ih0 _ _ _ _ _ _ _ _ _
   | exact LeO.none _
   | refine LeO.ite ?_ ?_
   | refine LeO.bind ?_ (fun _ => ?_)
theorem spec_l11Once.mono : ∀ a0 a1 a2 a3 a4 a5 k, LeO (spec_l11Once.f k a0 a1 a2 a3 a4 a5) (spec_l11Once.f (k + 1) a0 a1 a2 a3 a4 a5) := by
 intro a0 a1 a2 a3 a4 a5 k
 have ih0 := spec_l11Once.mono_l k
 unfold spec_l11Once.f
 repeat' first
   | (with_reducible exact ih0 _ _ _ _ _ _ _ _ _)
   | (with_reducible exact LeO.refl _)
   | (with_reducible exact LeO.none _)
   | (with_reducible refine LeO.ite ?_ ?_)
   | (with_reducible refine LeO.bind ?_ (fun _ => ?_))
   | exact ih0 _ _ _ _ _ _ _ _ _
   | exact LeO.none _
   | refine LeO.ite ?_ ?_
   | refine LeO.bind ?_ (fun _ => ?_)
set_option maxHeartbeats 8000000 in
set_option maxRecDepth 100000 in
theorem spec_l11Once.calls (k : Nat) (A0 : Option Addr) (c0 : Nat) (l0 : List (S26)) (a1_0 : Int) (a1_1 : Int) (a1_2 : Int) (a1_3 : Int) (a1_4 : Int) (r : Int) (w : World) (hr0 : Kd.C k26 w A0 l0.length l0) (hc0 : l0.length ≤ c0) (h : spec_l11Once.f k l0 a1_0 a1_1 a1_2 a1_3 a1_4 = some r) :
  Calls Try.prog 90 #[.slice A0 l0.length c0, .agg #[.int .i64 a1_0, .int .i64 a1_1, .int .i64 a1_2, .int .i64 a1_3, .int .i64 a1_4]] w fun e w' => e = .returned (.int .i64 r) ∧ Below w.heap.size w w' := by
 have hu26 := Try.underlying26
 have HR0 := Am hr0
 have HC0 := Am hc0
 clear hr0 hc0
 have HB := Am (Below.refl w.heap.size w)
 have H : (spec_l11Once.l0 k (-1) l0 (l0.length : Int) 0 a1_0 a1_1 a1_2 a1_3 a1_4) = some r := h
 clear h
 have H' := Am H
 clear H
 go_enter Try.func90, Try.ntmps90
 go_wp2_with (first | ((refine Gd (N := 3) rfl ?_); refine Be ?hg (N := 3) ?hd (cs := #[.int .i64 a1_0, .int .i64 a1_1, .int .i64 a1_2, .int .i64 a1_3, .int .i64 a1_4]) (t := 26) ?hr ?_; (case hd | hg => rfl); (case hr => first | (go_simp; done) | (go_simp; rfl)); intro gb311 hg w3 hbox hb; have n0_ := Am (Bt (by repeat (first | exact HB.out | apply Ba | apply Bn | apply Bd)) hb); have n1_ := Am (hbox); have n2_ := Am ((by rw [hg]; exact (Bz (by repeat (first | exact HB.out | apply Ba | apply Bn | apply Bd))) : w.heap.size ≤ gb311)); have n3_ := Am ((by rw [hg]; exact (Bz (by repeat (first | exact HB.out | apply Ba | apply Bn | apply Bd))) : w.heap.size ≤ gb311)); clear HB; have HB := n0_; have BK311 := n1_; have GW311 := n2_; have GE311 := n3_; clear n0_ n1_ n2_ n3_; clear hb hbox hg))
 go_loopg [5, 10] k (fun kq v5 v10 w' => ∃ (x5_1 : Int) (x10_1 : Int), v5 = .int .i64 x5_1 ∧ v10 = .int .i64 x10_1 ∧ Ad (spec_l11Once.l0 kq x5_1 l0 (l0.length : Int) x10_1 a1_0 a1_1 a1_2 a1_3 a1_4 = some r) ∧ Ad (kq ≤ k) ∧ Ad (w'.heap[gb311]? = some (.cells #[.int .i64 a1_0, .int .i64 a1_1, .int .i64 a1_2, .int .i64 a1_3, .int .i64 a1_4] 26 (0, 0))) ∧ Ad (Below w.heap.size w w'))
 case atStart => exact ⟨((-1)), (0), (by first | rfl | (simp; done) | (simp [*]; done)), (by first | rfl | (simp; done) | (simp [*]; done)), H', ⟨Nat.le_refl _⟩, ⟨by (with_reducible repeat (first | refine Kn ?_ _ | refine Ke ?_ | refine Ka ?_ _)); exact BK311.out⟩, ⟨by repeat (first | (with_reducible first | exact HB.out | apply Ba | apply Bn | apply Bd | refine Bs ?_ GE311.out) | exact HB.out)⟩⟩
 case round =>
  clear H'
  try clear p2
  obtain ⟨x5_1, x10_1, rfl, rfl, HA, HK1, BK311, HB⟩ := hrel
  cases gk with
  | zero => exact absurd HA.out (by simp [spec_l11Once.l0])
  | succ k1 =>
   have H := HA.out
   clear HA
   simp only [spec_l11Once.l0] at H
   by_cases c4 : x10_1 < (l0.length : Int)
   ·rw [if_pos c4] at H
    have c4b0 : decide (x10_1 < (l0.length : Int)) = true := decide_eq_true c4
    clear c4
    by_cases c5 : 0 ≤ x10_1
    ·rw [if_pos c5] at H
     have c5b0 : decide (0 ≤ x10_1) = true := decide_eq_true c5
     clear c5
     by_cases c6 : x10_1 < (l0.length : Int)
     ·rw [if_pos c6] at H
      have c6b0 : decide (x10_1 < (l0.length : Int)) = true := decide_eq_true c6
      clear c6
      by_cases c7 : (!(((rd_T26 l0 x10_1).f0) == a1_0) || (!(((rd_T26 l0 x10_1).f1) == a1_1) || (!(((rd_T26 l0 x10_1).f2) == a1_2) || (!(((rd_T26 l0 x10_1).f3) == a1_3) || (!(((rd_T26 l0 x10_1).f4) == a1_4)))))) = true
      ·rw [if_pos c7] at H
       have c7b0 : (!(((rd_T26 l0 x10_1).f0) == a1_0) || (!(((rd_T26 l0 x10_1).f1) == a1_1) || (!(((rd_T26 l0 x10_1).f2) == a1_2) || (!(((rd_T26 l0 x10_1).f3) == a1_3) || (!(((rd_T26 l0 x10_1).f4) == a1_4)))))) = true := c7
       clear c7
       have H' := Am H
       clear H
       have p312 : 0 ≤ (x10_1 : Int) := of_decide_eq_true (by assumption)
       have q312 : x10_1 < (l0.length : Int) := of_decide_eq_true (by assumption)
       obtain ⟨ad312, e312, hx312_0, hx312_1, hx312_2, hx312_3, hx312_4⟩ := at_T26 HR0.out x10_1 p312 q312
       cases e312
       replace hx312_0 := (HB.out.cell (bl_ w _ hx312_0)).trans hx312_0
       replace hx312_1 := (HB.out.cell (bl_ w _ hx312_1)).trans hx312_1
       replace hx312_2 := (HB.out.cell (bl_ w _ hx312_2)).trans hx312_2
       replace hx312_3 := (HB.out.cell (bl_ w _ hx312_3)).trans hx312_3
       replace hx312_4 := (HB.out.cell (bl_ w _ hx312_4)).trans hx312_4
       replace p312 := eq_true p312
       replace q312 := eq_true q312
       go_wp2_with (first | ((refine Gd (N := 7) rfl ?_); refine Be ?hg (N := 7) ?hd (cs := #[.int .i64 0, .int .i64 0, .int .i64 0, .int .i64 0, .int .i64 0]) (t := 26) ?hr ?_; (case hd | hg => rfl); (case hr => first | (go_simp; done) | (go_simp; rfl)); intro gb313 hg w8 hbox hb; have n0_ := Am (Kb (g := gb311) (o := .cells #[.int .i64 a1_0, .int .i64 a1_1, .int .i64 a1_2, .int .i64 a1_3, .int .i64 a1_4] 26 (0, 0)) (by (with_reducible repeat (first | refine Kn ?_ _ | refine Ke ?_ | refine Ka ?_ _)); exact BK311.out) hb); have n1_ := Am (Bt (by repeat (first | (with_reducible first | exact HB.out | apply Ba | apply Bn | apply Bd | refine Bs ?_ GE311.out) | exact HB.out)) hb); have n2_ := Am (hbox); have n3_ := Am ((by rw [hg]; exact (Bz (by repeat (first | (with_reducible first | exact HB.out | apply Ba | apply Bn | apply Bd | refine Bs ?_ GE311.out) | exact HB.out))) : w.heap.size ≤ gb313)); have n4_ := Am ((by rw [hg]; exact (Bz (by repeat (first | (with_reducible first | exact HB.out | apply Ba | apply Bn | apply Bd | refine Bs ?_ GE311.out) | exact HB.out))) : w.heap.size ≤ gb313)); have n5_ := Am ((by rw [hg]; exact Nat.ne_of_lt (blk_lt (g := gb311) (o := .cells #[.int .i64 a1_0, .int .i64 a1_1, .int .i64 a1_2, .int .i64 a1_3, .int .i64 a1_4] 26 (0, 0)) (by (with_reducible repeat (first | refine Kn ?_ _ | refine Ke ?_ | refine Ka ?_ _)); exact BK311.out)) : gb311 ≠ gb313)); have n6_ := Am ((by rw [hg]; exact Nat.ne_of_gt (blk_lt (g := gb311) (o := .cells #[.int .i64 a1_0, .int .i64 a1_1, .int .i64 a1_2, .int .i64 a1_3, .int .i64 a1_4] 26 (0, 0)) (by (with_reducible repeat (first | refine Kn ?_ _ | refine Ke ?_ | refine Ka ?_ _)); exact BK311.out)) : gb313 ≠ gb311)); clear BK311; clear HB; have BK311 := n0_; have HB := n1_; have BK313 := n2_; have GW313 := n3_; have GE313 := n4_; have NB311_313 := n5_; have NB313_311 := n6_; clear n0_ n1_ n2_ n3_ n4_ n5_ n6_; clear hb hbox hg; have hnb9 := NB313_311.out; have hnc9 := NB311_313.out; have hcz10_0 : w8.cell? ⟨gb313, 0, none⟩ = some (.int .i64 0) := (Kc BK313.out 0).trans rfl; have hcz10_1 : w8.cell? ⟨gb313, 1, none⟩ = some (.int .i64 0) := (Kc BK313.out 1).trans rfl; have hcz10_2 : w8.cell? ⟨gb313, 2, none⟩ = some (.int .i64 0) := (Kc BK313.out 2).trans rfl; have hcz10_3 : w8.cell? ⟨gb313, 3, none⟩ = some (.int .i64 0) := (Kc BK313.out 3).trans rfl; have hcz10_4 : w8.cell? ⟨gb313, 4, none⟩ = some (.int .i64 0) := (Kc BK313.out 4).trans rfl; have hfz10_0 := Kz BK313.out 0; have hfz10_1 := Kz BK313.out 1; have hfz10_2 := Kz BK313.out 2; have hfz10_3 := Kz BK313.out 3; have hfz10_4 := Kz BK313.out 4; have hcz11_0 : w8.cell? ⟨gb311, 0, none⟩ = some (.int .i64 a1_0) := (Kc BK311.out 0).trans rfl; have hcz11_1 : w8.cell? ⟨gb311, 1, none⟩ = some (.int .i64 a1_1) := (Kc BK311.out 1).trans rfl; have hcz11_2 : w8.cell? ⟨gb311, 2, none⟩ = some (.int .i64 a1_2) := (Kc BK311.out 2).trans rfl; have hcz11_3 : w8.cell? ⟨gb311, 3, none⟩ = some (.int .i64 a1_3) := (Kc BK311.out 3).trans rfl; have hcz11_4 : w8.cell? ⟨gb311, 4, none⟩ = some (.int .i64 a1_4) := (Kc BK311.out 4).trans rfl; have hfz11_0 := Kz BK311.out 0; have hfz11_1 := Kz BK311.out 1; have hfz11_2 := Kz BK311.out 2; have hfz11_3 := Kz BK311.out 3; have hfz11_4 := Kz BK311.out 4))
       go_roundg k1
       case measure => have := HK1.out; omega
       case rel => exact ⟨(x5_1), (wrap64 (x10_1 + 1)), (by first | rfl | (simp; done) | (simp [*]; done)), (by first | rfl | (simp; done) | (simp [*]; done)), H', ⟨by have := HK1.out; omega⟩, ⟨by (with_reducible repeat (first | refine Kn ?_ _ | refine Ke ?_ | refine Ka ?_ _)); refine Kf ?_ NB311_313.out _; (with_reducible repeat (first | refine Kn ?_ _ | refine Ke ?_ | refine Ka ?_ _)); refine Kf ?_ NB311_313.out _; (with_reducible repeat (first | refine Kn ?_ _ | refine Ke ?_ | refine Ka ?_ _)); refine Kf ?_ NB311_313.out _; (with_reducible repeat (first | refine Kn ?_ _ | refine Ke ?_ | refine Ka ?_ _)); refine Kf ?_ NB311_313.out _; (with_reducible repeat (first | refine Kn ?_ _ | refine Ke ?_ | refine Ka ?_ _)); refine Kf ?_ NB311_313.out _; (with_reducible repeat (first | refine Kn ?_ _ | refine Ke ?_ | refine Ka ?_ _)); exact BK311.out⟩, ⟨by repeat (first | (with_reducible first | exact HB.out | apply Ba | apply Bn | apply Bd | refine Bs ?_ GE311.out | refine Bs ?_ GE313.out) | exact HB.out)⟩⟩
      ·rw [if_neg c7] at H
       have c7b0 : (!(((rd_T26 l0 x10_1).f0) == a1_0) || (!(((rd_T26 l0 x10_1).f1) == a1_1) || (!(((rd_T26 l0 x10_1).f2) == a1_2) || (!(((rd_T26 l0 x10_1).f3) == a1_3) || (!(((rd_T26 l0 x10_1).f4) == a1_4)))))) = false := by simpa using c7
       clear c7
       by_cases c12 : x5_1 ≥ 0
       ·rw [if_pos c12] at H
        have c12b0 : decide (0 ≤ x5_1) = true := decide_eq_true c12
        clear c12
        obtain rfl := Option.some.inj H
        have p312 : 0 ≤ (x10_1 : Int) := of_decide_eq_true (by assumption)
        have q312 : x10_1 < (l0.length : Int) := of_decide_eq_true (by assumption)
        obtain ⟨ad312, e312, hx312_0, hx312_1, hx312_2, hx312_3, hx312_4⟩ := at_T26 HR0.out x10_1 p312 q312
        cases e312
        replace hx312_0 := (HB.out.cell (bl_ w _ hx312_0)).trans hx312_0
        replace hx312_1 := (HB.out.cell (bl_ w _ hx312_1)).trans hx312_1
        replace hx312_2 := (HB.out.cell (bl_ w _ hx312_2)).trans hx312_2
        replace hx312_3 := (HB.out.cell (bl_ w _ hx312_3)).trans hx312_3
        replace hx312_4 := (HB.out.cell (bl_ w _ hx312_4)).trans hx312_4
        replace p312 := eq_true p312
        replace q312 := eq_true q312
        go_wp2_with (first | ((refine Gd (N := 7) rfl ?_); refine Be ?hg (N := 7) ?hd (cs := #[.int .i64 0, .int .i64 0, .int .i64 0, .int .i64 0, .int .i64 0]) (t := 26) ?hr ?_; (case hd | hg => rfl); (case hr => first | (go_simp; done) | (go_simp; rfl)); intro gb313 hg w13 hbox hb; have n0_ := Am (Kb (g := gb311) (o := .cells #[.int .i64 a1_0, .int .i64 a1_1, .int .i64 a1_2, .int .i64 a1_3, .int .i64 a1_4] 26 (0, 0)) (by (with_reducible repeat (first | refine Kn ?_ _ | refine Ke ?_ | refine Ka ?_ _)); exact BK311.out) hb); have n1_ := Am (Bt (by repeat (first | (with_reducible first | exact HB.out | apply Ba | apply Bn | apply Bd | refine Bs ?_ GE311.out) | exact HB.out)) hb); have n2_ := Am (hbox); have n3_ := Am ((by rw [hg]; exact (Bz (by repeat (first | (with_reducible first | exact HB.out | apply Ba | apply Bn | apply Bd | refine Bs ?_ GE311.out) | exact HB.out))) : w.heap.size ≤ gb313)); have n4_ := Am ((by rw [hg]; exact (Bz (by repeat (first | (with_reducible first | exact HB.out | apply Ba | apply Bn | apply Bd | refine Bs ?_ GE311.out) | exact HB.out))) : w.heap.size ≤ gb313)); have n5_ := Am ((by rw [hg]; exact Nat.ne_of_lt (blk_lt (g := gb311) (o := .cells #[.int .i64 a1_0, .int .i64 a1_1, .int .i64 a1_2, .int .i64 a1_3, .int .i64 a1_4] 26 (0, 0)) (by (with_reducible repeat (first | refine Kn ?_ _ | refine Ke ?_ | refine Ka ?_ _)); exact BK311.out)) : gb311 ≠ gb313)); have n6_ := Am ((by rw [hg]; exact Nat.ne_of_gt (blk_lt (g := gb311) (o := .cells #[.int .i64 a1_0, .int .i64 a1_1, .int .i64 a1_2, .int .i64 a1_3, .int .i64 a1_4] 26 (0, 0)) (by (with_reducible repeat (first | refine Kn ?_ _ | refine Ke ?_ | refine Ka ?_ _)); exact BK311.out)) : gb313 ≠ gb311)); clear BK311; clear HB; have BK311 := n0_; have HB := n1_; have BK313 := n2_; have GW313 := n3_; have GE313 := n4_; have NB311_313 := n5_; have NB313_311 := n6_; clear n0_ n1_ n2_ n3_ n4_ n5_ n6_; clear hb hbox hg; have hnb14 := NB313_311.out; have hnc14 := NB311_313.out; have hcz15_0 : w13.cell? ⟨gb313, 0, none⟩ = some (.int .i64 0) := (Kc BK313.out 0).trans rfl; have hcz15_1 : w13.cell? ⟨gb313, 1, none⟩ = some (.int .i64 0) := (Kc BK313.out 1).trans rfl; have hcz15_2 : w13.cell? ⟨gb313, 2, none⟩ = some (.int .i64 0) := (Kc BK313.out 2).trans rfl; have hcz15_3 : w13.cell? ⟨gb313, 3, none⟩ = some (.int .i64 0) := (Kc BK313.out 3).trans rfl; have hcz15_4 : w13.cell? ⟨gb313, 4, none⟩ = some (.int .i64 0) := (Kc BK313.out 4).trans rfl; have hfz15_0 := Kz BK313.out 0; have hfz15_1 := Kz BK313.out 1; have hfz15_2 := Kz BK313.out 2; have hfz15_3 := Kz BK313.out 3; have hfz15_4 := Kz BK313.out 4; have hcz16_0 : w13.cell? ⟨gb311, 0, none⟩ = some (.int .i64 a1_0) := (Kc BK311.out 0).trans rfl; have hcz16_1 : w13.cell? ⟨gb311, 1, none⟩ = some (.int .i64 a1_1) := (Kc BK311.out 1).trans rfl; have hcz16_2 : w13.cell? ⟨gb311, 2, none⟩ = some (.int .i64 a1_2) := (Kc BK311.out 2).trans rfl; have hcz16_3 : w13.cell? ⟨gb311, 3, none⟩ = some (.int .i64 a1_3) := (Kc BK311.out 3).trans rfl; have hcz16_4 : w13.cell? ⟨gb311, 4, none⟩ = some (.int .i64 a1_4) := (Kc BK311.out 4).trans rfl; have hfz16_0 := Kz BK311.out 0; have hfz16_1 := Kz BK311.out 1; have hfz16_2 := Kz BK311.out 2; have hfz16_3 := Kz BK311.out 3; have hfz16_4 := Kz BK311.out 4))
        go_ret
        exact ⟨by first | rfl | (simp [*, errW_none, errW_some] <;> rfl), by repeat (first | (with_reducible first | exact HB.out | apply Ba | apply Bn | apply Bd | refine Bs ?_ GE311.out | refine Bs ?_ GE313.out) | exact HB.out)⟩
       ·rw [if_neg c12] at H
        have c12b0 : decide (0 ≤ x5_1) = false := decide_eq_false c12
        clear c12
        have H' := Am H
        clear H
        have p312 : 0 ≤ (x10_1 : Int) := of_decide_eq_true (by assumption)
        have q312 : x10_1 < (l0.length : Int) := of_decide_eq_true (by assumption)
        obtain ⟨ad312, e312, hx312_0, hx312_1, hx312_2, hx312_3, hx312_4⟩ := at_T26 HR0.out x10_1 p312 q312
        cases e312
        replace hx312_0 := (HB.out.cell (bl_ w _ hx312_0)).trans hx312_0
        replace hx312_1 := (HB.out.cell (bl_ w _ hx312_1)).trans hx312_1
        replace hx312_2 := (HB.out.cell (bl_ w _ hx312_2)).trans hx312_2
        replace hx312_3 := (HB.out.cell (bl_ w _ hx312_3)).trans hx312_3
        replace hx312_4 := (HB.out.cell (bl_ w _ hx312_4)).trans hx312_4
        replace p312 := eq_true p312
        replace q312 := eq_true q312
        go_wp2_with (first | ((refine Gd (N := 7) rfl ?_); refine Be ?hg (N := 7) ?hd (cs := #[.int .i64 0, .int .i64 0, .int .i64 0, .int .i64 0, .int .i64 0]) (t := 26) ?hr ?_; (case hd | hg => rfl); (case hr => first | (go_simp; done) | (go_simp; rfl)); intro gb313 hg w17 hbox hb; have n0_ := Am (Kb (g := gb311) (o := .cells #[.int .i64 a1_0, .int .i64 a1_1, .int .i64 a1_2, .int .i64 a1_3, .int .i64 a1_4] 26 (0, 0)) (by (with_reducible repeat (first | refine Kn ?_ _ | refine Ke ?_ | refine Ka ?_ _)); exact BK311.out) hb); have n1_ := Am (Bt (by repeat (first | (with_reducible first | exact HB.out | apply Ba | apply Bn | apply Bd | refine Bs ?_ GE311.out) | exact HB.out)) hb); have n2_ := Am (hbox); have n3_ := Am ((by rw [hg]; exact (Bz (by repeat (first | (with_reducible first | exact HB.out | apply Ba | apply Bn | apply Bd | refine Bs ?_ GE311.out) | exact HB.out))) : w.heap.size ≤ gb313)); have n4_ := Am ((by rw [hg]; exact (Bz (by repeat (first | (with_reducible first | exact HB.out | apply Ba | apply Bn | apply Bd | refine Bs ?_ GE311.out) | exact HB.out))) : w.heap.size ≤ gb313)); have n5_ := Am ((by rw [hg]; exact Nat.ne_of_lt (blk_lt (g := gb311) (o := .cells #[.int .i64 a1_0, .int .i64 a1_1, .int .i64 a1_2, .int .i64 a1_3, .int .i64 a1_4] 26 (0, 0)) (by (with_reducible repeat (first | refine Kn ?_ _ | refine Ke ?_ | refine Ka ?_ _)); exact BK311.out)) : gb311 ≠ gb313)); have n6_ := Am ((by rw [hg]; exact Nat.ne_of_gt (blk_lt (g := gb311) (o := .cells #[.int .i64 a1_0, .int .i64 a1_1, .int .i64 a1_2, .int .i64 a1_3, .int .i64 a1_4] 26 (0, 0)) (by (with_reducible repeat (first | refine Kn ?_ _ | refine Ke ?_ | refine Ka ?_ _)); exact BK311.out)) : gb313 ≠ gb311)); clear BK311; clear HB; have BK311 := n0_; have HB := n1_; have BK313 := n2_; have GW313 := n3_; have GE313 := n4_; have NB311_313 := n5_; have NB313_311 := n6_; clear n0_ n1_ n2_ n3_ n4_ n5_ n6_; clear hb hbox hg; have hnb18 := NB313_311.out; have hnc18 := NB311_313.out; have hcz19_0 : w17.cell? ⟨gb313, 0, none⟩ = some (.int .i64 0) := (Kc BK313.out 0).trans rfl; have hcz19_1 : w17.cell? ⟨gb313, 1, none⟩ = some (.int .i64 0) := (Kc BK313.out 1).trans rfl; have hcz19_2 : w17.cell? ⟨gb313, 2, none⟩ = some (.int .i64 0) := (Kc BK313.out 2).trans rfl; have hcz19_3 : w17.cell? ⟨gb313, 3, none⟩ = some (.int .i64 0) := (Kc BK313.out 3).trans rfl; have hcz19_4 : w17.cell? ⟨gb313, 4, none⟩ = some (.int .i64 0) := (Kc BK313.out 4).trans rfl; have hfz19_0 := Kz BK313.out 0; have hfz19_1 := Kz BK313.out 1; have hfz19_2 := Kz BK313.out 2; have hfz19_3 := Kz BK313.out 3; have hfz19_4 := Kz BK313.out 4; have hcz20_0 : w17.cell? ⟨gb311, 0, none⟩ = some (.int .i64 a1_0) := (Kc BK311.out 0).trans rfl; have hcz20_1 : w17.cell? ⟨gb311, 1, none⟩ = some (.int .i64 a1_1) := (Kc BK311.out 1).trans rfl; have hcz20_2 : w17.cell? ⟨gb311, 2, none⟩ = some (.int .i64 a1_2) := (Kc BK311.out 2).trans rfl; have hcz20_3 : w17.cell? ⟨gb311, 3, none⟩ = some (.int .i64 a1_3) := (Kc BK311.out 3).trans rfl; have hcz20_4 : w17.cell? ⟨gb311, 4, none⟩ = some (.int .i64 a1_4) := (Kc BK311.out 4).trans rfl; have hfz20_0 := Kz BK311.out 0; have hfz20_1 := Kz BK311.out 1; have hfz20_2 := Kz BK311.out 2; have hfz20_3 := Kz BK311.out 3; have hfz20_4 := Kz BK311.out 4))
        go_roundg k1
        case measure => have := HK1.out; omega
        case rel => exact ⟨(x10_1), (wrap64 (x10_1 + 1)), (by first | rfl | (simp; done) | (simp [*]; done)), (by first | rfl | (simp; done) | (simp [*]; done)), H', ⟨by have := HK1.out; omega⟩, ⟨by (with_reducible repeat (first | refine Kn ?_ _ | refine Ke ?_ | refine Ka ?_ _)); refine Kf ?_ NB311_313.out _; (with_reducible repeat (first | refine Kn ?_ _ | refine Ke ?_ | refine Ka ?_ _)); refine Kf ?_ NB311_313.out _; (with_reducible repeat (first | refine Kn ?_ _ | refine Ke ?_ | refine Ka ?_ _)); refine Kf ?_ NB311_313.out _; (with_reducible repeat (first | refine Kn ?_ _ | refine Ke ?_ | refine Ka ?_ _)); refine Kf ?_ NB311_313.out _; (with_reducible repeat (first | refine Kn ?_ _ | refine Ke ?_ | refine Ka ?_ _)); refine Kf ?_ NB311_313.out _; (with_reducible repeat (first | refine Kn ?_ _ | refine Ke ?_ | refine Ka ?_ _)); exact BK311.out⟩, ⟨by repeat (first | (with_reducible first | exact HB.out | apply Ba | apply Bn | apply Bd | refine Bs ?_ GE311.out | refine Bs ?_ GE313.out) | exact HB.out)⟩⟩
     ·rw [if_neg c6] at H
      exact absurd H (by simp)
    ·rw [if_neg c5] at H
     exact absurd H (by simp)
   ·rw [if_neg c4] at H
    have c4b0 : decide (x10_1 < (l0.length : Int)) = false := decide_eq_false c4
    clear c4
    obtain rfl := Option.some.inj H
    go_wp2
    go_ret
    exact ⟨by first | rfl | (simp [*, errW_none, errW_some] <;> rfl), by repeat (first | (with_reducible first | exact HB.out | apply Ba | apply Bn | apply Bd | refine Bs ?_ GE311.out) | exact HB.out)⟩
def spec_l1Same.l0 : Nat → List Int → List Int → Int → Int → Option (Bool)
 | 0, _, _, _, _ => none
 | k + 1, x0, x1, x12, x13 => if x13 < x12 then (if 0 ≤ x13 then (if x13 < (x0.length : Int) then (if x13 < (x1.length : Int) then (if (rd x0 x13) = (rd x1 x13) then (spec_l1Same.l0 k x0 x1 x12 (wrap64 (x13 + 1))) else (some false)) else (none)) else (none)) else (none)) else (some true)
def spec_l1Same.f (k : Nat) (l0 : List Int) (l1 : List Int) : Option (Bool) := if (l0.length : Int) = (l1.length : Int) then (spec_l1Same.l0 k l0 l1 (l0.length : Int) 0) else (some false)
theorem spec_l1Same.mono_l : ∀ k, (∀ y0 y1 y2 y3, LeO (spec_l1Same.l0 k y0 y1 y2 y3) (spec_l1Same.l0 (k + 1) y0 y1 y2 y3))
 | 0 => fun _ _ _ _ r h => by simp [spec_l1Same.l0] at h
 | k + 1 => by
  have ih0 := spec_l1Same.mono_l k
  ·intro y0 y1 y2 y3
   unfold spec_l1Same.l0
   repeat' first
   | (with_reducible exact ih0 _ _ _ _)
   | (with_reducible exact LeO.refl _)
   | (with_reducible exact LeO.none _)
   | (with_reducible refine LeO.ite ?_ ?_)
   | (with_reducible refine LeO.bind ?_ (fun _ => ?_))
   | exact ih0 _ _ _ _
   | exact LeO.none _
   | refine LeO.ite ?_ ?_
   | refine LeO.bind ?_ (fun _ => ?_)
theorem spec_l1Same.mono : ∀ a0 a1 k, LeO (spec_l1Same.f k a0 a1) (spec_l1Same.f (k + 1) a0 a1) := by
 intro a0 a1 k
 have ih0 := spec_l1Same.mono_l k
 unfold spec_l1Same.f
 repeat' first
   | (with_reducible exact ih0 _ _ _ _)
   | (with_reducible exact LeO.refl _)
   | (with_reducible exact LeO.none _)
   | (with_reducible refine LeO.ite ?_ ?_)
   | (with_reducible refine LeO.bind ?_ (fun _ => ?_))
   | exact ih0 _ _ _ _
   | exact LeO.none _
   | refine LeO.ite ?_ ?_
   | refine LeO.bind ?_ (fun _ => ?_)
set_option maxHeartbeats 8000000 in
set_option maxRecDepth 100000 in
theorem spec_l1Same.calls (k : Nat) (A0 : Option Addr) (c0 : Nat) (l0 : List Int) (A1 : Option Addr) (c1 : Nat) (l1 : List Int) (r : Bool) (w : World) (hr0 : Kd.C (Kd.int .i64) w A0 l0.length l0) (hc0 : l0.length ≤ c0) (hr1 : Kd.C (Kd.int .i64) w A1 l1.length l1) (hc1 : l1.length ≤ c1) (h : spec_l1Same.f k l0 l1 = some r) :
  Calls Try.prog 91 #[.slice A0 l0.length c0, .slice A1 l1.length c1] w fun e w' => e = .returned (.bool r) ∧ Drawn0 w w' := by
 have HR0 := Am hr0
 have HC0 := Am hc0
 clear hr0 hc0
 have HR1 := Am hr1
 have HC1 := Am hc1
 clear hr1 hc1
 have H : (if (l0.length : Int) = (l1.length : Int) then (spec_l1Same.l0 k l0 l1 (l0.length : Int) 0) else (some false)) = some r := h
 clear h
 by_cases c3 : (l0.length : Int) = (l1.length : Int)
 ·rw [if_pos c3] at H
  have c3b0 : ((l0.length : Int) == (l1.length : Int)) = true := beq_iff_eq.mpr c3
  have c3b1 : ((l0.length : Int) != (l1.length : Int)) = false := bne_eq_false_iff_eq.mpr c3
  have c3b2 : (l0.length == l1.length) = true := by first | simpa using c3 | (simp at c3 ⊢; omega)
  clear c3
  have H' := Am H
  clear H
  go_enter Try.func91, Try.ntmps91
  go_wp2
  repeat (go_quiet (fail); try go_wp2)
  go_loopg [13] k (fun kq v13 w' => ∃ (x13_1 : Int), v13 = .int .i64 x13_1 ∧ Ad (spec_l1Same.l0 kq l0 l1 (l0.length : Int) x13_1 = some r) ∧ Ad (kq ≤ k) ∧ Drawn0 w w')
  case atStart => exact ⟨(0), (by first | rfl | (simp; done) | (simp [*]; done)), H', ⟨Nat.le_refl _⟩, by repeat (first | exact Drawn0.refl _ | apply Drawn0.step)⟩
  case round =>
   clear H'
   try clear c1
   try clear p2
   try clear c3
   try clear c3b0
   try clear c3b1
   try clear c3b2
   obtain ⟨x13_1, rfl, HA, HK1, ⟨m1, rfl⟩⟩ := hrel
   cases gk with
   | zero => exact absurd HA.out (by simp [spec_l1Same.l0])
   | succ k1 =>
    have H := HA.out
    clear HA
    simp only [spec_l1Same.l0] at H
    by_cases c4 : x13_1 < (l0.length : Int)
    ·rw [if_pos c4] at H
     have c4b0 : decide (x13_1 < (l0.length : Int)) = true := decide_eq_true c4
     clear c4
     by_cases c5 : 0 ≤ x13_1
     ·rw [if_pos c5] at H
      have c5b0 : decide (0 ≤ x13_1) = true := decide_eq_true c5
      clear c5
      by_cases c6 : x13_1 < (l0.length : Int)
      ·rw [if_pos c6] at H
       have c6b0 : decide (x13_1 < (l0.length : Int)) = true := decide_eq_true c6
       clear c6
       by_cases c7 : x13_1 < (l1.length : Int)
       ·rw [if_pos c7] at H
        have c7b0 : decide (x13_1 < (l1.length : Int)) = true := decide_eq_true c7
        clear c7
        by_cases c8 : (rd l0 x13_1) = (rd l1 x13_1)
        ·rw [if_pos c8] at H
         have c8b0 : ((rd l0 x13_1) == (rd l1 x13_1)) = true := beq_iff_eq.mpr c8
         have c8b1 : ((rd l0 x13_1) != (rd l1 x13_1)) = false := bne_eq_false_iff_eq.mpr c8
         clear c8
         have H' := Am H
         clear H
         have p314 : 0 ≤ (x13_1 : Int) := of_decide_eq_true (by assumption)
         have q314 : x13_1 < (l0.length : Int) := of_decide_eq_true (by assumption)
         obtain ⟨ad314, e314, hx314_0⟩ := Kd.at_int HR0.out x13_1 p314 q314
         cases e314
         replace p314 := eq_true p314
         replace q314 := eq_true q314
         have p315 : 0 ≤ (x13_1 : Int) := of_decide_eq_true (by assumption)
         have q315 : x13_1 < (l1.length : Int) := of_decide_eq_true (by assumption)
         obtain ⟨ad315, e315, hx315_0⟩ := Kd.at_int HR1.out x13_1 p315 q315
         cases e315
         replace p315 := eq_true p315
         replace q315 := eq_true q315
         go_wp2
         repeat (go_quiet (fail); try go_wp2)
         go_roundg k1
         case measure => have := HK1.out; omega
         case rel => exact ⟨(wrap64 (x13_1 + 1)), (by first | rfl | (simp; done) | (simp [*]; done)), H', ⟨by have := HK1.out; omega⟩, by repeat (first | exact Drawn0.refl _ | apply Drawn0.step)⟩
        ·rw [if_neg c8] at H
         have c8b0 : ((rd l0 x13_1) == (rd l1 x13_1)) = false := beq_eq_false_iff_ne.mpr c8
         have c8b1 : ((rd l0 x13_1) != (rd l1 x13_1)) = true := bne_iff_ne.mpr c8
         obtain rfl := Option.some.inj H
         have p314 : 0 ≤ (x13_1 : Int) := of_decide_eq_true (by assumption)
         have q314 : x13_1 < (l0.length : Int) := of_decide_eq_true (by assumption)
         obtain ⟨ad314, e314, hx314_0⟩ := Kd.at_int HR0.out x13_1 p314 q314
         cases e314
         replace p314 := eq_true p314
         replace q314 := eq_true q314
         have p315 : 0 ≤ (x13_1 : Int) := of_decide_eq_true (by assumption)
         have q315 : x13_1 < (l1.length : Int) := of_decide_eq_true (by assumption)
         obtain ⟨ad315, e315, hx315_0⟩ := Kd.at_int HR1.out x13_1 p315 q315
         cases e315
         replace p315 := eq_true p315
         replace q315 := eq_true q315
         go_wp2
         repeat (go_quiet (fail); try go_wp2)
         go_ret
         exact ⟨by first | rfl | (simp; done) | (simp [*]; done), by repeat (first | exact Drawn0.refl _ | apply Drawn0.step)⟩
       ·rw [if_neg c7] at H
        exact absurd H (by simp)
      ·rw [if_neg c6] at H
       exact absurd H (by simp)
     ·rw [if_neg c5] at H
      exact absurd H (by simp)
    ·rw [if_neg c4] at H
     have c4b0 : decide (x13_1 < (l0.length : Int)) = false := decide_eq_false c4
     clear c4
     obtain rfl := Option.some.inj H
     go_wp2
     repeat (go_quiet (fail); try go_wp2)
     go_ret
     exact ⟨by first | rfl | (simp; done) | (simp [*]; done), by repeat (first | exact Drawn0.refl _ | apply Drawn0.step)⟩
 ·rw [if_neg c3] at H
  have c3b0 : ((l0.length : Int) == (l1.length : Int)) = false := beq_eq_false_iff_ne.mpr c3
  have c3b1 : ((l0.length : Int) != (l1.length : Int)) = true := bne_iff_ne.mpr c3
  have c3b2 : (l0.length == l1.length) = false := by first | simpa using c3 | (simp at c3 ⊢; omega)
  obtain rfl := Option.some.inj H
  go_enter Try.func91, Try.ntmps91
  go_wp2
  repeat (go_quiet (fail); try go_wp2)
  go_ret
  exact ⟨by first | rfl | (simp; done) | (simp [*]; done), by repeat (first | exact Drawn0.refl _ | apply Drawn0.step)⟩
end Go.Proofs.Yteecmbfebenjjaa.QFnTellsSame
