-- Written by a program of this session (wip/mk.py) over the kit's print: Lean checks it.
import Derived.Test.YtilmcfdhijdhpaaQFnExactGoodReplicax0
import Derived.Test.YtilmcfdhijdhpaaQFnExactGoodReplicax2
import Derived.Test.YtilmcfdhijdhpaaQFnExactGoodReplicax6
import Derived.Test.YtilmcfdhijdhpaaQFnExactGoodReplicax7
import Derived.Test.YtilmcfdhijdhpaaQFnExactGoodReplicax12
import Derived.Test.YtilmcfdhijdhpaaQFnExactGoodReplicax14
namespace Go.Proofs.Ytilmcfdhijdhpaa.QFnExactGoodReplica
open Go.Proofs.YtilmcfdhijdhpaaW.PrintWords renaming below_alloc → Ba, pw_below_drewN → Bn, below_drew1 → Bd, below_set → Bs, below_step → Bt, gate_dst → Gd, blk_alloc → Ka, blk_below → Kb, blk_cell → Kc
open List renaming setIfInBounds_toArray → Lt, set_cons_zero → Lz, set_cons_succ → Ls
open Go.World renaming block_lt_of_cell? → bl_
open Go.Proofs.YtilmcfdhijdhpaaW.PrintWords.Aside0 renaming mk → Am
open Go.Proofs.YtilmcfdhijdhpaaW.PrintWords renaming Aside0 → Ad
open Go.RowKit Go.Proofs.YtilmcfdhijdhpaaW.PrintWords Go.Proofs.YtilmcfdhijdhpaaW.PrintLast Go.Proofs.YtilmcfdhijdhpaaW.PrintMore
attribute [local go_sem] max2_int min2_int max_two min_two max_three min_three max_four min_four   -- for this text's walks alone
open Go.Proofs.YtilmcfdhijdhpaaW.PrintWords.Kd renaming R_below → Rb, R_mono → Rm, R_bound → Ro, C_below → Cb, R_reads' → Rr, R_slice → Rs, event_run → Er
open Go.Proofs.YtilmcfdhijdhpaaW.PrintWords renaming below_then → Bh
set_option linter.unusedVariables false
set_option linter.unusedSimpArgs false
def laws_eqLeadS.l0 : Nat → List (S77) → List (S77) → Int → Option (Bool)
 | 0, _, _, _ => none
 | k + 1, x0, x1, x5 => if x5 < (x0.length : Int) then (if 0 ≤ x5 then (if x5 < (x1.length : Int) then ((laws_eqLead.f k ((rd_T77 x0 x5).f0) ((rd_T77 x0 x5).f1) ((rd_T77 x0 x5).f2) ((rd_T77 x0 x5).f3) ((rd_T77 x0 x5).f4.f0) ((rd_T77 x0 x5).f4.f1) ((rd_T77 x0 x5).f4.f2) ((rd_T77 x0 x5).f4.f3) ((rd_T77 x0 x5).f4.f4) ((rd_T77 x0 x5).f5.f0) ((rd_T77 x0 x5).f5.f1) ((rd_T77 x0 x5).f6.f0) ((rd_T77 x0 x5).f6.f1) ((rd_T77 x0 x5).f7) ((rd_T77 x0 x5).f8) ((rd_T77 x0 x5).f9) ((rd_T77 x1 x5).f0) ((rd_T77 x1 x5).f1) ((rd_T77 x1 x5).f2) ((rd_T77 x1 x5).f3) ((rd_T77 x1 x5).f4.f0) ((rd_T77 x1 x5).f4.f1) ((rd_T77 x1 x5).f4.f2) ((rd_T77 x1 x5).f4.f3) ((rd_T77 x1 x5).f4.f4) ((rd_T77 x1 x5).f5.f0) ((rd_T77 x1 x5).f5.f1) ((rd_T77 x1 x5).f6.f0) ((rd_T77 x1 x5).f6.f1) ((rd_T77 x1 x5).f7) ((rd_T77 x1 x5).f8) ((rd_T77 x1 x5).f9)).bind fun t342 => (if t342 = true then (laws_eqLeadS.l0 k x0 x1 (wrap64 (x5 + 1))) else (some false))) else (none)) else (none)) else (some true)
def laws_eqLeadS.f (k : Nat) (l0 : List (S77)) (l1 : List (S77)) : Option (Bool) := if (l0.length : Int) = (l1.length : Int) then (laws_eqLeadS.l0 k l0 l1 0) else (some false)
theorem laws_eqLeadS.mono_l : ∀ k, (∀ y0 y1 y2, LeO (laws_eqLeadS.l0 k y0 y1 y2) (laws_eqLeadS.l0 (k + 1) y0 y1 y2))
 | 0 => fun _ _ _ r h => by simp [laws_eqLeadS.l0] at h
 | k + 1 => by
  have ih0 := laws_eqLeadS.mono_l k
  ·intro y0 y1 y2
   unfold laws_eqLeadS.l0
   repeat' first
   | (with_reducible exact ih0 _ _ _)
   | (with_reducible exact laws_eqLead.mono _ _ _ _ _ _ _ _ _ _ _ _ _ _ _ _ _ _ _ _ _ _ _ _ _ _ _ _ _ _ _ _ _)
   | (with_reducible exact LeO.refl _)
   | (with_reducible exact LeO.none _)
   | (with_reducible refine LeO.ite ?_ ?_)
   | (with_reducible refine LeO.bind ?_ (fun _ => ?_))
   | exact ih0 _ _ _
   | exact laws_eqLead.mono _ _ _ _ _ _ _ _ _ _ _ _ _ _ _ _ _ _ _ _ _ _ _ _ _ _ _ _ _ _ _ _ _
   | exact LeO.none _
   | refine LeO.ite ?_ ?_
   | refine LeO.bind ?_ (fun _ => ?_)
theorem laws_eqLeadS.mono : ∀ a0 a1 k, LeO (laws_eqLeadS.f k a0 a1) (laws_eqLeadS.f (k + 1) a0 a1) := by
 intro a0 a1 k
 have ih0 := laws_eqLeadS.mono_l k
 unfold laws_eqLeadS.f
 repeat' first
   | (with_reducible exact ih0 _ _ _)
   | (with_reducible exact laws_eqLead.mono _ _ _ _ _ _ _ _ _ _ _ _ _ _ _ _ _ _ _ _ _ _ _ _ _ _ _ _ _ _ _ _ _)
   | (with_reducible exact LeO.refl _)
   | (with_reducible exact LeO.none _)
   | (with_reducible refine LeO.ite ?_ ?_)
   | (with_reducible refine LeO.bind ?_ (fun _ => ?_))
   | exact ih0 _ _ _
   | exact laws_eqLead.mono _ _ _ _ _ _ _ _ _ _ _ _ _ _ _ _ _ _ _ _ _ _ _ _ _ _ _ _ _ _ _ _ _
   | exact LeO.none _
   | refine LeO.ite ?_ ?_
   | refine LeO.bind ?_ (fun _ => ?_)
def laws_eqLeadS.T6 : Bool × List (List Nat × List Nat) := (true, [([], []), ([], []), ([0, 1], [0, 1]), ([2], [2]), ([], []), ([], []), ([4, 5], [4, 5]), ([6], [6]), ([3, 7], [3, 7]), ([8], [8])])
def laws_eqLeadS.B6 : List Nat := [0, 0, 3, 7, 0, 0, 48, 112, 255, 511]
theorem laws_eqLeadS.tab6 : rtab .any (opsOf Try.f41 6) = laws_eqLeadS.T6 := by kernel_rfl
theorem laws_eqLeadS.bits6 : waitsOk laws_eqLeadS.T6.2 laws_eqLeadS.B6 = true := by kernel_rfl
set_option maxHeartbeats 8000000 in
set_option maxRecDepth 100000 in
theorem laws_eqLeadS.calls (k : Nat) (A0 : Option Addr) (c0 : Nat) (l0 : List (S77)) (A1 : Option Addr) (c1 : Nat) (l1 : List (S77)) (r : Bool) (w : World) (hr0 : Kd.C k77 w A0 l0.length l0) (hc0 : l0.length ≤ c0) (hr1 : Kd.C k77 w A1 l1.length l1) (hc1 : l1.length ≤ c1) (h : laws_eqLeadS.f k l0 l1 = some r) :
  Calls Try.prog 41 #[.slice A0 l0.length c0, .slice A1 l1.length c1] w fun e w' => e = .returned (.bool r) ∧ Below w.heap.size w w' := by
 have hu77 := Try.underlying77
 have HR0 := Am hr0
 have HC0 := Am hc0
 clear hr0 hc0
 have HR1 := Am hr1
 have HC1 := Am hc1
 clear hr1 hc1
 have HB := Am (Below.refl w.heap.size w)
 have H : (if (l0.length : Int) = (l1.length : Int) then (laws_eqLeadS.l0 k l0 l1 0) else (some false)) = some r := h
 clear h
 by_cases c3 : (l0.length : Int) = (l1.length : Int)
 ·rw [if_pos c3] at H
  have c3b0 : ((l0.length : Int) == (l1.length : Int)) = true := beq_iff_eq.mpr c3
  have c3b1 : ((l0.length : Int) != (l1.length : Int)) = false := bne_eq_false_iff_eq.mpr c3
  have c3b2 : (l0.length == l1.length) = true := by first | simpa using c3 | (simp at c3 ⊢; omega)
  clear c3
  have H' := Am H
  clear H
  go_enter Try.func41, Try.ntmps41
  go_wp2
  go_loopg [5] k (fun kq v5 w' => ∃ (x5_1 : Int), v5 = .int .i64 x5_1 ∧ Ad (laws_eqLeadS.l0 kq l0 l1 x5_1 = some r) ∧ Ad (kq ≤ k) ∧ Ad (Below w.heap.size w w'))
  case atStart => exact ⟨(0), (by first | rfl | (simp; done) | (simp [*]; done)), H', ⟨Nat.le_refl _⟩, ⟨by repeat (first | exact HB.out | apply Ba | apply Bn | apply Bd)⟩⟩
  case round =>
   clear H'
   try clear c1
   try clear p2
   try clear c3
   try clear c3b0
   try clear c3b1
   try clear c3b2
   obtain ⟨x5_1, rfl, HA, HK1, HB⟩ := hrel
   cases gk with
   | zero => exact absurd HA.out (by simp [laws_eqLeadS.l0])
   | succ k1 =>
    have H := HA.out
    clear HA
    simp only [laws_eqLeadS.l0] at H
    by_cases c4 : x5_1 < (l0.length : Int)
    ·rw [if_pos c4] at H
     have c4b0 : decide (x5_1 < (l0.length : Int)) = true := decide_eq_true c4
     clear c4
     by_cases c5 : 0 ≤ x5_1
     ·rw [if_pos c5] at H
      have c5b0 : decide (0 ≤ x5_1) = true := decide_eq_true c5
      clear c5
      by_cases c6 : x5_1 < (l1.length : Int)
      ·rw [if_pos c6] at H
       have c6b0 : decide (x5_1 < (l1.length : Int)) = true := decide_eq_true c6
       clear c6
       replace H := Option.bind_eq_some_iff.mp H
       obtain ⟨t342, A70, H⟩ := H
       replace H : (if t342 = true then (laws_eqLeadS.l0 k1 l0 l1 (wrap64 (x5_1 + 1))) else (some false)) = some r := H
       have A7 := Am A70
       clear A70
       by_cases c8 : t342 = true
       ·subst c8
        have H1 : (laws_eqLeadS.l0 k1 l0 l1 (wrap64 (x5_1 + 1))) = some r := by rw [if_pos rfl] at H; exact H
        clear H
        have H := H1
        clear H1
        have H' := Am H
        clear H
        try go_wp2
        have n0_ := Am (Bd HB.out)
        clear HB
        have HB := n0_
        clear n0_
        have p340 : 0 ≤ (x5_1 : Int) := of_decide_eq_true (by assumption)
        have q340 : x5_1 < (l0.length : Int) := of_decide_eq_true (by assumption)
        obtain ⟨ad340, A340_10, c340_10, A340_12, c340_12, A340_14, c340_14, A340_15, c340_15, e340, hx340_0, hx340_1, hx340_2, hx340_3, hx340_4, hx340_5, hx340_6, hx340_7, hx340_8, hx340_9, hx340_10, hx340_11, hx340_12, hx340_13, hx340_14, hx340_15, hl340_10, hi340_10, hl340_12, hi340_12, hl340_14, hi340_14, hl340_15, hi340_15⟩ := at_T77 HR0.out x5_1 p340 q340
        have hw340_15 := hx340_15
        have hw340_14 := hx340_14
        have hw340_13 := hx340_13
        have hw340_12 := hx340_12
        have hw340_11 := hx340_11
        have hw340_10 := hx340_10
        have hw340_9 := hx340_9
        have hw340_8 := hx340_8
        have hw340_7 := hx340_7
        have hw340_6 := hx340_6
        have hw340_5 := hx340_5
        have hw340_4 := hx340_4
        have hw340_3 := hx340_3
        have hw340_2 := hx340_2
        have hw340_1 := hx340_1
        have hw340_0 := hx340_0
        cases e340
        replace hx340_0 := (HB.out.cell (bl_ w _ hx340_0)).trans hx340_0
        replace hx340_1 := (HB.out.cell (bl_ w _ hx340_1)).trans hx340_1
        replace hx340_2 := (HB.out.cell (bl_ w _ hx340_2)).trans hx340_2
        replace hx340_3 := (HB.out.cell (bl_ w _ hx340_3)).trans hx340_3
        replace hx340_4 := (HB.out.cell (bl_ w _ hx340_4)).trans hx340_4
        replace hx340_5 := (HB.out.cell (bl_ w _ hx340_5)).trans hx340_5
        replace hx340_6 := (HB.out.cell (bl_ w _ hx340_6)).trans hx340_6
        replace hx340_7 := (HB.out.cell (bl_ w _ hx340_7)).trans hx340_7
        replace hx340_8 := (HB.out.cell (bl_ w _ hx340_8)).trans hx340_8
        replace hx340_9 := (HB.out.cell (bl_ w _ hx340_9)).trans hx340_9
        replace hx340_10 := (HB.out.cell (bl_ w _ hx340_10)).trans hx340_10
        replace hx340_11 := (HB.out.cell (bl_ w _ hx340_11)).trans hx340_11
        replace hx340_12 := (HB.out.cell (bl_ w _ hx340_12)).trans hx340_12
        replace hx340_13 := (HB.out.cell (bl_ w _ hx340_13)).trans hx340_13
        replace hx340_14 := (HB.out.cell (bl_ w _ hx340_14)).trans hx340_14
        replace hx340_15 := (HB.out.cell (bl_ w _ hx340_15)).trans hx340_15
        have HR340_10 := Am hi340_10
        have HC340_10 := Am hl340_10
        clear hi340_10 hl340_10
        have HR340_12 := Am hi340_12
        have HC340_12 := Am hl340_12
        clear hi340_12 hl340_12
        have HR340_14 := Am hi340_14
        have HC340_14 := Am hl340_14
        clear hi340_14 hl340_14
        have HR340_15 := Am hi340_15
        have HC340_15 := Am hl340_15
        clear hi340_15 hl340_15
        replace p340 := eq_true p340
        replace q340 := eq_true q340
        have p341 : 0 ≤ (x5_1 : Int) := of_decide_eq_true (by assumption)
        have q341 : x5_1 < (l1.length : Int) := of_decide_eq_true (by assumption)
        obtain ⟨ad341, A341_10, c341_10, A341_12, c341_12, A341_14, c341_14, A341_15, c341_15, e341, hx341_0, hx341_1, hx341_2, hx341_3, hx341_4, hx341_5, hx341_6, hx341_7, hx341_8, hx341_9, hx341_10, hx341_11, hx341_12, hx341_13, hx341_14, hx341_15, hl341_10, hi341_10, hl341_12, hi341_12, hl341_14, hi341_14, hl341_15, hi341_15⟩ := at_T77 HR1.out x5_1 p341 q341
        have hw341_15 := hx341_15
        have hw341_14 := hx341_14
        have hw341_13 := hx341_13
        have hw341_12 := hx341_12
        have hw341_11 := hx341_11
        have hw341_10 := hx341_10
        have hw341_9 := hx341_9
        have hw341_8 := hx341_8
        have hw341_7 := hx341_7
        have hw341_6 := hx341_6
        have hw341_5 := hx341_5
        have hw341_4 := hx341_4
        have hw341_3 := hx341_3
        have hw341_2 := hx341_2
        have hw341_1 := hx341_1
        have hw341_0 := hx341_0
        cases e341
        replace hx341_0 := (HB.out.cell (bl_ w _ hx341_0)).trans hx341_0
        replace hx341_1 := (HB.out.cell (bl_ w _ hx341_1)).trans hx341_1
        replace hx341_2 := (HB.out.cell (bl_ w _ hx341_2)).trans hx341_2
        replace hx341_3 := (HB.out.cell (bl_ w _ hx341_3)).trans hx341_3
        replace hx341_4 := (HB.out.cell (bl_ w _ hx341_4)).trans hx341_4
        replace hx341_5 := (HB.out.cell (bl_ w _ hx341_5)).trans hx341_5
        replace hx341_6 := (HB.out.cell (bl_ w _ hx341_6)).trans hx341_6
        replace hx341_7 := (HB.out.cell (bl_ w _ hx341_7)).trans hx341_7
        replace hx341_8 := (HB.out.cell (bl_ w _ hx341_8)).trans hx341_8
        replace hx341_9 := (HB.out.cell (bl_ w _ hx341_9)).trans hx341_9
        replace hx341_10 := (HB.out.cell (bl_ w _ hx341_10)).trans hx341_10
        replace hx341_11 := (HB.out.cell (bl_ w _ hx341_11)).trans hx341_11
        replace hx341_12 := (HB.out.cell (bl_ w _ hx341_12)).trans hx341_12
        replace hx341_13 := (HB.out.cell (bl_ w _ hx341_13)).trans hx341_13
        replace hx341_14 := (HB.out.cell (bl_ w _ hx341_14)).trans hx341_14
        replace hx341_15 := (HB.out.cell (bl_ w _ hx341_15)).trans hx341_15
        have HR341_10 := Am hi341_10
        have HC341_10 := Am hl341_10
        clear hi341_10 hl341_10
        have HR341_12 := Am hi341_12
        have HC341_12 := Am hl341_12
        clear hi341_12 hl341_12
        have HR341_14 := Am hi341_14
        have HC341_14 := Am hl341_14
        clear hi341_14 hl341_14
        have HR341_15 := Am hi341_15
        have HC341_15 := Am hl341_15
        clear hi341_15 hl341_15
        replace p341 := eq_true p341
        replace q341 := eq_true q341
        refine start_ (n := 10) (S := fun w' => w'.cell? (ad340.add ((x5_1).toNat * 16)) = some (.int .i64 ((rd_T77 l0 x5_1).f0)) ∧ w'.cell? ⟨(ad340.add ((x5_1).toNat * 16)).block, (ad340.add ((x5_1).toNat * 16)).off + 1, none⟩ = some (.int .i64 ((rd_T77 l0 x5_1).f1)) ∧ w'.cell? ⟨(ad340.add ((x5_1).toNat * 16)).block, (ad340.add ((x5_1).toNat * 16)).off + 2, none⟩ = some (.int .i64 ((rd_T77 l0 x5_1).f2)) ∧ w'.cell? ⟨(ad340.add ((x5_1).toNat * 16)).block, (ad340.add ((x5_1).toNat * 16)).off + 3, none⟩ = some (.int .i64 ((rd_T77 l0 x5_1).f3)) ∧ w'.cell? ⟨(ad340.add ((x5_1).toNat * 16)).block, (ad340.add ((x5_1).toNat * 16)).off + 4, none⟩ = some (.int .i64 ((rd_T77 l0 x5_1).f4.f0)) ∧ w'.cell? ⟨(ad340.add ((x5_1).toNat * 16)).block, (ad340.add ((x5_1).toNat * 16)).off + 5, none⟩ = some (.int .i64 ((rd_T77 l0 x5_1).f4.f1)) ∧ w'.cell? ⟨(ad340.add ((x5_1).toNat * 16)).block, (ad340.add ((x5_1).toNat * 16)).off + 6, none⟩ = some (.int .i64 ((rd_T77 l0 x5_1).f4.f2)) ∧ w'.cell? ⟨(ad340.add ((x5_1).toNat * 16)).block, (ad340.add ((x5_1).toNat * 16)).off + 7, none⟩ = some (.int .i64 ((rd_T77 l0 x5_1).f4.f3)) ∧ w'.cell? ⟨(ad340.add ((x5_1).toNat * 16)).block, (ad340.add ((x5_1).toNat * 16)).off + 8, none⟩ = some (.int .i64 ((rd_T77 l0 x5_1).f4.f4)) ∧ w'.cell? ⟨(ad340.add ((x5_1).toNat * 16)).block, (ad340.add ((x5_1).toNat * 16)).off + 9, none⟩ = some (.int .i64 ((rd_T77 l0 x5_1).f5.f0)) ∧ w'.cell? ⟨(ad340.add ((x5_1).toNat * 16)).block, (ad340.add ((x5_1).toNat * 16)).off + 10, none⟩ = some (.slice A340_10 ((rd_T77 l0 x5_1).f5.f1).length c340_10) ∧ w'.cell? ⟨(ad340.add ((x5_1).toNat * 16)).block, (ad340.add ((x5_1).toNat * 16)).off + 11, none⟩ = some (.int .i64 ((rd_T77 l0 x5_1).f6.f0)) ∧ w'.cell? ⟨(ad340.add ((x5_1).toNat * 16)).block, (ad340.add ((x5_1).toNat * 16)).off + 12, none⟩ = some (.slice A340_12 ((rd_T77 l0 x5_1).f6.f1).length c340_12) ∧ w'.cell? ⟨(ad340.add ((x5_1).toNat * 16)).block, (ad340.add ((x5_1).toNat * 16)).off + 13, none⟩ = some (.bool ((rd_T77 l0 x5_1).f7)) ∧ w'.cell? ⟨(ad340.add ((x5_1).toNat * 16)).block, (ad340.add ((x5_1).toNat * 16)).off + 14, none⟩ = some (.slice A340_14 ((rd_T77 l0 x5_1).f8).length c340_14) ∧ w'.cell? ⟨(ad340.add ((x5_1).toNat * 16)).block, (ad340.add ((x5_1).toNat * 16)).off + 15, none⟩ = some (.slice A340_15 ((rd_T77 l0 x5_1).f9).length c340_15) ∧ w'.cell? (ad341.add ((x5_1).toNat * 16)) = some (.int .i64 ((rd_T77 l1 x5_1).f0)) ∧ w'.cell? ⟨(ad341.add ((x5_1).toNat * 16)).block, (ad341.add ((x5_1).toNat * 16)).off + 1, none⟩ = some (.int .i64 ((rd_T77 l1 x5_1).f1)) ∧ w'.cell? ⟨(ad341.add ((x5_1).toNat * 16)).block, (ad341.add ((x5_1).toNat * 16)).off + 2, none⟩ = some (.int .i64 ((rd_T77 l1 x5_1).f2)) ∧ w'.cell? ⟨(ad341.add ((x5_1).toNat * 16)).block, (ad341.add ((x5_1).toNat * 16)).off + 3, none⟩ = some (.int .i64 ((rd_T77 l1 x5_1).f3)) ∧ w'.cell? ⟨(ad341.add ((x5_1).toNat * 16)).block, (ad341.add ((x5_1).toNat * 16)).off + 4, none⟩ = some (.int .i64 ((rd_T77 l1 x5_1).f4.f0)) ∧ w'.cell? ⟨(ad341.add ((x5_1).toNat * 16)).block, (ad341.add ((x5_1).toNat * 16)).off + 5, none⟩ = some (.int .i64 ((rd_T77 l1 x5_1).f4.f1)) ∧ w'.cell? ⟨(ad341.add ((x5_1).toNat * 16)).block, (ad341.add ((x5_1).toNat * 16)).off + 6, none⟩ = some (.int .i64 ((rd_T77 l1 x5_1).f4.f2)) ∧ w'.cell? ⟨(ad341.add ((x5_1).toNat * 16)).block, (ad341.add ((x5_1).toNat * 16)).off + 7, none⟩ = some (.int .i64 ((rd_T77 l1 x5_1).f4.f3)) ∧ w'.cell? ⟨(ad341.add ((x5_1).toNat * 16)).block, (ad341.add ((x5_1).toNat * 16)).off + 8, none⟩ = some (.int .i64 ((rd_T77 l1 x5_1).f4.f4)) ∧ w'.cell? ⟨(ad341.add ((x5_1).toNat * 16)).block, (ad341.add ((x5_1).toNat * 16)).off + 9, none⟩ = some (.int .i64 ((rd_T77 l1 x5_1).f5.f0)) ∧ w'.cell? ⟨(ad341.add ((x5_1).toNat * 16)).block, (ad341.add ((x5_1).toNat * 16)).off + 10, none⟩ = some (.slice A341_10 ((rd_T77 l1 x5_1).f5.f1).length c341_10) ∧ w'.cell? ⟨(ad341.add ((x5_1).toNat * 16)).block, (ad341.add ((x5_1).toNat * 16)).off + 11, none⟩ = some (.int .i64 ((rd_T77 l1 x5_1).f6.f0)) ∧ w'.cell? ⟨(ad341.add ((x5_1).toNat * 16)).block, (ad341.add ((x5_1).toNat * 16)).off + 12, none⟩ = some (.slice A341_12 ((rd_T77 l1 x5_1).f6.f1).length c341_12) ∧ w'.cell? ⟨(ad341.add ((x5_1).toNat * 16)).block, (ad341.add ((x5_1).toNat * 16)).off + 13, none⟩ = some (.bool ((rd_T77 l1 x5_1).f7)) ∧ w'.cell? ⟨(ad341.add ((x5_1).toNat * 16)).block, (ad341.add ((x5_1).toNat * 16)).off + 14, none⟩ = some (.slice A341_14 ((rd_T77 l1 x5_1).f8).length c341_14) ∧ w'.cell? ⟨(ad341.add ((x5_1).toNat * 16)).block, (ad341.add ((x5_1).toNat * 16)).off + 15, none⟩ = some (.slice A341_15 ((rd_T77 l1 x5_1).f9).length c341_15)) (ds := []) #[false, false, false, false, false, false, false, false, false, false] (by kernel_rfl) rfl rfl ⟨((HB.out.cell (bl_ w _ hw340_0)).trans hw340_0), ((HB.out.cell (bl_ w _ hw340_1)).trans hw340_1), ((HB.out.cell (bl_ w _ hw340_2)).trans hw340_2), ((HB.out.cell (bl_ w _ hw340_3)).trans hw340_3), ((HB.out.cell (bl_ w _ hw340_4)).trans hw340_4), ((HB.out.cell (bl_ w _ hw340_5)).trans hw340_5), ((HB.out.cell (bl_ w _ hw340_6)).trans hw340_6), ((HB.out.cell (bl_ w _ hw340_7)).trans hw340_7), ((HB.out.cell (bl_ w _ hw340_8)).trans hw340_8), ((HB.out.cell (bl_ w _ hw340_9)).trans hw340_9), ((HB.out.cell (bl_ w _ hw340_10)).trans hw340_10), ((HB.out.cell (bl_ w _ hw340_11)).trans hw340_11), ((HB.out.cell (bl_ w _ hw340_12)).trans hw340_12), ((HB.out.cell (bl_ w _ hw340_13)).trans hw340_13), ((HB.out.cell (bl_ w _ hw340_14)).trans hw340_14), ((HB.out.cell (bl_ w _ hw340_15)).trans hw340_15), ((HB.out.cell (bl_ w _ hw341_0)).trans hw341_0), ((HB.out.cell (bl_ w _ hw341_1)).trans hw341_1), ((HB.out.cell (bl_ w _ hw341_2)).trans hw341_2), ((HB.out.cell (bl_ w _ hw341_3)).trans hw341_3), ((HB.out.cell (bl_ w _ hw341_4)).trans hw341_4), ((HB.out.cell (bl_ w _ hw341_5)).trans hw341_5), ((HB.out.cell (bl_ w _ hw341_6)).trans hw341_6), ((HB.out.cell (bl_ w _ hw341_7)).trans hw341_7), ((HB.out.cell (bl_ w _ hw341_8)).trans hw341_8), ((HB.out.cell (bl_ w _ hw341_9)).trans hw341_9), ((HB.out.cell (bl_ w _ hw341_10)).trans hw341_10), ((HB.out.cell (bl_ w _ hw341_11)).trans hw341_11), ((HB.out.cell (bl_ w _ hw341_12)).trans hw341_12), ((HB.out.cell (bl_ w _ hw341_13)).trans hw341_13), ((HB.out.cell (bl_ w _ hw341_14)).trans hw341_14), ((HB.out.cell (bl_ w _ hw341_15)).trans hw341_15)⟩ (fun hHeld => ?_); refine with_tabW laws_eqLeadS.tab6 laws_eqLeadS.bits6 (fun HT_ HW_ => ?_)
        generalize wr.drew = w9 at HB HR340_10 HR340_12 HR340_14 HR340_15 HR341_10 HR341_12 HR341_14 HR341_15 hx340_0 hx340_1 hx340_10 hx340_11 hx340_12 hx340_13 hx340_14 hx340_15 hx340_2 hx340_3 hx340_4 hx340_5 hx340_6 hx340_7 hx340_8 hx340_9 hx341_0 hx341_1 hx341_10 hx341_11 hx341_12 hx341_13 hx341_14 hx341_15 hx341_2 hx341_3 hx341_4 hx341_5 hx341_6 hx341_7 hx341_8 hx341_9 hHeld ⊢
        refine pure_ (i := 0) (N := some 17) (v := ?_) (a' := ?_) #[true, false, false, false, false, false, false, false, false, false] rfl rfl (any_of HT_.out (by kernel_rfl)) (fun _ _ _ h => h) (Or.inl ⟨by rfl, ?_⟩) ?_ ?_
        rotate_left
        ·intro w'
         go_simp
         with_reducible rfl
        rotate_left
        ·simp only [Act.put, Lt, Lz, Ls, i64_w, i32_w]
         rfl
        refine pure_ (i := 1) (N := some 18) (v := ?_) (a' := ?_) #[true, true, false, false, false, false, false, false, false, false] rfl rfl (any_of HT_.out (by kernel_rfl)) (fun _ _ _ h => h) (Or.inl ⟨by rfl, ?_⟩) ?_ ?_
        rotate_left
        ·intro w'
         go_simp
         with_reducible rfl
        rotate_left
        ·simp only [Act.put, Lt, Lz, Ls, i64_w, i32_w]
         rfl
        refine pure_ (i := 2) (N := some 19) (v := ?_) (a' := ?_) #[true, true, true, false, false, false, false, false, false, false] rfl rfl (any_of HT_.out (by kernel_rfl)) (fun _ _ _ h => h) (Or.inl ⟨by rfl, ?_⟩) ?_ ?_
        rotate_left
        ·intro w'
         go_simp
         with_reducible rfl
        rotate_left
        ·simp only [Act.put, Lt, Lz, Ls, i64_w, i32_w]
         rfl
        refine pure_ (i := 4) (N := some 21) (v := ?_) (a' := ?_) #[true, true, true, false, true, false, false, false, false, false] rfl rfl (any_of HT_.out (by kernel_rfl)) (fun _ _ _ h => h) (Or.inl ⟨by rfl, ?_⟩) ?_ ?_
        rotate_left
        ·intro w'
         go_simp
         with_reducible rfl
        rotate_left
        ·simp only [Act.put, Lt, Lz, Ls, i64_w, i32_w]
         rfl
        refine pure_ (i := 5) (N := some 22) (v := ?_) (a' := ?_) #[true, true, true, false, true, true, false, false, false, false] rfl rfl (any_of HT_.out (by kernel_rfl)) (fun _ _ _ h => h) (Or.inl ⟨by rfl, ?_⟩) ?_ ?_
        rotate_left
        ·intro w'
         go_simp
         with_reducible rfl
        rotate_left
        ·simp only [Act.put, Lt, Lz, Ls, i64_w, i32_w]
         rfl
        refine pure_ (i := 6) (N := some 23) (v := ?_) (a' := ?_) #[true, true, true, false, true, true, true, false, false, false] rfl rfl (any_of HT_.out (by kernel_rfl)) (fun _ _ _ h => h) (Or.inl ⟨by rfl, ?_⟩) ?_ ?_
        rotate_left
        ·intro w'
         go_simp
         with_reducible rfl
        rotate_left
        ·simp only [Act.put, Lt, Lz, Ls, i64_w, i32_w]
         rfl
        refine take_ (i := 3) (N := some 20) (v := ?_) (a' := ?_) #[true, true, true, true, true, true, true, false, false, false] rfl rfl (take_ofW HT_.out HW_.out (by kernel_rfl)) (fun _ _ _ h => h) (Or.inl ⟨by rfl, ?_⟩) hHeld ?_ ?_
        rotate_left
        ·rintro w' ⟨s0, s1, s2, s3, s4, s5, s6, s7, s8, s9, s10, s11, s12, s13, s14, s15, s16, s17, s18, s19, s20, s21, s22, s23, s24, s25, s26, s27, s28, s29, s30, s31⟩
         go_simp
         with_reducible rfl
        rotate_left
        ·simp only [Act.put, Lt, Lz, Ls, i64_w, i32_w]
         rfl
        refine take_ (i := 7) (N := some 24) (v := ?_) (a' := ?_) #[true, true, true, true, true, true, true, true, false, false] rfl rfl (take_ofW HT_.out HW_.out (by kernel_rfl)) (fun _ _ _ h => h) (Or.inl ⟨by rfl, ?_⟩) hHeld ?_ ?_
        rotate_left
        ·rintro w' ⟨s0, s1, s2, s3, s4, s5, s6, s7, s8, s9, s10, s11, s12, s13, s14, s15, s16, s17, s18, s19, s20, s21, s22, s23, s24, s25, s26, s27, s28, s29, s30, s31⟩
         go_simp
         with_reducible rfl
        rotate_left
        ·simp only [Act.put, Lt, Lz, Ls, i64_w, i32_w]
         rfl
        refine one_ (i := 8) (N := some 25) #[true, true, true, true, true, true, true, true, true, false] rfl rfl (one_of HT_.out (by kernel_rfl)) (by decide) (fun K hK => ?_)
        refine goes_ Try.func82 (by kernel_rfl) rfl #[.agg #[.int .i64 ((rd_T77 l0 x5_1).f0), .int .i64 ((rd_T77 l0 x5_1).f1), .int .i64 ((rd_T77 l0 x5_1).f2), .int .i64 ((rd_T77 l0 x5_1).f3), .int .i64 ((rd_T77 l0 x5_1).f4.f0), .int .i64 ((rd_T77 l0 x5_1).f4.f1), .int .i64 ((rd_T77 l0 x5_1).f4.f2), .int .i64 ((rd_T77 l0 x5_1).f4.f3), .int .i64 ((rd_T77 l0 x5_1).f4.f4), .int .i64 ((rd_T77 l0 x5_1).f5.f0), .slice A340_10 ((rd_T77 l0 x5_1).f5.f1).length c340_10, .int .i64 ((rd_T77 l0 x5_1).f6.f0), .slice A340_12 ((rd_T77 l0 x5_1).f6.f1).length c340_12, .bool ((rd_T77 l0 x5_1).f7), .slice A340_14 ((rd_T77 l0 x5_1).f8).length c340_14, .slice A340_15 ((rd_T77 l0 x5_1).f9).length c340_15], .agg #[.int .i64 ((rd_T77 l1 x5_1).f0), .int .i64 ((rd_T77 l1 x5_1).f1), .int .i64 ((rd_T77 l1 x5_1).f2), .int .i64 ((rd_T77 l1 x5_1).f3), .int .i64 ((rd_T77 l1 x5_1).f4.f0), .int .i64 ((rd_T77 l1 x5_1).f4.f1), .int .i64 ((rd_T77 l1 x5_1).f4.f2), .int .i64 ((rd_T77 l1 x5_1).f4.f3), .int .i64 ((rd_T77 l1 x5_1).f4.f4), .int .i64 ((rd_T77 l1 x5_1).f5.f0), .slice A341_10 ((rd_T77 l1 x5_1).f5.f1).length c341_10, .int .i64 ((rd_T77 l1 x5_1).f6.f0), .slice A341_12 ((rd_T77 l1 x5_1).f6.f1).length c341_12, .bool ((rd_T77 l1 x5_1).f7), .slice A341_14 ((rd_T77 l1 x5_1).f8).length c341_14, .slice A341_15 ((rd_T77 l1 x5_1).f9).length c341_15]] (by rfl) rfl rfl (by first | rfl | (simp only [List.map_toArray, List.map_cons, List.map_nil]; first | done | rfl)) ?_
        with_reducible refine (laws_eqLead.calls k1 ((rd_T77 l0 x5_1).f0) ((rd_T77 l0 x5_1).f1) ((rd_T77 l0 x5_1).f2) ((rd_T77 l0 x5_1).f3) ((rd_T77 l0 x5_1).f4.f0) ((rd_T77 l0 x5_1).f4.f1) ((rd_T77 l0 x5_1).f4.f2) ((rd_T77 l0 x5_1).f4.f3) ((rd_T77 l0 x5_1).f4.f4) ((rd_T77 l0 x5_1).f5.f0) _ _ ((rd_T77 l0 x5_1).f5.f1) ((rd_T77 l0 x5_1).f6.f0) _ _ ((rd_T77 l0 x5_1).f6.f1) ((rd_T77 l0 x5_1).f7) _ _ ((rd_T77 l0 x5_1).f8) _ _ ((rd_T77 l0 x5_1).f9) ((rd_T77 l1 x5_1).f0) ((rd_T77 l1 x5_1).f1) ((rd_T77 l1 x5_1).f2) ((rd_T77 l1 x5_1).f3) ((rd_T77 l1 x5_1).f4.f0) ((rd_T77 l1 x5_1).f4.f1) ((rd_T77 l1 x5_1).f4.f2) ((rd_T77 l1 x5_1).f4.f3) ((rd_T77 l1 x5_1).f4.f4) ((rd_T77 l1 x5_1).f5.f0) _ _ ((rd_T77 l1 x5_1).f5.f1) ((rd_T77 l1 x5_1).f6.f0) _ _ ((rd_T77 l1 x5_1).f6.f1) ((rd_T77 l1 x5_1).f7) _ _ ((rd_T77 l1 x5_1).f8) _ _ ((rd_T77 l1 x5_1).f9) true _ ?side1 ?side2 ?side3 ?side4 ?side5 ?side6 ?side7 ?side8 ?side9 ?side10 ?side11 ?side12 ?side13 ?side14 ?side15 ?side16 A7.out).mono ?_
        (case side1 => repeat (first | exact (Cb HR340_10.out HB.out) | (with_reducible refine Kd.C_alloc ?_ _) | (with_reducible refine Kd.C_drewN ?_ _) | (with_reducible refine Kd.C_drew ?_)))
        (case side2 => exact HC340_10.out)
        (case side3 => repeat (first | exact (Cb HR340_12.out HB.out) | (with_reducible refine Kd.C_alloc ?_ _) | (with_reducible refine Kd.C_drewN ?_ _) | (with_reducible refine Kd.C_drew ?_)))
        (case side4 => exact HC340_12.out)
        (case side5 => repeat (first | exact (Cb HR340_14.out HB.out) | (with_reducible refine Kd.C_alloc ?_ _) | (with_reducible refine Kd.C_drewN ?_ _) | (with_reducible refine Kd.C_drew ?_)))
        (case side6 => exact HC340_14.out)
        (case side7 => repeat (first | exact (Cb HR340_15.out HB.out) | (with_reducible refine Kd.C_alloc ?_ _) | (with_reducible refine Kd.C_drewN ?_ _) | (with_reducible refine Kd.C_drew ?_)))
        (case side8 => exact HC340_15.out)
        (case side9 => repeat (first | exact (Cb HR341_10.out HB.out) | (with_reducible refine Kd.C_alloc ?_ _) | (with_reducible refine Kd.C_drewN ?_ _) | (with_reducible refine Kd.C_drew ?_)))
        (case side10 => exact HC341_10.out)
        (case side11 => repeat (first | exact (Cb HR341_12.out HB.out) | (with_reducible refine Kd.C_alloc ?_ _) | (with_reducible refine Kd.C_drewN ?_ _) | (with_reducible refine Kd.C_drew ?_)))
        (case side12 => exact HC341_12.out)
        (case side13 => repeat (first | exact (Cb HR341_14.out HB.out) | (with_reducible refine Kd.C_alloc ?_ _) | (with_reducible refine Kd.C_drewN ?_ _) | (with_reducible refine Kd.C_drew ?_)))
        (case side14 => exact HC341_14.out)
        (case side15 => repeat (first | exact (Cb HR341_15.out HB.out) | (with_reducible refine Kd.C_alloc ?_ _) | (with_reducible refine Kd.C_drewN ?_ _) | (with_reducible refine Kd.C_drew ?_)))
        (case side16 => exact HC341_15.out)
        rintro e w10 ⟨rfl, hb⟩
        refine ⟨_, rfl, ?_⟩
        have n0_ := Am (Bt (by repeat (first | exact HB.out | apply Ba | apply Bn | apply Bd)) hb)
        clear HB
        have HB := n0_
        clear n0_
        (try clear hb)
        (try clear hb2)
        (try clear hk)
        (try clear hi)
        refine hK.out _ _ ⟨((HB.out.cell (bl_ w _ hw340_0)).trans hw340_0), ((HB.out.cell (bl_ w _ hw340_1)).trans hw340_1), ((HB.out.cell (bl_ w _ hw340_2)).trans hw340_2), ((HB.out.cell (bl_ w _ hw340_3)).trans hw340_3), ((HB.out.cell (bl_ w _ hw340_4)).trans hw340_4), ((HB.out.cell (bl_ w _ hw340_5)).trans hw340_5), ((HB.out.cell (bl_ w _ hw340_6)).trans hw340_6), ((HB.out.cell (bl_ w _ hw340_7)).trans hw340_7), ((HB.out.cell (bl_ w _ hw340_8)).trans hw340_8), ((HB.out.cell (bl_ w _ hw340_9)).trans hw340_9), ((HB.out.cell (bl_ w _ hw340_10)).trans hw340_10), ((HB.out.cell (bl_ w _ hw340_11)).trans hw340_11), ((HB.out.cell (bl_ w _ hw340_12)).trans hw340_12), ((HB.out.cell (bl_ w _ hw340_13)).trans hw340_13), ((HB.out.cell (bl_ w _ hw340_14)).trans hw340_14), ((HB.out.cell (bl_ w _ hw340_15)).trans hw340_15), ((HB.out.cell (bl_ w _ hw341_0)).trans hw341_0), ((HB.out.cell (bl_ w _ hw341_1)).trans hw341_1), ((HB.out.cell (bl_ w _ hw341_2)).trans hw341_2), ((HB.out.cell (bl_ w _ hw341_3)).trans hw341_3), ((HB.out.cell (bl_ w _ hw341_4)).trans hw341_4), ((HB.out.cell (bl_ w _ hw341_5)).trans hw341_5), ((HB.out.cell (bl_ w _ hw341_6)).trans hw341_6), ((HB.out.cell (bl_ w _ hw341_7)).trans hw341_7), ((HB.out.cell (bl_ w _ hw341_8)).trans hw341_8), ((HB.out.cell (bl_ w _ hw341_9)).trans hw341_9), ((HB.out.cell (bl_ w _ hw341_10)).trans hw341_10), ((HB.out.cell (bl_ w _ hw341_11)).trans hw341_11), ((HB.out.cell (bl_ w _ hw341_12)).trans hw341_12), ((HB.out.cell (bl_ w _ hw341_13)).trans hw341_13), ((HB.out.cell (bl_ w _ hw341_14)).trans hw341_14), ((HB.out.cell (bl_ w _ hw341_15)).trans hw341_15)⟩ (fun hHeld => ?_)
        clear hK K
        refine norm_ (a' := ?_) ?_ ?_
        rotate_left
        ·show Act.put _ (some 25) _ = _
         simp only [Act.put, Lt, Lz, Ls, i64_w, i32_w]
         rfl
        refine pure_ (i := 9) (N := some 26) (v := ?_) (a' := ?_) #[true, true, true, true, true, true, true, true, true, true] rfl rfl (any_of HT_.out (by kernel_rfl)) (fun _ _ _ h => h) (Or.inl ⟨by rfl, ?_⟩) ?_ ?_
        rotate_left
        ·intro w'
         go_simp
         with_reducible rfl
        rotate_left
        ·simp only [Act.put, Lt, Lz, Ls, i64_w, i32_w]
         rfl
        refine done_ (done_of HT_.out (by kernel_rfl)) ?_
        try go_wp2
        go_roundg k1
        case measure => have := HK1.out; omega
        case rel => exact ⟨(wrap64 (x5_1 + 1)), (by first | rfl | (simp; done) | (simp [*]; done)), H', ⟨by have := HK1.out; omega⟩, ⟨by repeat (first | exact HB.out | apply Ba | apply Bn | apply Bd)⟩⟩
       ·replace c8 := Bool.eq_false_iff.mpr c8
        subst c8
        have H1 : (some false) = some r := by rw [if_neg (show ¬ (false = true) by decide)] at H; exact H
        clear H
        have H := H1
        clear H1
        obtain rfl := Option.some.inj H
        try go_wp2
        have n0_ := Am (Bd HB.out)
        clear HB
        have HB := n0_
        clear n0_
        have p340 : 0 ≤ (x5_1 : Int) := of_decide_eq_true (by assumption)
        have q340 : x5_1 < (l0.length : Int) := of_decide_eq_true (by assumption)
        obtain ⟨ad340, A340_10, c340_10, A340_12, c340_12, A340_14, c340_14, A340_15, c340_15, e340, hx340_0, hx340_1, hx340_2, hx340_3, hx340_4, hx340_5, hx340_6, hx340_7, hx340_8, hx340_9, hx340_10, hx340_11, hx340_12, hx340_13, hx340_14, hx340_15, hl340_10, hi340_10, hl340_12, hi340_12, hl340_14, hi340_14, hl340_15, hi340_15⟩ := at_T77 HR0.out x5_1 p340 q340
        have hw340_15 := hx340_15
        have hw340_14 := hx340_14
        have hw340_13 := hx340_13
        have hw340_12 := hx340_12
        have hw340_11 := hx340_11
        have hw340_10 := hx340_10
        have hw340_9 := hx340_9
        have hw340_8 := hx340_8
        have hw340_7 := hx340_7
        have hw340_6 := hx340_6
        have hw340_5 := hx340_5
        have hw340_4 := hx340_4
        have hw340_3 := hx340_3
        have hw340_2 := hx340_2
        have hw340_1 := hx340_1
        have hw340_0 := hx340_0
        cases e340
        replace hx340_0 := (HB.out.cell (bl_ w _ hx340_0)).trans hx340_0
        replace hx340_1 := (HB.out.cell (bl_ w _ hx340_1)).trans hx340_1
        replace hx340_2 := (HB.out.cell (bl_ w _ hx340_2)).trans hx340_2
        replace hx340_3 := (HB.out.cell (bl_ w _ hx340_3)).trans hx340_3
        replace hx340_4 := (HB.out.cell (bl_ w _ hx340_4)).trans hx340_4
        replace hx340_5 := (HB.out.cell (bl_ w _ hx340_5)).trans hx340_5
        replace hx340_6 := (HB.out.cell (bl_ w _ hx340_6)).trans hx340_6
        replace hx340_7 := (HB.out.cell (bl_ w _ hx340_7)).trans hx340_7
        replace hx340_8 := (HB.out.cell (bl_ w _ hx340_8)).trans hx340_8
        replace hx340_9 := (HB.out.cell (bl_ w _ hx340_9)).trans hx340_9
        replace hx340_10 := (HB.out.cell (bl_ w _ hx340_10)).trans hx340_10
        replace hx340_11 := (HB.out.cell (bl_ w _ hx340_11)).trans hx340_11
        replace hx340_12 := (HB.out.cell (bl_ w _ hx340_12)).trans hx340_12
        replace hx340_13 := (HB.out.cell (bl_ w _ hx340_13)).trans hx340_13
        replace hx340_14 := (HB.out.cell (bl_ w _ hx340_14)).trans hx340_14
        replace hx340_15 := (HB.out.cell (bl_ w _ hx340_15)).trans hx340_15
        have HR340_10 := Am hi340_10
        have HC340_10 := Am hl340_10
        clear hi340_10 hl340_10
        have HR340_12 := Am hi340_12
        have HC340_12 := Am hl340_12
        clear hi340_12 hl340_12
        have HR340_14 := Am hi340_14
        have HC340_14 := Am hl340_14
        clear hi340_14 hl340_14
        have HR340_15 := Am hi340_15
        have HC340_15 := Am hl340_15
        clear hi340_15 hl340_15
        replace p340 := eq_true p340
        replace q340 := eq_true q340
        have p341 : 0 ≤ (x5_1 : Int) := of_decide_eq_true (by assumption)
        have q341 : x5_1 < (l1.length : Int) := of_decide_eq_true (by assumption)
        obtain ⟨ad341, A341_10, c341_10, A341_12, c341_12, A341_14, c341_14, A341_15, c341_15, e341, hx341_0, hx341_1, hx341_2, hx341_3, hx341_4, hx341_5, hx341_6, hx341_7, hx341_8, hx341_9, hx341_10, hx341_11, hx341_12, hx341_13, hx341_14, hx341_15, hl341_10, hi341_10, hl341_12, hi341_12, hl341_14, hi341_14, hl341_15, hi341_15⟩ := at_T77 HR1.out x5_1 p341 q341
        have hw341_15 := hx341_15
        have hw341_14 := hx341_14
        have hw341_13 := hx341_13
        have hw341_12 := hx341_12
        have hw341_11 := hx341_11
        have hw341_10 := hx341_10
        have hw341_9 := hx341_9
        have hw341_8 := hx341_8
        have hw341_7 := hx341_7
        have hw341_6 := hx341_6
        have hw341_5 := hx341_5
        have hw341_4 := hx341_4
        have hw341_3 := hx341_3
        have hw341_2 := hx341_2
        have hw341_1 := hx341_1
        have hw341_0 := hx341_0
        cases e341
        replace hx341_0 := (HB.out.cell (bl_ w _ hx341_0)).trans hx341_0
        replace hx341_1 := (HB.out.cell (bl_ w _ hx341_1)).trans hx341_1
        replace hx341_2 := (HB.out.cell (bl_ w _ hx341_2)).trans hx341_2
        replace hx341_3 := (HB.out.cell (bl_ w _ hx341_3)).trans hx341_3
        replace hx341_4 := (HB.out.cell (bl_ w _ hx341_4)).trans hx341_4
        replace hx341_5 := (HB.out.cell (bl_ w _ hx341_5)).trans hx341_5
        replace hx341_6 := (HB.out.cell (bl_ w _ hx341_6)).trans hx341_6
        replace hx341_7 := (HB.out.cell (bl_ w _ hx341_7)).trans hx341_7
        replace hx341_8 := (HB.out.cell (bl_ w _ hx341_8)).trans hx341_8
        replace hx341_9 := (HB.out.cell (bl_ w _ hx341_9)).trans hx341_9
        replace hx341_10 := (HB.out.cell (bl_ w _ hx341_10)).trans hx341_10
        replace hx341_11 := (HB.out.cell (bl_ w _ hx341_11)).trans hx341_11
        replace hx341_12 := (HB.out.cell (bl_ w _ hx341_12)).trans hx341_12
        replace hx341_13 := (HB.out.cell (bl_ w _ hx341_13)).trans hx341_13
        replace hx341_14 := (HB.out.cell (bl_ w _ hx341_14)).trans hx341_14
        replace hx341_15 := (HB.out.cell (bl_ w _ hx341_15)).trans hx341_15
        have HR341_10 := Am hi341_10
        have HC341_10 := Am hl341_10
        clear hi341_10 hl341_10
        have HR341_12 := Am hi341_12
        have HC341_12 := Am hl341_12
        clear hi341_12 hl341_12
        have HR341_14 := Am hi341_14
        have HC341_14 := Am hl341_14
        clear hi341_14 hl341_14
        have HR341_15 := Am hi341_15
        have HC341_15 := Am hl341_15
        clear hi341_15 hl341_15
        replace p341 := eq_true p341
        replace q341 := eq_true q341
        refine start_ (n := 10) (S := fun w' => w'.cell? (ad340.add ((x5_1).toNat * 16)) = some (.int .i64 ((rd_T77 l0 x5_1).f0)) ∧ w'.cell? ⟨(ad340.add ((x5_1).toNat * 16)).block, (ad340.add ((x5_1).toNat * 16)).off + 1, none⟩ = some (.int .i64 ((rd_T77 l0 x5_1).f1)) ∧ w'.cell? ⟨(ad340.add ((x5_1).toNat * 16)).block, (ad340.add ((x5_1).toNat * 16)).off + 2, none⟩ = some (.int .i64 ((rd_T77 l0 x5_1).f2)) ∧ w'.cell? ⟨(ad340.add ((x5_1).toNat * 16)).block, (ad340.add ((x5_1).toNat * 16)).off + 3, none⟩ = some (.int .i64 ((rd_T77 l0 x5_1).f3)) ∧ w'.cell? ⟨(ad340.add ((x5_1).toNat * 16)).block, (ad340.add ((x5_1).toNat * 16)).off + 4, none⟩ = some (.int .i64 ((rd_T77 l0 x5_1).f4.f0)) ∧ w'.cell? ⟨(ad340.add ((x5_1).toNat * 16)).block, (ad340.add ((x5_1).toNat * 16)).off + 5, none⟩ = some (.int .i64 ((rd_T77 l0 x5_1).f4.f1)) ∧ w'.cell? ⟨(ad340.add ((x5_1).toNat * 16)).block, (ad340.add ((x5_1).toNat * 16)).off + 6, none⟩ = some (.int .i64 ((rd_T77 l0 x5_1).f4.f2)) ∧ w'.cell? ⟨(ad340.add ((x5_1).toNat * 16)).block, (ad340.add ((x5_1).toNat * 16)).off + 7, none⟩ = some (.int .i64 ((rd_T77 l0 x5_1).f4.f3)) ∧ w'.cell? ⟨(ad340.add ((x5_1).toNat * 16)).block, (ad340.add ((x5_1).toNat * 16)).off + 8, none⟩ = some (.int .i64 ((rd_T77 l0 x5_1).f4.f4)) ∧ w'.cell? ⟨(ad340.add ((x5_1).toNat * 16)).block, (ad340.add ((x5_1).toNat * 16)).off + 9, none⟩ = some (.int .i64 ((rd_T77 l0 x5_1).f5.f0)) ∧ w'.cell? ⟨(ad340.add ((x5_1).toNat * 16)).block, (ad340.add ((x5_1).toNat * 16)).off + 10, none⟩ = some (.slice A340_10 ((rd_T77 l0 x5_1).f5.f1).length c340_10) ∧ w'.cell? ⟨(ad340.add ((x5_1).toNat * 16)).block, (ad340.add ((x5_1).toNat * 16)).off + 11, none⟩ = some (.int .i64 ((rd_T77 l0 x5_1).f6.f0)) ∧ w'.cell? ⟨(ad340.add ((x5_1).toNat * 16)).block, (ad340.add ((x5_1).toNat * 16)).off + 12, none⟩ = some (.slice A340_12 ((rd_T77 l0 x5_1).f6.f1).length c340_12) ∧ w'.cell? ⟨(ad340.add ((x5_1).toNat * 16)).block, (ad340.add ((x5_1).toNat * 16)).off + 13, none⟩ = some (.bool ((rd_T77 l0 x5_1).f7)) ∧ w'.cell? ⟨(ad340.add ((x5_1).toNat * 16)).block, (ad340.add ((x5_1).toNat * 16)).off + 14, none⟩ = some (.slice A340_14 ((rd_T77 l0 x5_1).f8).length c340_14) ∧ w'.cell? ⟨(ad340.add ((x5_1).toNat * 16)).block, (ad340.add ((x5_1).toNat * 16)).off + 15, none⟩ = some (.slice A340_15 ((rd_T77 l0 x5_1).f9).length c340_15) ∧ w'.cell? (ad341.add ((x5_1).toNat * 16)) = some (.int .i64 ((rd_T77 l1 x5_1).f0)) ∧ w'.cell? ⟨(ad341.add ((x5_1).toNat * 16)).block, (ad341.add ((x5_1).toNat * 16)).off + 1, none⟩ = some (.int .i64 ((rd_T77 l1 x5_1).f1)) ∧ w'.cell? ⟨(ad341.add ((x5_1).toNat * 16)).block, (ad341.add ((x5_1).toNat * 16)).off + 2, none⟩ = some (.int .i64 ((rd_T77 l1 x5_1).f2)) ∧ w'.cell? ⟨(ad341.add ((x5_1).toNat * 16)).block, (ad341.add ((x5_1).toNat * 16)).off + 3, none⟩ = some (.int .i64 ((rd_T77 l1 x5_1).f3)) ∧ w'.cell? ⟨(ad341.add ((x5_1).toNat * 16)).block, (ad341.add ((x5_1).toNat * 16)).off + 4, none⟩ = some (.int .i64 ((rd_T77 l1 x5_1).f4.f0)) ∧ w'.cell? ⟨(ad341.add ((x5_1).toNat * 16)).block, (ad341.add ((x5_1).toNat * 16)).off + 5, none⟩ = some (.int .i64 ((rd_T77 l1 x5_1).f4.f1)) ∧ w'.cell? ⟨(ad341.add ((x5_1).toNat * 16)).block, (ad341.add ((x5_1).toNat * 16)).off + 6, none⟩ = some (.int .i64 ((rd_T77 l1 x5_1).f4.f2)) ∧ w'.cell? ⟨(ad341.add ((x5_1).toNat * 16)).block, (ad341.add ((x5_1).toNat * 16)).off + 7, none⟩ = some (.int .i64 ((rd_T77 l1 x5_1).f4.f3)) ∧ w'.cell? ⟨(ad341.add ((x5_1).toNat * 16)).block, (ad341.add ((x5_1).toNat * 16)).off + 8, none⟩ = some (.int .i64 ((rd_T77 l1 x5_1).f4.f4)) ∧ w'.cell? ⟨(ad341.add ((x5_1).toNat * 16)).block, (ad341.add ((x5_1).toNat * 16)).off + 9, none⟩ = some (.int .i64 ((rd_T77 l1 x5_1).f5.f0)) ∧ w'.cell? ⟨(ad341.add ((x5_1).toNat * 16)).block, (ad341.add ((x5_1).toNat * 16)).off + 10, none⟩ = some (.slice A341_10 ((rd_T77 l1 x5_1).f5.f1).length c341_10) ∧ w'.cell? ⟨(ad341.add ((x5_1).toNat * 16)).block, (ad341.add ((x5_1).toNat * 16)).off + 11, none⟩ = some (.int .i64 ((rd_T77 l1 x5_1).f6.f0)) ∧ w'.cell? ⟨(ad341.add ((x5_1).toNat * 16)).block, (ad341.add ((x5_1).toNat * 16)).off + 12, none⟩ = some (.slice A341_12 ((rd_T77 l1 x5_1).f6.f1).length c341_12) ∧ w'.cell? ⟨(ad341.add ((x5_1).toNat * 16)).block, (ad341.add ((x5_1).toNat * 16)).off + 13, none⟩ = some (.bool ((rd_T77 l1 x5_1).f7)) ∧ w'.cell? ⟨(ad341.add ((x5_1).toNat * 16)).block, (ad341.add ((x5_1).toNat * 16)).off + 14, none⟩ = some (.slice A341_14 ((rd_T77 l1 x5_1).f8).length c341_14) ∧ w'.cell? ⟨(ad341.add ((x5_1).toNat * 16)).block, (ad341.add ((x5_1).toNat * 16)).off + 15, none⟩ = some (.slice A341_15 ((rd_T77 l1 x5_1).f9).length c341_15)) (ds := []) #[false, false, false, false, false, false, false, false, false, false] (by kernel_rfl) rfl rfl ⟨((HB.out.cell (bl_ w _ hw340_0)).trans hw340_0), ((HB.out.cell (bl_ w _ hw340_1)).trans hw340_1), ((HB.out.cell (bl_ w _ hw340_2)).trans hw340_2), ((HB.out.cell (bl_ w _ hw340_3)).trans hw340_3), ((HB.out.cell (bl_ w _ hw340_4)).trans hw340_4), ((HB.out.cell (bl_ w _ hw340_5)).trans hw340_5), ((HB.out.cell (bl_ w _ hw340_6)).trans hw340_6), ((HB.out.cell (bl_ w _ hw340_7)).trans hw340_7), ((HB.out.cell (bl_ w _ hw340_8)).trans hw340_8), ((HB.out.cell (bl_ w _ hw340_9)).trans hw340_9), ((HB.out.cell (bl_ w _ hw340_10)).trans hw340_10), ((HB.out.cell (bl_ w _ hw340_11)).trans hw340_11), ((HB.out.cell (bl_ w _ hw340_12)).trans hw340_12), ((HB.out.cell (bl_ w _ hw340_13)).trans hw340_13), ((HB.out.cell (bl_ w _ hw340_14)).trans hw340_14), ((HB.out.cell (bl_ w _ hw340_15)).trans hw340_15), ((HB.out.cell (bl_ w _ hw341_0)).trans hw341_0), ((HB.out.cell (bl_ w _ hw341_1)).trans hw341_1), ((HB.out.cell (bl_ w _ hw341_2)).trans hw341_2), ((HB.out.cell (bl_ w _ hw341_3)).trans hw341_3), ((HB.out.cell (bl_ w _ hw341_4)).trans hw341_4), ((HB.out.cell (bl_ w _ hw341_5)).trans hw341_5), ((HB.out.cell (bl_ w _ hw341_6)).trans hw341_6), ((HB.out.cell (bl_ w _ hw341_7)).trans hw341_7), ((HB.out.cell (bl_ w _ hw341_8)).trans hw341_8), ((HB.out.cell (bl_ w _ hw341_9)).trans hw341_9), ((HB.out.cell (bl_ w _ hw341_10)).trans hw341_10), ((HB.out.cell (bl_ w _ hw341_11)).trans hw341_11), ((HB.out.cell (bl_ w _ hw341_12)).trans hw341_12), ((HB.out.cell (bl_ w _ hw341_13)).trans hw341_13), ((HB.out.cell (bl_ w _ hw341_14)).trans hw341_14), ((HB.out.cell (bl_ w _ hw341_15)).trans hw341_15)⟩ (fun hHeld => ?_); refine with_tabW laws_eqLeadS.tab6 laws_eqLeadS.bits6 (fun HT_ HW_ => ?_)
        generalize wr.drew = w11 at HB HR340_10 HR340_12 HR340_14 HR340_15 HR341_10 HR341_12 HR341_14 HR341_15 hx340_0 hx340_1 hx340_10 hx340_11 hx340_12 hx340_13 hx340_14 hx340_15 hx340_2 hx340_3 hx340_4 hx340_5 hx340_6 hx340_7 hx340_8 hx340_9 hx341_0 hx341_1 hx341_10 hx341_11 hx341_12 hx341_13 hx341_14 hx341_15 hx341_2 hx341_3 hx341_4 hx341_5 hx341_6 hx341_7 hx341_8 hx341_9 hHeld ⊢
        refine pure_ (i := 0) (N := some 17) (v := ?_) (a' := ?_) #[true, false, false, false, false, false, false, false, false, false] rfl rfl (any_of HT_.out (by kernel_rfl)) (fun _ _ _ h => h) (Or.inl ⟨by rfl, ?_⟩) ?_ ?_
        rotate_left
        ·intro w'
         go_simp
         with_reducible rfl
        rotate_left
        ·simp only [Act.put, Lt, Lz, Ls, i64_w, i32_w]
         rfl
        refine pure_ (i := 1) (N := some 18) (v := ?_) (a' := ?_) #[true, true, false, false, false, false, false, false, false, false] rfl rfl (any_of HT_.out (by kernel_rfl)) (fun _ _ _ h => h) (Or.inl ⟨by rfl, ?_⟩) ?_ ?_
        rotate_left
        ·intro w'
         go_simp
         with_reducible rfl
        rotate_left
        ·simp only [Act.put, Lt, Lz, Ls, i64_w, i32_w]
         rfl
        refine pure_ (i := 2) (N := some 19) (v := ?_) (a' := ?_) #[true, true, true, false, false, false, false, false, false, false] rfl rfl (any_of HT_.out (by kernel_rfl)) (fun _ _ _ h => h) (Or.inl ⟨by rfl, ?_⟩) ?_ ?_
        rotate_left
        ·intro w'
         go_simp
         with_reducible rfl
        rotate_left
        ·simp only [Act.put, Lt, Lz, Ls, i64_w, i32_w]
         rfl
        refine pure_ (i := 4) (N := some 21) (v := ?_) (a' := ?_) #[true, true, true, false, true, false, false, false, false, false] rfl rfl (any_of HT_.out (by kernel_rfl)) (fun _ _ _ h => h) (Or.inl ⟨by rfl, ?_⟩) ?_ ?_
        rotate_left
        ·intro w'
         go_simp
         with_reducible rfl
        rotate_left
        ·simp only [Act.put, Lt, Lz, Ls, i64_w, i32_w]
         rfl
        refine pure_ (i := 5) (N := some 22) (v := ?_) (a' := ?_) #[true, true, true, false, true, true, false, false, false, false] rfl rfl (any_of HT_.out (by kernel_rfl)) (fun _ _ _ h => h) (Or.inl ⟨by rfl, ?_⟩) ?_ ?_
        rotate_left
        ·intro w'
         go_simp
         with_reducible rfl
        rotate_left
        ·simp only [Act.put, Lt, Lz, Ls, i64_w, i32_w]
         rfl
        refine pure_ (i := 6) (N := some 23) (v := ?_) (a' := ?_) #[true, true, true, false, true, true, true, false, false, false] rfl rfl (any_of HT_.out (by kernel_rfl)) (fun _ _ _ h => h) (Or.inl ⟨by rfl, ?_⟩) ?_ ?_
        rotate_left
        ·intro w'
         go_simp
         with_reducible rfl
        rotate_left
        ·simp only [Act.put, Lt, Lz, Ls, i64_w, i32_w]
         rfl
        refine take_ (i := 3) (N := some 20) (v := ?_) (a' := ?_) #[true, true, true, true, true, true, true, false, false, false] rfl rfl (take_ofW HT_.out HW_.out (by kernel_rfl)) (fun _ _ _ h => h) (Or.inl ⟨by rfl, ?_⟩) hHeld ?_ ?_
        rotate_left
        ·rintro w' ⟨s0, s1, s2, s3, s4, s5, s6, s7, s8, s9, s10, s11, s12, s13, s14, s15, s16, s17, s18, s19, s20, s21, s22, s23, s24, s25, s26, s27, s28, s29, s30, s31⟩
         go_simp
         with_reducible rfl
        rotate_left
        ·simp only [Act.put, Lt, Lz, Ls, i64_w, i32_w]
         rfl
        refine take_ (i := 7) (N := some 24) (v := ?_) (a' := ?_) #[true, true, true, true, true, true, true, true, false, false] rfl rfl (take_ofW HT_.out HW_.out (by kernel_rfl)) (fun _ _ _ h => h) (Or.inl ⟨by rfl, ?_⟩) hHeld ?_ ?_
        rotate_left
        ·rintro w' ⟨s0, s1, s2, s3, s4, s5, s6, s7, s8, s9, s10, s11, s12, s13, s14, s15, s16, s17, s18, s19, s20, s21, s22, s23, s24, s25, s26, s27, s28, s29, s30, s31⟩
         go_simp
         with_reducible rfl
        rotate_left
        ·simp only [Act.put, Lt, Lz, Ls, i64_w, i32_w]
         rfl
        refine one_ (i := 8) (N := some 25) #[true, true, true, true, true, true, true, true, true, false] rfl rfl (one_of HT_.out (by kernel_rfl)) (by decide) (fun K hK => ?_)
        refine goes_ Try.func82 (by kernel_rfl) rfl #[.agg #[.int .i64 ((rd_T77 l0 x5_1).f0), .int .i64 ((rd_T77 l0 x5_1).f1), .int .i64 ((rd_T77 l0 x5_1).f2), .int .i64 ((rd_T77 l0 x5_1).f3), .int .i64 ((rd_T77 l0 x5_1).f4.f0), .int .i64 ((rd_T77 l0 x5_1).f4.f1), .int .i64 ((rd_T77 l0 x5_1).f4.f2), .int .i64 ((rd_T77 l0 x5_1).f4.f3), .int .i64 ((rd_T77 l0 x5_1).f4.f4), .int .i64 ((rd_T77 l0 x5_1).f5.f0), .slice A340_10 ((rd_T77 l0 x5_1).f5.f1).length c340_10, .int .i64 ((rd_T77 l0 x5_1).f6.f0), .slice A340_12 ((rd_T77 l0 x5_1).f6.f1).length c340_12, .bool ((rd_T77 l0 x5_1).f7), .slice A340_14 ((rd_T77 l0 x5_1).f8).length c340_14, .slice A340_15 ((rd_T77 l0 x5_1).f9).length c340_15], .agg #[.int .i64 ((rd_T77 l1 x5_1).f0), .int .i64 ((rd_T77 l1 x5_1).f1), .int .i64 ((rd_T77 l1 x5_1).f2), .int .i64 ((rd_T77 l1 x5_1).f3), .int .i64 ((rd_T77 l1 x5_1).f4.f0), .int .i64 ((rd_T77 l1 x5_1).f4.f1), .int .i64 ((rd_T77 l1 x5_1).f4.f2), .int .i64 ((rd_T77 l1 x5_1).f4.f3), .int .i64 ((rd_T77 l1 x5_1).f4.f4), .int .i64 ((rd_T77 l1 x5_1).f5.f0), .slice A341_10 ((rd_T77 l1 x5_1).f5.f1).length c341_10, .int .i64 ((rd_T77 l1 x5_1).f6.f0), .slice A341_12 ((rd_T77 l1 x5_1).f6.f1).length c341_12, .bool ((rd_T77 l1 x5_1).f7), .slice A341_14 ((rd_T77 l1 x5_1).f8).length c341_14, .slice A341_15 ((rd_T77 l1 x5_1).f9).length c341_15]] (by rfl) rfl rfl (by first | rfl | (simp only [List.map_toArray, List.map_cons, List.map_nil]; first | done | rfl)) ?_
        with_reducible refine (laws_eqLead.calls k1 ((rd_T77 l0 x5_1).f0) ((rd_T77 l0 x5_1).f1) ((rd_T77 l0 x5_1).f2) ((rd_T77 l0 x5_1).f3) ((rd_T77 l0 x5_1).f4.f0) ((rd_T77 l0 x5_1).f4.f1) ((rd_T77 l0 x5_1).f4.f2) ((rd_T77 l0 x5_1).f4.f3) ((rd_T77 l0 x5_1).f4.f4) ((rd_T77 l0 x5_1).f5.f0) _ _ ((rd_T77 l0 x5_1).f5.f1) ((rd_T77 l0 x5_1).f6.f0) _ _ ((rd_T77 l0 x5_1).f6.f1) ((rd_T77 l0 x5_1).f7) _ _ ((rd_T77 l0 x5_1).f8) _ _ ((rd_T77 l0 x5_1).f9) ((rd_T77 l1 x5_1).f0) ((rd_T77 l1 x5_1).f1) ((rd_T77 l1 x5_1).f2) ((rd_T77 l1 x5_1).f3) ((rd_T77 l1 x5_1).f4.f0) ((rd_T77 l1 x5_1).f4.f1) ((rd_T77 l1 x5_1).f4.f2) ((rd_T77 l1 x5_1).f4.f3) ((rd_T77 l1 x5_1).f4.f4) ((rd_T77 l1 x5_1).f5.f0) _ _ ((rd_T77 l1 x5_1).f5.f1) ((rd_T77 l1 x5_1).f6.f0) _ _ ((rd_T77 l1 x5_1).f6.f1) ((rd_T77 l1 x5_1).f7) _ _ ((rd_T77 l1 x5_1).f8) _ _ ((rd_T77 l1 x5_1).f9) false _ ?side1 ?side2 ?side3 ?side4 ?side5 ?side6 ?side7 ?side8 ?side9 ?side10 ?side11 ?side12 ?side13 ?side14 ?side15 ?side16 A7.out).mono ?_
        (case side1 => repeat (first | exact (Cb HR340_10.out HB.out) | (with_reducible refine Kd.C_alloc ?_ _) | (with_reducible refine Kd.C_drewN ?_ _) | (with_reducible refine Kd.C_drew ?_)))
        (case side2 => exact HC340_10.out)
        (case side3 => repeat (first | exact (Cb HR340_12.out HB.out) | (with_reducible refine Kd.C_alloc ?_ _) | (with_reducible refine Kd.C_drewN ?_ _) | (with_reducible refine Kd.C_drew ?_)))
        (case side4 => exact HC340_12.out)
        (case side5 => repeat (first | exact (Cb HR340_14.out HB.out) | (with_reducible refine Kd.C_alloc ?_ _) | (with_reducible refine Kd.C_drewN ?_ _) | (with_reducible refine Kd.C_drew ?_)))
        (case side6 => exact HC340_14.out)
        (case side7 => repeat (first | exact (Cb HR340_15.out HB.out) | (with_reducible refine Kd.C_alloc ?_ _) | (with_reducible refine Kd.C_drewN ?_ _) | (with_reducible refine Kd.C_drew ?_)))
        (case side8 => exact HC340_15.out)
        (case side9 => repeat (first | exact (Cb HR341_10.out HB.out) | (with_reducible refine Kd.C_alloc ?_ _) | (with_reducible refine Kd.C_drewN ?_ _) | (with_reducible refine Kd.C_drew ?_)))
        (case side10 => exact HC341_10.out)
        (case side11 => repeat (first | exact (Cb HR341_12.out HB.out) | (with_reducible refine Kd.C_alloc ?_ _) | (with_reducible refine Kd.C_drewN ?_ _) | (with_reducible refine Kd.C_drew ?_)))
        (case side12 => exact HC341_12.out)
        (case side13 => repeat (first | exact (Cb HR341_14.out HB.out) | (with_reducible refine Kd.C_alloc ?_ _) | (with_reducible refine Kd.C_drewN ?_ _) | (with_reducible refine Kd.C_drew ?_)))
        (case side14 => exact HC341_14.out)
        (case side15 => repeat (first | exact (Cb HR341_15.out HB.out) | (with_reducible refine Kd.C_alloc ?_ _) | (with_reducible refine Kd.C_drewN ?_ _) | (with_reducible refine Kd.C_drew ?_)))
        (case side16 => exact HC341_15.out)
        rintro e w12 ⟨rfl, hb⟩
        refine ⟨_, rfl, ?_⟩
        have n0_ := Am (Bt (by repeat (first | exact HB.out | apply Ba | apply Bn | apply Bd)) hb)
        clear HB
        have HB := n0_
        clear n0_
        (try clear hb)
        (try clear hb2)
        (try clear hk)
        (try clear hi)
        refine hK.out _ _ ⟨((HB.out.cell (bl_ w _ hw340_0)).trans hw340_0), ((HB.out.cell (bl_ w _ hw340_1)).trans hw340_1), ((HB.out.cell (bl_ w _ hw340_2)).trans hw340_2), ((HB.out.cell (bl_ w _ hw340_3)).trans hw340_3), ((HB.out.cell (bl_ w _ hw340_4)).trans hw340_4), ((HB.out.cell (bl_ w _ hw340_5)).trans hw340_5), ((HB.out.cell (bl_ w _ hw340_6)).trans hw340_6), ((HB.out.cell (bl_ w _ hw340_7)).trans hw340_7), ((HB.out.cell (bl_ w _ hw340_8)).trans hw340_8), ((HB.out.cell (bl_ w _ hw340_9)).trans hw340_9), ((HB.out.cell (bl_ w _ hw340_10)).trans hw340_10), ((HB.out.cell (bl_ w _ hw340_11)).trans hw340_11), ((HB.out.cell (bl_ w _ hw340_12)).trans hw340_12), ((HB.out.cell (bl_ w _ hw340_13)).trans hw340_13), ((HB.out.cell (bl_ w _ hw340_14)).trans hw340_14), ((HB.out.cell (bl_ w _ hw340_15)).trans hw340_15), ((HB.out.cell (bl_ w _ hw341_0)).trans hw341_0), ((HB.out.cell (bl_ w _ hw341_1)).trans hw341_1), ((HB.out.cell (bl_ w _ hw341_2)).trans hw341_2), ((HB.out.cell (bl_ w _ hw341_3)).trans hw341_3), ((HB.out.cell (bl_ w _ hw341_4)).trans hw341_4), ((HB.out.cell (bl_ w _ hw341_5)).trans hw341_5), ((HB.out.cell (bl_ w _ hw341_6)).trans hw341_6), ((HB.out.cell (bl_ w _ hw341_7)).trans hw341_7), ((HB.out.cell (bl_ w _ hw341_8)).trans hw341_8), ((HB.out.cell (bl_ w _ hw341_9)).trans hw341_9), ((HB.out.cell (bl_ w _ hw341_10)).trans hw341_10), ((HB.out.cell (bl_ w _ hw341_11)).trans hw341_11), ((HB.out.cell (bl_ w _ hw341_12)).trans hw341_12), ((HB.out.cell (bl_ w _ hw341_13)).trans hw341_13), ((HB.out.cell (bl_ w _ hw341_14)).trans hw341_14), ((HB.out.cell (bl_ w _ hw341_15)).trans hw341_15)⟩ (fun hHeld => ?_)
        clear hK K
        refine norm_ (a' := ?_) ?_ ?_
        rotate_left
        ·show Act.put _ (some 25) _ = _
         simp only [Act.put, Lt, Lz, Ls, i64_w, i32_w]
         rfl
        refine pure_ (i := 9) (N := some 26) (v := ?_) (a' := ?_) #[true, true, true, true, true, true, true, true, true, true] rfl rfl (any_of HT_.out (by kernel_rfl)) (fun _ _ _ h => h) (Or.inl ⟨by rfl, ?_⟩) ?_ ?_
        rotate_left
        ·intro w'
         go_simp
         with_reducible rfl
        rotate_left
        ·simp only [Act.put, Lt, Lz, Ls, i64_w, i32_w]
         rfl
        refine done_ (done_of HT_.out (by kernel_rfl)) ?_
        try go_wp2
        go_ret
        exact ⟨by first | rfl | (simp [*, errW_none, errW_some] <;> rfl), by repeat (first | exact HB.out | apply Ba | apply Bn | apply Bd)⟩
      ·rw [if_neg c6] at H
       exact absurd H (by simp)
     ·rw [if_neg c5] at H
      exact absurd H (by simp)
    ·rw [if_neg c4] at H
     have c4b0 : decide (x5_1 < (l0.length : Int)) = false := decide_eq_false c4
     clear c4
     obtain rfl := Option.some.inj H
     go_wp2
     go_ret
     exact ⟨by first | rfl | (simp [*, errW_none, errW_some] <;> rfl), by repeat (first | exact HB.out | apply Ba | apply Bn | apply Bd)⟩
 ·rw [if_neg c3] at H
  have c3b0 : ((l0.length : Int) == (l1.length : Int)) = false := beq_eq_false_iff_ne.mpr c3
  have c3b1 : ((l0.length : Int) != (l1.length : Int)) = true := bne_iff_ne.mpr c3
  have c3b2 : (l0.length == l1.length) = false := by first | simpa using c3 | (simp at c3 ⊢; omega)
  obtain rfl := Option.some.inj H
  go_enter Try.func41, Try.ntmps41
  go_wp2
  go_ret
  exact ⟨by first | rfl | (simp [*, errW_none, errW_some] <;> rfl), by repeat (first | exact HB.out | apply Ba | apply Bn | apply Bd)⟩
theorem laws_eqReplica.only {o : Option Bool} {t : Option Bool} {r : Bool} (h : (o.bind fun b => if b = true then t else none) = some r) : o = some true ∧ t = some r := by
 obtain ⟨b, h1, h2⟩ := Option.bind_eq_some_iff.1 h
 cases b with
 | false => cases h2
 | true => exact ⟨h1, h2⟩
def laws_eqReplica.f (k : Nat) (a0_0 : Int) (a0_1 : Int) (l0_2 : List (List S39)) (l0_3 : List S77) (a1_0 : Int) (a1_1 : Int) (l1_2 : List (List S39)) (l1_3 : List S77) : Option Bool := if a0_0 = a1_0 then ((laws_eqTable.f k a0_1 l0_2 a1_1 l1_2).bind fun t => if t = true then ((laws_eqLeadS.f k l0_3 l1_3).bind fun t => if t = true then (some true) else none) else none) else none
theorem laws_eqReplica.mono : ∀ a0 a1 a2 a3 a4 a5 a6 a7 k, LeO (laws_eqReplica.f k a0 a1 a2 a3 a4 a5 a6 a7) (laws_eqReplica.f (k + 1) a0 a1 a2 a3 a4 a5 a6 a7) := by
 intro a0 a1 a2 a3 a4 a5 a6 a7 k
 unfold laws_eqReplica.f
 repeat' first
  | (with_reducible exact laws_eqLeadS.mono _ _ _)
  | (with_reducible exact laws_eqTable.mono _ _ _ _ _)
  | (with_reducible exact LeO.refl _)
  | (with_reducible exact LeO.none _)
  | (with_reducible refine LeO.ite ?_ ?_)
  | (with_reducible refine LeO.bind ?_ (fun _ => ?_))
set_option maxHeartbeats 4000000 in
set_option maxRecDepth 100000 in
theorem laws_eqReplica.calls (k : Nat) (a0_0 : Int) (a0_1 : Int) (A0_2 : Option Addr) (c0_2 : Nat) (l0_2 : List (List S39)) (A0_3 : Option Addr) (c0_3 : Nat) (l0_3 : List S77) (a1_0 : Int) (a1_1 : Int) (A1_2 : Option Addr) (c1_2 : Nat) (l1_2 : List (List S39)) (A1_3 : Option Addr) (c1_3 : Nat) (l1_3 : List S77) (r : Bool) (w : World) (hr0_2 : Kd.C (Kd.slice 39 k39) w A0_2 l0_2.length l0_2) (hc0_2 : l0_2.length ≤ c0_2) (hr0_3 : Kd.C k77 w A0_3 l0_3.length l0_3) (hc0_3 : l0_3.length ≤ c0_3) (hr1_2 : Kd.C (Kd.slice 39 k39) w A1_2 l1_2.length l1_2) (hc1_2 : l1_2.length ≤ c1_2) (hr1_3 : Kd.C k77 w A1_3 l1_3.length l1_3) (hc1_3 : l1_3.length ≤ c1_3) (h : laws_eqReplica.f k a0_0 a0_1 l0_2 l0_3 a1_0 a1_1 l1_2 l1_3 = some r) :
  Calls Try.prog 16 #[.agg #[.int .i64 a0_0, .int .i64 a0_1, .slice A0_2 l0_2.length c0_2, .slice A0_3 l0_3.length c0_3], .agg #[.int .i64 a1_0, .int .i64 a1_1, .slice A1_2 l1_2.length c1_2, .slice A1_3 l1_3.length c1_3]] w fun e w' => e = .returned (.bool r) ∧ Below w.heap.size w w' := by
 have hu0 := Try.underlying53
 have hu1 := Try.underlying26
 have Hr0_2 := Am hr0_2
 have Hr0_3 := Am hr0_3
 have Hr1_2 := Am hr1_2
 have Hr1_3 := Am hr1_3
 clear hr0_2 hr0_3 hr1_2 hr1_3
 unfold laws_eqReplica.f at h
 by_cases e_ : a0_0 = a1_0
 case neg => rw [if_neg e_] at h; cases h
 subst e_
 rw [if_pos rfl] at h
 obtain ⟨hq, h⟩ := laws_eqReplica.only h
 have F1 := Am hq
 clear hq
 obtain ⟨hq, h⟩ := laws_eqReplica.only h
 have F2 := Am hq
 clear hq
 obtain rfl : true = r := Option.some.inj h
 clear h
 go_enter Try.func16, Try.ntmps16
 go_upto_region 1 with (fail)
 refine letC (fun W_ => ∃ ga gb : Nat, ga = w.heap.size ∧ gb = w.heap.size + 1 ∧ Below w.heap.size w W_ ∧ W_.heap[ga]? = some (.cells #[.int .i64 a0_0, .int .i64 a0_1, .slice A0_2 l0_2.length c0_2, .slice A0_3 l0_3.length c0_3] 53 (0, 0)) ∧ W_.heap[gb]? = some (.cells #[.int .i64 a0_0, .int .i64 a1_1, .slice A1_2 l1_2.length c1_2, .slice A1_3 l1_3.length c1_3] 53 (0, 0))) ⟨_, _, rfl, rfl, Ba (Ba (Below.refl _ _) _) _, by simpa using Ka (blk_new w (.cells #[.int .i64 a0_0, .int .i64 a0_1, .slice A0_2 l0_2.length c0_2, .slice A0_3 l0_3.length c0_3] 53)) (.cells #[.int .i64 a0_0, .int .i64 a1_1, .slice A1_2 l1_2.length c1_2, .slice A1_3 l1_3.length c1_3] 53), by simpa using blk_new (w.alloc (.cells #[.int .i64 a0_0, .int .i64 a0_1, .slice A0_2 l0_2.length c0_2, .slice A0_3 l0_3.length c0_3] 53)) (.cells #[.int .i64 a0_0, .int .i64 a1_1, .slice A1_2 l1_2.length c1_2, .slice A1_3 l1_3.length c1_3] 53)⟩ ?_
 rintro W0 ⟨ga, gb, e_ga, e_gb, hb, x_ga, x_gb⟩
 have HZ := Am hb
 have BA := Am x_ga
 have BB := Am x_gb
 have HB : Ad (Below W0.heap.size W0 W0) := ⟨Below.refl _ _⟩
 rw [← e_gb, ← e_ga]
 clear hb x_ga x_gb e_ga e_gb
 have qa0 : W0.cell? ⟨ga, 0, none⟩ = some (.int .i64 a0_0) := (Kc (Kb BA.out HB.out) 0).trans rfl
 have qb0 : W0.cell? ⟨gb, 0, none⟩ = some (.int .i64 a0_0) := (Kc (Kb BB.out HB.out) 0).trans rfl
 have qa1 : W0.cell? ⟨ga, 1, none⟩ = some (.int .i64 a0_1) := (Kc (Kb BA.out HB.out) 1).trans rfl
 have qa2 : W0.cell? ⟨ga, 2, none⟩ = some (.slice A0_2 l0_2.length c0_2) := (Kc (Kb BA.out HB.out) 2).trans rfl
 have qb1 : W0.cell? ⟨gb, 1, none⟩ = some (.int .i64 a1_1) := (Kc (Kb BB.out HB.out) 1).trans rfl
 have qb2 : W0.cell? ⟨gb, 2, none⟩ = some (.slice A1_2 l1_2.length c1_2) := (Kc (Kb BB.out HB.out) 2).trans rfl
 go_wp2_with fail
 refine (laws_eqTable.calls k a0_1 A0_2 c0_2 l0_2 a1_1 A1_2 c1_2 l1_2 true W0 (Cb Hr0_2.out (Bh HZ.out HZ.out.size HB.out)) hc0_2 (Cb Hr1_2.out (Bh HZ.out HZ.out.size HB.out)) hc1_2 F1.out).mono ?_
 rintro e W1 ⟨rfl, hb⟩
 replace HB := Am (Bh HB.out HB.out.size hb)
 clear hb F1 qa0 qb0 qa1 qa2 qb1 qb2
 have qa3 : W1.cell? ⟨ga, 3, none⟩ = some (.slice A0_3 l0_3.length c0_3) := (Kc (Kb BA.out HB.out) 3).trans rfl
 have qb3 : W1.cell? ⟨gb, 3, none⟩ = some (.slice A1_3 l1_3.length c1_3) := (Kc (Kb BB.out HB.out) 3).trans rfl
 go_wp2_with fail
 refine (laws_eqLeadS.calls k A0_3 c0_3 l0_3 A1_3 c1_3 l1_3 true W1 (Cb Hr0_3.out (Bh HZ.out HZ.out.size HB.out)) hc0_3 (Cb Hr1_3.out (Bh HZ.out HZ.out.size HB.out)) hc1_3 F2.out).mono ?_
 rintro e W2 ⟨rfl, hb⟩
 replace HB := Am (Bh HB.out HB.out.size hb)
 clear hb F2 qa3 qb3
 go_wp2
 go_ret
 exact ⟨rfl, Bh HZ.out HZ.out.size HB.out⟩
section
open Go.RowKit
theorem load_run {P : Program} {o : Oper} {a : Act} {W : World} {g : Nat} {cs : Array Value} {t : TypeId} (hg : W.heap[g]? = some (.cells cs t (0, 0))) (n : Nat) (hn : cs.size = n) (ty : TypeId) (x : Operand) (ho : o.op = .load ty x)
  (hx : a.eval x = .pointer (some ⟨g, 0, none⟩)) (d : TypeDesc) (hu : P.underlying ty = some d) (hd : (match d with | .struct _ | .array _ _ => true | _ => false) = true) (hi : (P.info? ty).map (·.size) = some n) :
  (execOp a.eval o).run P W = .ok (.value (.agg cs)) W := by
 subst hn
 unfold execOp
 simp only [ho, hx, Instr.loadAt, Instr.sureAddr, Sem.run_bind, Sem.run_pure, Result.andThen_ok, run_loadVar_row W g t ty cs (0, 0) d hg hu hd hi]
theorem store_run {P : Program} {o : Oper} {a : Act} {W : World} {g : Nat} {cs cs' : Array Value} {t : TypeId} (hg : W.heap[g]? = some (.cells cs t (0, 0))) (n : Nat) (hn : cs.size = n) (hn' : cs'.size = n) (ty : TypeId) (x y : Operand) (ho : o.op = .store ty x y)
  (hx : a.eval x = .pointer (some ⟨g, 0, none⟩)) (hy : a.eval y = .agg cs') (hi : (P.info? ty).map (·.size) = some n) (h1 : cs'.all (·.oneCell') = true) :
  (execOp a.eval o).run P W = .ok .skip (W.setRow g cs') := by
 unfold execOp
 simp only [ho, hx, hy, Instr.storeAt, Instr.sureAddr, Sem.run_bind, Sem.run_pure, Result.andThen_ok, run_storeVar_row W g t ty cs cs' hg (by rw [hn']; exact hi) (by rw [hn, hn']) h1]
theorem kept_setRow (W : World) (g : Nat) (cs : Array Value) : Kept W (W.setRow g cs) (fun k => k = g) := ⟨by simp, fun i _ hi => setRow_other W g i cs hi⟩
theorem below_setRow_ {B g : Nat} {w0 w : World} (hb : Below B w0 w) (hBg : B ≤ g) (cs : Array Value) : Below B w0 (w.setRow g cs) :=
 ⟨hb.os, hb.tape, hb.output, by simpa using hb.size, fun k hk => (setRow_other w g k cs (by omega)).trans (hb.block k hk)⟩
end
def laws_FnExactGoodReplica.Facts (a0_0 : Int) (a0_1 : Int) (l0_2 : List (List (S132))) (l0_3 : List (S108)) : Prop :=
 ∃ z1 : Int, (∃ K, laws_szReplica.f K a0_0 a0_1 l0_2 l0_3 1048576 = some z1) ∧ (z1 < 0 ∨ (0 ≤ z1 ∧ ∃ r2 : Int, ∃ r3 : Int, ∃ r4 : List (List (S39)), ∃ r5 : List (S77), (∃ K, laws_toReplica.f K a0_0 a0_1 l0_2 l0_3 = some (r2, r3, r4, r5)) ∧ ∃ r6 : Bool, (∃ K, spec_GoodReplica.f K r2 r3 r4 r5 = some r6) ∧ (∃ K, impl_GoodReplica.f K r2 r3 r4 r5 = some r6) ∧ (∃ K, laws_eqReplica.f K r2 r3 r4 r5 r2 r3 r4 r5 = some true) ∧ True))
set_option maxHeartbeats 8000000 in
set_option maxRecDepth 100000 in
theorem laws_FnExactGoodReplica.calls (a0_0 : Int) (a0_1 : Int) (A0_2 : Option Addr) (c0_2 : Nat) (l0_2 : List (List (S132))) (A0_3 : Option Addr) (c0_3 : Nat) (l0_3 : List (S108)) (w : World) (hr0_2 : Kd.C (Kd.slice 132 k132) w A0_2 l0_2.length l0_2) (hc0_2 : l0_2.length ≤ c0_2) (hr0_3 : Kd.C k108 w A0_3 l0_3.length l0_3) (hc0_3 : l0_3.length ≤ c0_3) (h : laws_FnExactGoodReplica.Facts a0_0 a0_1 l0_2 l0_3) :
  Calls Try.prog 4 #[.agg #[.int .i64 a0_0, .int .i64 a0_1, .slice A0_2 l0_2.length c0_2, .slice A0_3 l0_3.length c0_3]] w fun e w' => e = .returned (.bool true) ∧ Below w.heap.size w w' := by
 unfold laws_FnExactGoodReplica.Facts at h
 have HR0_2 := Am hr0_2
 have HC0_2 := Am hc0_2
 clear hr0_2 hc0_2
 have HR0_3 := Am hr0_3
 have HC0_3 := Am hc0_3
 clear hr0_3 hc0_3
 have HF := Am h
 clear h
 have HB := Am (Below.refl w.heap.size w)
 obtain ⟨z1, ⟨Kz1, hs⟩, hF⟩ := HF.out
 clear HF
 have HF := Am hF
 clear hF
 have HSz1 := Am hs
 clear hs
 go_enter Try.func4, Try.ntmps4
 go_upto_region 2 with (fail)
 refine letC (fun W_ => Below w.heap.size w W_ ∧ W_.heap[w.heap.size]? = some (.cells #[.int .i64 a0_0, .int .i64 a0_1, .slice A0_2 l0_2.length c0_2, .slice A0_3 l0_3.length c0_3] 48 (0, 0))) ?_ ?_
 ·refine ⟨?_, ?_⟩
  ·repeat (first | exact Below.refl _ _ | apply Ba | refine Bs ?_ (by first | exact Nat.le_refl _ | omega | (simp; done)))
  ·simpa using blk_new w (.cells #[.int .i64 a0_0, .int .i64 a0_1, .slice A0_2 l0_2.length c0_2, .slice A0_3 l0_3.length c0_3] 48)
 intro w1 hq_
 obtain ⟨hb, hx0_⟩ := hq_
 have Z1 : Ad (w.heap.size ≤ w1.heap.size) := ⟨hb.size⟩
 replace HB := Am (Bh HB.out HB.out.size hb)
 clear hb
 have BX1 : Ad (w1.heap[w.heap.size]? = some (.cells #[.int .i64 a0_0, .int .i64 a0_1, .slice A0_2 l0_2.length c0_2, .slice A0_3 l0_3.length c0_3] 48 (0, 0))) := ⟨hx0_⟩
 clear hx0_
 have GBX1 : Ad (w.heap.size < w1.heap.size) := ⟨blk_lt BX1.out⟩
 go_wp2_with (first | ((refine Gd (N := 7) rfl ?_); first | refine Er rfl (load_run BX1.out 4 rfl 48 _ (by rfl) (by rfl) _ Try.underlying48 rfl (by kernel_rfl)) ?_) | ((refine Gd (N := 12) rfl ?_); first | refine Er rfl (load_run BX1.out 4 rfl 48 _ (by rfl) (by rfl) _ Try.underlying48 rfl (by kernel_rfl)) ?_) | ((refine Gd (N := 15) rfl ?_); first | refine Er rfl (load_run BX1.out 4 rfl 48 _ (by rfl) (by rfl) _ Try.underlying48 rfl (by kernel_rfl)) ?_) | ((refine Gd (N := 23) rfl ?_); first | refine Er rfl (load_run BX1.out 4 rfl 48 _ (by rfl) (by rfl) _ Try.underlying48 rfl (by kernel_rfl)) ?_))
 (refine (laws_szReplica.calls Kz1 a0_0 a0_1 A0_2 c0_2 l0_2 A0_3 c0_3 l0_3 1048576 z1 w1 (Cb HR0_2.out HB.out) HC0_2.out (Cb HR0_3.out HB.out) HC0_3.out HSz1.out).mono ?_)
 rintro e w2 ⟨rfl, hb⟩
 have Z2 : Ad (w1.heap.size ≤ w2.heap.size) := ⟨hb.size⟩
 replace BX1 := Am (Kb BX1.out hb)
 replace HB := Am (Bh HB.out HB.out.size hb)
 clear hb
 rcases HF.out with hneg | ⟨hpos, hF⟩
 ·clear HF
  go_wp2
  go_ret
  exact ⟨rfl, HB.out⟩
 clear HF
 have HF := Am hF
 clear hF
 obtain ⟨r2, r3, r4, r5, ⟨K1, h1⟩, hF⟩ := HF.out
 clear HF
 have HF := Am hF
 clear hF
 have H1 := Am h1
 clear h1
 go_wp2_with (first | ((refine Gd (N := 7) rfl ?_); first | refine Er rfl (load_run BX1.out 4 rfl 48 _ (by rfl) (by rfl) _ Try.underlying48 rfl (by kernel_rfl)) ?_) | ((refine Gd (N := 12) rfl ?_); first | refine Er rfl (load_run BX1.out 4 rfl 48 _ (by rfl) (by rfl) _ Try.underlying48 rfl (by kernel_rfl)) ?_) | ((refine Gd (N := 15) rfl ?_); first | refine Er rfl (load_run BX1.out 4 rfl 48 _ (by rfl) (by rfl) _ Try.underlying48 rfl (by kernel_rfl)) ?_) | ((refine Gd (N := 23) rfl ?_); first | refine Er rfl (load_run BX1.out 4 rfl 48 _ (by rfl) (by rfl) _ Try.underlying48 rfl (by kernel_rfl)) ?_))
 (refine (laws_toReplica.calls K1 a0_0 a0_1 A0_2 c0_2 l0_2 A0_3 c0_3 l0_3 r2 r3 r4 r5 w2 (Cb HR0_2.out HB.out) HC0_2.out (Cb HR0_3.out HB.out) HC0_3.out H1.out).mono ?_)
 rintro e w3 ⟨v2_, v3_, rfl, hS0, hS1, hb⟩
 have X1 : Ad (Kd.R (Kd.slice 39 k39) 37 w3 w.heap.size (fun k => w2.heap.size ≤ k ∧ k < w3.heap.size) v2_ r4) := ⟨Rm (Kd.R_lower (Ro hS0) HB.out.size) (fun k hk => ⟨hk.2.1, hk.2.2.1⟩)⟩
 have X2 : Ad (Kd.R k77 77 w3 w.heap.size (fun k => w2.heap.size ≤ k ∧ k < w3.heap.size) v3_ r5) := ⟨Rm (Kd.R_lower (Ro hS1) HB.out.size) (fun k hk => ⟨hk.2.1, hk.2.2.1⟩)⟩
 have Z3 : Ad (w2.heap.size ≤ w3.heap.size) := ⟨hb.size⟩
 replace BX1 := Am (Kb BX1.out hb)
 replace HB := Am (Bh HB.out HB.out.size hb)
 clear hb hS0 hS1
 obtain ⟨A1_, c1_, rfl⟩ := Rs X1.out
 obtain ⟨A2_, c2_, rfl⟩ := Rs X2.out
 obtain ⟨r6, ⟨K2, h2⟩, hF⟩ := HF.out
 clear HF
 have HF := Am hF
 clear hF
 have H2 := Am h2
 clear h2
 go_wp2_with (first | ((refine Gd (N := 7) rfl ?_); first | refine Er rfl (load_run BX1.out 4 rfl 48 _ (by rfl) (by rfl) _ Try.underlying48 rfl (by kernel_rfl)) ?_) | ((refine Gd (N := 12) rfl ?_); first | refine Er rfl (load_run BX1.out 4 rfl 48 _ (by rfl) (by rfl) _ Try.underlying48 rfl (by kernel_rfl)) ?_) | ((refine Gd (N := 15) rfl ?_); first | refine Er rfl (load_run BX1.out 4 rfl 48 _ (by rfl) (by rfl) _ Try.underlying48 rfl (by kernel_rfl)) ?_) | ((refine Gd (N := 23) rfl ?_); first | refine Er rfl (load_run BX1.out 4 rfl 48 _ (by rfl) (by rfl) _ Try.underlying48 rfl (by kernel_rfl)) ?_))
 (refine (spec_GoodReplica.calls K2 r2 r3 A1_ c1_ r4 A2_ c2_ r5 r6 w3 (Rr X1.out).2.2 (Rr X1.out).2.1 (Rr X2.out).2.2 (Rr X2.out).2.1 H2.out).mono ?_)
 rintro e w4 ⟨rfl, hb⟩
 have Z4 : Ad (w3.heap.size ≤ w4.heap.size) := ⟨hb.size⟩
 replace X1 := Am (Rb X1.out hb)
 replace X2 := Am (Rb X2.out hb)
 replace BX1 := Am (Kb BX1.out hb)
 replace HB := Am (Bh HB.out HB.out.size hb)
 clear hb
 go_wp2_with (first | ((refine Gd (N := 7) rfl ?_); first | refine Er rfl (load_run BX1.out 4 rfl 48 _ (by rfl) (by rfl) _ Try.underlying48 rfl (by kernel_rfl)) ?_) | ((refine Gd (N := 12) rfl ?_); first | refine Er rfl (load_run BX1.out 4 rfl 48 _ (by rfl) (by rfl) _ Try.underlying48 rfl (by kernel_rfl)) ?_) | ((refine Gd (N := 15) rfl ?_); first | refine Er rfl (load_run BX1.out 4 rfl 48 _ (by rfl) (by rfl) _ Try.underlying48 rfl (by kernel_rfl)) ?_) | ((refine Gd (N := 23) rfl ?_); first | refine Er rfl (load_run BX1.out 4 rfl 48 _ (by rfl) (by rfl) _ Try.underlying48 rfl (by kernel_rfl)) ?_))
 (refine (laws_toReplica.calls K1 a0_0 a0_1 A0_2 c0_2 l0_2 A0_3 c0_3 l0_3 r2 r3 r4 r5 w4 (Cb HR0_2.out HB.out) HC0_2.out (Cb HR0_3.out HB.out) HC0_3.out H1.out).mono ?_)
 rintro e w5 ⟨v2_, v3_, rfl, hS0, hS1, hb⟩
 have X3 : Ad (Kd.R (Kd.slice 39 k39) 37 w5 w.heap.size (fun k => w4.heap.size ≤ k ∧ k < w5.heap.size) v2_ r4) := ⟨Rm (Kd.R_lower (Ro hS0) HB.out.size) (fun k hk => ⟨hk.2.1, hk.2.2.1⟩)⟩
 have X4 : Ad (Kd.R k77 77 w5 w.heap.size (fun k => w4.heap.size ≤ k ∧ k < w5.heap.size) v3_ r5) := ⟨Rm (Kd.R_lower (Ro hS1) HB.out.size) (fun k hk => ⟨hk.2.1, hk.2.2.1⟩)⟩
 have Z5 : Ad (w4.heap.size ≤ w5.heap.size) := ⟨hb.size⟩
 replace X1 := Am (Rb X1.out hb)
 replace X2 := Am (Rb X2.out hb)
 replace BX1 := Am (Kb BX1.out hb)
 replace HB := Am (Bh HB.out HB.out.size hb)
 clear hb hS0 hS1
 obtain ⟨A3_, c3_, rfl⟩ := Rs X3.out
 obtain ⟨A4_, c4_, rfl⟩ := Rs X4.out
 obtain ⟨⟨K3, h3⟩, hF⟩ := HF.out
 clear HF
 have HF := Am hF
 clear hF
 have H3 := Am h3
 clear h3
 go_upto_region 7 with (fail)
 refine letC (fun W_ => Below w5.heap.size w5 W_ ∧ W_.heap[w5.heap.size]? = some (.cells #[.int .i64 r2, .int .i64 r3, .slice A3_ r4.length c3_, .slice A4_ r5.length c4_] 53 (0, 0))) ?_ ?_
 ·refine ⟨?_, ?_⟩
  ·repeat (first | exact Below.refl _ _ | apply Ba | refine Bs ?_ (by first | exact Nat.le_refl _ | omega | (simp; done)))
  ·exact blk_new w5 (.cells #[.int .i64 r2, .int .i64 r3, .slice A3_ r4.length c3_, .slice A4_ r5.length c4_] 53)
 intro w6 hq_
 obtain ⟨hb, hx0_⟩ := hq_
 have Z6 : Ad (w5.heap.size ≤ w6.heap.size) := ⟨hb.size⟩
 replace X1 := Am (Rb X1.out hb)
 replace X2 := Am (Rb X2.out hb)
 replace X3 := Am (Rb X3.out hb)
 replace X4 := Am (Rb X4.out hb)
 replace BX1 := Am (Kb BX1.out hb)
 replace HB := Am (Bh HB.out HB.out.size hb)
 clear hb
 have BX2 : Ad (w6.heap[w5.heap.size]? = some (.cells #[.int .i64 r2, .int .i64 r3, .slice A3_ r4.length c3_, .slice A4_ r5.length c4_] 53 (0, 0))) := ⟨hx0_⟩
 clear hx0_
 have GBX2 : Ad (w5.heap.size < w6.heap.size) := ⟨blk_lt BX2.out⟩
 go_wp2_with (first | ((refine Gd (N := 17) rfl ?_); first | refine Er rfl (load_run BX2.out 4 rfl 53 _ (by rfl) (by rfl) _ Try.underlying53 rfl (by kernel_rfl)) ?_) | ((refine Gd (N := 22) rfl ?_); first | refine Er rfl (load_run BX2.out 4 rfl 53 _ (by rfl) (by rfl) _ Try.underlying53 rfl (by kernel_rfl)) ?_))
 (refine (impl_GoodReplica.calls K3 r2 r3 A3_ c3_ r4 A4_ c4_ r5 r6 w6 (Rr X3.out).2.2 (Rr X3.out).2.1 (Rr X4.out).2.2 (Rr X4.out).2.1 H3.out).mono ?_)
 rintro e w7 ⟨rfl, hb⟩
 have Z7 : Ad (w6.heap.size ≤ w7.heap.size) := ⟨hb.size⟩
 replace X1 := Am (Rb X1.out hb)
 replace X2 := Am (Rb X2.out hb)
 replace X3 := Am (Rb X3.out hb)
 replace X4 := Am (Rb X4.out hb)
 replace BX1 := Am (Kb BX1.out hb)
 replace BX2 := Am (Kb BX2.out hb)
 replace HB := Am (Bh HB.out HB.out.size hb)
 clear hb
 go_wp2_with (first | ((refine Gd (N := 7) rfl ?_); first | refine Er rfl (load_run BX1.out 4 rfl 48 _ (by rfl) (by rfl) _ Try.underlying48 rfl (by kernel_rfl)) ?_) | ((refine Gd (N := 12) rfl ?_); first | refine Er rfl (load_run BX1.out 4 rfl 48 _ (by rfl) (by rfl) _ Try.underlying48 rfl (by kernel_rfl)) ?_) | ((refine Gd (N := 15) rfl ?_); first | refine Er rfl (load_run BX1.out 4 rfl 48 _ (by rfl) (by rfl) _ Try.underlying48 rfl (by kernel_rfl)) ?_) | ((refine Gd (N := 17) rfl ?_); first | refine Er rfl (load_run BX2.out 4 rfl 53 _ (by rfl) (by rfl) _ Try.underlying53 rfl (by kernel_rfl)) ?_) | ((refine Gd (N := 22) rfl ?_); first | refine Er rfl (load_run BX2.out 4 rfl 53 _ (by rfl) (by rfl) _ Try.underlying53 rfl (by kernel_rfl)) ?_) | ((refine Gd (N := 23) rfl ?_); first | refine Er rfl (load_run BX1.out 4 rfl 48 _ (by rfl) (by rfl) _ Try.underlying48 rfl (by kernel_rfl)) ?_))
 refine start_ (n := 5) (S := fun w' => w'.heap[w.heap.size]? = some (.cells #[.int .i64 a0_0, .int .i64 a0_1, .slice A0_2 l0_2.length c0_2, .slice A0_3 l0_3.length c0_3] 48 (0, 0)) ∧ w'.heap[w5.heap.size]? = some (.cells #[.int .i64 r2, .int .i64 r3, .slice A3_ r4.length c3_, .slice A4_ r5.length c4_] 53 (0, 0))) (ds := []) #[false, false, false, false, false] (by kernel_rfl) rfl rfl ⟨BX1.out, BX2.out⟩ (fun hHeld => ?_)
 have hb : Below w7.heap.size w7 w7.drew := below_drew (Below.refl _ _)
 generalize w7.drew = w8 at hb hHeld ⊢
 have Z8 : Ad (w7.heap.size ≤ w8.heap.size) := ⟨hb.size⟩
 replace X1 := Am (Rb X1.out hb)
 replace X2 := Am (Rb X2.out hb)
 replace X3 := Am (Rb X3.out hb)
 replace X4 := Am (Rb X4.out hb)
 replace BX1 := Am (Kb BX1.out hb)
 replace BX2 := Am (Kb BX2.out hb)
 replace HB := Am (Bh HB.out HB.out.size hb)
 clear hb
 refine take_ (i := 0) (N := some 22) (v := ?_) (a' := ?_) #[true, false, false, false, false] rfl rfl (by kernel_rfl) (fun _ _ _ h => h) (Or.inl ⟨by rfl, ?_⟩) hHeld ?_ ?_
 rotate_left
 ·rintro w' ⟨s0, s1⟩
  first | (refine Eq.trans (load_run s0 4 rfl 48 _ (by rfl) (by rfl) _ Try.underlying48 rfl (by kernel_rfl)) ?_; with_reducible rfl) | (refine Eq.trans (load_run s1 4 rfl 53 _ (by rfl) (by rfl) _ Try.underlying53 rfl (by kernel_rfl)) ?_; with_reducible rfl)
 rotate_left
 ·simp only [Act.put, Lt, Lz, Ls, i64_w, i32_w]
  rfl
 refine take_ (i := 1) (N := some 23) (v := ?_) (a' := ?_) #[true, true, false, false, false] rfl rfl (by kernel_rfl) (fun _ _ _ h => h) (Or.inl ⟨by rfl, ?_⟩) hHeld ?_ ?_
 rotate_left
 ·rintro w' ⟨s0, s1⟩
  first | (refine Eq.trans (load_run s0 4 rfl 48 _ (by rfl) (by rfl) _ Try.underlying48 rfl (by kernel_rfl)) ?_; with_reducible rfl) | (refine Eq.trans (load_run s1 4 rfl 53 _ (by rfl) (by rfl) _ Try.underlying53 rfl (by kernel_rfl)) ?_; with_reducible rfl)
 rotate_left
 ·simp only [Act.put, Lt, Lz, Ls, i64_w, i32_w]
  rfl
 refine one_ (i := 2) (N := some 24) #[true, true, true, false, false] rfl rfl (by kernel_rfl) (by decide) (fun K hK => ?_)
 refine goes_ Try.func14 (by kernel_rfl) rfl #[.agg #[.int .i64 a0_0, .int .i64 a0_1, .slice A0_2 l0_2.length c0_2, .slice A0_3 l0_3.length c0_3]] (by rfl) rfl rfl (by (try simp only [List.map_toArray, List.map_cons, List.map_nil]); first | done | rfl) ?_
 (refine (laws_toReplica.calls K1 a0_0 a0_1 A0_2 c0_2 l0_2 A0_3 c0_3 l0_3 r2 r3 r4 r5 w8 (Cb HR0_2.out HB.out) HC0_2.out (Cb HR0_3.out HB.out) HC0_3.out H1.out).mono ?_)
 rintro e w9 ⟨v2_, v3_, rfl, hS0, hS1, hb⟩
 refine ⟨_, rfl, ?_⟩
 have X5 : Ad (Kd.R (Kd.slice 39 k39) 37 w9 w.heap.size (fun k => w8.heap.size ≤ k ∧ k < w9.heap.size) v2_ r4) := ⟨Rm (Kd.R_lower (Ro hS0) HB.out.size) (fun k hk => ⟨hk.2.1, hk.2.2.1⟩)⟩
 have X6 : Ad (Kd.R k77 77 w9 w.heap.size (fun k => w8.heap.size ≤ k ∧ k < w9.heap.size) v3_ r5) := ⟨Rm (Kd.R_lower (Ro hS1) HB.out.size) (fun k hk => ⟨hk.2.1, hk.2.2.1⟩)⟩
 have Z9 : Ad (w8.heap.size ≤ w9.heap.size) := ⟨hb.size⟩
 replace X1 := Am (Rb X1.out hb)
 replace X2 := Am (Rb X2.out hb)
 replace X3 := Am (Rb X3.out hb)
 replace X4 := Am (Rb X4.out hb)
 replace BX1 := Am (Kb BX1.out hb)
 replace BX2 := Am (Kb BX2.out hb)
 replace HB := Am (Bh HB.out HB.out.size hb)
 clear hb hS0 hS1
 obtain ⟨A5_, c5_, rfl⟩ := Rs X5.out
 obtain ⟨A6_, c6_, rfl⟩ := Rs X6.out
 refine hK.out _ _ ⟨BX1.out, BX2.out⟩ (fun hHeld => ?_)
 clear hK K
 refine norm_ (a' := ?_) ?_ ?_
 rotate_left
 ·show Act.put _ (some 24) _ = _
  simp only [Act.put, Lt, Lz, Ls, i64_w, i32_w]
  rfl
 obtain ⟨⟨K4, h4⟩, hF⟩ := HF.out
 clear HF
 have HF := Am hF
 clear hF
 have H4 := Am h4
 clear h4
 refine one_ (i := 3) (N := some 25) #[true, true, true, true, false] rfl rfl (by kernel_rfl) (by decide) (fun K hK => ?_)
 refine goes_ Try.func16 (by kernel_rfl) rfl #[.agg #[.int .i64 r2, .int .i64 r3, .slice A3_ r4.length c3_, .slice A4_ r5.length c4_], .agg #[.int .i64 r2, .int .i64 r3, .slice A5_ r4.length c5_, .slice A6_ r5.length c6_]] (by rfl) rfl rfl (by (try simp only [List.map_toArray, List.map_cons, List.map_nil]); first | done | rfl) ?_
 (refine (laws_eqReplica.calls K4 r2 r3 A3_ c3_ r4 A4_ c4_ r5 r2 r3 A5_ c5_ r4 A6_ c6_ r5 true w9 (Rr X3.out).2.2 (Rr X3.out).2.1 (Rr X4.out).2.2 (Rr X4.out).2.1 (Rr X5.out).2.2 (Rr X5.out).2.1 (Rr X6.out).2.2 (Rr X6.out).2.1 H4.out).mono ?_)
 rintro e w10 ⟨rfl, hb⟩
 refine ⟨_, rfl, ?_⟩
 have Z10 : Ad (w9.heap.size ≤ w10.heap.size) := ⟨hb.size⟩
 replace X1 := Am (Rb X1.out hb)
 replace X2 := Am (Rb X2.out hb)
 replace X3 := Am (Rb X3.out hb)
 replace X4 := Am (Rb X4.out hb)
 replace X5 := Am (Rb X5.out hb)
 replace X6 := Am (Rb X6.out hb)
 replace BX1 := Am (Kb BX1.out hb)
 replace BX2 := Am (Kb BX2.out hb)
 replace HB := Am (Bh HB.out HB.out.size hb)
 clear hb
 refine hK.out _ _ ⟨BX1.out, BX2.out⟩ (fun hHeld => ?_)
 clear hK K
 refine norm_ (a' := ?_) ?_ ?_
 rotate_left
 ·show Act.put _ (some 25) _ = _
  simp only [Act.put, Lt, Lz, Ls, i64_w, i32_w]
  rfl
 refine pure_ (i := 4) (N := some 26) (v := ?_) (a' := ?_) #[true, true, true, true, true] rfl rfl (by kernel_rfl) (fun _ _ _ h => h) (Or.inl ⟨by rfl, ?_⟩) ?_ ?_
 rotate_left
 ·intro w'
  go_simp
  with_reducible rfl
 rotate_left
 ·simp only [Act.put, Lt, Lz, Ls, i64_w, i32_w]
  rfl
 refine done_ (by kernel_rfl) ?_
 go_wp2
 go_ret
 exact ⟨rfl, HB.out⟩
end Go.Proofs.Ytilmcfdhijdhpaa.QFnExactGoodReplica
