-- Written by a program of this session (wip/mk.py) over the kit's print: Lean checks it.
import Derived.Test.YtacpjifbgnlppaaQFnExactAttrForx0
import Derived.Test.YtacpjifbgnlppaaQFnExactAttrForx1
import Derived.Test.YtacpjifbgnlppaaQFnExactAttrForx4
namespace Go.Proofs.Ytacpjifbgnlppaa.QFnExactAttrFor
open Go.Proofs.YtacpjifbgnlppaaW.PrintWords.Kd renaming R_alloc → Ra, R_drewN → Rn, R_drew → Rd
open Go.Proofs.YtacpjifbgnlppaaW.PrintWords renaming below_alloc → Ba, pw_below_drewN → Bn, below_drew1 → Bd, below_set → Bs, below_size → Bz, below_step → Bt, gate_dst → Gd, gate_callee → Gc, gate_store → Gs, box_event → Be, blk_alloc → Ka, blk_drewN → Kn, blk_drew → Ke, blk_below → Kb, blk_cell → Kc, blk_frozen → Kz
open Go.World renaming block_lt_of_cell? → bl_
open Go.Proofs.YtacpjifbgnlppaaW.PrintWords.Aside0 renaming mk → Am
open Go.Proofs.YtacpjifbgnlppaaW.PrintWords renaming Aside0 → Ad
open Go.RowKit Go.Proofs.YtacpjifbgnlppaaW.PrintWords Go.Proofs.YtacpjifbgnlppaaW.PrintLast Go.Proofs.YtacpjifbgnlppaaW.PrintMore
attribute [local go_sem] max2_int min2_int max_two min_two max_three min_three max_four min_four   -- for this text's walks alone
set_option linter.unusedVariables false
set_option linter.unusedSimpArgs false
attribute [local go_sem high] eqA49
def laws_eqTable.f (k : Nat) (a0_0 : Int) (l0_1 : List (List (S72))) (a1_0 : Int) (l1_1 : List (List (S72))) : Option (Bool) := if a0_0 = a1_0 then ((laws_eqRowSS.f k l0_1 l1_1).bind fun t187 => (if t187 = true then (some true) else (some false))) else (some false)
theorem laws_eqTable.mono : ∀ a0 a1 a2 a3 k, LeO (laws_eqTable.f k a0 a1 a2 a3) (laws_eqTable.f (k + 1) a0 a1 a2 a3) := by
 intro a0 a1 a2 a3 k
 unfold laws_eqTable.f
 repeat' first
   | (with_reducible exact laws_eqRowSS.mono _ _ _)
   | (with_reducible exact LeO.refl _)
   | (with_reducible exact LeO.none _)
   | (with_reducible refine LeO.ite ?_ ?_)
   | (with_reducible refine LeO.bind ?_ (fun _ => ?_))
   | exact laws_eqRowSS.mono _ _ _
   | exact LeO.none _
   | refine LeO.ite ?_ ?_
   | refine LeO.bind ?_ (fun _ => ?_)
set_option maxHeartbeats 8000000 in
set_option maxRecDepth 100000 in
theorem laws_eqTable.calls (k : Nat) (a0_0 : Int) (A0_1 : Option Addr) (c0_1 : Nat) (l0_1 : List (List (S72))) (a1_0 : Int) (A1_1 : Option Addr) (c1_1 : Nat) (l1_1 : List (List (S72))) (r : Bool) (w : World) (hr0_1 : Kd.C (Kd.slice 72 k72) w A0_1 l0_1.length l0_1) (hc0_1 : l0_1.length ≤ c0_1) (hr1_1 : Kd.C (Kd.slice 72 k72) w A1_1 l1_1.length l1_1) (hc1_1 : l1_1.length ≤ c1_1) (h : laws_eqTable.f k a0_0 l0_1 a1_0 l1_1 = some r) :
  Calls Try.prog 13 #[.agg #[.int .i64 a0_0, .slice A0_1 l0_1.length c0_1], .agg #[.int .i64 a1_0, .slice A1_1 l1_1.length c1_1]] w fun e w' => e = .returned (.bool r) ∧ Below w.heap.size w w' := by
 have hu29 := Try.underlying29
 have HR0_1 := Am hr0_1
 have HC0_1 := Am hc0_1
 clear hr0_1 hc0_1
 have HR1_1 := Am hr1_1
 have HC1_1 := Am hc1_1
 clear hr1_1 hc1_1
 have HB := Am (Below.refl w.heap.size w)
 have H : (if a0_0 = a1_0 then ((laws_eqRowSS.f k l0_1 l1_1).bind fun t187 => (if t187 = true then (some true) else (some false))) else (some false)) = some r := h
 clear h
 by_cases c3 : a0_0 = a1_0
 ·rw [if_pos c3] at H
  have c3b0 : (a0_0 == a1_0) = true := beq_iff_eq.mpr c3
  have c3b1 : (a0_0 != a1_0) = false := bne_eq_false_iff_eq.mpr c3
  clear c3
  replace H := Option.bind_eq_some_iff.mp H
  obtain ⟨t187, A40, H⟩ := H
  replace H : (if t187 = true then (some true) else (some false)) = some r := H
  have A4 := Am A40
  clear A40
  by_cases c5 : t187 = true
  ·subst c5
   have H1 : (some true) = some r := by rw [if_pos rfl] at H; exact H
   clear H
   have H := H1
   clear H1
   obtain rfl := Option.some.inj H
   go_enter Try.func13, Try.ntmps13
   go_wp2_with (first | ((refine Gd (N := 2) rfl ?_); refine Be ?hg (N := 2) ?hd (cs := #[.int .i64 a0_0, .slice A0_1 l0_1.length c0_1]) (t := 29) ?hr ?_; (case hd | hg => rfl); (case hr => first | (go_simp; done) | (go_simp; rfl)); intro gb185 hg w6 hbox hb; have n0_ := Am (Bt (by repeat (first | exact HB.out | apply Ba | apply Bn | apply Bd)) hb); have n1_ := Am (hbox); have n2_ := Am ((by rw [hg]; exact (Bz (by repeat (first | exact HB.out | apply Ba | apply Bn | apply Bd))) : w.heap.size ≤ gb185)); have n3_ := Am ((by rw [hg]; exact (Bz (by repeat (first | exact HB.out | apply Ba | apply Bn | apply Bd))) : w.heap.size ≤ gb185)); clear HB; have HB := n0_; have BK185 := n1_; have GW185 := n2_; have GE185 := n3_; clear n0_ n1_ n2_ n3_; clear hb hbox hg) | ((refine Gd (N := 3) rfl ?_); refine Be ?hg (N := 3) ?hd (cs := #[.int .i64 a1_0, .slice A1_1 l1_1.length c1_1]) (t := 29) ?hr ?_; (case hd | hg => rfl); (case hr => first | (go_simp; done) | (go_simp; rfl)); intro gb186 hg w7 hbox hb; have n0_ := Am (Kb (g := gb185) (o := .cells #[.int .i64 a0_0, .slice A0_1 l0_1.length c0_1] 29 (0, 0)) (by (with_reducible repeat (first | refine Kn ?_ _ | refine Ke ?_ | refine Ka ?_ _)); exact BK185.out) hb); have n1_ := Am (Bt (by repeat (first | (with_reducible first | exact HB.out | apply Ba | apply Bn | apply Bd | refine Bs ?_ GE185.out) | exact HB.out)) hb); have n2_ := Am (hbox); have n3_ := Am ((by rw [hg]; exact (Bz (by repeat (first | (with_reducible first | exact HB.out | apply Ba | apply Bn | apply Bd | refine Bs ?_ GE185.out) | exact HB.out))) : w.heap.size ≤ gb186)); have n4_ := Am ((by rw [hg]; exact (Bz (by repeat (first | (with_reducible first | exact HB.out | apply Ba | apply Bn | apply Bd | refine Bs ?_ GE185.out) | exact HB.out))) : w.heap.size ≤ gb186)); have n5_ := Am ((by rw [hg]; exact Nat.ne_of_lt (blk_lt (g := gb185) (o := .cells #[.int .i64 a0_0, .slice A0_1 l0_1.length c0_1] 29 (0, 0)) (by (with_reducible repeat (first | refine Kn ?_ _ | refine Ke ?_ | refine Ka ?_ _)); exact BK185.out)) : gb185 ≠ gb186)); have n6_ := Am ((by rw [hg]; exact Nat.ne_of_gt (blk_lt (g := gb185) (o := .cells #[.int .i64 a0_0, .slice A0_1 l0_1.length c0_1] 29 (0, 0)) (by (with_reducible repeat (first | refine Kn ?_ _ | refine Ke ?_ | refine Ka ?_ _)); exact BK185.out)) : gb186 ≠ gb185)); clear BK185; clear HB; have BK185 := n0_; have HB := n1_; have BK186 := n2_; have GW186 := n3_; have GE186 := n4_; have NB185_186 := n5_; have NB186_185 := n6_; clear n0_ n1_ n2_ n3_ n4_ n5_ n6_; clear hb hbox hg; have hnb8 := NB185_186.out; have hnc8 := NB186_185.out; have hcz9_0 : w7.cell? ⟨gb185, 0, none⟩ = some (.int .i64 a0_0) := (Kc BK185.out 0).trans rfl; have hcz9_1 : w7.cell? ⟨gb185, 1, none⟩ = some (.slice A0_1 l0_1.length c0_1) := (Kc BK185.out 1).trans rfl; have hfz9_0 := Kz BK185.out 0; have hfz9_1 := Kz BK185.out 1; have hcz10_0 : w7.cell? ⟨gb186, 0, none⟩ = some (.int .i64 a1_0) := (Kc BK186.out 0).trans rfl; have hcz10_1 : w7.cell? ⟨gb186, 1, none⟩ = some (.slice A1_1 l1_1.length c1_1) := (Kc BK186.out 1).trans rfl; have hfz10_0 := Kz BK186.out 0; have hfz10_1 := Kz BK186.out 1) | ((refine Gc (f := 48) rfl ?_); refine goesL_ (some 14) rfl rfl Try.func48 (by kernel_rfl) rfl #[.slice A0_1 l0_1.length c0_1, .slice A1_1 l1_1.length c1_1] rfl (by first | rfl | (simp only [List.map_toArray, List.map_cons, List.map_nil]; first | done | rfl)) ?_; (with_reducible refine (laws_eqRowSS.calls k _ _ l0_1 _ _ l1_1 true _ ?side1 ?side2 ?side3 ?side4 A4.out).mono ?_); (case side1 => repeat (first | exact (Kd.C_below HR0_1.out HB.out) | (with_reducible refine Kd.C_alloc ?_ _) | (with_reducible refine Kd.C_drewN ?_ _) | (with_reducible refine Kd.C_drew ?_))); (case side2 => exact HC0_1.out); (case side3 => repeat (first | exact (Kd.C_below HR1_1.out HB.out) | (with_reducible refine Kd.C_alloc ?_ _) | (with_reducible refine Kd.C_drewN ?_ _) | (with_reducible refine Kd.C_drew ?_))); (case side4 => exact HC1_1.out); rintro e w11 ⟨rfl, hb⟩; refine ⟨_, rfl, ?_⟩; have n0_ := Am (Kb (g := gb185) (o := .cells #[.int .i64 a0_0, .slice A0_1 l0_1.length c0_1] 29 (0, 0)) (by (with_reducible repeat (first | refine Kn ?_ _ | refine Ke ?_ | refine Ka ?_ _)); exact BK185.out) hb); have n1_ := Am (Kb (g := gb186) (o := .cells #[.int .i64 a1_0, .slice A1_1 l1_1.length c1_1] 29 (0, 0)) (by (with_reducible repeat (first | refine Kn ?_ _ | refine Ke ?_ | refine Ka ?_ _)); exact BK186.out) hb); have n2_ := Am (Bt (by repeat (first | (with_reducible first | exact HB.out | apply Ba | apply Bn | apply Bd | refine Bs ?_ GE185.out | refine Bs ?_ GE186.out) | exact HB.out)) hb); clear BK185; clear BK186; clear HB; have BK185 := n0_; have BK186 := n1_; have HB := n2_; clear n0_ n1_ n2_; (try clear hb); (try clear hb2); (try clear hk); (try clear hi)))
   go_ret
   exact ⟨by first | rfl | (simp [*, errW_none, errW_some] <;> rfl), by repeat (first | (with_reducible first | exact HB.out | apply Ba | apply Bn | apply Bd | refine Bs ?_ GE185.out | refine Bs ?_ GE186.out) | exact HB.out)⟩
  ·replace c5 := Bool.eq_false_iff.mpr c5
   subst c5
   have H1 : (some false) = some r := by rw [if_neg (show ¬ (false = true) by decide)] at H; exact H
   clear H
   have H := H1
   clear H1
   obtain rfl := Option.some.inj H
   go_enter Try.func13, Try.ntmps13
   go_wp2_with (first | ((refine Gd (N := 2) rfl ?_); refine Be ?hg (N := 2) ?hd (cs := #[.int .i64 a0_0, .slice A0_1 l0_1.length c0_1]) (t := 29) ?hr ?_; (case hd | hg => rfl); (case hr => first | (go_simp; done) | (go_simp; rfl)); intro gb185 hg w12 hbox hb; have n0_ := Am (Bt (by repeat (first | exact HB.out | apply Ba | apply Bn | apply Bd)) hb); have n1_ := Am (hbox); have n2_ := Am ((by rw [hg]; exact (Bz (by repeat (first | exact HB.out | apply Ba | apply Bn | apply Bd))) : w.heap.size ≤ gb185)); have n3_ := Am ((by rw [hg]; exact (Bz (by repeat (first | exact HB.out | apply Ba | apply Bn | apply Bd))) : w.heap.size ≤ gb185)); clear HB; have HB := n0_; have BK185 := n1_; have GW185 := n2_; have GE185 := n3_; clear n0_ n1_ n2_ n3_; clear hb hbox hg) | ((refine Gd (N := 3) rfl ?_); refine Be ?hg (N := 3) ?hd (cs := #[.int .i64 a1_0, .slice A1_1 l1_1.length c1_1]) (t := 29) ?hr ?_; (case hd | hg => rfl); (case hr => first | (go_simp; done) | (go_simp; rfl)); intro gb186 hg w13 hbox hb; have n0_ := Am (Kb (g := gb185) (o := .cells #[.int .i64 a0_0, .slice A0_1 l0_1.length c0_1] 29 (0, 0)) (by (with_reducible repeat (first | refine Kn ?_ _ | refine Ke ?_ | refine Ka ?_ _)); exact BK185.out) hb); have n1_ := Am (Bt (by repeat (first | (with_reducible first | exact HB.out | apply Ba | apply Bn | apply Bd | refine Bs ?_ GE185.out) | exact HB.out)) hb); have n2_ := Am (hbox); have n3_ := Am ((by rw [hg]; exact (Bz (by repeat (first | (with_reducible first | exact HB.out | apply Ba | apply Bn | apply Bd | refine Bs ?_ GE185.out) | exact HB.out))) : w.heap.size ≤ gb186)); have n4_ := Am ((by rw [hg]; exact (Bz (by repeat (first | (with_reducible first | exact HB.out | apply Ba | apply Bn | apply Bd | refine Bs ?_ GE185.out) | exact HB.out))) : w.heap.size ≤ gb186)); have n5_ := Am ((by rw [hg]; exact Nat.ne_of_lt (blk_lt (g := gb185) (o := .cells #[.int .i64 a0_0, .slice A0_1 l0_1.length c0_1] 29 (0, 0)) (by (with_reducible repeat (first | refine Kn ?_ _ | refine Ke ?_ | refine Ka ?_ _)); exact BK185.out)) : gb185 ≠ gb186)); have n6_ := Am ((by rw [hg]; exact Nat.ne_of_gt (blk_lt (g := gb185) (o := .cells #[.int .i64 a0_0, .slice A0_1 l0_1.length c0_1] 29 (0, 0)) (by (with_reducible repeat (first | refine Kn ?_ _ | refine Ke ?_ | refine Ka ?_ _)); exact BK185.out)) : gb186 ≠ gb185)); clear BK185; clear HB; have BK185 := n0_; have HB := n1_; have BK186 := n2_; have GW186 := n3_; have GE186 := n4_; have NB185_186 := n5_; have NB186_185 := n6_; clear n0_ n1_ n2_ n3_ n4_ n5_ n6_; clear hb hbox hg; have hnb14 := NB185_186.out; have hnc14 := NB186_185.out; have hcz15_0 : w13.cell? ⟨gb185, 0, none⟩ = some (.int .i64 a0_0) := (Kc BK185.out 0).trans rfl; have hcz15_1 : w13.cell? ⟨gb185, 1, none⟩ = some (.slice A0_1 l0_1.length c0_1) := (Kc BK185.out 1).trans rfl; have hfz15_0 := Kz BK185.out 0; have hfz15_1 := Kz BK185.out 1; have hcz16_0 : w13.cell? ⟨gb186, 0, none⟩ = some (.int .i64 a1_0) := (Kc BK186.out 0).trans rfl; have hcz16_1 : w13.cell? ⟨gb186, 1, none⟩ = some (.slice A1_1 l1_1.length c1_1) := (Kc BK186.out 1).trans rfl; have hfz16_0 := Kz BK186.out 0; have hfz16_1 := Kz BK186.out 1) | ((refine Gc (f := 48) rfl ?_); refine goesL_ (some 14) rfl rfl Try.func48 (by kernel_rfl) rfl #[.slice A0_1 l0_1.length c0_1, .slice A1_1 l1_1.length c1_1] rfl (by first | rfl | (simp only [List.map_toArray, List.map_cons, List.map_nil]; first | done | rfl)) ?_; (with_reducible refine (laws_eqRowSS.calls k _ _ l0_1 _ _ l1_1 false _ ?side1 ?side2 ?side3 ?side4 A4.out).mono ?_); (case side1 => repeat (first | exact (Kd.C_below HR0_1.out HB.out) | (with_reducible refine Kd.C_alloc ?_ _) | (with_reducible refine Kd.C_drewN ?_ _) | (with_reducible refine Kd.C_drew ?_))); (case side2 => exact HC0_1.out); (case side3 => repeat (first | exact (Kd.C_below HR1_1.out HB.out) | (with_reducible refine Kd.C_alloc ?_ _) | (with_reducible refine Kd.C_drewN ?_ _) | (with_reducible refine Kd.C_drew ?_))); (case side4 => exact HC1_1.out); rintro e w17 ⟨rfl, hb⟩; refine ⟨_, rfl, ?_⟩; have n0_ := Am (Kb (g := gb185) (o := .cells #[.int .i64 a0_0, .slice A0_1 l0_1.length c0_1] 29 (0, 0)) (by (with_reducible repeat (first | refine Kn ?_ _ | refine Ke ?_ | refine Ka ?_ _)); exact BK185.out) hb); have n1_ := Am (Kb (g := gb186) (o := .cells #[.int .i64 a1_0, .slice A1_1 l1_1.length c1_1] 29 (0, 0)) (by (with_reducible repeat (first | refine Kn ?_ _ | refine Ke ?_ | refine Ka ?_ _)); exact BK186.out) hb); have n2_ := Am (Bt (by repeat (first | (with_reducible first | exact HB.out | apply Ba | apply Bn | apply Bd | refine Bs ?_ GE185.out | refine Bs ?_ GE186.out) | exact HB.out)) hb); clear BK185; clear BK186; clear HB; have BK185 := n0_; have BK186 := n1_; have HB := n2_; clear n0_ n1_ n2_; (try clear hb); (try clear hb2); (try clear hk); (try clear hi)))
   go_ret
   exact ⟨by first | rfl | (simp [*, errW_none, errW_some] <;> rfl), by repeat (first | (with_reducible first | exact HB.out | apply Ba | apply Bn | apply Bd | refine Bs ?_ GE185.out | refine Bs ?_ GE186.out) | exact HB.out)⟩
 ·rw [if_neg c3] at H
  have c3b0 : (a0_0 == a1_0) = false := beq_eq_false_iff_ne.mpr c3
  have c3b1 : (a0_0 != a1_0) = true := bne_iff_ne.mpr c3
  obtain rfl := Option.some.inj H
  go_enter Try.func13, Try.ntmps13
  go_wp2_with (first | ((refine Gd (N := 2) rfl ?_); refine Be ?hg (N := 2) ?hd (cs := #[.int .i64 a0_0, .slice A0_1 l0_1.length c0_1]) (t := 29) ?hr ?_; (case hd | hg => rfl); (case hr => first | (go_simp; done) | (go_simp; rfl)); intro gb185 hg w18 hbox hb; have n0_ := Am (Bt (by repeat (first | exact HB.out | apply Ba | apply Bn | apply Bd)) hb); have n1_ := Am (hbox); have n2_ := Am ((by rw [hg]; exact (Bz (by repeat (first | exact HB.out | apply Ba | apply Bn | apply Bd))) : w.heap.size ≤ gb185)); have n3_ := Am ((by rw [hg]; exact (Bz (by repeat (first | exact HB.out | apply Ba | apply Bn | apply Bd))) : w.heap.size ≤ gb185)); clear HB; have HB := n0_; have BK185 := n1_; have GW185 := n2_; have GE185 := n3_; clear n0_ n1_ n2_ n3_; clear hb hbox hg) | ((refine Gd (N := 3) rfl ?_); refine Be ?hg (N := 3) ?hd (cs := #[.int .i64 a1_0, .slice A1_1 l1_1.length c1_1]) (t := 29) ?hr ?_; (case hd | hg => rfl); (case hr => first | (go_simp; done) | (go_simp; rfl)); intro gb186 hg w19 hbox hb; have n0_ := Am (Kb (g := gb185) (o := .cells #[.int .i64 a0_0, .slice A0_1 l0_1.length c0_1] 29 (0, 0)) (by (with_reducible repeat (first | refine Kn ?_ _ | refine Ke ?_ | refine Ka ?_ _)); exact BK185.out) hb); have n1_ := Am (Bt (by repeat (first | (with_reducible first | exact HB.out | apply Ba | apply Bn | apply Bd | refine Bs ?_ GE185.out) | exact HB.out)) hb); have n2_ := Am (hbox); have n3_ := Am ((by rw [hg]; exact (Bz (by repeat (first | (with_reducible first | exact HB.out | apply Ba | apply Bn | apply Bd | refine Bs ?_ GE185.out) | exact HB.out))) : w.heap.size ≤ gb186)); have n4_ := Am ((by rw [hg]; exact (Bz (by repeat (first | (with_reducible first | exact HB.out | apply Ba | apply Bn | apply Bd | refine Bs ?_ GE185.out) | exact HB.out))) : w.heap.size ≤ gb186)); have n5_ := Am ((by rw [hg]; exact Nat.ne_of_lt (blk_lt (g := gb185) (o := .cells #[.int .i64 a0_0, .slice A0_1 l0_1.length c0_1] 29 (0, 0)) (by (with_reducible repeat (first | refine Kn ?_ _ | refine Ke ?_ | refine Ka ?_ _)); exact BK185.out)) : gb185 ≠ gb186)); have n6_ := Am ((by rw [hg]; exact Nat.ne_of_gt (blk_lt (g := gb185) (o := .cells #[.int .i64 a0_0, .slice A0_1 l0_1.length c0_1] 29 (0, 0)) (by (with_reducible repeat (first | refine Kn ?_ _ | refine Ke ?_ | refine Ka ?_ _)); exact BK185.out)) : gb186 ≠ gb185)); clear BK185; clear HB; have BK185 := n0_; have HB := n1_; have BK186 := n2_; have GW186 := n3_; have GE186 := n4_; have NB185_186 := n5_; have NB186_185 := n6_; clear n0_ n1_ n2_ n3_ n4_ n5_ n6_; clear hb hbox hg; have hnb20 := NB185_186.out; have hnc20 := NB186_185.out; have hcz21_0 : w19.cell? ⟨gb185, 0, none⟩ = some (.int .i64 a0_0) := (Kc BK185.out 0).trans rfl; have hcz21_1 : w19.cell? ⟨gb185, 1, none⟩ = some (.slice A0_1 l0_1.length c0_1) := (Kc BK185.out 1).trans rfl; have hfz21_0 := Kz BK185.out 0; have hfz21_1 := Kz BK185.out 1; have hcz22_0 : w19.cell? ⟨gb186, 0, none⟩ = some (.int .i64 a1_0) := (Kc BK186.out 0).trans rfl; have hcz22_1 : w19.cell? ⟨gb186, 1, none⟩ = some (.slice A1_1 l1_1.length c1_1) := (Kc BK186.out 1).trans rfl; have hfz22_0 := Kz BK186.out 0; have hfz22_1 := Kz BK186.out 1))
  go_ret
  exact ⟨by first | rfl | (simp [*, errW_none, errW_some] <;> rfl), by repeat (first | (with_reducible first | exact HB.out | apply Ba | apply Bn | apply Bd | refine Bs ?_ GE185.out | refine Bs ?_ GE186.out) | exact HB.out)⟩
def laws_markIntS.l0 : Nat → List Int → Int → Int → Option (Int × List Int)
 | 0, _, _, _ => none
 | k + 1, x0, x1, x5 => if x5 < (x0.length : Int) then (if 0 ≤ x5 then (laws_markIntS.l0 k (x0.set (x5 : Int).toNat x1) (wrap64 (x1 + 1)) (wrap64 (x5 + 1))) else (none)) else (some (x1, x0))
def laws_markIntS.f (k : Nat) (l0 : List Int) (a1 : Int) : Option (Int × List Int) := laws_markIntS.l0 k l0 a1 0
theorem laws_markIntS.mono_l : ∀ k, (∀ y0 y1 y2, LeO (laws_markIntS.l0 k y0 y1 y2) (laws_markIntS.l0 (k + 1) y0 y1 y2))
 | 0 => fun _ _ _ r h => by simp [laws_markIntS.l0] at h
 | k + 1 => by
  have ih0 := laws_markIntS.mono_l k
  ·intro y0 y1 y2
   unfold laws_markIntS.l0
   repeat' first
   | (with_reducible exact ih0 _ _ _)
   | (with_reducible exact LeO.refl _)
   | (with_reducible exact LeO.none _)
   | (with_reducible refine LeO.ite ?_ ?_)
   | (with_reducible refine LeO.bind ?_ (fun _ => ?_))
   | exact ih0 _ _ _
   | exact LeO.none _
   | refine LeO.ite ?_ ?_
   | refine LeO.bind ?_ (fun _ => ?_)
theorem laws_markIntS.mono : ∀ a0 a1 k, LeO (laws_markIntS.f k a0 a1) (laws_markIntS.f (k + 1) a0 a1) := by
 intro a0 a1 k
 have ih0 := laws_markIntS.mono_l k
 unfold laws_markIntS.f
 repeat' first
   | (with_reducible exact ih0 _ _ _)
   | (with_reducible exact LeO.refl _)
   | (with_reducible exact LeO.none _)
   | (with_reducible refine LeO.ite ?_ ?_)
   | (with_reducible refine LeO.bind ?_ (fun _ => ?_))
   | exact ih0 _ _ _
   | exact LeO.none _
   | refine LeO.ite ?_ ?_
   | refine LeO.bind ?_ (fun _ => ?_)
set_option maxHeartbeats 8000000 in
set_option maxRecDepth 100000 in
theorem laws_markIntS.calls (k : Nat) (P0_ : Nat → Prop) (u9000_ : Value) (l0 : List Int) (a1 : Int) (r1 : Int) (r2 : List Int) (w0 w : World) (hB : Below w0.heap.size w0 w) (ho0 : Kd.R (Kd.int .i64) 3 w w0.heap.size P0_ u9000_ l0) (h : laws_markIntS.f k l0 a1 = some (r1, r2)) :
  Calls Try.prog 56 #[u9000_, .int .i64 a1] w fun e w' => e = .returned (.int .i64 r1) ∧ Kd.R (Kd.int .i64) 3 w' w0.heap.size (fun k_ => (P0_ k_ ∨ w.heap.size ≤ k_)) u9000_ r2 ∧ Below w0.heap.size w0 w' ∧ Kept w w' (fun k_ => P0_ k_) := by
 have HO0 := Am (show Kd.R (Kd.int .i64) 3 w w0.heap.size (fun k_ => (P0_ k_ ∨ w.heap.size ≤ k_)) u9000_ l0 from Kd.R_mono ho0 (fun k_ hk => (.inl hk)))
 have HK := Am (Kept.refl w (fun k_ => P0_ k_))
 have HW0 := Am hB.size
 have HB := Am hB
 clear hB
 have H : (laws_markIntS.l0 k l0 a1 0) = some (r1, r2) := h
 clear h
 have H' := Am H
 clear H
 go_enter Try.func56, Try.ntmps56
 go_wp2
 go_loopg [1, 5] k (fun kq v1 v5 w' => ∃ (x0_1 : List Int) (x1_1 : Int) (x5_1 : Int), v1 = .int .i64 x1_1 ∧ v5 = .int .i64 x5_1 ∧ Ad (laws_markIntS.l0 kq x0_1 x1_1 x5_1 = some (r1, r2)) ∧ Ad (kq ≤ k) ∧ Ad (Kd.R (Kd.int .i64) 3 w' w0.heap.size (fun k_ => (P0_ k_ ∨ w.heap.size ≤ k_)) u9000_ x0_1) ∧ Ad (Kept w w' (fun k_ => P0_ k_)) ∧ Ad (Below w0.heap.size w0 w'))
 case atStart => exact ⟨(l0), (a1), (0), (by first | rfl | (simp; done) | (simp [*]; done)), (by first | rfl | (simp; done) | (simp [*]; done)), H', ⟨Nat.le_refl _⟩, ⟨by (with_reducible repeat (first | apply Ra | apply Rn | apply Rd)); exact HO0.out⟩, ⟨by repeat (first | (with_reducible first | exact HK.out | apply Kept.alloc | apply Kept.drewN | apply Kept.drew) | exact HK.out)⟩, ⟨by repeat (first | exact HB.out | apply Ba | apply Bn | apply Bd)⟩⟩
 case round =>
  clear H'
  try clear p2
  obtain ⟨x0_1, x1_1, x5_1, rfl, rfl, HA, HK1, HO_0, HK, HB⟩ := hrel
  cases gk with
  | zero => exact absurd HA.out (by simp [laws_markIntS.l0])
  | succ k1 =>
   have H := HA.out
   clear HA
   simp only [laws_markIntS.l0] at H
   by_cases c3 : x5_1 < (x0_1.length : Int)
   ·rw [if_pos c3] at H
    have c3b0 : decide (x5_1 < (x0_1.length : Int)) = true := decide_eq_true c3
    clear c3
    by_cases c4 : 0 ≤ x5_1
    ·rw [if_pos c4] at H
     have c4b0 : decide (0 ≤ x5_1) = true := decide_eq_true c4
     clear c4
     obtain ⟨y188, hy188⟩ : ∃ y_ : List Int, y_ = (x0_1.set (x5_1 : Int).toNat x1_1) := ⟨_, rfl⟩
     replace H : (laws_markIntS.l0 k1 y188 (wrap64 (x1_1 + 1)) (wrap64 (x5_1 + 1))) = some (r1, r2) := by first | (rw [hy188]; with_reducible exact H) | (have H2_ := (Option.bind_some _ _).symm.trans H; rw [hy188]; with_reducible exact H2_) | (have H2_ := (Option.bind_some _ _).symm.trans H; with_reducible exact H2_) | with_reducible exact H | (rw [hy188]; exact H) | exact H
     have Ny188 := Am hy188
     clear hy188
     have H' := Am H
     clear H
     obtain ⟨Ao6, co6, eo6⟩ := Kd.R_slice HO_0.out
     subst eo6
     have p5 : 0 ≤ (x5_1 : Int) := of_decide_eq_true (by assumption)
     have q5 : (x5_1 : Int) < ((x0_1.length : Int) : Int) := of_decide_eq_true (by assumption)
     obtain ⟨go5, co5, eo5, gb5, gl5, cl5, HG5⟩ := Kd.R_form HO_0.out (by omega)
     (first | cases eo5 | (injection eo5 with ea_ en_ ec_; (first | subst ea_ | (injection ea_ with ea_; subst ea_)); subst ec_; clear en_))
     have GB5 := Am gb5
     have GG5 := Am HG5
     clear gb5 gl5 HG5
     have HMgo5 := Am (show (P0_ go5 ∨ w.heap.size ≤ go5) from (HO_0.out.1 _ rfl))
     obtain ⟨hx5_0, hf5_0⟩ := Kd.R_celln 0 HO_0.out (x5_1 : Int) p5 q5
     replace p5 := eq_true p5
     replace q5 := eq_true q5
     have HP7 := Kd.R_putg HO_0.out (x5_1 : Int) x1_1
     go_wp2_with (first | ((refine Gs (t := 3) (p := 15) rfl ?_); refine store_event (t := 3) (p := 15) (v := ?vo_w8) (w1 := (wr.setCell ⟨go5, (x5_1 : Int).toNat, none⟩ (.int .i64 x1_1))) ?hg ?ho ?hn ?hr ?_; (case ho => rfl); (case hg => rfl); (case hn => rfl); (case hr => first | (go_simp; done) | (go_simp; rfl)); intro w8 hw; have hg : wr.grownBy w8 (some go5) := (by rw [hw]; exact HP7.2); have hp_ : Kd.R (Kd.int .i64) 3 w8 w0.heap.size (fun k_ => (P0_ k_ ∨ w.heap.size ≤ k_)) (.slice (some ⟨go5, 0, none⟩) x0_1.length co6) y188 := (by rw [hw, Ny188.out]; exact HP7.1); clear HP7; have n0_ := Am (hp_); have n1_ := Am ((by rw [hw]; exact Bs (HB.out) GB5.out : Below w0.heap.size w0 w8)); have n2_ := Am (Kept.of_grown (S := (fun k_ => P0_ k_)) hg (by repeat (first | (with_reducible first | exact HK.out | apply Kept.alloc | apply Kept.drewN | apply Kept.drew) | exact HK.out)) (fun k_ e_ => (HO_0.out.1 k_ e_))); clear HO_0; clear HB; clear HK; have HO_0 := n0_; have HB := n1_; have HK := n2_; clear n0_ n1_ n2_; clear hg hw hp_))
     go_roundg k1
     case measure => have := HK1.out; omega
     case rel => exact ⟨(y188), (wrap64 (x1_1 + 1)), (wrap64 (x5_1 + 1)), (by first | rfl | (simp; done) | (simp [*]; done)), (by first | rfl | (simp; done) | (simp [*]; done)), H', ⟨by have := HK1.out; omega⟩, ⟨by (with_reducible repeat (first | apply Ra | apply Rn | apply Rd)); exact HO_0.out⟩, ⟨by repeat (first | (with_reducible first | exact HK.out | apply Kept.alloc | apply Kept.drewN | apply Kept.drew) | exact HK.out)⟩, ⟨by repeat (first | exact HB.out | apply Ba | apply Bn | apply Bd)⟩⟩
    ·rw [if_neg c4] at H
     exact absurd H (by simp)
   ·rw [if_neg c3] at H
    have c3b0 : decide (x5_1 < (x0_1.length : Int)) = false := decide_eq_false c3
    clear c3
    simp only [Option.some.injEq, Prod.mk.injEq] at H
    obtain ⟨rfl, rfl⟩ := H
    obtain ⟨Ao9, co9, eo9⟩ := Kd.R_slice HO_0.out
    subst eo9
    go_wp2
    go_ret
    exact ⟨by first | rfl | (simp [*, errW_none, errW_some] <;> rfl), by (with_reducible repeat (first | apply Ra | apply Rn | apply Rd)); exact HO_0.out, by repeat (first | exact HB.out | apply Ba | apply Bn | apply Bd), by repeat (first | (with_reducible first | exact HK.out | apply Kept.alloc | apply Kept.drewN | apply Kept.drew) | exact HK.out)⟩
structure laws_markRowS.M (w w' : World) (P : Nat → Prop) : Prop where
 os : w'.os = w.os
 tape : w'.tape = w.tape
 output : w'.output = w.output
 size : w.heap.size ≤ w'.heap.size
 block : ∀ i, i < w.heap.size → ¬ P i → w'.heap[i]? = w.heap[i]?
 keep : ∀ a v, w.cell? a = some v → (∀ x, v ≠ .int .i64 x) → w'.cell? a = some v
 ints : ∀ a x, w.cell? a = some (.int .i64 x) → ∃ y, w'.cell? a = some (.int .i64 y)
 frozen : ∀ a, a.block < w.heap.size → w'.frozen? a = w.frozen? a
theorem laws_markRowS.M.refl (w : World) (P : Nat → Prop) : laws_markRowS.M w w P := ⟨rfl, rfl, rfl, Nat.le_refl _, fun _ _ _ => rfl, fun _ _ h _ => h, fun _ x h => ⟨x, h⟩, fun _ _ => rfl⟩
theorem laws_markRowS.M.trans {w w1 w2 : World} {P : Nat → Prop} (h : laws_markRowS.M w w1 P) (k : laws_markRowS.M w1 w2 P) : laws_markRowS.M w w2 P :=
 ⟨k.os.trans h.os, k.tape.trans h.tape, k.output.trans h.output, Nat.le_trans h.size k.size, fun i hi hn => (k.block i (Nat.lt_of_lt_of_le hi h.size) hn).trans (h.block i hi hn), fun a v ha hv => k.keep a v (h.keep a v ha hv) hv, fun a x ha => by obtain ⟨y, hy⟩ := h.ints a x ha; exact k.ints a y hy, fun a ha => (k.frozen a (Nat.lt_of_lt_of_le ha h.size)).trans (h.frozen a ha)⟩
theorem laws_markRowS.M.set {w w1 : World} {P : Nat → Prop} (h : laws_markRowS.M w w1 P) {g j : Nat} {x : Int} (hx : w1.cell? ⟨g, j, none⟩ = some (.int .i64 x)) (hp : P g) (y : Int) : laws_markRowS.M w (w1.setCell ⟨g, j, none⟩ (.int .i64 y)) P := by
 have hs : w1.heap.size ≤ (w1.setCell ⟨g, j, none⟩ (.int .i64 y)).heap.size := (Kept.setCell (p := ⟨g, j, none⟩) (Kept.refl w1 (fun k => k = g)) (.inl rfl) (.int .i64 y)).1
 have hb : Below g w1 (w1.setCell ⟨g, j, none⟩ (.int .i64 y)) := (Below.refl g w1).setCell (Nat.le_refl _) _
 refine laws_markRowS.M.trans h ⟨hb.os, hb.tape, hb.output, hs, fun i _ hn => Below.heap_setCell w1 ⟨g, j, none⟩ _ i (fun e => hn (e ▸ hp)), fun a v ha hv => ?_, fun a z ha => ?_, fun a _ => World.frozen?_setCell _ _ _ _⟩
 ·by_cases e : (⟨g, j, none⟩ : Addr) = a
  ·subst e
   rw [hx] at ha
   exact absurd (Option.some.inj ha).symm (hv x)
  ·rw [World.cell?_setCell_other _ _ _ _ e]; exact ha
 ·by_cases e : (⟨g, j, none⟩ : Addr) = a
  ·subst e
   exact ⟨y, by first | exact World.cell?_setCell_same _ _ _ hx | exact World.cell?_setCell_same _ _ _ _ hx⟩
  ·rw [World.cell?_setCell_other _ _ _ _ e]; exact ⟨z, ha⟩
theorem laws_markRowS.M.below {w w1 w2 : World} {P : Nat → Prop} (h : laws_markRowS.M w w1 P) (hb : Below w1.heap.size w1 w2) : laws_markRowS.M w w2 P := by
 refine laws_markRowS.M.trans h ⟨hb.os, hb.tape, hb.output, hb.size, fun i hi _ => hb.block i hi, fun a v ha _ => (hb.cell (bl_ w1 _ ha)).trans ha, fun a x ha => ⟨x, (hb.cell (bl_ w1 _ ha)).trans ha⟩, fun a ha => ?_⟩
 unfold World.frozen?
 rw [hb.block _ ha]
def laws_markRowS.In (w : World) (P : Nat → Prop) (v : Value) (n : Nat) : Prop := ∃ A c, v = .slice A n c ∧ (0 < n → ∃ g, A = some ⟨g, 0, none⟩ ∧ P g ∧ g < w.heap.size ∧ ∀ t, t < n → (∃ x, w.cell? ⟨g, t, none⟩ = some (.int .i64 x)) ∧ w.frozen? ⟨g, t, none⟩ = false)
theorem laws_markRowS.In.of_R {e base : Nat} {ok P : Nat → Prop} {w : World} {v : Value} {xs : List Int} (h : Kd.R (Kd.int .i64) e w base ok v xs) (hok : ∀ k, ok k → P k) : laws_markRowS.In w P v xs.length := by
 obtain ⟨A, c, rfl⟩ := Kd.R_slice h
 refine ⟨A, c, rfl, fun hp => ?_⟩
 obtain ⟨g, cap, hv, hbg, hgl, _⟩ := Kd.R_form h hp
 injection hv with hv1 hv2 hv3
 subst hv1
 refine ⟨g, rfl, hok g (h.1 g rfl), hgl, fun t ht => ?_⟩
 obtain ⟨ce, hcl, hM, hcc, hfr⟩ := Kd.R_elem h 0 (t : Int) (by omega) (by omega)
 have hM' : ce = [.int .i64 (xs.getD (t : Int).toNat 0)] := hM
 subst hM'
 have h1 := hcc 0 _ rfl
 have h2 := hfr 0
 rw [Int.toNat_natCast] at h1 h2
 exact ⟨⟨_, by simpa [Kd.int, Kd.scalar] using h1⟩, by simpa [Kd.int, Kd.scalar] using h2⟩
theorem laws_markRowS.In.step {w w' : World} {P : Nat → Prop} {v : Value} {n : Nat} (h : laws_markRowS.In w P v n) (hm : laws_markRowS.M w w' P) : laws_markRowS.In w' P v n := by
 obtain ⟨A, c, rfl, h⟩ := h
 refine ⟨A, c, rfl, fun hp => ?_⟩
 obtain ⟨g, rfl, hg, hl, h⟩ := h hp
 refine ⟨g, rfl, hg, Nat.lt_of_lt_of_le hl hm.size, fun t ht => ?_⟩
 obtain ⟨⟨x, h1⟩, h2⟩ := h t ht
 exact ⟨hm.ints _ x h1, (hm.frozen _ hl).trans h2⟩
def laws_markRowS.At (w : World) (P : Nat → Prop) (g j : Nat) (x : S72) : Prop :=
 P g ∧ g < w.heap.size ∧ (∀ f, f < 9 → (∃ y, w.cell? ⟨g, j * 10 + f, none⟩ = some (.int .i64 y)) ∧ w.frozen? ⟨g, j * 10 + f, none⟩ = false) ∧ ∃ v, w.cell? ⟨g, j * 10 + 9, none⟩ = some v ∧ laws_markRowS.In w P v x.f4.f1.length
theorem laws_markRowS.At.step {w w' : World} {P : Nat → Prop} {g j : Nat} {x : S72} (h : laws_markRowS.At w P g j x) (hm : laws_markRowS.M w w' P) : laws_markRowS.At w' P g j x := by
 obtain ⟨hg, hl, h1, v, h2, h3⟩ := h
 refine ⟨hg, Nat.lt_of_lt_of_le hl hm.size, fun f hf => ?_, v, hm.keep _ v h2 (fun x hx => ?_), laws_markRowS.In.step h3 hm⟩
 ·obtain ⟨⟨y, h4⟩, h5⟩ := h1 f hf
  exact ⟨hm.ints _ y h4, (hm.frozen _ hl).trans h5⟩
 ·obtain ⟨A, c, rfl, _⟩ := h3
  cases hx
def laws_markRowS.Rows (w : World) (P : Nat → Prop) (v : Value) (l : List S72) : Prop := ∃ A c, v = .slice A l.length c ∧ (0 < l.length → ∃ g, A = some ⟨g, 0, none⟩ ∧ ∀ j, j < l.length → laws_markRowS.At w P g j (l.getD j z72))
theorem laws_markRowS.Rows.of_R {e base : Nat} {ok P : Nat → Prop} {w : World} {v : Value} {l : List S72} (h : Kd.R k72 e w base ok v l) (hok : ∀ k, ok k → P k) : laws_markRowS.Rows w P v l := by
 obtain ⟨A, c, rfl⟩ := Kd.R_slice h
 refine ⟨A, c, rfl, fun hp => ?_⟩
 obtain ⟨g, cap, hv, hbg, hgl, _⟩ := Kd.R_form h hp
 injection hv with hv1 hv2 hv3
 subst hv1
 refine ⟨g, rfl, fun j hj => ?_⟩
 obtain ⟨ce, hcl, hM, hcc, hfr⟩ := Kd.R_elem h z72 (j : Int) (by omega) (by omega)
 rw [Int.toNat_natCast] at hM
 obtain ⟨v9, rfl, g9⟩ := k72_openM hM
 simp only [Int.toNat_natCast] at hcc hfr
 refine ⟨hok g (h.1 g rfl), hgl, fun f hf => ?_, v9, hcc 9 _ rfl, laws_markRowS.In.of_R g9 (fun k hk => hok k hk.1)⟩
 match f, hf with
 | 0, _ => exact ⟨⟨_, hcc 0 _ rfl⟩, hfr 0⟩
 | 1, _ => exact ⟨⟨_, hcc 1 _ rfl⟩, hfr 1⟩
 | 2, _ => exact ⟨⟨_, hcc 2 _ rfl⟩, hfr 2⟩
 | 3, _ => exact ⟨⟨_, hcc 3 _ rfl⟩, hfr 3⟩
 | 4, _ => exact ⟨⟨_, hcc 4 _ rfl⟩, hfr 4⟩
 | 5, _ => exact ⟨⟨_, hcc 5 _ rfl⟩, hfr 5⟩
 | 6, _ => exact ⟨⟨_, hcc 6 _ rfl⟩, hfr 6⟩
 | 7, _ => exact ⟨⟨_, hcc 7 _ rfl⟩, hfr 7⟩
 | 8, _ => exact ⟨⟨_, hcc 8 _ rfl⟩, hfr 8⟩
 | f + 9, h => omega
theorem laws_markRowS.Rows.step {w w' : World} {P : Nat → Prop} {v : Value} {l : List S72} (h : laws_markRowS.Rows w P v l) (hm : laws_markRowS.M w w' P) : laws_markRowS.Rows w' P v l := by
 obtain ⟨A, c, rfl, h1⟩ := h
 refine ⟨A, c, rfl, fun hp => ?_⟩
 obtain ⟨g, hA, h2⟩ := h1 hp
 exact ⟨g, hA, fun j hj => laws_markRowS.At.step (h2 j hj) hm⟩
def laws_markRowS.cost : List S72 → Int
 | [] => 0
 | x :: l => 9 + (x.f4.f1.length : Int) + laws_markRowS.cost l
theorem laws_markRowS.cost_nn : ∀ l, 0 ≤ laws_markRowS.cost l
 | [] => Int.le_refl _
 | x :: l => by have := laws_markRowS.cost_nn l; simp only [laws_markRowS.cost]; omega
set_option maxHeartbeats 4000000 in
set_option maxRecDepth 100000 in
theorem laws_markRowS.ints (P : Nat → Prop) (A : Option Addr) (n c : Nat) (k0 : Int) (w : World) (h : laws_markRowS.In w P (.slice A n c) n) (h0 : 0 ≤ k0) (h1 : k0 + n ≤ 9223372036854775807) :
  Calls Try.prog 56 #[.slice A n c, .int .i64 k0] w fun e w' => e = .returned (.int .i64 (k0 + n)) ∧ laws_markRowS.M w w' P := by
 have H := Am h
 clear h
 go_enter Try.func56, Try.ntmps56
 go_wp2
 go_loopg [1, 5] n (fun gg s1 s5 wr => ∃ kk : Nat, kk ≤ n ∧ n - kk ≤ gg ∧ s5 = .int .i64 kk ∧ s1 = .int .i64 (k0 + kk) ∧ Ad (laws_markRowS.M w wr P))
 case atStart => exact ⟨0, Nat.zero_le _, by omega, rfl, by simp, ⟨laws_markRowS.M.refl _ _⟩⟩
 case round =>
  obtain ⟨kk, hkk, hg, rfl, rfl, HM⟩ := hrel
  by_cases hlt : kk < n
  ·have hltz : (kk : Int) < (n : Int) := by omega
   obtain ⟨A', c', e, hh⟩ := laws_markRowS.In.step H.out HM.out
   injection e with e1 e2 e3
   subst e1
   obtain ⟨g, rfl, hPg, hgl, hc⟩ := hh (by omega)
   obtain ⟨⟨x, hx⟩, hf⟩ := hc kk hlt
   have HX := Am hx
   have HPG := Am hPg
   clear hh hc hPg hgl e2 e3
   go_wp2
   go_roundg (n - (kk + 1))
   case measure => omega
   case rel => exact ⟨kk + 1, by omega, by omega, by go_num, by (have e_ : wrap64 (k0 + (kk : Int) + 1) = k0 + ((kk + 1 : Nat) : Int) := by (unfold wrap64; omega)); show Value.int .i64 (k0 + (kk : Int) + 1) = _; congr 1; omega, ⟨laws_markRowS.M.set HM.out HX.out HPG.out _⟩⟩
  ·have hltz : ¬ (kk : Int) < (n : Int) := by omega
   obtain rfl : kk = n := by omega
   go_wp2
   go_ret
   exact ⟨rfl, HM.out⟩
set_option maxHeartbeats 4000000 in
set_option maxRecDepth 100000 in
theorem laws_markRowS.marks (P : Nat → Prop) (A : Option Addr) (c : Nat) (l : List S72) (k0 : Int) (w : World) (h : laws_markRowS.Rows w P (.slice A l.length c) l) (hn : l.length ≤ 9223372036854775807) (h0 : 0 ≤ k0) (h1 : k0 + laws_markRowS.cost l ≤ 9223372036854775807) :
  Calls Try.prog 86 #[.slice A l.length c, .int .i64 k0] w fun e w' => e = .returned (.int .i64 (k0 + laws_markRowS.cost l)) ∧ laws_markRowS.M w w' P := by
 have H := Am h
 clear h
 go_enter Try.func86, Try.ntmps86
 go_wp2
 go_loopg [1, 5] l.length (fun gg s1 s5 wr => ∃ (kk : Nat) (m : Int), kk ≤ l.length ∧ l.length - kk ≤ gg ∧ s5 = .int .i64 kk ∧ s1 = .int .i64 m ∧ Ad (0 ≤ m ∧ m + laws_markRowS.cost (l.drop kk) = k0 + laws_markRowS.cost l) ∧ Ad (laws_markRowS.M w wr P))
 case atStart => exact ⟨0, k0, Nat.zero_le _, by omega, rfl, rfl, ⟨h0, by simp⟩, ⟨laws_markRowS.M.refl _ _⟩⟩
 case round =>
  obtain ⟨kk, m, hkk, hg, rfl, rfl, HC, HM0⟩ := hrel
  by_cases hlt : kk < l.length
  ·have hltz : (kk : Int) < (l.length : Int) := by omega
   obtain ⟨A', c', e, hh⟩ := H.out
   injection e with e1 e2 e3
   subst e1
   obtain ⟨g, rfl, hat⟩ := hh (by omega)
   have HAT := Am (hat kk hlt)
   have HC' : Ad (0 ≤ m ∧ m + 9 + ((l.getD kk z72).f4.f1.length : Int) + laws_markRowS.cost (l.drop (kk + 1)) = k0 + laws_markRowS.cost l) := ⟨HC.out.1, by have h_ := HC.out.2; rw [Mine.drop_at l z72 kk hlt] at h_; simp only [laws_markRowS.cost] at h_; omega⟩
   clear hh hat e2 e3 HC
   generalize l.getD kk z72 = x at HAT HC'
   have HE : Ad ((wrap64 ((wrap64 ((wrap64 ((wrap64 ((wrap64 ((wrap64 ((wrap64 ((wrap64 ((wrap64 (m + 1)) + 1)) + 1)) + 1)) + 1)) + 1)) + 1)) + 1)) + 1)) = m + 9 ∧ 0 ≤ m + 9 ∧ m + 9 + (x.f4.f1.length : Int) ≤ 9223372036854775807) := ⟨by
    have h_ := HC'.out
    have hc_ := laws_markRowS.cost_nn (l.drop (kk + 1))
    have w1 : wrap64 (m + 1) = m + 1 := by unfold wrap64; omega
    have w2 : wrap64 (m + 1 + 1) = m + 2 := by unfold wrap64; omega
    have w3 : wrap64 (m + 2 + 1) = m + 3 := by unfold wrap64; omega
    have w4 : wrap64 (m + 3 + 1) = m + 4 := by unfold wrap64; omega
    have w5 : wrap64 (m + 4 + 1) = m + 5 := by unfold wrap64; omega
    have w6 : wrap64 (m + 5 + 1) = m + 6 := by unfold wrap64; omega
    have w7 : wrap64 (m + 6 + 1) = m + 7 := by unfold wrap64; omega
    have w8 : wrap64 (m + 7 + 1) = m + 8 := by unfold wrap64; omega
    have w9 : wrap64 (m + 8 + 1) = m + 9 := by unfold wrap64; omega
    rw [w1, w2, w3, w4, w5, w6, w7, w8, w9]
    omega⟩
   obtain ⟨⟨y, hx_⟩, hf_⟩ := (laws_markRowS.At.step HAT.out HM0.out).2.2.1 0 (by omega)
   have hx : wr.cell? ⟨g, kk * 10, none⟩ = some (.int .i64 y) := hx_
   have hf : wr.frozen? ⟨g, kk * 10, none⟩ = false := hf_
   clear hx_ hf_
   go_upto_region 5 with (fail)
   refine letC (fun W_ => laws_markRowS.M w W_ P) (laws_markRowS.M.set HM0.out hx HAT.out.1 _) ?_
   intro W1 hm
   have HM1 := Am hm
   clear hm hx hf
   obtain ⟨⟨y, hx_⟩, hf_⟩ := (laws_markRowS.At.step HAT.out HM1.out).2.2.1 1 (by omega)
   have hx : W1.cell? ⟨g, kk * 10 + 1, none⟩ = some (.int .i64 y) := hx_
   have hf : W1.frozen? ⟨g, kk * 10 + 1, none⟩ = false := hf_
   clear hx_ hf_
   go_upto_region 7 with (fail)
   refine letC (fun W_ => laws_markRowS.M w W_ P) (laws_markRowS.M.set HM1.out hx HAT.out.1 _) ?_
   intro W2 hm
   have HM2 := Am hm
   clear hm hx hf
   obtain ⟨⟨y, hx_⟩, hf_⟩ := (laws_markRowS.At.step HAT.out HM2.out).2.2.1 2 (by omega)
   have hx : W2.cell? ⟨g, kk * 10 + 2, none⟩ = some (.int .i64 y) := hx_
   have hf : W2.frozen? ⟨g, kk * 10 + 2, none⟩ = false := hf_
   clear hx_ hf_
   go_upto_region 9 with (fail)
   refine letC (fun W_ => laws_markRowS.M w W_ P) (laws_markRowS.M.set HM2.out hx HAT.out.1 _) ?_
   intro W3 hm
   have HM3 := Am hm
   clear hm hx hf
   obtain ⟨⟨y, hx_⟩, hf_⟩ := (laws_markRowS.At.step HAT.out HM3.out).2.2.1 3 (by omega)
   have hx : W3.cell? ⟨g, kk * 10 + 3, none⟩ = some (.int .i64 y) := hx_
   have hf : W3.frozen? ⟨g, kk * 10 + 3, none⟩ = false := hf_
   clear hx_ hf_
   go_upto_region 11 with (fail)
   refine letC (fun W_ => laws_markRowS.M w W_ P) (laws_markRowS.M.set HM3.out hx HAT.out.1 _) ?_
   intro W4 hm
   have HM4 := Am hm
   clear hm hx hf
   obtain ⟨⟨y, hx_⟩, hf_⟩ := (laws_markRowS.At.step HAT.out HM4.out).2.2.1 4 (by omega)
   have hx : W4.cell? ⟨g, kk * 10 + 4, none⟩ = some (.int .i64 y) := hx_
   have hf : W4.frozen? ⟨g, kk * 10 + 4, none⟩ = false := hf_
   clear hx_ hf_
   go_upto_region 13 with (fail)
   refine letC (fun W_ => laws_markRowS.M w W_ P) (laws_markRowS.M.set HM4.out hx HAT.out.1 _) ?_
   intro W5 hm
   have HM5 := Am hm
   clear hm hx hf
   obtain ⟨⟨y, hx_⟩, hf_⟩ := (laws_markRowS.At.step HAT.out HM5.out).2.2.1 5 (by omega)
   have hx : W5.cell? ⟨g, kk * 10 + 5, none⟩ = some (.int .i64 y) := hx_
   have hf : W5.frozen? ⟨g, kk * 10 + 5, none⟩ = false := hf_
   clear hx_ hf_
   go_upto_region 15 with (fail)
   refine letC (fun W_ => laws_markRowS.M w W_ P) (laws_markRowS.M.set HM5.out hx HAT.out.1 _) ?_
   intro W6 hm
   have HM6 := Am hm
   clear hm hx hf
   obtain ⟨⟨y, hx_⟩, hf_⟩ := (laws_markRowS.At.step HAT.out HM6.out).2.2.1 6 (by omega)
   have hx : W6.cell? ⟨g, kk * 10 + 6, none⟩ = some (.int .i64 y) := hx_
   have hf : W6.frozen? ⟨g, kk * 10 + 6, none⟩ = false := hf_
   clear hx_ hf_
   go_upto_region 17 with (fail)
   refine letC (fun W_ => laws_markRowS.M w W_ P) (laws_markRowS.M.set HM6.out hx HAT.out.1 _) ?_
   intro W7 hm
   have HM7 := Am hm
   clear hm hx hf
   obtain ⟨⟨y, hx_⟩, hf_⟩ := (laws_markRowS.At.step HAT.out HM7.out).2.2.1 7 (by omega)
   have hx : W7.cell? ⟨g, kk * 10 + 7, none⟩ = some (.int .i64 y) := hx_
   have hf : W7.frozen? ⟨g, kk * 10 + 7, none⟩ = false := hf_
   clear hx_ hf_
   go_upto_region 19 with (fail)
   refine letC (fun W_ => laws_markRowS.M w W_ P) (laws_markRowS.M.set HM7.out hx HAT.out.1 _) ?_
   intro W8 hm
   have HM8 := Am hm
   clear hm hx hf
   obtain ⟨⟨y, hx_⟩, hf_⟩ := (laws_markRowS.At.step HAT.out HM8.out).2.2.1 8 (by omega)
   have hx : W8.cell? ⟨g, kk * 10 + 8, none⟩ = some (.int .i64 y) := hx_
   have hf : W8.frozen? ⟨g, kk * 10 + 8, none⟩ = false := hf_
   clear hx_ hf_
   go_upto_region 21 with (fail)
   refine letC (fun W_ => laws_markRowS.M w W_ P) (laws_markRowS.M.set HM8.out hx HAT.out.1 _) ?_
   intro W9 hm
   have HM9 := Am hm
   clear hm hx hf
   obtain ⟨_, hgl, _, v9, hx9, hin⟩ := laws_markRowS.At.step HAT.out HM9.out
   obtain ⟨A9, c9, rfl, hin'⟩ := hin
   have HIN : Ad (laws_markRowS.In W9 P (.slice A9 x.f4.f1.length c9) x.f4.f1.length) := ⟨⟨A9, c9, rfl, hin'⟩⟩
   clear hgl hin'
   go_wp2_with fail
   refine (laws_markRowS.ints P A9 x.f4.f1.length c9 ((wrap64 ((wrap64 ((wrap64 ((wrap64 ((wrap64 ((wrap64 ((wrap64 ((wrap64 ((wrap64 (m + 1)) + 1)) + 1)) + 1)) + 1)) + 1)) + 1)) + 1)) + 1))) W9 HIN.out (by rw [HE.out.1]; exact HE.out.2.1) (by rw [HE.out.1]; exact HE.out.2.2)).mono ?_
   rintro e W10 ⟨rfl, hm⟩
   have HM10 := Am (laws_markRowS.M.trans HM9.out hm)
   clear hm hx9 HIN
   go_wp2
   go_roundg (l.length - (kk + 1))
   case measure => omega
   case rel => exact ⟨kk + 1, (wrap64 ((wrap64 ((wrap64 ((wrap64 ((wrap64 ((wrap64 ((wrap64 ((wrap64 ((wrap64 (m + 1)) + 1)) + 1)) + 1)) + 1)) + 1)) + 1)) + 1)) + 1)) + (x.f4.f1.length : Int), by omega, by omega, by go_num, rfl, ⟨by rw [HE.out.1]; have := HC'.out; omega, by rw [HE.out.1]; have := HC'.out; omega⟩, HM10⟩
  ·have hltz : ¬ (kk : Int) < (l.length : Int) := by omega
   have HC' : Ad (m = k0 + laws_markRowS.cost l) := ⟨by have h_ := HC.out.2; rw [List.drop_eq_nil_of_le (by omega)] at h_; simpa [laws_markRowS.cost] using h_⟩
   go_wp2
   go_ret
   exact ⟨by have e_ := HC'.out; subst e_; rfl, HM0.out⟩
def laws_markRowSS.Tab (w : World) (P : Nat → Prop) (v : Value) (ll : List (List S72)) : Prop := ∃ A c, v = .slice A ll.length c ∧ (0 < ll.length → ∃ g, A = some ⟨g, 0, none⟩ ∧ ∀ i, i < ll.length → ∃ u, w.cell? ⟨g, i, none⟩ = some u ∧ laws_markRowS.Rows w P u (ll.getD i []))
theorem laws_markRowSS.Tab.of_R {e e2 base : Nat} {ok P : Nat → Prop} {w : World} {v : Value} {ll : List (List S72)} (h : Kd.R (Kd.slice e2 k72) e w base ok v ll) (hok : ∀ k, ok k → P k) : laws_markRowSS.Tab w P v ll := by
 obtain ⟨A, c, rfl⟩ := Kd.R_slice h
 refine ⟨A, c, rfl, fun hp => ?_⟩
 obtain ⟨g, cap, hv, hbg, hgl, _⟩ := Kd.R_form h hp
 injection hv with hv1 hv2 hv3
 subst hv1
 refine ⟨g, rfl, fun i hi => ?_⟩
 obtain ⟨ce, hcl, hM, hcc, hfr⟩ := Kd.R_elem h [] (i : Int) (by omega) (by omega)
 obtain ⟨u, rfl, hR⟩ := hM
 have h1 := hcc 0 _ rfl
 rw [Int.toNat_natCast] at h1 hR
 exact ⟨u, by simpa [Kd.slice] using h1, laws_markRowS.Rows.of_R hR (fun k hk => hok k hk.1)⟩
theorem laws_markRowSS.Tab.step {w w' : World} {P : Nat → Prop} {v : Value} {ll : List (List S72)} (h : laws_markRowSS.Tab w P v ll) (hm : laws_markRowS.M w w' P) : laws_markRowSS.Tab w' P v ll := by
 obtain ⟨A, c, rfl, h0⟩ := h
 refine ⟨A, c, rfl, fun hp => ?_⟩
 obtain ⟨g, hA, h⟩ := h0 hp
 refine ⟨g, hA, fun i hi => ?_⟩
 obtain ⟨u, h1, h2⟩ := h i hi
 refine ⟨u, hm.keep _ u h1 (fun x hx => ?_), laws_markRowS.Rows.step h2 hm⟩
 obtain ⟨A, c, rfl, _⟩ := h2
 cases hx
def laws_markRowSS.costs : List (List S72) → Int
 | [] => 0
 | x :: l => laws_markRowS.cost x + laws_markRowSS.costs l
theorem laws_markRowSS.costs_nn : ∀ l, 0 ≤ laws_markRowSS.costs l
 | [] => Int.le_refl _
 | x :: l => by have := laws_markRowSS.costs_nn l; have := laws_markRowS.cost_nn x; simp only [laws_markRowSS.costs]; omega
theorem laws_markRowSS.len : ∀ l, (l.length : Int) ≤ laws_markRowS.cost l
 | [] => Int.le_refl _
 | x :: l => by have := laws_markRowSS.len l; simp only [laws_markRowS.cost, List.length_cons]; omega
set_option maxHeartbeats 4000000 in
set_option maxRecDepth 100000 in
theorem laws_markRowSS.marks (P : Nat → Prop) (A : Option Addr) (c : Nat) (l : List (List S72)) (k0 : Int) (w : World) (h : laws_markRowSS.Tab w P (.slice A l.length c) l) (hn : l.length ≤ 9223372036854775807) (h0 : 0 ≤ k0) (h1 : k0 + laws_markRowSS.costs l ≤ 9223372036854775807) :
  Calls Try.prog 51 #[.slice A l.length c, .int .i64 k0] w fun e w' => e = .returned (.int .i64 (k0 + laws_markRowSS.costs l)) ∧ laws_markRowS.M w w' P := by
 have H := Am h
 clear h
 go_enter Try.func51, Try.ntmps51
 go_wp2
 go_loopg [1, 5] l.length (fun gg s1 s5 wr => ∃ (kk : Nat) (m : Int), kk ≤ l.length ∧ l.length - kk ≤ gg ∧ s5 = .int .i64 kk ∧ s1 = .int .i64 m ∧ Ad (0 ≤ m ∧ m + laws_markRowSS.costs (l.drop kk) = k0 + laws_markRowSS.costs l) ∧ Ad (laws_markRowS.M w wr P))
 case atStart => exact ⟨0, k0, Nat.zero_le _, by omega, rfl, rfl, ⟨h0, by simp⟩, ⟨laws_markRowS.M.refl _ _⟩⟩
 case round =>
  obtain ⟨kk, m, hkk, hg, rfl, rfl, HC, HM0⟩ := hrel
  by_cases hlt : kk < l.length
  ·have hltz : (kk : Int) < (l.length : Int) := by omega
   obtain ⟨A', c', e, hh⟩ := laws_markRowSS.Tab.step H.out HM0.out
   injection e with e1 e2 e3
   subst e1
   obtain ⟨g, rfl, hat⟩ := hh (by omega)
   obtain ⟨u, hx, hrow⟩ := hat kk hlt
   have HC' : Ad (0 ≤ m ∧ m + laws_markRowS.cost (l.getD kk []) + laws_markRowSS.costs (l.drop (kk + 1)) = k0 + laws_markRowSS.costs l) := ⟨HC.out.1, by have h_ := HC.out.2; rw [Mine.drop_at l [] kk hlt] at h_; simp only [laws_markRowSS.costs] at h_; omega⟩
   clear hh hat e2 e3 HC
   generalize l.getD kk [] = x at hrow HC'
   obtain ⟨Ax, cx, rfl, hrow'⟩ := hrow
   have HR : Ad (laws_markRowS.Rows wr P (.slice Ax x.length cx) x) := ⟨⟨Ax, cx, rfl, hrow'⟩⟩
   have HB : Ad (m + laws_markRowS.cost x ≤ 9223372036854775807 ∧ x.length ≤ 9223372036854775807) := ⟨by have := HC'.out; have := laws_markRowSS.costs_nn (l.drop (kk + 1)); have := laws_markRowSS.len x; omega⟩
   clear hrow'
   go_wp2_with fail
   refine (laws_markRowS.marks P Ax cx x m wr HR.out HB.out.2 HC'.out.1 HB.out.1).mono ?_
   rintro e W1 ⟨rfl, hm⟩
   have HM1 := Am (laws_markRowS.M.trans HM0.out hm)
   clear hm hx HR
   go_wp2
   go_roundg (l.length - (kk + 1))
   case measure => omega
   case rel => exact ⟨kk + 1, m + laws_markRowS.cost x, by omega, by omega, by go_num, rfl, ⟨by have := HC'.out; have := laws_markRowS.cost_nn x; omega, HC'.out.2⟩, HM1⟩
  ·have hltz : ¬ (kk : Int) < (l.length : Int) := by omega
   have HC' : Ad (m = k0 + laws_markRowSS.costs l) := ⟨by have h_ := HC.out.2; rw [List.drop_eq_nil_of_le (by omega)] at h_; simpa [laws_markRowSS.costs] using h_⟩
   go_wp2
   go_ret
   exact ⟨by have e_ := HC'.out; subst e_; rfl, HM0.out⟩
def laws_markTable.f (n : Int) (l : List (List S72)) (a1 : Int) : Option Int := if 0 ≤ a1 ∧ a1 + laws_markRowSS.costs l ≤ 9223372036854775807 then some (a1 + laws_markRowSS.costs l) else none
set_option maxHeartbeats 4000000 in
set_option maxRecDepth 100000 in
theorem laws_markTable.calls (n : Int) (P : Nat → Prop) (v : Value) (l : List (List S72)) (a1 r : Int) (w0 w : World) (hB : Below w0.heap.size w0 w) (ho : Kd.R (Kd.slice 72 k72) 70 w w0.heap.size P v l) (h : laws_markTable.f n l a1 = some r) :
  Calls Try.prog 16 #[.agg #[.int .i64 n, v], .int .i64 a1] w fun e w' => e = .returned (.int .i64 r) ∧ Below w0.heap.size w0 w' ∧ Kept w w' P := by
 obtain ⟨A, c, rfl⟩ := Kd.R_slice ho
 unfold laws_markTable.f at h
 by_cases hc : 0 ≤ a1 ∧ a1 + laws_markRowSS.costs l ≤ 9223372036854775807
 ·rw [if_pos hc] at h
  obtain rfl := Option.some.inj h
  have hn : l.length ≤ 9223372036854775807 := (Kd.R_reads' ho).2.2.2.1
  have HT := Am (laws_markRowSS.Tab.of_R (P := fun k => P k ∧ w0.heap.size ≤ k) (Kd.R_bound ho) (fun k hk => ⟨hk.1, hk.2.1⟩))
  have HB := Am hB
  have HH := Am hc
  clear h ho hB hc
  go_enter Try.func16, Try.ntmps16
  go_upto_region 1 with (fail)
  refine letC (fun W_ => Below w.heap.size w W_ ∧ W_.heap[w.heap.size]? = some (.cells #[.int .i64 n, .slice A l.length c] 29 (0, 0))) ⟨Ba (Below.refl _ _) _, blk_new w (.cells #[.int .i64 n, .slice A l.length c] 29)⟩ ?_
  rintro W1 ⟨hb, hx⟩
  have HM1 := Am (laws_markRowS.M.below (laws_markRowS.M.refl w (fun k => P k ∧ w0.heap.size ≤ k)) hb)
  have q1 : W1.cell? ⟨w.heap.size, 1, none⟩ = some (.slice A l.length c) := (Kc hx 1).trans rfl
  clear hb hx
  go_wp2_with fail
  refine (laws_markRowSS.marks (fun k => P k ∧ w0.heap.size ≤ k) A c l a1 W1 (laws_markRowSS.Tab.step HT.out HM1.out) hn HH.out.1 HH.out.2).mono ?_
  rintro e W2 ⟨rfl, hm⟩
  have HM2 := Am (laws_markRowS.M.trans HM1.out hm)
  clear hm q1
  go_wp2
  go_ret
  refine ⟨rfl, ⟨HM2.out.os.trans HB.out.os, HM2.out.tape.trans HB.out.tape, HM2.out.output.trans HB.out.output, Nat.le_trans HB.out.size HM2.out.size, fun k hk => (HM2.out.block k (Nat.lt_of_lt_of_le hk HB.out.size) (fun hp => by have := hp.2; omega)).trans (HB.out.block k hk)⟩, HM2.out.size, fun i hi hn => HM2.out.block i hi (fun hp => hn hp.1)⟩
 ·rw [if_neg hc] at h
  cases h
def spec_IsGroup.f (a0 : Int) : Option (Bool) := if a0 = 3 then (some true) else (some (a0 == 5))
set_option maxHeartbeats 8000000 in
set_option maxRecDepth 100000 in
theorem spec_IsGroup.calls (a0 : Int) (r : Bool) (w : World) (h : spec_IsGroup.f a0 = some r) :
  Calls Try.prog 39 #[.int .i64 a0] w fun e w' => e = .returned (.bool r) ∧ Drawn0 w w' := by
 have H : (if a0 = 3 then (some true) else (some (a0 == 5))) = some r := h
 clear h
 by_cases c2 : a0 = 3
 ·rw [if_pos c2] at H
  have c2b0 : (a0 == 3) = true := beq_iff_eq.mpr c2
  have c2b1 : (a0 != 3) = false := bne_eq_false_iff_eq.mpr c2
  clear c2
  obtain rfl := Option.some.inj H
  go_enter Try.func39, Try.ntmps39
  go_wp2
  go_ret
  exact ⟨by first | rfl | (simp; done) | (simp [*]; done), by repeat (first | exact Drawn0.refl _ | apply Drawn0.step)⟩
 ·rw [if_neg c2] at H
  have c2b0 : (a0 == 3) = false := beq_eq_false_iff_ne.mpr c2
  have c2b1 : (a0 != 3) = true := bne_iff_ne.mpr c2
  obtain rfl := Option.some.inj H
  go_enter Try.func39, Try.ntmps39
  go_wp2
  go_ret
  exact ⟨by first | rfl | (simp; done) | (simp [*]; done), by repeat (first | exact Drawn0.refl _ | apply Drawn0.step)⟩
def spec_l1In.f (a0 : Int) (a1 : Int) (a2 : Int) : Option (Bool) := if a0 ≥ a1 then (some (decide (a0 ≤ a2))) else (some false)
set_option maxHeartbeats 8000000 in
set_option maxRecDepth 100000 in
theorem spec_l1In.calls (a0 : Int) (a1 : Int) (a2 : Int) (r : Bool) (w : World) (h : spec_l1In.f a0 a1 a2 = some r) :
  Calls Try.prog 65 #[.int .i64 a0, .int .i64 a1, .int .i64 a2] w fun e w' => e = .returned (.bool r) ∧ Drawn0 w w' := by
 have H : (if a0 ≥ a1 then (some (decide (a0 ≤ a2))) else (some false)) = some r := h
 clear h
 by_cases c4 : a0 ≥ a1
 ·rw [if_pos c4] at H
  have c4b0 : decide (a1 ≤ a0) = true := decide_eq_true c4
  clear c4
  obtain rfl := Option.some.inj H
  go_enter Try.func65, Try.ntmps65
  go_wp2
  go_ret
  exact ⟨by first | rfl | (simp; done) | (simp [*]; done), by repeat (first | exact Drawn0.refl _ | apply Drawn0.step)⟩
 ·rw [if_neg c4] at H
  have c4b0 : decide (a1 ≤ a0) = false := decide_eq_false c4
  clear c4
  obtain rfl := Option.some.inj H
  go_enter Try.func65, Try.ntmps65
  go_wp2
  go_ret
  exact ⟨by first | rfl | (simp; done) | (simp [*]; done), by repeat (first | exact Drawn0.refl _ | apply Drawn0.step)⟩
def spec_l2Account.f (a0 : Int) : Option (Bool) := (spec_l1In.f a0 0 3).bind fun t189 => (some t189)
set_option maxHeartbeats 8000000 in
set_option maxRecDepth 100000 in
theorem spec_l2Account.calls (a0 : Int) (r : Bool) (w : World) (h : spec_l2Account.f a0 = some r) :
  Calls Try.prog 114 #[.int .i64 a0] w fun e w' => e = .returned (.bool r) ∧ Drawn0 w w' := by
 have H : ((spec_l1In.f a0 0 3).bind fun t189 => (some t189)) = some r := h
 clear h
 replace H := Option.bind_eq_some_iff.mp H
 obtain ⟨t189, A20, H⟩ := H
 replace H : (some t189) = some r := H
 have A2 := Am A20
 clear A20
 obtain rfl := Option.some.inj H
 go_enter Try.func114, Try.ntmps114
 go_wp2_with (first | ((refine Gc (f := 65) rfl ?_); refine goesL_ (some 4) rfl rfl Try.func65 (by kernel_rfl) rfl #[.int .i64 a0, .int .i64 0, .int .i64 3] rfl (by first | rfl | (simp only [List.map_toArray, List.map_cons, List.map_nil]; first | done | rfl)) ?_; (with_reducible refine (spec_l1In.calls a0 0 3 t189 _ A2.out).mono ?_); rintro e w' ⟨rfl, ⟨nd, rfl⟩⟩; refine ⟨_, rfl, ?_⟩))
 go_ret
 exact ⟨by first | rfl | (simp; done) | (simp [*]; done), by repeat (first | exact Drawn0.refl _ | apply Drawn0.step)⟩
def spec_l2Code.f (a0_0 : Int) (a0_1 : Int) (a0_2 : Int) (a0_3 : Int) (a0_4 : Int) : Option (Int) := (spec_l2Account.f a0_2).bind fun t191 => (if t191 = true then (if a0_0 = 1 then ((spec_l2Account.f a0_3).bind fun t192 => (if t192 = true then (if a0_2 = a0_3 then (some 5) else ((spec_l1In.f a0_1 1 999).bind fun t193 => (if t193 = true then ((spec_l1In.f a0_4 1 1000).bind fun t194 => (if t194 = true then (some 0) else (some 6))) else (some 6)))) else (some 4))) else ((spec_l1In.f a0_1 1 999).bind fun t195 => (if t195 = true then (some 0) else (some 6)))) else (some 4))
set_option maxHeartbeats 8000000 in
set_option maxRecDepth 100000 in
theorem spec_l2Code.calls (a0_0 : Int) (a0_1 : Int) (a0_2 : Int) (a0_3 : Int) (a0_4 : Int) (r : Int) (w : World) (h : spec_l2Code.f a0_0 a0_1 a0_2 a0_3 a0_4 = some r) :
  Calls Try.prog 91 #[.agg #[.int .i64 a0_0, .int .i64 a0_1, .int .i64 a0_2, .int .i64 a0_3, .int .i64 a0_4]] w fun e w' => e = .returned (.int .i64 r) ∧ Below w.heap.size w w' := by
 have hu49 := Try.underlying49
 have HB := Am (Below.refl w.heap.size w)
 have H : ((spec_l2Account.f a0_2).bind fun t191 => (if t191 = true then (if a0_0 = 1 then ((spec_l2Account.f a0_3).bind fun t192 => (if t192 = true then (if a0_2 = a0_3 then (some 5) else ((spec_l1In.f a0_1 1 999).bind fun t193 => (if t193 = true then ((spec_l1In.f a0_4 1 1000).bind fun t194 => (if t194 = true then (some 0) else (some 6))) else (some 6)))) else (some 4))) else ((spec_l1In.f a0_1 1 999).bind fun t195 => (if t195 = true then (some 0) else (some 6)))) else (some 4))) = some r := h
 clear h
 replace H := Option.bind_eq_some_iff.mp H
 obtain ⟨t191, A20, H⟩ := H
 replace H : (if t191 = true then (if a0_0 = 1 then ((spec_l2Account.f a0_3).bind fun t192 => (if t192 = true then (if a0_2 = a0_3 then (some 5) else ((spec_l1In.f a0_1 1 999).bind fun t193 => (if t193 = true then ((spec_l1In.f a0_4 1 1000).bind fun t194 => (if t194 = true then (some 0) else (some 6))) else (some 6)))) else (some 4))) else ((spec_l1In.f a0_1 1 999).bind fun t195 => (if t195 = true then (some 0) else (some 6)))) else (some 4)) = some r := H
 have A2 := Am A20
 clear A20
 by_cases c3 : t191 = true
 ·subst c3
  have H1 : (if a0_0 = 1 then ((spec_l2Account.f a0_3).bind fun t192 => (if t192 = true then (if a0_2 = a0_3 then (some 5) else ((spec_l1In.f a0_1 1 999).bind fun t193 => (if t193 = true then ((spec_l1In.f a0_4 1 1000).bind fun t194 => (if t194 = true then (some 0) else (some 6))) else (some 6)))) else (some 4))) else ((spec_l1In.f a0_1 1 999).bind fun t195 => (if t195 = true then (some 0) else (some 6)))) = some r := by rw [if_pos rfl] at H; exact H
  clear H
  have H := H1
  clear H1
  by_cases c4 : a0_0 = 1
  ·rw [if_pos c4] at H
   have c4b0 : (a0_0 == 1) = true := beq_iff_eq.mpr c4
   have c4b1 : (a0_0 != 1) = false := bne_eq_false_iff_eq.mpr c4
   clear c4
   replace H := Option.bind_eq_some_iff.mp H
   obtain ⟨t192, A50, H⟩ := H
   replace H : (if t192 = true then (if a0_2 = a0_3 then (some 5) else ((spec_l1In.f a0_1 1 999).bind fun t193 => (if t193 = true then ((spec_l1In.f a0_4 1 1000).bind fun t194 => (if t194 = true then (some 0) else (some 6))) else (some 6)))) else (some 4)) = some r := H
   have A5 := Am A50
   clear A50
   by_cases c6 : t192 = true
   ·subst c6
    have H1 : (if a0_2 = a0_3 then (some 5) else ((spec_l1In.f a0_1 1 999).bind fun t193 => (if t193 = true then ((spec_l1In.f a0_4 1 1000).bind fun t194 => (if t194 = true then (some 0) else (some 6))) else (some 6)))) = some r := by rw [if_pos rfl] at H; exact H
    clear H
    have H := H1
    clear H1
    by_cases c7 : a0_2 = a0_3
    ·rw [if_pos c7] at H
     have c7b0 : (a0_2 == a0_3) = true := beq_iff_eq.mpr c7
     have c7b1 : (a0_2 != a0_3) = false := bne_eq_false_iff_eq.mpr c7
     clear c7
     obtain rfl := Option.some.inj H
     go_enter Try.func91, Try.ntmps91
     go_wp2_with (first | ((refine Gd (N := 1) rfl ?_); refine Be ?hg (N := 1) ?hd (cs := #[.int .i64 a0_0, .int .i64 a0_1, .int .i64 a0_2, .int .i64 a0_3, .int .i64 a0_4]) (t := 49) ?hr ?_; (case hd | hg => rfl); (case hr => first | (go_simp; done) | (go_simp; rfl)); intro gb190 hg w8 hbox hb; have n0_ := Am (Bt (by repeat (first | exact HB.out | apply Ba | apply Bn | apply Bd)) hb); have n1_ := Am (hbox); have n2_ := Am ((by rw [hg]; exact (Bz (by repeat (first | exact HB.out | apply Ba | apply Bn | apply Bd))) : w.heap.size ≤ gb190)); have n3_ := Am ((by rw [hg]; exact (Bz (by repeat (first | exact HB.out | apply Ba | apply Bn | apply Bd))) : w.heap.size ≤ gb190)); clear HB; have HB := n0_; have BK190 := n1_; have GW190 := n2_; have GE190 := n3_; clear n0_ n1_ n2_ n3_; clear hb hbox hg; have hcz9_0 : w8.cell? ⟨gb190, 0, none⟩ = some (.int .i64 a0_0) := (Kc BK190.out 0).trans rfl; have hcz9_1 : w8.cell? ⟨gb190, 1, none⟩ = some (.int .i64 a0_1) := (Kc BK190.out 1).trans rfl; have hcz9_2 : w8.cell? ⟨gb190, 2, none⟩ = some (.int .i64 a0_2) := (Kc BK190.out 2).trans rfl; have hcz9_3 : w8.cell? ⟨gb190, 3, none⟩ = some (.int .i64 a0_3) := (Kc BK190.out 3).trans rfl; have hcz9_4 : w8.cell? ⟨gb190, 4, none⟩ = some (.int .i64 a0_4) := (Kc BK190.out 4).trans rfl; have hfz9_0 := Kz BK190.out 0; have hfz9_1 := Kz BK190.out 1; have hfz9_2 := Kz BK190.out 2; have hfz9_3 := Kz BK190.out 3; have hfz9_4 := Kz BK190.out 4) | ((refine Gc (f := 114) rfl ?_); refine goesL_ (some 10) rfl rfl Try.func114 (by kernel_rfl) rfl #[.int .i64 a0_2] rfl (by first | rfl | (simp only [List.map_toArray, List.map_cons, List.map_nil]; first | done | rfl)) ?_; (with_reducible refine (spec_l2Account.calls a0_2 true _ A2.out).mono ?_); rintro e w' ⟨rfl, ⟨nd, rfl⟩⟩; refine ⟨_, rfl, ?_⟩) | (go_at_call 114; (with_reducible refine (spec_l2Account.calls a0_3 true _ A5.out).mono ?_); rintro e w' ⟨rfl, ⟨nd, rfl⟩⟩))
     go_ret
     exact ⟨by first | rfl | (simp [*, errW_none, errW_some] <;> rfl), by repeat (first | (with_reducible first | exact HB.out | apply Ba | apply Bn | apply Bd | refine Bs ?_ GE190.out) | exact HB.out)⟩
    ·rw [if_neg c7] at H
     have c7b0 : (a0_2 == a0_3) = false := beq_eq_false_iff_ne.mpr c7
     have c7b1 : (a0_2 != a0_3) = true := bne_iff_ne.mpr c7
     replace H := Option.bind_eq_some_iff.mp H
     obtain ⟨t193, A100, H⟩ := H
     replace H : (if t193 = true then ((spec_l1In.f a0_4 1 1000).bind fun t194 => (if t194 = true then (some 0) else (some 6))) else (some 6)) = some r := H
     have A10 := Am A100
     clear A100
     by_cases c11 : t193 = true
     ·subst c11
      have H1 : ((spec_l1In.f a0_4 1 1000).bind fun t194 => (if t194 = true then (some 0) else (some 6))) = some r := by rw [if_pos rfl] at H; exact H
      clear H
      have H := H1
      clear H1
      replace H := Option.bind_eq_some_iff.mp H
      obtain ⟨t194, A120, H⟩ := H
      replace H : (if t194 = true then (some 0) else (some 6)) = some r := H
      have A12 := Am A120
      clear A120
      by_cases c13 : t194 = true
      ·subst c13
       have H1 : (some 0) = some r := by rw [if_pos rfl] at H; exact H
       clear H
       have H := H1
       clear H1
       obtain rfl := Option.some.inj H
       go_enter Try.func91, Try.ntmps91
       go_wp2_with (first | ((refine Gd (N := 1) rfl ?_); refine Be ?hg (N := 1) ?hd (cs := #[.int .i64 a0_0, .int .i64 a0_1, .int .i64 a0_2, .int .i64 a0_3, .int .i64 a0_4]) (t := 49) ?hr ?_; (case hd | hg => rfl); (case hr => first | (go_simp; done) | (go_simp; rfl)); intro gb190 hg w14 hbox hb; have n0_ := Am (Bt (by repeat (first | exact HB.out | apply Ba | apply Bn | apply Bd)) hb); have n1_ := Am (hbox); have n2_ := Am ((by rw [hg]; exact (Bz (by repeat (first | exact HB.out | apply Ba | apply Bn | apply Bd))) : w.heap.size ≤ gb190)); have n3_ := Am ((by rw [hg]; exact (Bz (by repeat (first | exact HB.out | apply Ba | apply Bn | apply Bd))) : w.heap.size ≤ gb190)); clear HB; have HB := n0_; have BK190 := n1_; have GW190 := n2_; have GE190 := n3_; clear n0_ n1_ n2_ n3_; clear hb hbox hg; have hcz15_0 : w14.cell? ⟨gb190, 0, none⟩ = some (.int .i64 a0_0) := (Kc BK190.out 0).trans rfl; have hcz15_1 : w14.cell? ⟨gb190, 1, none⟩ = some (.int .i64 a0_1) := (Kc BK190.out 1).trans rfl; have hcz15_2 : w14.cell? ⟨gb190, 2, none⟩ = some (.int .i64 a0_2) := (Kc BK190.out 2).trans rfl; have hcz15_3 : w14.cell? ⟨gb190, 3, none⟩ = some (.int .i64 a0_3) := (Kc BK190.out 3).trans rfl; have hcz15_4 : w14.cell? ⟨gb190, 4, none⟩ = some (.int .i64 a0_4) := (Kc BK190.out 4).trans rfl; have hfz15_0 := Kz BK190.out 0; have hfz15_1 := Kz BK190.out 1; have hfz15_2 := Kz BK190.out 2; have hfz15_3 := Kz BK190.out 3; have hfz15_4 := Kz BK190.out 4) | ((refine Gc (f := 114) rfl ?_); refine goesL_ (some 10) rfl rfl Try.func114 (by kernel_rfl) rfl #[.int .i64 a0_2] rfl (by first | rfl | (simp only [List.map_toArray, List.map_cons, List.map_nil]; first | done | rfl)) ?_; (with_reducible refine (spec_l2Account.calls a0_2 true _ A2.out).mono ?_); rintro e w' ⟨rfl, ⟨nd, rfl⟩⟩; refine ⟨_, rfl, ?_⟩) | (go_at_call 114; (with_reducible refine (spec_l2Account.calls a0_3 true _ A5.out).mono ?_); rintro e w' ⟨rfl, ⟨nd, rfl⟩⟩) | ((refine Gc (f := 65) rfl ?_); refine goesL_ (some 33) rfl rfl Try.func65 (by kernel_rfl) rfl #[.int .i64 a0_1, .int .i64 1, .int .i64 999] rfl (by first | rfl | (simp only [List.map_toArray, List.map_cons, List.map_nil]; first | done | rfl)) ?_; (with_reducible refine (spec_l1In.calls a0_1 1 999 true _ A10.out).mono ?_); rintro e w' ⟨rfl, ⟨nd, rfl⟩⟩; refine ⟨_, rfl, ?_⟩) | (go_at_call 65; (with_reducible refine (spec_l1In.calls a0_4 1 1000 true _ A12.out).mono ?_); rintro e w' ⟨rfl, ⟨nd, rfl⟩⟩))
       go_ret
       exact ⟨by first | rfl | (simp [*, errW_none, errW_some] <;> rfl), by repeat (first | (with_reducible first | exact HB.out | apply Ba | apply Bn | apply Bd | refine Bs ?_ GE190.out) | exact HB.out)⟩
      ·replace c13 := Bool.eq_false_iff.mpr c13
       subst c13
       have H1 : (some 6) = some r := by rw [if_neg (show ¬ (false = true) by decide)] at H; exact H
       clear H
       have H := H1
       clear H1
       obtain rfl := Option.some.inj H
       go_enter Try.func91, Try.ntmps91
       go_wp2_with (first | ((refine Gd (N := 1) rfl ?_); refine Be ?hg (N := 1) ?hd (cs := #[.int .i64 a0_0, .int .i64 a0_1, .int .i64 a0_2, .int .i64 a0_3, .int .i64 a0_4]) (t := 49) ?hr ?_; (case hd | hg => rfl); (case hr => first | (go_simp; done) | (go_simp; rfl)); intro gb190 hg w16 hbox hb; have n0_ := Am (Bt (by repeat (first | exact HB.out | apply Ba | apply Bn | apply Bd)) hb); have n1_ := Am (hbox); have n2_ := Am ((by rw [hg]; exact (Bz (by repeat (first | exact HB.out | apply Ba | apply Bn | apply Bd))) : w.heap.size ≤ gb190)); have n3_ := Am ((by rw [hg]; exact (Bz (by repeat (first | exact HB.out | apply Ba | apply Bn | apply Bd))) : w.heap.size ≤ gb190)); clear HB; have HB := n0_; have BK190 := n1_; have GW190 := n2_; have GE190 := n3_; clear n0_ n1_ n2_ n3_; clear hb hbox hg; have hcz17_0 : w16.cell? ⟨gb190, 0, none⟩ = some (.int .i64 a0_0) := (Kc BK190.out 0).trans rfl; have hcz17_1 : w16.cell? ⟨gb190, 1, none⟩ = some (.int .i64 a0_1) := (Kc BK190.out 1).trans rfl; have hcz17_2 : w16.cell? ⟨gb190, 2, none⟩ = some (.int .i64 a0_2) := (Kc BK190.out 2).trans rfl; have hcz17_3 : w16.cell? ⟨gb190, 3, none⟩ = some (.int .i64 a0_3) := (Kc BK190.out 3).trans rfl; have hcz17_4 : w16.cell? ⟨gb190, 4, none⟩ = some (.int .i64 a0_4) := (Kc BK190.out 4).trans rfl; have hfz17_0 := Kz BK190.out 0; have hfz17_1 := Kz BK190.out 1; have hfz17_2 := Kz BK190.out 2; have hfz17_3 := Kz BK190.out 3; have hfz17_4 := Kz BK190.out 4) | ((refine Gc (f := 114) rfl ?_); refine goesL_ (some 10) rfl rfl Try.func114 (by kernel_rfl) rfl #[.int .i64 a0_2] rfl (by first | rfl | (simp only [List.map_toArray, List.map_cons, List.map_nil]; first | done | rfl)) ?_; (with_reducible refine (spec_l2Account.calls a0_2 true _ A2.out).mono ?_); rintro e w' ⟨rfl, ⟨nd, rfl⟩⟩; refine ⟨_, rfl, ?_⟩) | (go_at_call 114; (with_reducible refine (spec_l2Account.calls a0_3 true _ A5.out).mono ?_); rintro e w' ⟨rfl, ⟨nd, rfl⟩⟩) | ((refine Gc (f := 65) rfl ?_); refine goesL_ (some 33) rfl rfl Try.func65 (by kernel_rfl) rfl #[.int .i64 a0_1, .int .i64 1, .int .i64 999] rfl (by first | rfl | (simp only [List.map_toArray, List.map_cons, List.map_nil]; first | done | rfl)) ?_; (with_reducible refine (spec_l1In.calls a0_1 1 999 true _ A10.out).mono ?_); rintro e w' ⟨rfl, ⟨nd, rfl⟩⟩; refine ⟨_, rfl, ?_⟩) | (go_at_call 65; (with_reducible refine (spec_l1In.calls a0_4 1 1000 false _ A12.out).mono ?_); rintro e w' ⟨rfl, ⟨nd, rfl⟩⟩))
       go_ret
       exact ⟨by first | rfl | (simp [*, errW_none, errW_some] <;> rfl), by repeat (first | (with_reducible first | exact HB.out | apply Ba | apply Bn | apply Bd | refine Bs ?_ GE190.out) | exact HB.out)⟩
     ·replace c11 := Bool.eq_false_iff.mpr c11
      subst c11
      have H1 : (some 6) = some r := by rw [if_neg (show ¬ (false = true) by decide)] at H; exact H
      clear H
      have H := H1
      clear H1
      obtain rfl := Option.some.inj H
      go_enter Try.func91, Try.ntmps91
      go_wp2_with (first | ((refine Gd (N := 1) rfl ?_); refine Be ?hg (N := 1) ?hd (cs := #[.int .i64 a0_0, .int .i64 a0_1, .int .i64 a0_2, .int .i64 a0_3, .int .i64 a0_4]) (t := 49) ?hr ?_; (case hd | hg => rfl); (case hr => first | (go_simp; done) | (go_simp; rfl)); intro gb190 hg w18 hbox hb; have n0_ := Am (Bt (by repeat (first | exact HB.out | apply Ba | apply Bn | apply Bd)) hb); have n1_ := Am (hbox); have n2_ := Am ((by rw [hg]; exact (Bz (by repeat (first | exact HB.out | apply Ba | apply Bn | apply Bd))) : w.heap.size ≤ gb190)); have n3_ := Am ((by rw [hg]; exact (Bz (by repeat (first | exact HB.out | apply Ba | apply Bn | apply Bd))) : w.heap.size ≤ gb190)); clear HB; have HB := n0_; have BK190 := n1_; have GW190 := n2_; have GE190 := n3_; clear n0_ n1_ n2_ n3_; clear hb hbox hg; have hcz19_0 : w18.cell? ⟨gb190, 0, none⟩ = some (.int .i64 a0_0) := (Kc BK190.out 0).trans rfl; have hcz19_1 : w18.cell? ⟨gb190, 1, none⟩ = some (.int .i64 a0_1) := (Kc BK190.out 1).trans rfl; have hcz19_2 : w18.cell? ⟨gb190, 2, none⟩ = some (.int .i64 a0_2) := (Kc BK190.out 2).trans rfl; have hcz19_3 : w18.cell? ⟨gb190, 3, none⟩ = some (.int .i64 a0_3) := (Kc BK190.out 3).trans rfl; have hcz19_4 : w18.cell? ⟨gb190, 4, none⟩ = some (.int .i64 a0_4) := (Kc BK190.out 4).trans rfl; have hfz19_0 := Kz BK190.out 0; have hfz19_1 := Kz BK190.out 1; have hfz19_2 := Kz BK190.out 2; have hfz19_3 := Kz BK190.out 3; have hfz19_4 := Kz BK190.out 4) | ((refine Gc (f := 114) rfl ?_); refine goesL_ (some 10) rfl rfl Try.func114 (by kernel_rfl) rfl #[.int .i64 a0_2] rfl (by first | rfl | (simp only [List.map_toArray, List.map_cons, List.map_nil]; first | done | rfl)) ?_; (with_reducible refine (spec_l2Account.calls a0_2 true _ A2.out).mono ?_); rintro e w' ⟨rfl, ⟨nd, rfl⟩⟩; refine ⟨_, rfl, ?_⟩) | (go_at_call 114; (with_reducible refine (spec_l2Account.calls a0_3 true _ A5.out).mono ?_); rintro e w' ⟨rfl, ⟨nd, rfl⟩⟩) | ((refine Gc (f := 65) rfl ?_); refine goesL_ (some 33) rfl rfl Try.func65 (by kernel_rfl) rfl #[.int .i64 a0_1, .int .i64 1, .int .i64 999] rfl (by first | rfl | (simp only [List.map_toArray, List.map_cons, List.map_nil]; first | done | rfl)) ?_; (with_reducible refine (spec_l1In.calls a0_1 1 999 false _ A10.out).mono ?_); rintro e w' ⟨rfl, ⟨nd, rfl⟩⟩; refine ⟨_, rfl, ?_⟩))
      go_ret
      exact ⟨by first | rfl | (simp [*, errW_none, errW_some] <;> rfl), by repeat (first | (with_reducible first | exact HB.out | apply Ba | apply Bn | apply Bd | refine Bs ?_ GE190.out) | exact HB.out)⟩
   ·replace c6 := Bool.eq_false_iff.mpr c6
    subst c6
    have H1 : (some 4) = some r := by rw [if_neg (show ¬ (false = true) by decide)] at H; exact H
    clear H
    have H := H1
    clear H1
    obtain rfl := Option.some.inj H
    go_enter Try.func91, Try.ntmps91
    go_wp2_with (first | ((refine Gd (N := 1) rfl ?_); refine Be ?hg (N := 1) ?hd (cs := #[.int .i64 a0_0, .int .i64 a0_1, .int .i64 a0_2, .int .i64 a0_3, .int .i64 a0_4]) (t := 49) ?hr ?_; (case hd | hg => rfl); (case hr => first | (go_simp; done) | (go_simp; rfl)); intro gb190 hg w20 hbox hb; have n0_ := Am (Bt (by repeat (first | exact HB.out | apply Ba | apply Bn | apply Bd)) hb); have n1_ := Am (hbox); have n2_ := Am ((by rw [hg]; exact (Bz (by repeat (first | exact HB.out | apply Ba | apply Bn | apply Bd))) : w.heap.size ≤ gb190)); have n3_ := Am ((by rw [hg]; exact (Bz (by repeat (first | exact HB.out | apply Ba | apply Bn | apply Bd))) : w.heap.size ≤ gb190)); clear HB; have HB := n0_; have BK190 := n1_; have GW190 := n2_; have GE190 := n3_; clear n0_ n1_ n2_ n3_; clear hb hbox hg; have hcz21_0 : w20.cell? ⟨gb190, 0, none⟩ = some (.int .i64 a0_0) := (Kc BK190.out 0).trans rfl; have hcz21_1 : w20.cell? ⟨gb190, 1, none⟩ = some (.int .i64 a0_1) := (Kc BK190.out 1).trans rfl; have hcz21_2 : w20.cell? ⟨gb190, 2, none⟩ = some (.int .i64 a0_2) := (Kc BK190.out 2).trans rfl; have hcz21_3 : w20.cell? ⟨gb190, 3, none⟩ = some (.int .i64 a0_3) := (Kc BK190.out 3).trans rfl; have hcz21_4 : w20.cell? ⟨gb190, 4, none⟩ = some (.int .i64 a0_4) := (Kc BK190.out 4).trans rfl; have hfz21_0 := Kz BK190.out 0; have hfz21_1 := Kz BK190.out 1; have hfz21_2 := Kz BK190.out 2; have hfz21_3 := Kz BK190.out 3; have hfz21_4 := Kz BK190.out 4) | ((refine Gc (f := 114) rfl ?_); refine goesL_ (some 10) rfl rfl Try.func114 (by kernel_rfl) rfl #[.int .i64 a0_2] rfl (by first | rfl | (simp only [List.map_toArray, List.map_cons, List.map_nil]; first | done | rfl)) ?_; (with_reducible refine (spec_l2Account.calls a0_2 true _ A2.out).mono ?_); rintro e w' ⟨rfl, ⟨nd, rfl⟩⟩; refine ⟨_, rfl, ?_⟩) | (go_at_call 114; (with_reducible refine (spec_l2Account.calls a0_3 false _ A5.out).mono ?_); rintro e w' ⟨rfl, ⟨nd, rfl⟩⟩))
    go_ret
    exact ⟨by first | rfl | (simp [*, errW_none, errW_some] <;> rfl), by repeat (first | (with_reducible first | exact HB.out | apply Ba | apply Bn | apply Bd | refine Bs ?_ GE190.out) | exact HB.out)⟩
  ·rw [if_neg c4] at H
   have c4b0 : (a0_0 == 1) = false := beq_eq_false_iff_ne.mpr c4
   have c4b1 : (a0_0 != 1) = true := bne_iff_ne.mpr c4
   replace H := Option.bind_eq_some_iff.mp H
   obtain ⟨t195, A220, H⟩ := H
   replace H : (if t195 = true then (some 0) else (some 6)) = some r := H
   have A22 := Am A220
   clear A220
   by_cases c23 : t195 = true
   ·subst c23
    have H1 : (some 0) = some r := by rw [if_pos rfl] at H; exact H
    clear H
    have H := H1
    clear H1
    obtain rfl := Option.some.inj H
    go_enter Try.func91, Try.ntmps91
    go_wp2_with (first | ((refine Gd (N := 1) rfl ?_); refine Be ?hg (N := 1) ?hd (cs := #[.int .i64 a0_0, .int .i64 a0_1, .int .i64 a0_2, .int .i64 a0_3, .int .i64 a0_4]) (t := 49) ?hr ?_; (case hd | hg => rfl); (case hr => first | (go_simp; done) | (go_simp; rfl)); intro gb190 hg w24 hbox hb; have n0_ := Am (Bt (by repeat (first | exact HB.out | apply Ba | apply Bn | apply Bd)) hb); have n1_ := Am (hbox); have n2_ := Am ((by rw [hg]; exact (Bz (by repeat (first | exact HB.out | apply Ba | apply Bn | apply Bd))) : w.heap.size ≤ gb190)); have n3_ := Am ((by rw [hg]; exact (Bz (by repeat (first | exact HB.out | apply Ba | apply Bn | apply Bd))) : w.heap.size ≤ gb190)); clear HB; have HB := n0_; have BK190 := n1_; have GW190 := n2_; have GE190 := n3_; clear n0_ n1_ n2_ n3_; clear hb hbox hg; have hcz25_0 : w24.cell? ⟨gb190, 0, none⟩ = some (.int .i64 a0_0) := (Kc BK190.out 0).trans rfl; have hcz25_1 : w24.cell? ⟨gb190, 1, none⟩ = some (.int .i64 a0_1) := (Kc BK190.out 1).trans rfl; have hcz25_2 : w24.cell? ⟨gb190, 2, none⟩ = some (.int .i64 a0_2) := (Kc BK190.out 2).trans rfl; have hcz25_3 : w24.cell? ⟨gb190, 3, none⟩ = some (.int .i64 a0_3) := (Kc BK190.out 3).trans rfl; have hcz25_4 : w24.cell? ⟨gb190, 4, none⟩ = some (.int .i64 a0_4) := (Kc BK190.out 4).trans rfl; have hfz25_0 := Kz BK190.out 0; have hfz25_1 := Kz BK190.out 1; have hfz25_2 := Kz BK190.out 2; have hfz25_3 := Kz BK190.out 3; have hfz25_4 := Kz BK190.out 4) | ((refine Gc (f := 114) rfl ?_); refine goesL_ (some 10) rfl rfl Try.func114 (by kernel_rfl) rfl #[.int .i64 a0_2] rfl (by first | rfl | (simp only [List.map_toArray, List.map_cons, List.map_nil]; first | done | rfl)) ?_; (with_reducible refine (spec_l2Account.calls a0_2 true _ A2.out).mono ?_); rintro e w' ⟨rfl, ⟨nd, rfl⟩⟩; refine ⟨_, rfl, ?_⟩) | ((refine Gc (f := 65) rfl ?_); refine goesL_ (some 33) rfl rfl Try.func65 (by kernel_rfl) rfl #[.int .i64 a0_1, .int .i64 1, .int .i64 999] rfl (by first | rfl | (simp only [List.map_toArray, List.map_cons, List.map_nil]; first | done | rfl)) ?_; (with_reducible refine (spec_l1In.calls a0_1 1 999 true _ A22.out).mono ?_); rintro e w' ⟨rfl, ⟨nd, rfl⟩⟩; refine ⟨_, rfl, ?_⟩))
    go_ret
    exact ⟨by first | rfl | (simp [*, errW_none, errW_some] <;> rfl), by repeat (first | (with_reducible first | exact HB.out | apply Ba | apply Bn | apply Bd | refine Bs ?_ GE190.out) | exact HB.out)⟩
   ·replace c23 := Bool.eq_false_iff.mpr c23
    subst c23
    have H1 : (some 6) = some r := by rw [if_neg (show ¬ (false = true) by decide)] at H; exact H
    clear H
    have H := H1
    clear H1
    obtain rfl := Option.some.inj H
    go_enter Try.func91, Try.ntmps91
    go_wp2_with (first | ((refine Gd (N := 1) rfl ?_); refine Be ?hg (N := 1) ?hd (cs := #[.int .i64 a0_0, .int .i64 a0_1, .int .i64 a0_2, .int .i64 a0_3, .int .i64 a0_4]) (t := 49) ?hr ?_; (case hd | hg => rfl); (case hr => first | (go_simp; done) | (go_simp; rfl)); intro gb190 hg w26 hbox hb; have n0_ := Am (Bt (by repeat (first | exact HB.out | apply Ba | apply Bn | apply Bd)) hb); have n1_ := Am (hbox); have n2_ := Am ((by rw [hg]; exact (Bz (by repeat (first | exact HB.out | apply Ba | apply Bn | apply Bd))) : w.heap.size ≤ gb190)); have n3_ := Am ((by rw [hg]; exact (Bz (by repeat (first | exact HB.out | apply Ba | apply Bn | apply Bd))) : w.heap.size ≤ gb190)); clear HB; have HB := n0_; have BK190 := n1_; have GW190 := n2_; have GE190 := n3_; clear n0_ n1_ n2_ n3_; clear hb hbox hg; have hcz27_0 : w26.cell? ⟨gb190, 0, none⟩ = some (.int .i64 a0_0) := (Kc BK190.out 0).trans rfl; have hcz27_1 : w26.cell? ⟨gb190, 1, none⟩ = some (.int .i64 a0_1) := (Kc BK190.out 1).trans rfl; have hcz27_2 : w26.cell? ⟨gb190, 2, none⟩ = some (.int .i64 a0_2) := (Kc BK190.out 2).trans rfl; have hcz27_3 : w26.cell? ⟨gb190, 3, none⟩ = some (.int .i64 a0_3) := (Kc BK190.out 3).trans rfl; have hcz27_4 : w26.cell? ⟨gb190, 4, none⟩ = some (.int .i64 a0_4) := (Kc BK190.out 4).trans rfl; have hfz27_0 := Kz BK190.out 0; have hfz27_1 := Kz BK190.out 1; have hfz27_2 := Kz BK190.out 2; have hfz27_3 := Kz BK190.out 3; have hfz27_4 := Kz BK190.out 4) | ((refine Gc (f := 114) rfl ?_); refine goesL_ (some 10) rfl rfl Try.func114 (by kernel_rfl) rfl #[.int .i64 a0_2] rfl (by first | rfl | (simp only [List.map_toArray, List.map_cons, List.map_nil]; first | done | rfl)) ?_; (with_reducible refine (spec_l2Account.calls a0_2 true _ A2.out).mono ?_); rintro e w' ⟨rfl, ⟨nd, rfl⟩⟩; refine ⟨_, rfl, ?_⟩) | ((refine Gc (f := 65) rfl ?_); refine goesL_ (some 33) rfl rfl Try.func65 (by kernel_rfl) rfl #[.int .i64 a0_1, .int .i64 1, .int .i64 999] rfl (by first | rfl | (simp only [List.map_toArray, List.map_cons, List.map_nil]; first | done | rfl)) ?_; (with_reducible refine (spec_l1In.calls a0_1 1 999 false _ A22.out).mono ?_); rintro e w' ⟨rfl, ⟨nd, rfl⟩⟩; refine ⟨_, rfl, ?_⟩))
    go_ret
    exact ⟨by first | rfl | (simp [*, errW_none, errW_some] <;> rfl), by repeat (first | (with_reducible first | exact HB.out | apply Ba | apply Bn | apply Bd | refine Bs ?_ GE190.out) | exact HB.out)⟩
 ·replace c3 := Bool.eq_false_iff.mpr c3
  subst c3
  have H1 : (some 4) = some r := by rw [if_neg (show ¬ (false = true) by decide)] at H; exact H
  clear H
  have H := H1
  clear H1
  obtain rfl := Option.some.inj H
  go_enter Try.func91, Try.ntmps91
  go_wp2_with (first | ((refine Gd (N := 1) rfl ?_); refine Be ?hg (N := 1) ?hd (cs := #[.int .i64 a0_0, .int .i64 a0_1, .int .i64 a0_2, .int .i64 a0_3, .int .i64 a0_4]) (t := 49) ?hr ?_; (case hd | hg => rfl); (case hr => first | (go_simp; done) | (go_simp; rfl)); intro gb190 hg w28 hbox hb; have n0_ := Am (Bt (by repeat (first | exact HB.out | apply Ba | apply Bn | apply Bd)) hb); have n1_ := Am (hbox); have n2_ := Am ((by rw [hg]; exact (Bz (by repeat (first | exact HB.out | apply Ba | apply Bn | apply Bd))) : w.heap.size ≤ gb190)); have n3_ := Am ((by rw [hg]; exact (Bz (by repeat (first | exact HB.out | apply Ba | apply Bn | apply Bd))) : w.heap.size ≤ gb190)); clear HB; have HB := n0_; have BK190 := n1_; have GW190 := n2_; have GE190 := n3_; clear n0_ n1_ n2_ n3_; clear hb hbox hg; have hcz29_0 : w28.cell? ⟨gb190, 0, none⟩ = some (.int .i64 a0_0) := (Kc BK190.out 0).trans rfl; have hcz29_1 : w28.cell? ⟨gb190, 1, none⟩ = some (.int .i64 a0_1) := (Kc BK190.out 1).trans rfl; have hcz29_2 : w28.cell? ⟨gb190, 2, none⟩ = some (.int .i64 a0_2) := (Kc BK190.out 2).trans rfl; have hcz29_3 : w28.cell? ⟨gb190, 3, none⟩ = some (.int .i64 a0_3) := (Kc BK190.out 3).trans rfl; have hcz29_4 : w28.cell? ⟨gb190, 4, none⟩ = some (.int .i64 a0_4) := (Kc BK190.out 4).trans rfl; have hfz29_0 := Kz BK190.out 0; have hfz29_1 := Kz BK190.out 1; have hfz29_2 := Kz BK190.out 2; have hfz29_3 := Kz BK190.out 3; have hfz29_4 := Kz BK190.out 4) | ((refine Gc (f := 114) rfl ?_); refine goesL_ (some 10) rfl rfl Try.func114 (by kernel_rfl) rfl #[.int .i64 a0_2] rfl (by first | rfl | (simp only [List.map_toArray, List.map_cons, List.map_nil]; first | done | rfl)) ?_; (with_reducible refine (spec_l2Account.calls a0_2 false _ A2.out).mono ?_); rintro e w' ⟨rfl, ⟨nd, rfl⟩⟩; refine ⟨_, rfl, ?_⟩))
  go_ret
  exact ⟨by first | rfl | (simp [*, errW_none, errW_some] <;> rfl), by repeat (first | (with_reducible first | exact HB.out | apply Ba | apply Bn | apply Bd | refine Bs ?_ GE190.out) | exact HB.out)⟩
def spec_GoodCmd.f (a0_0 : Int) (a0_1 : Int) (a0_2 : Int) (a0_3 : Int) (a0_4 : Int) : Option (Bool) := if a0_0 = 0 then (some (a0_0 == 0 && (a0_1 == 0 && (a0_2 == 0 && (a0_3 == 0 && (a0_4 == 0)))))) else (if a0_0 = 1 then ((spec_l2Code.f a0_0 a0_1 a0_2 a0_3 a0_4).bind fun t197 => (some (t197 == 0))) else (if a0_0 = 2 then ((spec_l2Code.f a0_0 a0_1 a0_2 a0_3 a0_4).bind fun t198 => (if t198 = 0 then (if a0_3 = 0 then (some (a0_4 == 0)) else (some false)) else (some false))) else (some false)))
set_option maxHeartbeats 8000000 in
set_option maxRecDepth 100000 in
theorem spec_GoodCmd.calls (a0_0 : Int) (a0_1 : Int) (a0_2 : Int) (a0_3 : Int) (a0_4 : Int) (r : Bool) (w : World) (h : spec_GoodCmd.f a0_0 a0_1 a0_2 a0_3 a0_4 = some r) :
  Calls Try.prog 59 #[.agg #[.int .i64 a0_0, .int .i64 a0_1, .int .i64 a0_2, .int .i64 a0_3, .int .i64 a0_4]] w fun e w' => e = .returned (.bool r) ∧ Below w.heap.size w w' := by
 have hu49 := Try.underlying49
 have HB := Am (Below.refl w.heap.size w)
 have H : (if a0_0 = 0 then (some (a0_0 == 0 && (a0_1 == 0 && (a0_2 == 0 && (a0_3 == 0 && (a0_4 == 0)))))) else (if a0_0 = 1 then ((spec_l2Code.f a0_0 a0_1 a0_2 a0_3 a0_4).bind fun t197 => (some (t197 == 0))) else (if a0_0 = 2 then ((spec_l2Code.f a0_0 a0_1 a0_2 a0_3 a0_4).bind fun t198 => (if t198 = 0 then (if a0_3 = 0 then (some (a0_4 == 0)) else (some false)) else (some false))) else (some false)))) = some r := h
 clear h
 by_cases c2 : a0_0 = 0
 ·rw [if_pos c2] at H
  have c2b0 : (a0_0 == 0) = true := beq_iff_eq.mpr c2
  have c2b1 : (a0_0 != 0) = false := bne_eq_false_iff_eq.mpr c2
  clear c2
  obtain rfl := Option.some.inj H
  go_enter Try.func59, Try.ntmps59
  go_wp2_with (first | ((refine Gd (N := 1) rfl ?_); refine Be ?hg (N := 1) ?hd (cs := #[.int .i64 a0_0, .int .i64 a0_1, .int .i64 a0_2, .int .i64 a0_3, .int .i64 a0_4]) (t := 49) ?hr ?_; (case hd | hg => rfl); (case hr => first | (go_simp; done) | (go_simp; rfl)); intro gb196 hg w3 hbox hb; have n0_ := Am (Bt (by repeat (first | exact HB.out | apply Ba | apply Bn | apply Bd)) hb); have n1_ := Am (hbox); have n2_ := Am ((by rw [hg]; exact (Bz (by repeat (first | exact HB.out | apply Ba | apply Bn | apply Bd))) : w.heap.size ≤ gb196)); have n3_ := Am ((by rw [hg]; exact (Bz (by repeat (first | exact HB.out | apply Ba | apply Bn | apply Bd))) : w.heap.size ≤ gb196)); clear HB; have HB := n0_; have BK196 := n1_; have GW196 := n2_; have GE196 := n3_; clear n0_ n1_ n2_ n3_; clear hb hbox hg; have hcz4_0 : w3.cell? ⟨gb196, 0, none⟩ = some (.int .i64 a0_0) := (Kc BK196.out 0).trans rfl; have hcz4_1 : w3.cell? ⟨gb196, 1, none⟩ = some (.int .i64 a0_1) := (Kc BK196.out 1).trans rfl; have hcz4_2 : w3.cell? ⟨gb196, 2, none⟩ = some (.int .i64 a0_2) := (Kc BK196.out 2).trans rfl; have hcz4_3 : w3.cell? ⟨gb196, 3, none⟩ = some (.int .i64 a0_3) := (Kc BK196.out 3).trans rfl; have hcz4_4 : w3.cell? ⟨gb196, 4, none⟩ = some (.int .i64 a0_4) := (Kc BK196.out 4).trans rfl; have hfz4_0 := Kz BK196.out 0; have hfz4_1 := Kz BK196.out 1; have hfz4_2 := Kz BK196.out 2; have hfz4_3 := Kz BK196.out 3; have hfz4_4 := Kz BK196.out 4))
  go_ret
  exact ⟨by first | rfl | (simp [*, errW_none, errW_some] <;> rfl), by repeat (first | (with_reducible first | exact HB.out | apply Ba | apply Bn | apply Bd | refine Bs ?_ GE196.out) | exact HB.out)⟩
 ·rw [if_neg c2] at H
  have c2b0 : (a0_0 == 0) = false := beq_eq_false_iff_ne.mpr c2
  have c2b1 : (a0_0 != 0) = true := bne_iff_ne.mpr c2
  by_cases c5 : a0_0 = 1
  ·rw [if_pos c5] at H
   have c5b0 : (a0_0 == 1) = true := beq_iff_eq.mpr c5
   have c5b1 : (a0_0 != 1) = false := bne_eq_false_iff_eq.mpr c5
   clear c5
   replace H := Option.bind_eq_some_iff.mp H
   obtain ⟨t197, A60, H⟩ := H
   replace H : (some (t197 == 0)) = some r := H
   have A6 := Am A60
   clear A60
   obtain rfl := Option.some.inj H
   go_enter Try.func59, Try.ntmps59
   go_wp2_with (first | ((refine Gd (N := 1) rfl ?_); refine Be ?hg (N := 1) ?hd (cs := #[.int .i64 a0_0, .int .i64 a0_1, .int .i64 a0_2, .int .i64 a0_3, .int .i64 a0_4]) (t := 49) ?hr ?_; (case hd | hg => rfl); (case hr => first | (go_simp; done) | (go_simp; rfl)); intro gb196 hg w7 hbox hb; have n0_ := Am (Bt (by repeat (first | exact HB.out | apply Ba | apply Bn | apply Bd)) hb); have n1_ := Am (hbox); have n2_ := Am ((by rw [hg]; exact (Bz (by repeat (first | exact HB.out | apply Ba | apply Bn | apply Bd))) : w.heap.size ≤ gb196)); have n3_ := Am ((by rw [hg]; exact (Bz (by repeat (first | exact HB.out | apply Ba | apply Bn | apply Bd))) : w.heap.size ≤ gb196)); clear HB; have HB := n0_; have BK196 := n1_; have GW196 := n2_; have GE196 := n3_; clear n0_ n1_ n2_ n3_; clear hb hbox hg; have hcz8_0 : w7.cell? ⟨gb196, 0, none⟩ = some (.int .i64 a0_0) := (Kc BK196.out 0).trans rfl; have hcz8_1 : w7.cell? ⟨gb196, 1, none⟩ = some (.int .i64 a0_1) := (Kc BK196.out 1).trans rfl; have hcz8_2 : w7.cell? ⟨gb196, 2, none⟩ = some (.int .i64 a0_2) := (Kc BK196.out 2).trans rfl; have hcz8_3 : w7.cell? ⟨gb196, 3, none⟩ = some (.int .i64 a0_3) := (Kc BK196.out 3).trans rfl; have hcz8_4 : w7.cell? ⟨gb196, 4, none⟩ = some (.int .i64 a0_4) := (Kc BK196.out 4).trans rfl; have hfz8_0 := Kz BK196.out 0; have hfz8_1 := Kz BK196.out 1; have hfz8_2 := Kz BK196.out 2; have hfz8_3 := Kz BK196.out 3; have hfz8_4 := Kz BK196.out 4) | ((refine Gc (f := 91) rfl ?_); refine goesL_ (some 13) rfl rfl Try.func91 (by kernel_rfl) rfl #[.agg #[.int .i64 a0_0, .int .i64 a0_1, .int .i64 a0_2, .int .i64 a0_3, .int .i64 a0_4]] rfl (by first | rfl | (simp only [List.map_toArray, List.map_cons, List.map_nil]; first | done | rfl)) ?_; (with_reducible refine (spec_l2Code.calls a0_0 a0_1 a0_2 a0_3 a0_4 t197 _ A6.out).mono ?_); rintro e w9 ⟨rfl, hb⟩; refine ⟨_, rfl, ?_⟩; have n0_ := Am (Kb (g := gb196) (o := .cells #[.int .i64 a0_0, .int .i64 a0_1, .int .i64 a0_2, .int .i64 a0_3, .int .i64 a0_4] 49 (0, 0)) (by (with_reducible repeat (first | refine Kn ?_ _ | refine Ke ?_ | refine Ka ?_ _)); exact BK196.out) hb); have n1_ := Am (Bt (by repeat (first | (with_reducible first | exact HB.out | apply Ba | apply Bn | apply Bd | refine Bs ?_ GE196.out) | exact HB.out)) hb); clear BK196; clear HB; have BK196 := n0_; have HB := n1_; clear n0_ n1_; (try clear hb); (try clear hb2); (try clear hk); (try clear hi)))
   go_ret
   exact ⟨by first | rfl | (simp [*, errW_none, errW_some] <;> rfl), by repeat (first | (with_reducible first | exact HB.out | apply Ba | apply Bn | apply Bd | refine Bs ?_ GE196.out) | exact HB.out)⟩
  ·rw [if_neg c5] at H
   have c5b0 : (a0_0 == 1) = false := beq_eq_false_iff_ne.mpr c5
   have c5b1 : (a0_0 != 1) = true := bne_iff_ne.mpr c5
   by_cases c10 : a0_0 = 2
   ·rw [if_pos c10] at H
    have c10b0 : (a0_0 == 2) = true := beq_iff_eq.mpr c10
    have c10b1 : (a0_0 != 2) = false := bne_eq_false_iff_eq.mpr c10
    clear c10
    replace H := Option.bind_eq_some_iff.mp H
    obtain ⟨t198, A110, H⟩ := H
    replace H : (if t198 = 0 then (if a0_3 = 0 then (some (a0_4 == 0)) else (some false)) else (some false)) = some r := H
    have A11 := Am A110
    clear A110
    by_cases c12 : t198 = 0
    ·rw [if_pos c12] at H
     have c12b0 : (t198 == 0) = true := beq_iff_eq.mpr c12
     have c12b1 : (t198 != 0) = false := bne_eq_false_iff_eq.mpr c12
     clear c12
     by_cases c13 : a0_3 = 0
     ·rw [if_pos c13] at H
      have c13b0 : (a0_3 == 0) = true := beq_iff_eq.mpr c13
      have c13b1 : (a0_3 != 0) = false := bne_eq_false_iff_eq.mpr c13
      clear c13
      obtain rfl := Option.some.inj H
      go_enter Try.func59, Try.ntmps59
      go_wp2_with (first | ((refine Gd (N := 1) rfl ?_); refine Be ?hg (N := 1) ?hd (cs := #[.int .i64 a0_0, .int .i64 a0_1, .int .i64 a0_2, .int .i64 a0_3, .int .i64 a0_4]) (t := 49) ?hr ?_; (case hd | hg => rfl); (case hr => first | (go_simp; done) | (go_simp; rfl)); intro gb196 hg w14 hbox hb; have n0_ := Am (Bt (by repeat (first | exact HB.out | apply Ba | apply Bn | apply Bd)) hb); have n1_ := Am (hbox); have n2_ := Am ((by rw [hg]; exact (Bz (by repeat (first | exact HB.out | apply Ba | apply Bn | apply Bd))) : w.heap.size ≤ gb196)); have n3_ := Am ((by rw [hg]; exact (Bz (by repeat (first | exact HB.out | apply Ba | apply Bn | apply Bd))) : w.heap.size ≤ gb196)); clear HB; have HB := n0_; have BK196 := n1_; have GW196 := n2_; have GE196 := n3_; clear n0_ n1_ n2_ n3_; clear hb hbox hg; have hcz15_0 : w14.cell? ⟨gb196, 0, none⟩ = some (.int .i64 a0_0) := (Kc BK196.out 0).trans rfl; have hcz15_1 : w14.cell? ⟨gb196, 1, none⟩ = some (.int .i64 a0_1) := (Kc BK196.out 1).trans rfl; have hcz15_2 : w14.cell? ⟨gb196, 2, none⟩ = some (.int .i64 a0_2) := (Kc BK196.out 2).trans rfl; have hcz15_3 : w14.cell? ⟨gb196, 3, none⟩ = some (.int .i64 a0_3) := (Kc BK196.out 3).trans rfl; have hcz15_4 : w14.cell? ⟨gb196, 4, none⟩ = some (.int .i64 a0_4) := (Kc BK196.out 4).trans rfl; have hfz15_0 := Kz BK196.out 0; have hfz15_1 := Kz BK196.out 1; have hfz15_2 := Kz BK196.out 2; have hfz15_3 := Kz BK196.out 3; have hfz15_4 := Kz BK196.out 4) | ((refine Gc (f := 91) rfl ?_); refine goesL_ (some 18) rfl rfl Try.func91 (by kernel_rfl) rfl #[.agg #[.int .i64 a0_0, .int .i64 a0_1, .int .i64 a0_2, .int .i64 a0_3, .int .i64 a0_4]] rfl (by first | rfl | (simp only [List.map_toArray, List.map_cons, List.map_nil]; first | done | rfl)) ?_; (with_reducible refine (spec_l2Code.calls a0_0 a0_1 a0_2 a0_3 a0_4 t198 _ A11.out).mono ?_); rintro e w16 ⟨rfl, hb⟩; refine ⟨_, rfl, ?_⟩; have n0_ := Am (Kb (g := gb196) (o := .cells #[.int .i64 a0_0, .int .i64 a0_1, .int .i64 a0_2, .int .i64 a0_3, .int .i64 a0_4] 49 (0, 0)) (by (with_reducible repeat (first | refine Kn ?_ _ | refine Ke ?_ | refine Ka ?_ _)); exact BK196.out) hb); have n1_ := Am (Bt (by repeat (first | (with_reducible first | exact HB.out | apply Ba | apply Bn | apply Bd | refine Bs ?_ GE196.out) | exact HB.out)) hb); clear BK196; clear HB; have BK196 := n0_; have HB := n1_; clear n0_ n1_; (try clear hb); (try clear hb2); (try clear hk); (try clear hi); have hcz17_0 : w16.cell? ⟨gb196, 0, none⟩ = some (.int .i64 a0_0) := (Kc BK196.out 0).trans rfl; have hcz17_1 : w16.cell? ⟨gb196, 1, none⟩ = some (.int .i64 a0_1) := (Kc BK196.out 1).trans rfl; have hcz17_2 : w16.cell? ⟨gb196, 2, none⟩ = some (.int .i64 a0_2) := (Kc BK196.out 2).trans rfl; have hcz17_3 : w16.cell? ⟨gb196, 3, none⟩ = some (.int .i64 a0_3) := (Kc BK196.out 3).trans rfl; have hcz17_4 : w16.cell? ⟨gb196, 4, none⟩ = some (.int .i64 a0_4) := (Kc BK196.out 4).trans rfl; have hfz17_0 := Kz BK196.out 0; have hfz17_1 := Kz BK196.out 1; have hfz17_2 := Kz BK196.out 2; have hfz17_3 := Kz BK196.out 3; have hfz17_4 := Kz BK196.out 4))
      go_ret
      exact ⟨by first | rfl | (simp [*, errW_none, errW_some] <;> rfl), by repeat (first | (with_reducible first | exact HB.out | apply Ba | apply Bn | apply Bd | refine Bs ?_ GE196.out) | exact HB.out)⟩
     ·rw [if_neg c13] at H
      have c13b0 : (a0_3 == 0) = false := beq_eq_false_iff_ne.mpr c13
      have c13b1 : (a0_3 != 0) = true := bne_iff_ne.mpr c13
      obtain rfl := Option.some.inj H
      go_enter Try.func59, Try.ntmps59
      go_wp2_with (first | ((refine Gd (N := 1) rfl ?_); refine Be ?hg (N := 1) ?hd (cs := #[.int .i64 a0_0, .int .i64 a0_1, .int .i64 a0_2, .int .i64 a0_3, .int .i64 a0_4]) (t := 49) ?hr ?_; (case hd | hg => rfl); (case hr => first | (go_simp; done) | (go_simp; rfl)); intro gb196 hg w18 hbox hb; have n0_ := Am (Bt (by repeat (first | exact HB.out | apply Ba | apply Bn | apply Bd)) hb); have n1_ := Am (hbox); have n2_ := Am ((by rw [hg]; exact (Bz (by repeat (first | exact HB.out | apply Ba | apply Bn | apply Bd))) : w.heap.size ≤ gb196)); have n3_ := Am ((by rw [hg]; exact (Bz (by repeat (first | exact HB.out | apply Ba | apply Bn | apply Bd))) : w.heap.size ≤ gb196)); clear HB; have HB := n0_; have BK196 := n1_; have GW196 := n2_; have GE196 := n3_; clear n0_ n1_ n2_ n3_; clear hb hbox hg; have hcz19_0 : w18.cell? ⟨gb196, 0, none⟩ = some (.int .i64 a0_0) := (Kc BK196.out 0).trans rfl; have hcz19_1 : w18.cell? ⟨gb196, 1, none⟩ = some (.int .i64 a0_1) := (Kc BK196.out 1).trans rfl; have hcz19_2 : w18.cell? ⟨gb196, 2, none⟩ = some (.int .i64 a0_2) := (Kc BK196.out 2).trans rfl; have hcz19_3 : w18.cell? ⟨gb196, 3, none⟩ = some (.int .i64 a0_3) := (Kc BK196.out 3).trans rfl; have hcz19_4 : w18.cell? ⟨gb196, 4, none⟩ = some (.int .i64 a0_4) := (Kc BK196.out 4).trans rfl; have hfz19_0 := Kz BK196.out 0; have hfz19_1 := Kz BK196.out 1; have hfz19_2 := Kz BK196.out 2; have hfz19_3 := Kz BK196.out 3; have hfz19_4 := Kz BK196.out 4) | ((refine Gc (f := 91) rfl ?_); refine goesL_ (some 18) rfl rfl Try.func91 (by kernel_rfl) rfl #[.agg #[.int .i64 a0_0, .int .i64 a0_1, .int .i64 a0_2, .int .i64 a0_3, .int .i64 a0_4]] rfl (by first | rfl | (simp only [List.map_toArray, List.map_cons, List.map_nil]; first | done | rfl)) ?_; (with_reducible refine (spec_l2Code.calls a0_0 a0_1 a0_2 a0_3 a0_4 t198 _ A11.out).mono ?_); rintro e w20 ⟨rfl, hb⟩; refine ⟨_, rfl, ?_⟩; have n0_ := Am (Kb (g := gb196) (o := .cells #[.int .i64 a0_0, .int .i64 a0_1, .int .i64 a0_2, .int .i64 a0_3, .int .i64 a0_4] 49 (0, 0)) (by (with_reducible repeat (first | refine Kn ?_ _ | refine Ke ?_ | refine Ka ?_ _)); exact BK196.out) hb); have n1_ := Am (Bt (by repeat (first | (with_reducible first | exact HB.out | apply Ba | apply Bn | apply Bd | refine Bs ?_ GE196.out) | exact HB.out)) hb); clear BK196; clear HB; have BK196 := n0_; have HB := n1_; clear n0_ n1_; (try clear hb); (try clear hb2); (try clear hk); (try clear hi); have hcz21_0 : w20.cell? ⟨gb196, 0, none⟩ = some (.int .i64 a0_0) := (Kc BK196.out 0).trans rfl; have hcz21_1 : w20.cell? ⟨gb196, 1, none⟩ = some (.int .i64 a0_1) := (Kc BK196.out 1).trans rfl; have hcz21_2 : w20.cell? ⟨gb196, 2, none⟩ = some (.int .i64 a0_2) := (Kc BK196.out 2).trans rfl; have hcz21_3 : w20.cell? ⟨gb196, 3, none⟩ = some (.int .i64 a0_3) := (Kc BK196.out 3).trans rfl; have hcz21_4 : w20.cell? ⟨gb196, 4, none⟩ = some (.int .i64 a0_4) := (Kc BK196.out 4).trans rfl; have hfz21_0 := Kz BK196.out 0; have hfz21_1 := Kz BK196.out 1; have hfz21_2 := Kz BK196.out 2; have hfz21_3 := Kz BK196.out 3; have hfz21_4 := Kz BK196.out 4))
      go_ret
      exact ⟨by first | rfl | (simp [*, errW_none, errW_some] <;> rfl), by repeat (first | (with_reducible first | exact HB.out | apply Ba | apply Bn | apply Bd | refine Bs ?_ GE196.out) | exact HB.out)⟩
    ·rw [if_neg c12] at H
     have c12b0 : (t198 == 0) = false := beq_eq_false_iff_ne.mpr c12
     have c12b1 : (t198 != 0) = true := bne_iff_ne.mpr c12
     obtain rfl := Option.some.inj H
     go_enter Try.func59, Try.ntmps59
     go_wp2_with (first | ((refine Gd (N := 1) rfl ?_); refine Be ?hg (N := 1) ?hd (cs := #[.int .i64 a0_0, .int .i64 a0_1, .int .i64 a0_2, .int .i64 a0_3, .int .i64 a0_4]) (t := 49) ?hr ?_; (case hd | hg => rfl); (case hr => first | (go_simp; done) | (go_simp; rfl)); intro gb196 hg w22 hbox hb; have n0_ := Am (Bt (by repeat (first | exact HB.out | apply Ba | apply Bn | apply Bd)) hb); have n1_ := Am (hbox); have n2_ := Am ((by rw [hg]; exact (Bz (by repeat (first | exact HB.out | apply Ba | apply Bn | apply Bd))) : w.heap.size ≤ gb196)); have n3_ := Am ((by rw [hg]; exact (Bz (by repeat (first | exact HB.out | apply Ba | apply Bn | apply Bd))) : w.heap.size ≤ gb196)); clear HB; have HB := n0_; have BK196 := n1_; have GW196 := n2_; have GE196 := n3_; clear n0_ n1_ n2_ n3_; clear hb hbox hg; have hcz23_0 : w22.cell? ⟨gb196, 0, none⟩ = some (.int .i64 a0_0) := (Kc BK196.out 0).trans rfl; have hcz23_1 : w22.cell? ⟨gb196, 1, none⟩ = some (.int .i64 a0_1) := (Kc BK196.out 1).trans rfl; have hcz23_2 : w22.cell? ⟨gb196, 2, none⟩ = some (.int .i64 a0_2) := (Kc BK196.out 2).trans rfl; have hcz23_3 : w22.cell? ⟨gb196, 3, none⟩ = some (.int .i64 a0_3) := (Kc BK196.out 3).trans rfl; have hcz23_4 : w22.cell? ⟨gb196, 4, none⟩ = some (.int .i64 a0_4) := (Kc BK196.out 4).trans rfl; have hfz23_0 := Kz BK196.out 0; have hfz23_1 := Kz BK196.out 1; have hfz23_2 := Kz BK196.out 2; have hfz23_3 := Kz BK196.out 3; have hfz23_4 := Kz BK196.out 4) | ((refine Gc (f := 91) rfl ?_); refine goesL_ (some 18) rfl rfl Try.func91 (by kernel_rfl) rfl #[.agg #[.int .i64 a0_0, .int .i64 a0_1, .int .i64 a0_2, .int .i64 a0_3, .int .i64 a0_4]] rfl (by first | rfl | (simp only [List.map_toArray, List.map_cons, List.map_nil]; first | done | rfl)) ?_; (with_reducible refine (spec_l2Code.calls a0_0 a0_1 a0_2 a0_3 a0_4 t198 _ A11.out).mono ?_); rintro e w24 ⟨rfl, hb⟩; refine ⟨_, rfl, ?_⟩; have n0_ := Am (Kb (g := gb196) (o := .cells #[.int .i64 a0_0, .int .i64 a0_1, .int .i64 a0_2, .int .i64 a0_3, .int .i64 a0_4] 49 (0, 0)) (by (with_reducible repeat (first | refine Kn ?_ _ | refine Ke ?_ | refine Ka ?_ _)); exact BK196.out) hb); have n1_ := Am (Bt (by repeat (first | (with_reducible first | exact HB.out | apply Ba | apply Bn | apply Bd | refine Bs ?_ GE196.out) | exact HB.out)) hb); clear BK196; clear HB; have BK196 := n0_; have HB := n1_; clear n0_ n1_; (try clear hb); (try clear hb2); (try clear hk); (try clear hi)))
     go_ret
     exact ⟨by first | rfl | (simp [*, errW_none, errW_some] <;> rfl), by repeat (first | (with_reducible first | exact HB.out | apply Ba | apply Bn | apply Bd | refine Bs ?_ GE196.out) | exact HB.out)⟩
   ·rw [if_neg c10] at H
    have c10b0 : (a0_0 == 2) = false := beq_eq_false_iff_ne.mpr c10
    have c10b1 : (a0_0 != 2) = true := bne_iff_ne.mpr c10
    obtain rfl := Option.some.inj H
    go_enter Try.func59, Try.ntmps59
    go_wp2_with (first | ((refine Gd (N := 1) rfl ?_); refine Be ?hg (N := 1) ?hd (cs := #[.int .i64 a0_0, .int .i64 a0_1, .int .i64 a0_2, .int .i64 a0_3, .int .i64 a0_4]) (t := 49) ?hr ?_; (case hd | hg => rfl); (case hr => first | (go_simp; done) | (go_simp; rfl)); intro gb196 hg w25 hbox hb; have n0_ := Am (Bt (by repeat (first | exact HB.out | apply Ba | apply Bn | apply Bd)) hb); have n1_ := Am (hbox); have n2_ := Am ((by rw [hg]; exact (Bz (by repeat (first | exact HB.out | apply Ba | apply Bn | apply Bd))) : w.heap.size ≤ gb196)); have n3_ := Am ((by rw [hg]; exact (Bz (by repeat (first | exact HB.out | apply Ba | apply Bn | apply Bd))) : w.heap.size ≤ gb196)); clear HB; have HB := n0_; have BK196 := n1_; have GW196 := n2_; have GE196 := n3_; clear n0_ n1_ n2_ n3_; clear hb hbox hg; have hcz26_0 : w25.cell? ⟨gb196, 0, none⟩ = some (.int .i64 a0_0) := (Kc BK196.out 0).trans rfl; have hcz26_1 : w25.cell? ⟨gb196, 1, none⟩ = some (.int .i64 a0_1) := (Kc BK196.out 1).trans rfl; have hcz26_2 : w25.cell? ⟨gb196, 2, none⟩ = some (.int .i64 a0_2) := (Kc BK196.out 2).trans rfl; have hcz26_3 : w25.cell? ⟨gb196, 3, none⟩ = some (.int .i64 a0_3) := (Kc BK196.out 3).trans rfl; have hcz26_4 : w25.cell? ⟨gb196, 4, none⟩ = some (.int .i64 a0_4) := (Kc BK196.out 4).trans rfl; have hfz26_0 := Kz BK196.out 0; have hfz26_1 := Kz BK196.out 1; have hfz26_2 := Kz BK196.out 2; have hfz26_3 := Kz BK196.out 3; have hfz26_4 := Kz BK196.out 4))
    go_ret
    exact ⟨by first | rfl | (simp [*, errW_none, errW_some] <;> rfl), by repeat (first | (with_reducible first | exact HB.out | apply Ba | apply Bn | apply Bd | refine Bs ?_ GE196.out) | exact HB.out)⟩
end Go.Proofs.Ytacpjifbgnlppaa.QFnExactAttrFor
