-- Written by a program of this session (wip/mk.py) over the kit's print: Lean checks it.
import Derived.Test.YtilmcfdhijdhpaaQFnAttrForx0
import Derived.Test.YtilmcfdhijdhpaaQFnAttrForx5
import Derived.Test.YtilmcfdhijdhpaaQFnAttrForx7
namespace Go.Proofs.Ytilmcfdhijdhpaa.QFnAttrFor
open Go.Proofs.YtilmcfdhijdhpaaW.PrintWords.Kd renaming R_alloc → Ra, R_drewN → Rn, R_drew → Rd
open Go.Proofs.YtilmcfdhijdhpaaW.PrintWords renaming below_alloc → Ba, pw_below_drewN → Bn, below_drew1 → Bd, below_set → Bs, below_size → Bz, below_step → Bt, gate_dst → Gd, gate_callee → Gc, box_event → Be, blk_alloc → Ka, blk_drewN → Kn, blk_drew → Ke, blk_below → Kb, blk_cell → Kc, blk_far → Kf, blk_frozen → Kz
open Go.World renaming block_lt_of_cell? → bl_
open Go.Proofs.YtilmcfdhijdhpaaW.PrintWords.Aside0 renaming mk → Am
open Go.Proofs.YtilmcfdhijdhpaaW.PrintWords renaming Aside0 → Ad
open Go.RowKit Go.Proofs.YtilmcfdhijdhpaaW.PrintWords Go.Proofs.YtilmcfdhijdhpaaW.PrintLast Go.Proofs.YtilmcfdhijdhpaaW.PrintMore
attribute [local go_sem] max2_int min2_int max_two min_two max_three min_three max_four min_four   -- for this text's walks alone
set_option linter.unusedVariables false
set_option linter.unusedSimpArgs false
def impl_GoodTable_1_1.f (k : Nat) (a0_0 : Int) (a0_1 : Int) (a0_2 : Int) (a0_3 : Int) (a0_4 : Int) (a0_5 : Int) (a0_6 : Int) (a0_7 : Int) (a0_8 : Int) (l0_9 : List Int) (a1_0 : Int) (l1_1 : List (List (S39))) : Option (Bool) := (impl_goodRow.f k a1_0 a0_0 a0_1 a0_2 a0_3 a0_4 a0_5 a0_6 a0_7 a0_8 l0_9).bind fun t249 => (some (!t249))
theorem impl_GoodTable_1_1.mono : ∀ a0 a1 a2 a3 a4 a5 a6 a7 a8 a9 a10 a11 k, LeO (impl_GoodTable_1_1.f k a0 a1 a2 a3 a4 a5 a6 a7 a8 a9 a10 a11) (impl_GoodTable_1_1.f (k + 1) a0 a1 a2 a3 a4 a5 a6 a7 a8 a9 a10 a11) := by
 intro a0 a1 a2 a3 a4 a5 a6 a7 a8 a9 a10 a11 k
 unfold impl_GoodTable_1_1.f
 repeat' first
   | (with_reducible exact impl_goodRow.mono _ _ _ _ _ _ _ _ _ _ _ _)
   | (with_reducible exact LeO.refl _)
   | (with_reducible exact LeO.none _)
   | (with_reducible refine LeO.ite ?_ ?_)
   | (with_reducible refine LeO.bind ?_ (fun _ => ?_))
   | exact impl_goodRow.mono _ _ _ _ _ _ _ _ _ _ _ _
   | exact LeO.none _
   | refine LeO.ite ?_ ?_
   | refine LeO.bind ?_ (fun _ => ?_)
set_option maxHeartbeats 8000000 in
set_option maxRecDepth 100000 in
theorem impl_GoodTable_1_1.calls (k : Nat) (a0_0 : Int) (a0_1 : Int) (a0_2 : Int) (a0_3 : Int) (a0_4 : Int) (a0_5 : Int) (a0_6 : Int) (a0_7 : Int) (a0_8 : Int) (A0_9 : Option Addr) (c0_9 : Nat) (l0_9 : List Int) (gq1 : Nat) (a1_0 : Int) (A1_1 : Option Addr) (c1_1 : Nat) (l1_1 : List (List (S39))) (r : Bool) (w : World) (hr0_9 : Kd.C (Kd.int .i64) w A0_9 l0_9.length l0_9) (hc0_9 : l0_9.length ≤ c0_9) (hr1_1 : Kd.C (Kd.slice 39 k39) w A1_1 l1_1.length l1_1) (hc1_1 : l1_1.length ≤ c1_1) (hb1 : w.heap[gq1]? = some (.cells #[.int .i64 a1_0, .slice A1_1 l1_1.length c1_1] 26 (0, 0))) (h : impl_GoodTable_1_1.f k a0_0 a0_1 a0_2 a0_3 a0_4 a0_5 a0_6 a0_7 a0_8 l0_9 a1_0 l1_1 = some r) :
  Calls Try.prog 51 #[.agg #[.int .i64 a0_0, .int .i64 a0_1, .int .i64 a0_2, .int .i64 a0_3, .int .i64 a0_4, .int .i64 a0_5, .int .i64 a0_6, .int .i64 a0_7, .int .i64 a0_8, .slice A0_9 l0_9.length c0_9], .pointer (some ⟨gq1, 0, none⟩)] w fun e w' => e = .returned (.bool r) ∧ Below w.heap.size w w' := by
 have hu39 := Try.underlying39
 have HR0_9 := Am hr0_9
 have HC0_9 := Am hc0_9
 clear hr0_9 hc0_9
 have HR1_1 := Am hr1_1
 have HC1_1 := Am hc1_1
 clear hr1_1 hc1_1
 have BK247 := Am hb1
 clear hb1
 have HB := Am (Below.refl w.heap.size w)
 have H : ((impl_goodRow.f k a1_0 a0_0 a0_1 a0_2 a0_3 a0_4 a0_5 a0_6 a0_7 a0_8 l0_9).bind fun t249 => (some (!t249))) = some r := h
 clear h
 replace H := Option.bind_eq_some_iff.mp H
 obtain ⟨t249, A30, H⟩ := H
 replace H : (some (!t249)) = some r := H
 have A3 := Am A30
 clear A30
 obtain rfl := Option.some.inj H
 go_enter Try.func51, Try.ntmps51
 go_wp2_with (first | ((refine Gd (N := 2) rfl ?_); refine Be ?hg (N := 2) ?hd (cs := #[.int .i64 a0_0, .int .i64 a0_1, .int .i64 a0_2, .int .i64 a0_3, .int .i64 a0_4, .int .i64 a0_5, .int .i64 a0_6, .int .i64 a0_7, .int .i64 a0_8, .slice A0_9 l0_9.length c0_9]) (t := 39) ?hr ?_; (case hd | hg => rfl); (case hr => first | (go_simp; done) | (go_simp; rfl)); intro gb248 hg w4 hbox hb; have n0_ := Am (Kb (g := gq1) (o := .cells #[.int .i64 a1_0, .slice A1_1 l1_1.length c1_1] 26 (0, 0)) (by (with_reducible repeat (first | refine Kn ?_ _ | refine Ke ?_ | refine Ka ?_ _)); exact BK247.out) hb); have n1_ := Am (Bt (by repeat (first | (with_reducible first | exact HB.out | apply Ba | apply Bn | apply Bd | refine Bs ?_ GE247.out) | exact HB.out)) hb); have n2_ := Am (hbox); have n3_ := Am ((by rw [hg]; exact (Bz (by repeat (first | (with_reducible first | exact HB.out | apply Ba | apply Bn | apply Bd | refine Bs ?_ GE247.out) | exact HB.out))) : w.heap.size ≤ gb248)); have n4_ := Am ((by rw [hg]; exact (Bz (by repeat (first | (with_reducible first | exact HB.out | apply Ba | apply Bn | apply Bd | refine Bs ?_ GE247.out) | exact HB.out))) : w.heap.size ≤ gb248)); have n5_ := Am ((by rw [hg]; exact Nat.ne_of_lt (blk_lt (g := gq1) (o := .cells #[.int .i64 a1_0, .slice A1_1 l1_1.length c1_1] 26 (0, 0)) (by (with_reducible repeat (first | refine Kn ?_ _ | refine Ke ?_ | refine Ka ?_ _)); exact BK247.out)) : gq1 ≠ gb248)); have n6_ := Am ((by rw [hg]; exact Nat.ne_of_gt (blk_lt (g := gq1) (o := .cells #[.int .i64 a1_0, .slice A1_1 l1_1.length c1_1] 26 (0, 0)) (by (with_reducible repeat (first | refine Kn ?_ _ | refine Ke ?_ | refine Ka ?_ _)); exact BK247.out)) : gb248 ≠ gq1)); clear BK247; clear HB; have BK247 := n0_; have HB := n1_; have BK248 := n2_; have GW248 := n3_; have GE248 := n4_; have NB247_248 := n5_; have NB248_247 := n6_; clear n0_ n1_ n2_ n3_ n4_ n5_ n6_; clear hb hbox hg; have hnb5 := NB247_248.out; have hnc5 := NB248_247.out; have hcz6_0 : w4.cell? ⟨gq1, 0, none⟩ = some (.int .i64 a1_0) := (Kc BK247.out 0).trans rfl; have hcz6_1 : w4.cell? ⟨gq1, 1, none⟩ = some (.slice A1_1 l1_1.length c1_1) := (Kc BK247.out 1).trans rfl; have hfz6_0 := Kz BK247.out 0; have hfz6_1 := Kz BK247.out 1; have hcz7_0 : w4.cell? ⟨gb248, 0, none⟩ = some (.int .i64 a0_0) := (Kc BK248.out 0).trans rfl; have hcz7_1 : w4.cell? ⟨gb248, 1, none⟩ = some (.int .i64 a0_1) := (Kc BK248.out 1).trans rfl; have hcz7_2 : w4.cell? ⟨gb248, 2, none⟩ = some (.int .i64 a0_2) := (Kc BK248.out 2).trans rfl; have hcz7_3 : w4.cell? ⟨gb248, 3, none⟩ = some (.int .i64 a0_3) := (Kc BK248.out 3).trans rfl; have hcz7_4 : w4.cell? ⟨gb248, 4, none⟩ = some (.int .i64 a0_4) := (Kc BK248.out 4).trans rfl; have hcz7_5 : w4.cell? ⟨gb248, 5, none⟩ = some (.int .i64 a0_5) := (Kc BK248.out 5).trans rfl; have hcz7_6 : w4.cell? ⟨gb248, 6, none⟩ = some (.int .i64 a0_6) := (Kc BK248.out 6).trans rfl; have hcz7_7 : w4.cell? ⟨gb248, 7, none⟩ = some (.int .i64 a0_7) := (Kc BK248.out 7).trans rfl; have hcz7_8 : w4.cell? ⟨gb248, 8, none⟩ = some (.int .i64 a0_8) := (Kc BK248.out 8).trans rfl; have hcz7_9 : w4.cell? ⟨gb248, 9, none⟩ = some (.slice A0_9 l0_9.length c0_9) := (Kc BK248.out 9).trans rfl; have hfz7_0 := Kz BK248.out 0; have hfz7_1 := Kz BK248.out 1; have hfz7_2 := Kz BK248.out 2; have hfz7_3 := Kz BK248.out 3; have hfz7_4 := Kz BK248.out 4; have hfz7_5 := Kz BK248.out 5; have hfz7_6 := Kz BK248.out 6; have hfz7_7 := Kz BK248.out 7; have hfz7_8 := Kz BK248.out 8; have hfz7_9 := Kz BK248.out 9) | ((refine Gc (f := 52) rfl ?_); refine goesL_ (some 7) rfl rfl Try.func52 (by kernel_rfl) rfl #[.int .i64 a1_0, .agg #[.int .i64 a0_0, .int .i64 a0_1, .int .i64 a0_2, .int .i64 a0_3, .int .i64 a0_4, .int .i64 a0_5, .int .i64 a0_6, .int .i64 a0_7, .int .i64 a0_8, .slice A0_9 l0_9.length c0_9]] rfl (by first | rfl | (simp only [List.map_toArray, List.map_cons, List.map_nil]; first | done | rfl)) ?_; (with_reducible refine (impl_goodRow.calls k a1_0 a0_0 a0_1 a0_2 a0_3 a0_4 a0_5 a0_6 a0_7 a0_8 _ _ l0_9 t249 _ ?side1 ?side2 A3.out).mono ?_); (case side1 => repeat (first | exact (Kd.C_below HR0_9.out HB.out) | (with_reducible refine Kd.C_alloc ?_ _) | (with_reducible refine Kd.C_drewN ?_ _) | (with_reducible refine Kd.C_drew ?_))); (case side2 => exact HC0_9.out); rintro e w8 ⟨rfl, hb⟩; refine ⟨_, rfl, ?_⟩; have n0_ := Am (Kb (g := gq1) (o := .cells #[.int .i64 a1_0, .slice A1_1 l1_1.length c1_1] 26 (0, 0)) (by (with_reducible repeat (first | refine Kn ?_ _ | refine Ke ?_ | refine Ka ?_ _)); exact BK247.out) hb); have n1_ := Am (Kb (g := gb248) (o := .cells #[.int .i64 a0_0, .int .i64 a0_1, .int .i64 a0_2, .int .i64 a0_3, .int .i64 a0_4, .int .i64 a0_5, .int .i64 a0_6, .int .i64 a0_7, .int .i64 a0_8, .slice A0_9 l0_9.length c0_9] 39 (0, 0)) (by (with_reducible repeat (first | refine Kn ?_ _ | refine Ke ?_ | refine Ka ?_ _)); exact BK248.out) hb); have n2_ := Am (Bt (by repeat (first | (with_reducible first | exact HB.out | apply Ba | apply Bn | apply Bd | refine Bs ?_ GE247.out | refine Bs ?_ GE248.out) | exact HB.out)) hb); clear BK247; clear BK248; clear HB; have BK247 := n0_; have BK248 := n1_; have HB := n2_; clear n0_ n1_ n2_; (try clear hb); (try clear hb2); (try clear hk); (try clear hi)))
 go_ret
 exact ⟨by first | rfl | (simp [*, errW_none, errW_some] <;> rfl), by repeat (first | (with_reducible first | exact HB.out | apply Ba | apply Bn | apply Bd | refine Bs ?_ GE247.out | refine Bs ?_ GE248.out) | exact HB.out)⟩
def impl_GoodTable_1_1_in_c.f (k : Nat) (l0 : List S39) (aa0_0 : Int) (ll0_1 : List (List (S39))) : Option Bool := Mine.anyO (fun x : S39 => impl_GoodTable_1_1.f k x.f0 x.f1 x.f2 x.f3.f0 x.f3.f1 x.f3.f2 x.f3.f3 x.f3.f4 x.f4.f0 x.f4.f1 aa0_0 ll0_1) l0
theorem impl_GoodTable_1_1_in_c.mono : ∀ a0 b0 b1 k, LeO (impl_GoodTable_1_1_in_c.f k a0 b0 b1) (impl_GoodTable_1_1_in_c.f (k + 1) a0 b0 b1) := by
 intro a0 b0 b1 k
 unfold impl_GoodTable_1_1_in_c.f
 exact Mine.anyO_mono (fun (x : S39) b_ hb_ => impl_GoodTable_1_1.mono x.f0 x.f1 x.f2 x.f3.f0 x.f3.f1 x.f3.f2 x.f3.f3 x.f3.f4 x.f4.f0 x.f4.f1 b0 b1 k b_ hb_) a0
set_option maxHeartbeats 2000000 in
theorem impl_GoodTable_1_1_in_c.calls (k : Nat) (A0 : Option Addr) (c0 : Nat) (l0 : List S39) (gq0 : Nat) (aa0_0 : Int) (AA0_1 : Option Addr) (cc0_1 : Nat) (ll0_1 : List (List (S39))) (r : Bool) (w : World) (hr0 : Kd.C k39 w A0 l0.length l0) (hc0 : l0.length ≤ c0) (hr10_1 : Kd.C (Kd.slice 39 k39) w AA0_1 ll0_1.length ll0_1) (hc10_1 : ll0_1.length ≤ cc0_1) (hb0 : w.heap[gq0]? = some (.cells #[.int .i64 aa0_0, .slice AA0_1 ll0_1.length cc0_1] 26 (0, 0))) (h : impl_GoodTable_1_1_in_c.f k l0 aa0_0 ll0_1 = some r) :
  Calls Try.prog 50 #[.slice A0 l0.length c0, .func (.func 51) #[] #[.pointer (some ⟨gq0, 0, none⟩)]] w fun e w' => e = .returned (.bool r) ∧ Below w.heap.size w w' :=
 impl_Row_50.anyO 51 #[.pointer (some ⟨gq0, 0, none⟩)] (fun x : S39 => impl_GoodTable_1_1.f k x.f0 x.f1 x.f2 x.f3.f0 x.f3.f1 x.f3.f2 x.f3.f3 x.f3.f4 x.f4.f0 x.f4.f1 aa0_0 ll0_1) A0 c0 l0 w r (fun args w => enters_ Try.func51 (by kernel_rfl) rfl args w) hr0 hc0
  (fun W x A9 c9 hx bW hi9 hl9 b hb_ => (impl_GoodTable_1_1.calls k x.f0 x.f1 x.f2 x.f3.f0 x.f3.f1 x.f3.f2 x.f3.f3 x.f3.f4 x.f4.f0 A9 c9 x.f4.f1 gq0 aa0_0 AA0_1 cc0_1 ll0_1 b W hi9 hl9 (Kd.C_below hr10_1 bW) hc10_1 (Kb hb0 bW) hb_).mono (fun e w' hh => ⟨hh.1, hh.2⟩)) h
def impl_GoodTable_1.f (k : Nat) (l0 : List (S39)) (a1_0 : Int) (l1_1 : List (List (S39))) : Option (Bool) := if (l0.length : Int) > 6 then (some true) else ((impl_GoodTable_1_1_in_c.f k l0 a1_0 l1_1).bind fun t251 => (some t251))
theorem impl_GoodTable_1.mono : ∀ a0 a1 a2 k, LeO (impl_GoodTable_1.f k a0 a1 a2) (impl_GoodTable_1.f (k + 1) a0 a1 a2) := by
 intro a0 a1 a2 k
 unfold impl_GoodTable_1.f
 repeat' first
   | (with_reducible exact impl_GoodTable_1_1_in_c.mono _ _ _ _)
   | (with_reducible exact LeO.refl _)
   | (with_reducible exact LeO.none _)
   | (with_reducible refine LeO.ite ?_ ?_)
   | (with_reducible refine LeO.bind ?_ (fun _ => ?_))
   | exact impl_GoodTable_1_1_in_c.mono _ _ _ _
   | exact LeO.none _
   | refine LeO.ite ?_ ?_
   | refine LeO.bind ?_ (fun _ => ?_)
set_option maxHeartbeats 8000000 in
set_option maxRecDepth 100000 in
theorem impl_GoodTable_1.calls (k : Nat) (A0 : Option Addr) (c0 : Nat) (l0 : List (S39)) (gq1 : Nat) (a1_0 : Int) (A1_1 : Option Addr) (c1_1 : Nat) (l1_1 : List (List (S39))) (r : Bool) (w : World) (hr0 : Kd.C k39 w A0 l0.length l0) (hc0 : l0.length ≤ c0) (hr1_1 : Kd.C (Kd.slice 39 k39) w A1_1 l1_1.length l1_1) (hc1_1 : l1_1.length ≤ c1_1) (hb1 : w.heap[gq1]? = some (.cells #[.int .i64 a1_0, .slice A1_1 l1_1.length c1_1] 26 (0, 0))) (h : impl_GoodTable_1.f k l0 a1_0 l1_1 = some r) :
  Calls Try.prog 49 #[.slice A0 l0.length c0, .pointer (some ⟨gq1, 0, none⟩)] w fun e w' => e = .returned (.bool r) ∧ Below w.heap.size w w' := by
 have HR0 := Am hr0
 have HC0 := Am hc0
 clear hr0 hc0
 have HR1_1 := Am hr1_1
 have HC1_1 := Am hc1_1
 clear hr1_1 hc1_1
 have BK250 := Am hb1
 clear hb1
 have HB := Am (Below.refl w.heap.size w)
 have H : (if (l0.length : Int) > 6 then (some true) else ((impl_GoodTable_1_1_in_c.f k l0 a1_0 l1_1).bind fun t251 => (some t251))) = some r := h
 clear h
 by_cases c3 : (l0.length : Int) > 6
 ·rw [if_pos c3] at H
  have c3b0 : decide (6 < (l0.length : Int)) = true := decide_eq_true c3
  have c3b1 : decide (6 < l0.length) = true := decide_eq_true (by omega)
  clear c3
  obtain rfl := Option.some.inj H
  go_enter Try.func49, Try.ntmps49
  go_wp2
  go_ret
  exact ⟨by first | rfl | (simp [*, errW_none, errW_some] <;> rfl), by repeat (first | (with_reducible first | exact HB.out | apply Ba | apply Bn | apply Bd | refine Bs ?_ GE250.out) | exact HB.out)⟩
 ·rw [if_neg c3] at H
  have c3b0 : decide (6 < (l0.length : Int)) = false := decide_eq_false c3
  have c3b1 : decide (6 < l0.length) = false := decide_eq_false (by omega)
  clear c3
  replace H := Option.bind_eq_some_iff.mp H
  obtain ⟨t251, A40, H⟩ := H
  replace H : (some t251) = some r := H
  have A4 := Am A40
  clear A40
  obtain rfl := Option.some.inj H
  go_enter Try.func49, Try.ntmps49
  go_wp2_with (first | (go_at_call 50; (with_reducible refine (impl_GoodTable_1_1_in_c.calls k _ _ l0 gq1 a1_0 A1_1 c1_1 l1_1 t251 _ ?side1 ?side2 ?side3 ?side4 ?side5 A4.out).mono ?_); (case side1 => repeat (first | exact HR0.out | (with_reducible refine Kd.C_alloc ?_ _) | (with_reducible refine Kd.C_drewN ?_ _) | (with_reducible refine Kd.C_drew ?_))); (case side2 => exact HC0.out); (case side3 => repeat (first | exact HR1_1.out | (with_reducible refine Kd.C_alloc ?_ _) | (with_reducible refine Kd.C_drewN ?_ _) | (with_reducible refine Kd.C_drew ?_))); (case side4 => exact HC1_1.out); (case side5 => exact by (with_reducible repeat (first | refine Kn ?_ _ | refine Ke ?_ | refine Ka ?_ _)); exact BK250.out); rintro e w5 ⟨rfl, hb⟩; have n0_ := Am (Kb (g := gq1) (o := .cells #[.int .i64 a1_0, .slice A1_1 l1_1.length c1_1] 26 (0, 0)) (by (with_reducible repeat (first | refine Kn ?_ _ | refine Ke ?_ | refine Ka ?_ _)); exact BK250.out) hb); have n1_ := Am (Bt (by repeat (first | (with_reducible first | exact HB.out | apply Ba | apply Bn | apply Bd | refine Bs ?_ GE250.out) | exact HB.out)) hb); clear BK250; clear HB; have BK250 := n0_; have HB := n1_; clear n0_ n1_; (try clear hb); (try clear hb2); (try clear hk); (try clear hi)))
  go_ret
  exact ⟨by first | rfl | (simp [*, errW_none, errW_some] <;> rfl), by repeat (first | (with_reducible first | exact HB.out | apply Ba | apply Bn | apply Bd | refine Bs ?_ GE250.out) | exact HB.out)⟩
def impl_GoodTable_1_in_c.f (k : Nat) (l0 : List (List (S39))) (aa0_0 : Int) (ll0_1 : List (List (S39))) : Option Bool := Mine.anyO (fun x : (List (S39)) => impl_GoodTable_1.f k x aa0_0 ll0_1) l0
theorem impl_GoodTable_1_in_c.mono : ∀ a0 b0 b1 k, LeO (impl_GoodTable_1_in_c.f k a0 b0 b1) (impl_GoodTable_1_in_c.f (k + 1) a0 b0 b1) := by
 intro a0 b0 b1 k
 unfold impl_GoodTable_1_in_c.f
 exact Mine.anyO_mono (fun (x : (List (S39))) b_ hb_ => impl_GoodTable_1.mono x b0 b1 k b_ hb_) a0
set_option maxHeartbeats 2000000 in
theorem impl_GoodTable_1_in_c.calls (k : Nat) (A0 : Option Addr) (c0 : Nat) (l0 : List (List (S39))) (gq0 : Nat) (aa0_0 : Int) (AA0_1 : Option Addr) (cc0_1 : Nat) (ll0_1 : List (List (S39))) (r : Bool) (w : World) (hr0 : Kd.C (Kd.slice 39 k39) w A0 l0.length l0) (hc0 : l0.length ≤ c0) (hr10_1 : Kd.C (Kd.slice 39 k39) w AA0_1 ll0_1.length ll0_1) (hc10_1 : ll0_1.length ≤ cc0_1) (hb0 : w.heap[gq0]? = some (.cells #[.int .i64 aa0_0, .slice AA0_1 ll0_1.length cc0_1] 26 (0, 0))) (h : impl_GoodTable_1_in_c.f k l0 aa0_0 ll0_1 = some r) :
  Calls Try.prog 48 #[.slice A0 l0.length c0, .func (.func 49) #[] #[.pointer (some ⟨gq0, 0, none⟩)]] w fun e w' => e = .returned (.bool r) ∧ Below w.heap.size w w' :=
 impl_Row_48.anyO 49 #[.pointer (some ⟨gq0, 0, none⟩)] (fun x : (List (S39)) => impl_GoodTable_1.f k x aa0_0 ll0_1) A0 c0 l0 w r (fun args w => enters_ Try.func49 (by kernel_rfl) rfl args w) hr0 hc0
  (fun W x A c hx bW hi hl b hb_ => (impl_GoodTable_1.calls k A c x gq0 aa0_0 AA0_1 cc0_1 ll0_1 b W hi hl (Kd.C_below hr10_1 bW) hc10_1 (Kb hb0 bW) hb_).mono (fun e w' hh => ⟨hh.1, hh.2⟩)) h
def impl_GoodTable.f (k : Nat) (a0_0 : Int) (l0_1 : List (List (S39))) : Option (Bool) := (impl_IsGroup.f a0_0).bind fun t253 => (if t253 = true then (if (l0_1.length : Int) = a0_0 then ((impl_GoodTable_1_in_c.f k l0_1 a0_0 l0_1).bind fun t254 => (some (!t254))) else (some false)) else (some false))
theorem impl_GoodTable.mono : ∀ a0 a1 k, LeO (impl_GoodTable.f k a0 a1) (impl_GoodTable.f (k + 1) a0 a1) := by
 intro a0 a1 k
 unfold impl_GoodTable.f
 repeat' first
   | (with_reducible exact impl_GoodTable_1_in_c.mono _ _ _ _)
   | (with_reducible exact LeO.refl _)
   | (with_reducible exact LeO.none _)
   | (with_reducible refine LeO.ite ?_ ?_)
   | (with_reducible refine LeO.bind ?_ (fun _ => ?_))
   | exact impl_GoodTable_1_in_c.mono _ _ _ _
   | exact LeO.none _
   | refine LeO.ite ?_ ?_
   | refine LeO.bind ?_ (fun _ => ?_)
set_option maxHeartbeats 8000000 in
set_option maxRecDepth 100000 in
theorem impl_GoodTable.calls (k : Nat) (a0_0 : Int) (A0_1 : Option Addr) (c0_1 : Nat) (l0_1 : List (List (S39))) (r : Bool) (w : World) (hr0_1 : Kd.C (Kd.slice 39 k39) w A0_1 l0_1.length l0_1) (hc0_1 : l0_1.length ≤ c0_1) (h : impl_GoodTable.f k a0_0 l0_1 = some r) :
  Calls Try.prog 20 #[.agg #[.int .i64 a0_0, .slice A0_1 l0_1.length c0_1]] w fun e w' => e = .returned (.bool r) ∧ Below w.heap.size w w' := by
 have hu26 := Try.underlying26
 have HR0_1 := Am hr0_1
 have HC0_1 := Am hc0_1
 clear hr0_1 hc0_1
 have HB := Am (Below.refl w.heap.size w)
 have H : ((impl_IsGroup.f a0_0).bind fun t253 => (if t253 = true then (if (l0_1.length : Int) = a0_0 then ((impl_GoodTable_1_in_c.f k l0_1 a0_0 l0_1).bind fun t254 => (some (!t254))) else (some false)) else (some false))) = some r := h
 clear h
 replace H := Option.bind_eq_some_iff.mp H
 obtain ⟨t253, A20, H⟩ := H
 replace H : (if t253 = true then (if (l0_1.length : Int) = a0_0 then ((impl_GoodTable_1_in_c.f k l0_1 a0_0 l0_1).bind fun t254 => (some (!t254))) else (some false)) else (some false)) = some r := H
 have A2 := Am A20
 clear A20
 by_cases c3 : t253 = true
 ·subst c3
  have H1 : (if (l0_1.length : Int) = a0_0 then ((impl_GoodTable_1_in_c.f k l0_1 a0_0 l0_1).bind fun t254 => (some (!t254))) else (some false)) = some r := by rw [if_pos rfl] at H; exact H
  clear H
  have H := H1
  clear H1
  by_cases c4 : (l0_1.length : Int) = a0_0
  ·rw [if_pos c4] at H
   have c4b0 : ((l0_1.length : Int) == a0_0) = true := beq_iff_eq.mpr c4
   have c4b1 : ((l0_1.length : Int) != a0_0) = false := bne_eq_false_iff_eq.mpr c4
   clear c4
   replace H := Option.bind_eq_some_iff.mp H
   obtain ⟨t254, A50, H⟩ := H
   replace H : (some (!t254)) = some r := H
   have A5 := Am A50
   clear A50
   obtain rfl := Option.some.inj H
   go_enter Try.func20, Try.ntmps20
   go_wp2_with (first | ((refine Gd (N := 1) rfl ?_); (try (refine gate_guard (by rfl) ?_; dsimp only)); refine Be ?hg (N := 1) ?hd (cs := #[.int .i64 a0_0, .slice A0_1 l0_1.length c0_1]) (t := 26) ?hr ?_; (case hd | hg => rfl); (case hr => first | (go_simp; done) | (go_simp; rfl)); intro gb252 hg w6 hbox hb; have n0_ := Am (Bt (by repeat (first | exact HB.out | apply Ba | apply Bn | apply Bd)) hb); have n1_ := Am (hbox); have n2_ := Am ((by rw [hg]; exact (Bz (by repeat (first | exact HB.out | apply Ba | apply Bn | apply Bd))) : w.heap.size ≤ gb252)); have n3_ := Am ((by rw [hg]; exact (Bz (by repeat (first | exact HB.out | apply Ba | apply Bn | apply Bd))) : w.heap.size ≤ gb252)); clear HB; have HB := n0_; have BK252 := n1_; have GW252 := n2_; have GE252 := n3_; clear n0_ n1_ n2_ n3_; clear hb hbox hg; have hcz7_0 : w6.cell? ⟨gb252, 0, none⟩ = some (.int .i64 a0_0) := (Kc BK252.out 0).trans rfl; have hcz7_1 : w6.cell? ⟨gb252, 1, none⟩ = some (.slice A0_1 l0_1.length c0_1) := (Kc BK252.out 1).trans rfl; have hfz7_0 := Kz BK252.out 0; have hfz7_1 := Kz BK252.out 1) | ((refine Gc (f := 47) rfl ?_); refine goesL_ (some 5) rfl rfl Try.func47 (by kernel_rfl) rfl #[.int .i64 a0_0] rfl (by first | rfl | (simp only [List.map_toArray, List.map_cons, List.map_nil]; first | done | rfl)) ?_; (with_reducible refine (impl_IsGroup.calls a0_0 true _ A2.out).mono ?_); rintro e w' ⟨rfl, ⟨nd, rfl⟩⟩; refine ⟨_, rfl, ?_⟩) | (go_at_call 48; (with_reducible refine (impl_GoodTable_1_in_c.calls k _ _ l0_1 gb252 a0_0 A0_1 c0_1 l0_1 t254 _ ?side1 ?side2 ?side3 ?side4 ?side5 A5.out).mono ?_); (case side1 => repeat (first | exact (Kd.C_below HR0_1.out (by repeat (first | (with_reducible first | exact HB.out | apply Ba | apply Bn | apply Bd | refine Bs ?_ GE252.out) | exact HB.out))) | (with_reducible refine Kd.C_alloc ?_ _) | (with_reducible refine Kd.C_drewN ?_ _) | (with_reducible refine Kd.C_drew ?_))); (case side2 => exact HC0_1.out); (case side3 => repeat (first | exact (Kd.C_below HR0_1.out (by repeat (first | (with_reducible first | exact HB.out | apply Ba | apply Bn | apply Bd | refine Bs ?_ GE252.out) | exact HB.out))) | (with_reducible refine Kd.C_alloc ?_ _) | (with_reducible refine Kd.C_drewN ?_ _) | (with_reducible refine Kd.C_drew ?_))); (case side4 => exact HC0_1.out); (case side5 => exact by (with_reducible repeat (first | refine Kn ?_ _ | refine Ke ?_ | refine Ka ?_ _)); exact BK252.out); rintro e w8 ⟨rfl, hb⟩; have n0_ := Am (Kb (g := gb252) (o := .cells #[.int .i64 a0_0, .slice A0_1 l0_1.length c0_1] 26 (0, 0)) (by (with_reducible repeat (first | refine Kn ?_ _ | refine Ke ?_ | refine Ka ?_ _)); exact BK252.out) hb); have n1_ := Am (Bt (by repeat (first | (with_reducible first | exact HB.out | apply Ba | apply Bn | apply Bd | refine Bs ?_ GE252.out) | exact HB.out)) hb); clear BK252; clear HB; have BK252 := n0_; have HB := n1_; clear n0_ n1_; (try clear hb); (try clear hb2); (try clear hk); (try clear hi)))
   go_ret
   exact ⟨by first | rfl | (simp [*, errW_none, errW_some] <;> rfl), by repeat (first | (with_reducible first | exact HB.out | apply Ba | apply Bn | apply Bd | refine Bs ?_ GE252.out) | exact HB.out)⟩
  ·rw [if_neg c4] at H
   have c4b0 : ((l0_1.length : Int) == a0_0) = false := beq_eq_false_iff_ne.mpr c4
   have c4b1 : ((l0_1.length : Int) != a0_0) = true := bne_iff_ne.mpr c4
   obtain rfl := Option.some.inj H
   go_enter Try.func20, Try.ntmps20
   go_wp2_with (first | ((refine Gd (N := 1) rfl ?_); (try (refine gate_guard (by rfl) ?_; dsimp only)); refine Be ?hg (N := 1) ?hd (cs := #[.int .i64 a0_0, .slice A0_1 l0_1.length c0_1]) (t := 26) ?hr ?_; (case hd | hg => rfl); (case hr => first | (go_simp; done) | (go_simp; rfl)); intro gb252 hg w9 hbox hb; have n0_ := Am (Bt (by repeat (first | exact HB.out | apply Ba | apply Bn | apply Bd)) hb); have n1_ := Am (hbox); have n2_ := Am ((by rw [hg]; exact (Bz (by repeat (first | exact HB.out | apply Ba | apply Bn | apply Bd))) : w.heap.size ≤ gb252)); have n3_ := Am ((by rw [hg]; exact (Bz (by repeat (first | exact HB.out | apply Ba | apply Bn | apply Bd))) : w.heap.size ≤ gb252)); clear HB; have HB := n0_; have BK252 := n1_; have GW252 := n2_; have GE252 := n3_; clear n0_ n1_ n2_ n3_; clear hb hbox hg; have hcz10_0 : w9.cell? ⟨gb252, 0, none⟩ = some (.int .i64 a0_0) := (Kc BK252.out 0).trans rfl; have hcz10_1 : w9.cell? ⟨gb252, 1, none⟩ = some (.slice A0_1 l0_1.length c0_1) := (Kc BK252.out 1).trans rfl; have hfz10_0 := Kz BK252.out 0; have hfz10_1 := Kz BK252.out 1) | ((refine Gc (f := 47) rfl ?_); refine goesL_ (some 5) rfl rfl Try.func47 (by kernel_rfl) rfl #[.int .i64 a0_0] rfl (by first | rfl | (simp only [List.map_toArray, List.map_cons, List.map_nil]; first | done | rfl)) ?_; (with_reducible refine (impl_IsGroup.calls a0_0 true _ A2.out).mono ?_); rintro e w' ⟨rfl, ⟨nd, rfl⟩⟩; refine ⟨_, rfl, ?_⟩))
   go_ret
   exact ⟨by first | rfl | (simp [*, errW_none, errW_some] <;> rfl), by repeat (first | (with_reducible first | exact HB.out | apply Ba | apply Bn | apply Bd | refine Bs ?_ GE252.out) | exact HB.out)⟩
 ·replace c3 := Bool.eq_false_iff.mpr c3
  subst c3
  have H1 : (some false) = some r := by rw [if_neg (show ¬ (false = true) by decide)] at H; exact H
  clear H
  have H := H1
  clear H1
  obtain rfl := Option.some.inj H
  go_enter Try.func20, Try.ntmps20
  go_wp2_with (first | ((refine Gd (N := 1) rfl ?_); (try (refine gate_guard (by rfl) ?_; dsimp only)); refine Be ?hg (N := 1) ?hd (cs := #[.int .i64 a0_0, .slice A0_1 l0_1.length c0_1]) (t := 26) ?hr ?_; (case hd | hg => rfl); (case hr => first | (go_simp; done) | (go_simp; rfl)); intro gb252 hg w11 hbox hb; have n0_ := Am (Bt (by repeat (first | exact HB.out | apply Ba | apply Bn | apply Bd)) hb); have n1_ := Am (hbox); have n2_ := Am ((by rw [hg]; exact (Bz (by repeat (first | exact HB.out | apply Ba | apply Bn | apply Bd))) : w.heap.size ≤ gb252)); have n3_ := Am ((by rw [hg]; exact (Bz (by repeat (first | exact HB.out | apply Ba | apply Bn | apply Bd))) : w.heap.size ≤ gb252)); clear HB; have HB := n0_; have BK252 := n1_; have GW252 := n2_; have GE252 := n3_; clear n0_ n1_ n2_ n3_; clear hb hbox hg; have hcz12_0 : w11.cell? ⟨gb252, 0, none⟩ = some (.int .i64 a0_0) := (Kc BK252.out 0).trans rfl; have hcz12_1 : w11.cell? ⟨gb252, 1, none⟩ = some (.slice A0_1 l0_1.length c0_1) := (Kc BK252.out 1).trans rfl; have hfz12_0 := Kz BK252.out 0; have hfz12_1 := Kz BK252.out 1) | ((refine Gc (f := 47) rfl ?_); refine goesL_ (some 5) rfl rfl Try.func47 (by kernel_rfl) rfl #[.int .i64 a0_0] rfl (by first | rfl | (simp only [List.map_toArray, List.map_cons, List.map_nil]; first | done | rfl)) ?_; (with_reducible refine (impl_IsGroup.calls a0_0 false _ A2.out).mono ?_); rintro e w' ⟨rfl, ⟨nd, rfl⟩⟩; refine ⟨_, rfl, ?_⟩))
  go_ret
  exact ⟨by first | rfl | (simp [*, errW_none, errW_some] <;> rfl), by repeat (first | (with_reducible first | exact HB.out | apply Ba | apply Bn | apply Bd | refine Bs ?_ GE252.out) | exact HB.out)⟩
def impl_isInstance.f (a0 : Int) (a1 : Int) (a2 : Int) : Option (Bool) := (impl_IsGroup.f a0).bind fun t255 => (if t255 = true then ((impl_within.f a1 0 (wrap64 (a0 - 1))).bind fun t256 => (if t256 = true then ((impl_within.f a2 1 6).bind fun t257 => (some t257)) else (some false))) else (some false))
set_option maxHeartbeats 8000000 in
set_option maxRecDepth 100000 in
theorem impl_isInstance.calls (a0 : Int) (a1 : Int) (a2 : Int) (r : Bool) (w : World) (h : impl_isInstance.f a0 a1 a2 = some r) :
  Calls Try.prog 22 #[.int .i64 a0, .int .i64 a1, .int .i64 a2] w fun e w' => e = .returned (.bool r) ∧ Drawn0 w w' := by
 have H : ((impl_IsGroup.f a0).bind fun t255 => (if t255 = true then ((impl_within.f a1 0 (wrap64 (a0 - 1))).bind fun t256 => (if t256 = true then ((impl_within.f a2 1 6).bind fun t257 => (some t257)) else (some false))) else (some false))) = some r := h
 clear h
 replace H := Option.bind_eq_some_iff.mp H
 obtain ⟨t255, A40, H⟩ := H
 replace H : (if t255 = true then ((impl_within.f a1 0 (wrap64 (a0 - 1))).bind fun t256 => (if t256 = true then ((impl_within.f a2 1 6).bind fun t257 => (some t257)) else (some false))) else (some false)) = some r := H
 have A4 := Am A40
 clear A40
 by_cases c5 : t255 = true
 ·subst c5
  have H1 : ((impl_within.f a1 0 (wrap64 (a0 - 1))).bind fun t256 => (if t256 = true then ((impl_within.f a2 1 6).bind fun t257 => (some t257)) else (some false))) = some r := by rw [if_pos rfl] at H; exact H
  clear H
  have H := H1
  clear H1
  replace H := Option.bind_eq_some_iff.mp H
  obtain ⟨t256, A60, H⟩ := H
  replace H : (if t256 = true then ((impl_within.f a2 1 6).bind fun t257 => (some t257)) else (some false)) = some r := H
  have A6 := Am A60
  clear A60
  by_cases c7 : t256 = true
  ·subst c7
   have H1 : ((impl_within.f a2 1 6).bind fun t257 => (some t257)) = some r := by rw [if_pos rfl] at H; exact H
   clear H
   have H := H1
   clear H1
   replace H := Option.bind_eq_some_iff.mp H
   obtain ⟨t257, A80, H⟩ := H
   replace H : (some t257) = some r := H
   have A8 := Am A80
   clear A80
   obtain rfl := Option.some.inj H
   go_enter Try.func22, Try.ntmps22
   go_wp2_with (first | ((refine Gc (f := 47) rfl ?_); refine goesL_ (some 8) rfl rfl Try.func47 (by kernel_rfl) rfl #[.int .i64 a0] rfl (by first | rfl | (simp only [List.map_toArray, List.map_cons, List.map_nil]; first | done | rfl)) ?_; (with_reducible refine (impl_IsGroup.calls a0 true _ A4.out).mono ?_); rintro e w' ⟨rfl, ⟨nd, rfl⟩⟩; refine ⟨_, rfl, ?_⟩) | (go_at_call 37; (with_reducible refine (impl_within.calls a1 0 (wrap64 (a0 - 1)) true _ A6.out).mono ?_); rintro e w' ⟨rfl, ⟨nd, rfl⟩⟩) | (go_at_call 37; (with_reducible refine (impl_within.calls a2 1 6 t257 _ A8.out).mono ?_); rintro e w' ⟨rfl, ⟨nd, rfl⟩⟩))
   go_ret
   exact ⟨by first | rfl | (simp; done) | (simp [*]; done), by repeat (first | exact Drawn0.refl _ | apply Drawn0.step)⟩
  ·replace c7 := Bool.eq_false_iff.mpr c7
   subst c7
   have H1 : (some false) = some r := by rw [if_neg (show ¬ (false = true) by decide)] at H; exact H
   clear H
   have H := H1
   clear H1
   obtain rfl := Option.some.inj H
   go_enter Try.func22, Try.ntmps22
   go_wp2_with (first | ((refine Gc (f := 47) rfl ?_); refine goesL_ (some 8) rfl rfl Try.func47 (by kernel_rfl) rfl #[.int .i64 a0] rfl (by first | rfl | (simp only [List.map_toArray, List.map_cons, List.map_nil]; first | done | rfl)) ?_; (with_reducible refine (impl_IsGroup.calls a0 true _ A4.out).mono ?_); rintro e w' ⟨rfl, ⟨nd, rfl⟩⟩; refine ⟨_, rfl, ?_⟩) | (go_at_call 37; (with_reducible refine (impl_within.calls a1 0 (wrap64 (a0 - 1)) false _ A6.out).mono ?_); rintro e w' ⟨rfl, ⟨nd, rfl⟩⟩))
   go_ret
   exact ⟨by first | rfl | (simp; done) | (simp [*]; done), by repeat (first | exact Drawn0.refl _ | apply Drawn0.step)⟩
 ·replace c5 := Bool.eq_false_iff.mpr c5
  subst c5
  have H1 : (some false) = some r := by rw [if_neg (show ¬ (false = true) by decide)] at H; exact H
  clear H
  have H := H1
  clear H1
  obtain rfl := Option.some.inj H
  go_enter Try.func22, Try.ntmps22
  go_wp2_with (first | ((refine Gc (f := 47) rfl ?_); refine goesL_ (some 8) rfl rfl Try.func47 (by kernel_rfl) rfl #[.int .i64 a0] rfl (by first | rfl | (simp only [List.map_toArray, List.map_cons, List.map_nil]; first | done | rfl)) ?_; (with_reducible refine (impl_IsGroup.calls a0 false _ A4.out).mono ?_); rintro e w' ⟨rfl, ⟨nd, rfl⟩⟩; refine ⟨_, rfl, ?_⟩))
  go_ret
  exact ⟨by first | rfl | (simp; done) | (simp [*]; done), by repeat (first | exact Drawn0.refl _ | apply Drawn0.step)⟩
def impl_Table_each.rowO {α : Type} (step : α → Int → Int → S39 → Option α) (i : Int) : List S39 → Nat → α → Option α
 | [], _, s => some s
 | x :: xs, j, s => (step s i ((j : Int) + 1) x).bind fun s' => impl_Table_each.rowO step i xs (j + 1) s'
def impl_Table_each.allO {α : Type} (step : α → Int → Int → S39 → Option α) : List (List S39) → Nat → α → Option α
 | [], _, s => some s
 | y :: ys, i, s => (impl_Table_each.rowO step (i : Int) y 0 s).bind fun s' => impl_Table_each.allO step ys (i + 1) s'
set_option maxHeartbeats 4000000 in
set_option maxRecDepth 100000 in
theorem impl_Table_each.gen {α : Type} (g : FuncId) (lb : Array Value) (Rel : α → World → Prop) (step : α → Int → Int → S39 → Option α) (n : Int) (A : Option Addr) (c : Nat) (l : List (List S39)) (s r : α) (wb w : World)
  (eg : ∀ args w, (callFunc g args).run Try.prog w = .ok (.enter g args) w)
  (hr : Kd.C (Kd.slice 39 k39) wb A l.length l)
  (hbel : ∀ s W, Rel s W → Below wb.heap.size wb W) (hmono : ∀ s W W', Rel s W → Below W.heap.size W W' → Rel s W')
  (hstep : ∀ (s s' : α) (i j : Int) (x : S39) (A9 : Option Addr) (c9 : Nat) (W : World), Rel s W → step s i j x = some s' → Calls Try.prog g (#[.int .i64 i, .int .i64 j, .agg #[.int .i64 x.f0, .int .i64 x.f1, .int .i64 x.f2, .int .i64 x.f3.f0, .int .i64 x.f3.f1, .int .i64 x.f3.f2, .int .i64 x.f3.f3, .int .i64 x.f3.f4, .int .i64 x.f4.f0, .slice A9 x.f4.f1.length c9]] ++ lb) W fun e W' => e = .returned (.tuple #[]) ∧ Rel s' W')
  (h0 : Rel s w) (h : impl_Table_each.allO step l 0 s = some r) :
  Calls Try.prog 55 #[.agg #[.int .i64 n, .slice A l.length c], .func (.func g) #[] lb] w fun e w' => e = .returned (.tuple #[]) ∧ Rel r w' := by
 have hu := Try.underlying39
 have hu2 := Try.underlying26
 have hm : l.length ≤ 9223372036854775807 := hr.2.1
 have HR := Am hr
 have HB := Am hbel
 have HM := Am hmono
 have HS := Am hstep
 have H0 := Am h0
 have HI := Am h
 clear hr hbel hmono hstep h0 h
 go_enter Try.func55, Try.ntmps55
 go_upto_region 1 with (fail)
 refine letC (fun W_ => Below w.heap.size w W_ ∧ W_.heap[w.heap.size]? = some (.cells #[.int .i64 n, .slice A l.length c] 26 (0, 0))) ⟨Ba (Below.refl _ _) _, blk_new w (.cells #[.int .i64 n, .slice A l.length c] 26)⟩ ?_
 rintro W0 ⟨hb, hx⟩
 have HR0 := Am (HM.out _ _ _ H0.out hb)
 have qt : W0.cell? ⟨w.heap.size, 1, none⟩ = some (.slice A l.length c) := (Kc hx 1).trans rfl
 clear hb hx H0
 go_wp2
 clear qt
 go_loopg [11] l.length (fun gg s11 wr => ∃ (kk : Nat) (t : α), kk ≤ l.length ∧ l.length - kk ≤ gg ∧ s11 = .int .i64 kk ∧ Ad (Rel t wr) ∧ Ad (impl_Table_each.allO step (l.drop kk) kk t = some r))
 case atStart => exact ⟨0, s, Nat.zero_le _, by omega, rfl, HR0, ⟨by simpa using HI.out⟩⟩
 case round =>
  clear HI HR0
  obtain ⟨kk, t, hkk, hg, rfl, HT, PF⟩ := hrel
  by_cases hlt : kk < l.length
  ·have hltz : (kk : Int) < (l.length : Int) := by omega
   obtain ⟨ad, Ay, cy, rfl, hy0, hly, hiy⟩ := at_L6 HR.out (kk : Int) (by omega) hltz
   have hy0 := ((HB.out _ _ HT.out).cell (bl_ wb _ hy0)).trans hy0
   simp only [Int.toNat_natCast] at hy0
   have he : Ad (l.getD kk [] = rd_L6 l (kk : Int)) := ⟨by unfold rd_L6; rw [Int.toNat_natCast]⟩
   have PG : Ad ((impl_Table_each.rowO step (kk : Int) (rd_L6 l (kk : Int)) 0 t).bind (fun s' => impl_Table_each.allO step (l.drop (kk + 1)) (kk + 1) s') = some r) := ⟨by have h_ := PF.out; rw [Mine.drop_at l [] kk hlt, he.out] at h_; exact h_⟩
   have HIY := Am hiy
   clear PF he hiy
   generalize rd_L6 l (kk : Int) = y at hy0 hly HIY PG
   have hmy : y.length ≤ 9223372036854775807 := HIY.out.2.1
   go_wp2
   go_loopg [18] y.length (fun gg s18 wr2 => ∃ (jj : Nat) (t2 : α), jj ≤ y.length ∧ y.length - jj ≤ gg ∧ s18 = .int .i64 jj ∧ Ad (Rel t2 wr2) ∧ Ad ((impl_Table_each.rowO step (kk : Int) (y.drop jj) jj t2).bind (fun s' => impl_Table_each.allO step (l.drop (kk + 1)) (kk + 1) s') = some r))
   case atStart => exact ⟨0, t, Nat.zero_le _, by omega, rfl, HT, ⟨by simpa using PG.out⟩⟩
   case round =>
    clear HT PG hy0
    obtain ⟨jj, t2, hjj, hg2, rfl, HT, PF⟩ := hrel
    by_cases hlt2 : jj < y.length
    ·have hltz2 : (jj : Int) < (y.length : Int) := by omega
     obtain ⟨ad2, A9, c9, rfl, hx0, hx1, hx2, hx3, hx4, hx5, hx6, hx7, hx8, hx9, hl9, hi9⟩ := at_T39 (Kd.C_below HIY.out (HB.out _ _ HT.out)) (jj : Int) (by omega) hltz2
     simp only [Int.toNat_natCast] at hx0 hx1 hx2 hx3 hx4 hx5 hx6 hx7 hx8 hx9
     have he : Ad (y.getD jj z39 = rd_T39 y (jj : Int)) := ⟨by unfold rd_T39; rw [Int.toNat_natCast]⟩
     have PG : Ad (((step t2 (kk : Int) ((jj : Int) + 1) (rd_T39 y (jj : Int))).bind fun s' => impl_Table_each.rowO step (kk : Int) (y.drop (jj + 1)) (jj + 1) s').bind (fun s' => impl_Table_each.allO step (l.drop (kk + 1)) (kk + 1) s') = some r) := ⟨by have h_ := PF.out; rw [Mine.drop_at y z39 jj hlt2, he.out] at h_; exact h_⟩
     clear PF he hl9 hi9
     generalize rd_T39 y (jj : Int) = x at hx0 hx1 hx2 hx3 hx4 hx5 hx6 hx7 hx8 hx9 PG
     cases hq : step t2 (kk : Int) ((jj : Int) + 1) x with
     | none => exact absurd PG.out (by rw [hq]; simp)
     | some t3 =>
     have PG : Ad ((impl_Table_each.rowO step (kk : Int) (y.drop (jj + 1)) (jj + 1) t3).bind (fun s' => impl_Table_each.allO step (l.drop (kk + 1)) (kk + 1) s') = some r) := ⟨by have h_ := PG.out; rw [hq, Option.bind_some] at h_; exact h_⟩
     have HQ := Am hq
     clear hq
     go_upto_region 7 with (fail)
     refine letC (fun W_ => Below wr.heap.size wr W_ ∧ W_.heap[wr.heap.size]? = some (.cells #[.int .i64 x.f0, .int .i64 x.f1, .int .i64 x.f2, .int .i64 x.f3.f0, .int .i64 x.f3.f1, .int .i64 x.f3.f2, .int .i64 x.f3.f3, .int .i64 x.f3.f4, .int .i64 x.f4.f0, .slice A9 x.f4.f1.length c9] 39 (0, 0))) ⟨Ba (Below.refl _ _) _, blk_new wr (.cells #[.int .i64 x.f0, .int .i64 x.f1, .int .i64 x.f2, .int .i64 x.f3.f0, .int .i64 x.f3.f1, .int .i64 x.f3.f2, .int .i64 x.f3.f3, .int .i64 x.f3.f4, .int .i64 x.f4.f0, .slice A9 x.f4.f1.length c9] 39)⟩ ?_
     rintro W1 ⟨hb, hbx⟩
     have HT1 := Am (HM.out _ _ _ HT.out hb)
     have HX1 := Am hbx
     clear hb hbx HT hx0 hx1 hx2 hx3 hx4 hx5 hx6 hx7 hx8 hx9
     generalize wr.heap.size = gb at HX1
     have q0 : W1.cell? ⟨gb, 0, none⟩ = some (.int .i64 x.f0) := (Kc HX1.out 0).trans rfl
     have q1 : W1.cell? ⟨gb, 1, none⟩ = some (.int .i64 x.f1) := (Kc HX1.out 1).trans rfl
     have q2 : W1.cell? ⟨gb, 2, none⟩ = some (.int .i64 x.f2) := (Kc HX1.out 2).trans rfl
     have q3 : W1.cell? ⟨gb, 3, none⟩ = some (.int .i64 x.f3.f0) := (Kc HX1.out 3).trans rfl
     have q4 : W1.cell? ⟨gb, 4, none⟩ = some (.int .i64 x.f3.f1) := (Kc HX1.out 4).trans rfl
     have q5 : W1.cell? ⟨gb, 5, none⟩ = some (.int .i64 x.f3.f2) := (Kc HX1.out 5).trans rfl
     have q6 : W1.cell? ⟨gb, 6, none⟩ = some (.int .i64 x.f3.f3) := (Kc HX1.out 6).trans rfl
     have q7 : W1.cell? ⟨gb, 7, none⟩ = some (.int .i64 x.f3.f4) := (Kc HX1.out 7).trans rfl
     have q8 : W1.cell? ⟨gb, 8, none⟩ = some (.int .i64 x.f4.f0) := (Kc HX1.out 8).trans rfl
     have q9 : W1.cell? ⟨gb, 9, none⟩ = some (.slice A9 x.f4.f1.length c9) := (Kc HX1.out 9).trans rfl
     go_wp2_with fail
     refine (HS.out t2 t3 (kk : Int) ((jj : Int) + 1) x A9 c9 W1 HT1.out HQ.out).mono ?_
     rintro e W2 ⟨rfl, hT⟩
     have HT2 := Am hT
     clear hT q0 q1 q2 q3 q4 q5 q6 q7 q8 q9
     go_wp2
     go_roundg (y.length - (jj + 1))
     case measure => omega
     case rel => exact ⟨jj + 1, t3, by omega, by omega, by go_num, HT2, PG⟩
    ·have hltz2 : ¬ (jj : Int) < (y.length : Int) := by omega
     have PG : Ad (impl_Table_each.allO step (l.drop (kk + 1)) (kk + 1) t2 = some r) := ⟨by have h_ := PF.out; rw [List.drop_eq_nil_of_le (by omega)] at h_; simpa [impl_Table_each.rowO] using h_⟩
     go_wp2
     go_roundg (l.length - (kk + 1))
     case measure => omega
     case rel => exact ⟨kk + 1, t2, by omega, by omega, by go_num, HT, PG⟩
  ·have hltz : ¬ (kk : Int) < (l.length : Int) := by omega
   have PG : Ad (t = r) := ⟨by have h_ := PF.out; rw [List.drop_eq_nil_of_le (by omega)] at h_; simpa [impl_Table_each.allO] using h_⟩
   go_wp2
   go_end0
   exact ⟨rfl, by have e_ := PG.out; subst e_; exact HT.out⟩
def impl_touches.f (a0_0 : Int) (a0_1 : Int) (a0_2 : Int) (a0_3 : Int) (a0_4 : Int) : Option (List Int) := if a0_0 = 1 then (some (([mn a0_2 a0_3, mx a0_2 a0_3] : List Int))) else (if a0_0 = 2 then (some (([a0_2] : List Int))) else (some (([] : List Int))))
set_option maxHeartbeats 8000000 in
set_option maxRecDepth 100000 in
theorem impl_touches.calls (a0_0 : Int) (a0_1 : Int) (a0_2 : Int) (a0_3 : Int) (a0_4 : Int) (r : List Int) (w : World) (h : impl_touches.f a0_0 a0_1 a0_2 a0_3 a0_4 = some r) :
  Calls Try.prog 63 #[.agg #[.int .i64 a0_0, .int .i64 a0_1, .int .i64 a0_2, .int .i64 a0_3, .int .i64 a0_4]] w fun e w' => ∃ v0_ : Value, e = .returned (v0_) ∧ Kd.R (Kd.int .i64) 3 w' w.heap.size (fun _ => True) v0_ r ∧ Below w.heap.size w w' := by
 have hu28 := Try.underlying28
 have HB := Am (Below.refl w.heap.size w)
 have H : (if a0_0 = 1 then (some (([mn a0_2 a0_3, mx a0_2 a0_3] : List Int))) else (if a0_0 = 2 then (some (([a0_2] : List Int))) else (some (([] : List Int))))) = some r := h
 clear h
 by_cases c2 : a0_0 = 1
 ·rw [if_pos c2] at H
  have c2b0 : (a0_0 == 1) = true := beq_iff_eq.mpr c2
  have c2b1 : (a0_0 != 1) = false := bne_eq_false_iff_eq.mpr c2
  clear c2
  obtain ⟨ji3, hji3⟩ : ∃ j_ : Int, (mn a0_2 a0_3) = j_ := ⟨_, rfl⟩
  replace H : (some (([ji3, mx a0_2 a0_3] : List Int))) = some r := by first | (rw [hji3] at H; exact H) | (simp only [hji3] at H ⊢; exact H)
  have hji3_ : (if a0_3 < a0_2 then a0_3 else a0_2) = ji3 := hji3
  obtain ⟨ji4, hji4⟩ : ∃ j_ : Int, (mx a0_2 a0_3) = j_ := ⟨_, rfl⟩
  replace H : (some (([ji3, ji4] : List Int))) = some r := by first | (rw [hji4] at H; exact H) | (simp only [hji4] at H ⊢; exact H)
  have hji4_ : (if a0_2 < a0_3 then a0_3 else a0_2) = ji4 := hji4
  obtain ⟨y259, hy259⟩ : ∃ y_ : List Int, y_ = (([ji3, ji4] : List Int)) := ⟨_, rfl⟩
  replace H : (some y259) = some r := by first | (rw [hy259]; with_reducible exact H) | (have H2_ := (Option.bind_some _ _).symm.trans H; rw [hy259]; with_reducible exact H2_) | (have H2_ := (Option.bind_some _ _).symm.trans H; with_reducible exact H2_) | with_reducible exact H | (rw [hy259]; exact H) | exact H
  have Ny259 := Am hy259
  clear hy259
  obtain rfl := Option.some.inj H
  go_enter Try.func63, Try.ntmps63
  go_wp2_with (first | ((refine Gd (N := 1) rfl ?_); refine Be ?hg (N := 1) ?hd (cs := #[.int .i64 a0_0, .int .i64 a0_1, .int .i64 a0_2, .int .i64 a0_3, .int .i64 a0_4]) (t := 28) ?hr ?_; (case hd | hg => rfl); (case hr => first | (go_simp; done) | (go_simp; rfl)); intro gb258 hg w5 hbox hb; have n0_ := Am (Bt (by repeat (first | exact HB.out | apply Ba | apply Bn | apply Bd)) hb); have n1_ := Am (hbox); have n2_ := Am ((by rw [hg]; exact (Bz (by repeat (first | exact HB.out | apply Ba | apply Bn | apply Bd))) : w.heap.size ≤ gb258)); have n3_ := Am ((by rw [hg]; exact (Bz (by repeat (first | exact HB.out | apply Ba | apply Bn | apply Bd))) : w.heap.size ≤ gb258)); clear HB; have HB := n0_; have BK258 := n1_; have GW258 := n2_; have GE258 := n3_; clear n0_ n1_ n2_ n3_; clear hb hbox hg; have hcz6_0 : w5.cell? ⟨gb258, 0, none⟩ = some (.int .i64 a0_0) := (Kc BK258.out 0).trans rfl; have hcz6_1 : w5.cell? ⟨gb258, 1, none⟩ = some (.int .i64 a0_1) := (Kc BK258.out 1).trans rfl; have hcz6_2 : w5.cell? ⟨gb258, 2, none⟩ = some (.int .i64 a0_2) := (Kc BK258.out 2).trans rfl; have hcz6_3 : w5.cell? ⟨gb258, 3, none⟩ = some (.int .i64 a0_3) := (Kc BK258.out 3).trans rfl; have hcz6_4 : w5.cell? ⟨gb258, 4, none⟩ = some (.int .i64 a0_4) := (Kc BK258.out 4).trans rfl; have hfz6_0 := Kz BK258.out 0; have hfz6_1 := Kz BK258.out 1; have hfz6_2 := Kz BK258.out 2; have hfz6_3 := Kz BK258.out 3; have hfz6_4 := Kz BK258.out 4) | ((refine Gd (N := 17) rfl ?_); refine Kd.R_lit (Kd.int .i64) _ 3 ?hg (N := 17) ?hd (xs := ([ji3, ji4] : List Int)) (inner := [.int .i64 ji3, .int .i64 ji4]) (ok := fun _ => True) (okp := fun _ => True) ?hr ?hp (fun _ hk => hk) trivial (Below.refl _ _) (Nat.le_refl _) (by simp) ?_; (case hd | hg => rfl); (case hr => first | (go_simp; done) | (go_simp; rfl)); (case hp => exact (Reps.one (show Kd.M (Kd.int .i64) _ _ _ ji3 [.int .i64 ji3] from rfl) (Reps.one (show Kd.M (Kd.int .i64) _ _ _ ji4 [.int .i64 ji4] from rfl) (Reps.none _ _)))); intro v260 w7 ho8 hb hg_ hnew_; clear hg_ hnew_; (first | rw [← Ny259.out] at ho8 | (simp only [Int.reduceToNat] at ho8; rw [← Ny259.out] at ho8)); have n0_ := Am (Kd.R_lower ho8 (Bz (by repeat (first | (with_reducible first | exact HB.out | apply Ba | apply Bn | apply Bd | refine Bs ?_ GE258.out) | exact HB.out)))); have n1_ := Am (Kb (g := gb258) (o := .cells #[.int .i64 a0_0, .int .i64 a0_1, .int .i64 a0_2, .int .i64 a0_3, .int .i64 a0_4] 28 (0, 0)) (by (with_reducible repeat (first | refine Kn ?_ _ | refine Ke ?_ | refine Ka ?_ _)); exact BK258.out) hb); have n2_ := Am (Bt (by repeat (first | (with_reducible first | exact HB.out | apply Ba | apply Bn | apply Bd | refine Bs ?_ GE258.out) | exact HB.out)) hb); clear BK258; clear HB; have HO261 := n0_; have BK258 := n1_; have HB := n2_; clear n0_ n1_ n2_; clear hb ho8))
  go_ret
  exact ⟨_, by first | rfl | (simp [errW_none, errW_some] <;> rfl) | (simp only [← hji3, ← hji4]; first | rfl | (simp [errW_none, errW_some] <;> rfl)) | (simp [*, errW_none, errW_some] <;> rfl), by (with_reducible repeat (first | apply Ra | apply Rn | apply Rd)); exact HO261.out, by repeat (first | (with_reducible first | exact HB.out | apply Ba | apply Bn | apply Bd | refine Bs ?_ GE258.out) | exact HB.out)⟩
 ·rw [if_neg c2] at H
  have c2b0 : (a0_0 == 1) = false := beq_eq_false_iff_ne.mpr c2
  have c2b1 : (a0_0 != 1) = true := bne_iff_ne.mpr c2
  by_cases c9 : a0_0 = 2
  ·rw [if_pos c9] at H
   have c9b0 : (a0_0 == 2) = true := beq_iff_eq.mpr c9
   have c9b1 : (a0_0 != 2) = false := bne_eq_false_iff_eq.mpr c9
   clear c9
   obtain ⟨y262, hy262⟩ : ∃ y_ : List Int, y_ = (([a0_2] : List Int)) := ⟨_, rfl⟩
   replace H : (some y262) = some r := by first | (rw [hy262]; with_reducible exact H) | (have H2_ := (Option.bind_some _ _).symm.trans H; rw [hy262]; with_reducible exact H2_) | (have H2_ := (Option.bind_some _ _).symm.trans H; with_reducible exact H2_) | with_reducible exact H | (rw [hy262]; exact H) | exact H
   have Ny262 := Am hy262
   clear hy262
   obtain rfl := Option.some.inj H
   go_enter Try.func63, Try.ntmps63
   go_wp2_with (first | ((refine Gd (N := 1) rfl ?_); refine Be ?hg (N := 1) ?hd (cs := #[.int .i64 a0_0, .int .i64 a0_1, .int .i64 a0_2, .int .i64 a0_3, .int .i64 a0_4]) (t := 28) ?hr ?_; (case hd | hg => rfl); (case hr => first | (go_simp; done) | (go_simp; rfl)); intro gb258 hg w10 hbox hb; have n0_ := Am (Bt (by repeat (first | exact HB.out | apply Ba | apply Bn | apply Bd)) hb); have n1_ := Am (hbox); have n2_ := Am ((by rw [hg]; exact (Bz (by repeat (first | exact HB.out | apply Ba | apply Bn | apply Bd))) : w.heap.size ≤ gb258)); have n3_ := Am ((by rw [hg]; exact (Bz (by repeat (first | exact HB.out | apply Ba | apply Bn | apply Bd))) : w.heap.size ≤ gb258)); clear HB; have HB := n0_; have BK258 := n1_; have GW258 := n2_; have GE258 := n3_; clear n0_ n1_ n2_ n3_; clear hb hbox hg; have hcz11_0 : w10.cell? ⟨gb258, 0, none⟩ = some (.int .i64 a0_0) := (Kc BK258.out 0).trans rfl; have hcz11_1 : w10.cell? ⟨gb258, 1, none⟩ = some (.int .i64 a0_1) := (Kc BK258.out 1).trans rfl; have hcz11_2 : w10.cell? ⟨gb258, 2, none⟩ = some (.int .i64 a0_2) := (Kc BK258.out 2).trans rfl; have hcz11_3 : w10.cell? ⟨gb258, 3, none⟩ = some (.int .i64 a0_3) := (Kc BK258.out 3).trans rfl; have hcz11_4 : w10.cell? ⟨gb258, 4, none⟩ = some (.int .i64 a0_4) := (Kc BK258.out 4).trans rfl; have hfz11_0 := Kz BK258.out 0; have hfz11_1 := Kz BK258.out 1; have hfz11_2 := Kz BK258.out 2; have hfz11_3 := Kz BK258.out 3; have hfz11_4 := Kz BK258.out 4) | ((refine Gd (N := 22) rfl ?_); refine Kd.R_lit (Kd.int .i64) _ 3 ?hg (N := 22) ?hd (xs := ([a0_2] : List Int)) (inner := [.int .i64 a0_2]) (ok := fun _ => True) (okp := fun _ => True) ?hr ?hp (fun _ hk => hk) trivial (Below.refl _ _) (Nat.le_refl _) (by simp) ?_; (case hd | hg => rfl); (case hr => first | (go_simp; done) | (go_simp; rfl)); (case hp => exact (Reps.one (show Kd.M (Kd.int .i64) _ _ _ a0_2 [.int .i64 a0_2] from rfl) (Reps.none _ _))); intro v263 w12 ho13 hb hg_ hnew_; clear hg_ hnew_; (first | rw [← Ny262.out] at ho13 | (simp only [Int.reduceToNat] at ho13; rw [← Ny262.out] at ho13)); have n0_ := Am (Kd.R_lower ho13 (Bz (by repeat (first | (with_reducible first | exact HB.out | apply Ba | apply Bn | apply Bd | refine Bs ?_ GE258.out) | exact HB.out)))); have n1_ := Am (Kb (g := gb258) (o := .cells #[.int .i64 a0_0, .int .i64 a0_1, .int .i64 a0_2, .int .i64 a0_3, .int .i64 a0_4] 28 (0, 0)) (by (with_reducible repeat (first | refine Kn ?_ _ | refine Ke ?_ | refine Ka ?_ _)); exact BK258.out) hb); have n2_ := Am (Bt (by repeat (first | (with_reducible first | exact HB.out | apply Ba | apply Bn | apply Bd | refine Bs ?_ GE258.out) | exact HB.out)) hb); clear BK258; clear HB; have HO264 := n0_; have BK258 := n1_; have HB := n2_; clear n0_ n1_ n2_; clear hb ho13))
   go_ret
   exact ⟨_, by first | rfl | (simp [*, errW_none, errW_some] <;> rfl), by (with_reducible repeat (first | apply Ra | apply Rn | apply Rd)); exact HO264.out, by repeat (first | (with_reducible first | exact HB.out | apply Ba | apply Bn | apply Bd | refine Bs ?_ GE258.out) | exact HB.out)⟩
  ·rw [if_neg c9] at H
   have c9b0 : (a0_0 == 2) = false := beq_eq_false_iff_ne.mpr c9
   have c9b1 : (a0_0 != 2) = true := bne_iff_ne.mpr c9
   obtain ⟨y265, hy265⟩ : ∃ y_ : List Int, y_ = (([] : List Int)) := ⟨_, rfl⟩
   replace H : (some y265) = some r := by first | (rw [hy265]; with_reducible exact H) | (have H2_ := (Option.bind_some _ _).symm.trans H; rw [hy265]; with_reducible exact H2_) | (have H2_ := (Option.bind_some _ _).symm.trans H; with_reducible exact H2_) | with_reducible exact H | (rw [hy265]; exact H) | exact H
   have Ny265 := Am hy265
   clear hy265
   obtain rfl := Option.some.inj H
   go_enter Try.func63, Try.ntmps63
   go_wp2_with (first | ((refine Gd (N := 1) rfl ?_); refine Be ?hg (N := 1) ?hd (cs := #[.int .i64 a0_0, .int .i64 a0_1, .int .i64 a0_2, .int .i64 a0_3, .int .i64 a0_4]) (t := 28) ?hr ?_; (case hd | hg => rfl); (case hr => first | (go_simp; done) | (go_simp; rfl)); intro gb258 hg w14 hbox hb; have n0_ := Am (Bt (by repeat (first | exact HB.out | apply Ba | apply Bn | apply Bd)) hb); have n1_ := Am (hbox); have n2_ := Am ((by rw [hg]; exact (Bz (by repeat (first | exact HB.out | apply Ba | apply Bn | apply Bd))) : w.heap.size ≤ gb258)); have n3_ := Am ((by rw [hg]; exact (Bz (by repeat (first | exact HB.out | apply Ba | apply Bn | apply Bd))) : w.heap.size ≤ gb258)); clear HB; have HB := n0_; have BK258 := n1_; have GW258 := n2_; have GE258 := n3_; clear n0_ n1_ n2_ n3_; clear hb hbox hg; have hcz15_0 : w14.cell? ⟨gb258, 0, none⟩ = some (.int .i64 a0_0) := (Kc BK258.out 0).trans rfl; have hcz15_1 : w14.cell? ⟨gb258, 1, none⟩ = some (.int .i64 a0_1) := (Kc BK258.out 1).trans rfl; have hcz15_2 : w14.cell? ⟨gb258, 2, none⟩ = some (.int .i64 a0_2) := (Kc BK258.out 2).trans rfl; have hcz15_3 : w14.cell? ⟨gb258, 3, none⟩ = some (.int .i64 a0_3) := (Kc BK258.out 3).trans rfl; have hcz15_4 : w14.cell? ⟨gb258, 4, none⟩ = some (.int .i64 a0_4) := (Kc BK258.out 4).trans rfl; have hfz15_0 := Kz BK258.out 0; have hfz15_1 := Kz BK258.out 1; have hfz15_2 := Kz BK258.out 2; have hfz15_3 := Kz BK258.out 3; have hfz15_4 := Kz BK258.out 4) | ((refine Gd (N := 23) rfl ?_); refine Kd.R_lit (Kd.int .i64) _ 3 ?hg (N := 23) ?hd (xs := ([] : List Int)) (inner := []) (ok := fun _ => True) (okp := fun _ => True) ?hr ?hp (fun _ hk => hk) trivial (Below.refl _ _) (Nat.le_refl _) (by simp) ?_; (case hd | hg => rfl); (case hr => first | (go_simp; done) | (go_simp; rfl)); (case hp => exact (Reps.none _ _)); intro v266 w16 ho17 hb hg_ hnew_; clear hg_ hnew_; (first | rw [← Ny265.out] at ho17 | (simp only [Int.reduceToNat] at ho17; rw [← Ny265.out] at ho17)); have n0_ := Am (Kd.R_lower ho17 (Bz (by repeat (first | (with_reducible first | exact HB.out | apply Ba | apply Bn | apply Bd | refine Bs ?_ GE258.out) | exact HB.out)))); have n1_ := Am (Kb (g := gb258) (o := .cells #[.int .i64 a0_0, .int .i64 a0_1, .int .i64 a0_2, .int .i64 a0_3, .int .i64 a0_4] 28 (0, 0)) (by (with_reducible repeat (first | refine Kn ?_ _ | refine Ke ?_ | refine Ka ?_ _)); exact BK258.out) hb); have n2_ := Am (Bt (by repeat (first | (with_reducible first | exact HB.out | apply Ba | apply Bn | apply Bd | refine Bs ?_ GE258.out) | exact HB.out)) hb); clear BK258; clear HB; have HO267 := n0_; have BK258 := n1_; have HB := n2_; clear n0_ n1_ n2_; clear hb ho17))
   go_ret
   exact ⟨_, by first | rfl | (simp [*, errW_none, errW_some] <;> rfl), by (with_reducible repeat (first | apply Ra | apply Rn | apply Rd)); exact HO267.out, by repeat (first | (with_reducible first | exact HB.out | apply Ba | apply Bn | apply Bd | refine Bs ?_ GE258.out) | exact HB.out)⟩
def slices_Index_int_int.l0 : Nat → List Int → Int → Int → Int → Option (Int)
 | 0, _, _, _, _ => none
 | k + 1, x0, x1, x7, x8 => if x8 < x7 then (if 0 ≤ x8 then (if x8 < (x0.length : Int) then (if x1 = (rd x0 x8) then (some x8) else (slices_Index_int_int.l0 k x0 x1 x7 (wrap64 (x8 + 1)))) else (none)) else (none)) else (some (-1))
def slices_Index_int_int.f (k : Nat) (l0 : List Int) (a1 : Int) : Option (Int) := slices_Index_int_int.l0 k l0 a1 (l0.length : Int) 0
theorem slices_Index_int_int.mono_l : ∀ k, (∀ y0 y1 y2 y3, LeO (slices_Index_int_int.l0 k y0 y1 y2 y3) (slices_Index_int_int.l0 (k + 1) y0 y1 y2 y3))
 | 0 => fun _ _ _ _ r h => by simp [slices_Index_int_int.l0] at h
 | k + 1 => by
  have ih0 := slices_Index_int_int.mono_l k
  ·intro y0 y1 y2 y3
   unfold slices_Index_int_int.l0
   repeat' first
   | (with_reducible exact ih0 _ _ _ _)
   | (with_reducible exact LeO.refl _)
   | (with_reducible exact LeO.none _)
   | (with_reducible refine LeO.ite ?_ ?_)
   | (with_reducible refine LeO.bind ?_ (fun _ => ?_))
   | exact ih0 _ _ _ _
   | exact LeO.none _
   | refine LeO.ite ?_ ?_
   | refine LeO.bind ?_ (fun _ => ?_)
theorem slices_Index_int_int.mono : ∀ a0 a1 k, LeO (slices_Index_int_int.f k a0 a1) (slices_Index_int_int.f (k + 1) a0 a1) := by
 intro a0 a1 k
 have ih0 := slices_Index_int_int.mono_l k
 unfold slices_Index_int_int.f
 repeat' first
   | (with_reducible exact ih0 _ _ _ _)
   | (with_reducible exact LeO.refl _)
   | (with_reducible exact LeO.none _)
   | (with_reducible refine LeO.ite ?_ ?_)
   | (with_reducible refine LeO.bind ?_ (fun _ => ?_))
   | exact ih0 _ _ _ _
   | exact LeO.none _
   | refine LeO.ite ?_ ?_
   | refine LeO.bind ?_ (fun _ => ?_)
set_option maxHeartbeats 8000000 in
set_option maxRecDepth 100000 in
theorem slices_Index_int_int.calls (k : Nat) (A0 : Option Addr) (c0 : Nat) (l0 : List Int) (a1 : Int) (r : Int) (w : World) (hr0 : Kd.C (Kd.int .i64) w A0 l0.length l0) (hc0 : l0.length ≤ c0) (h : slices_Index_int_int.f k l0 a1 = some r) :
  Calls Try.prog 90 #[.slice A0 l0.length c0, .int .i64 a1] w fun e w' => e = .returned (.int .i64 r) ∧ Drawn0 w w' := by
 have HR0 := Am hr0
 have HC0 := Am hc0
 clear hr0 hc0
 have H : (slices_Index_int_int.l0 k l0 a1 (l0.length : Int) 0) = some r := h
 clear h
 have H' := Am H
 clear H
 go_enter Try.func90, Try.ntmps90
 go_wp2
 go_loopg [8] k (fun kq v8 w' => ∃ (x8_1 : Int), v8 = .int .i64 x8_1 ∧ Ad (slices_Index_int_int.l0 kq l0 a1 (l0.length : Int) x8_1 = some r) ∧ Ad (kq ≤ k) ∧ Drawn0 w w')
 case atStart => exact ⟨(0), (by first | rfl | (simp; done) | (simp [*]; done)), H', ⟨Nat.le_refl _⟩, by repeat (first | exact Drawn0.refl _ | apply Drawn0.step)⟩
 case round =>
  clear H'
  try clear p2
  obtain ⟨x8_1, rfl, HA, HK1, ⟨m1, rfl⟩⟩ := hrel
  cases gk with
  | zero => exact absurd HA.out (by simp [slices_Index_int_int.l0])
  | succ k1 =>
   have H := HA.out
   clear HA
   simp only [slices_Index_int_int.l0] at H
   by_cases c3 : x8_1 < (l0.length : Int)
   ·rw [if_pos c3] at H
    have c3b0 : decide (x8_1 < (l0.length : Int)) = true := decide_eq_true c3
    clear c3
    by_cases c4 : 0 ≤ x8_1
    ·rw [if_pos c4] at H
     have c4b0 : decide (0 ≤ x8_1) = true := decide_eq_true c4
     clear c4
     by_cases c5 : x8_1 < (l0.length : Int)
     ·rw [if_pos c5] at H
      have c5b0 : decide (x8_1 < (l0.length : Int)) = true := decide_eq_true c5
      clear c5
      by_cases c6 : a1 = (rd l0 x8_1)
      ·rw [if_pos c6] at H
       have c6b0 : (a1 == (rd l0 x8_1)) = true := beq_iff_eq.mpr c6
       have c6b1 : (a1 != (rd l0 x8_1)) = false := bne_eq_false_iff_eq.mpr c6
       clear c6
       obtain rfl := Option.some.inj H
       have p268 : 0 ≤ (x8_1 : Int) := of_decide_eq_true (by assumption)
       have q268 : x8_1 < (l0.length : Int) := of_decide_eq_true (by assumption)
       obtain ⟨ad268, e268, hx268_0⟩ := Kd.at_int HR0.out x8_1 p268 q268
       cases e268
       replace p268 := eq_true p268
       replace q268 := eq_true q268
       go_wp2
       go_ret
       exact ⟨by first | rfl | (simp; done) | (simp [*]; done), by repeat (first | exact Drawn0.refl _ | apply Drawn0.step)⟩
      ·rw [if_neg c6] at H
       have c6b0 : (a1 == (rd l0 x8_1)) = false := beq_eq_false_iff_ne.mpr c6
       have c6b1 : (a1 != (rd l0 x8_1)) = true := bne_iff_ne.mpr c6
       have H' := Am H
       clear H
       have p268 : 0 ≤ (x8_1 : Int) := of_decide_eq_true (by assumption)
       have q268 : x8_1 < (l0.length : Int) := of_decide_eq_true (by assumption)
       obtain ⟨ad268, e268, hx268_0⟩ := Kd.at_int HR0.out x8_1 p268 q268
       cases e268
       replace p268 := eq_true p268
       replace q268 := eq_true q268
       go_wp2
       go_roundg k1
       case measure => have := HK1.out; omega
       case rel => exact ⟨(wrap64 (x8_1 + 1)), (by first | rfl | (simp; done) | (simp [*]; done)), H', ⟨by have := HK1.out; omega⟩, by repeat (first | exact Drawn0.refl _ | apply Drawn0.step)⟩
     ·rw [if_neg c5] at H
      exact absurd H (by simp)
    ·rw [if_neg c4] at H
     exact absurd H (by simp)
   ·rw [if_neg c3] at H
    have c3b0 : decide (x8_1 < (l0.length : Int)) = false := decide_eq_false c3
    clear c3
    obtain rfl := Option.some.inj H
    go_wp2
    go_ret
    exact ⟨by first | rfl | (simp; done) | (simp [*]; done), by repeat (first | exact Drawn0.refl _ | apply Drawn0.step)⟩
def slices_Contains_int_int.f (k : Nat) (l0 : List Int) (a1 : Int) : Option (Bool) := (slices_Index_int_int.f k l0 a1).bind fun t269 => (some (decide (t269 ≥ 0)))
theorem slices_Contains_int_int.mono : ∀ a0 a1 k, LeO (slices_Contains_int_int.f k a0 a1) (slices_Contains_int_int.f (k + 1) a0 a1) := by
 intro a0 a1 k
 unfold slices_Contains_int_int.f
 repeat' first
   | (with_reducible exact slices_Index_int_int.mono _ _ _)
   | (with_reducible exact LeO.refl _)
   | (with_reducible exact LeO.none _)
   | (with_reducible refine LeO.ite ?_ ?_)
   | (with_reducible refine LeO.bind ?_ (fun _ => ?_))
   | exact slices_Index_int_int.mono _ _ _
   | exact LeO.none _
   | refine LeO.ite ?_ ?_
   | refine LeO.bind ?_ (fun _ => ?_)
set_option maxHeartbeats 8000000 in
set_option maxRecDepth 100000 in
theorem slices_Contains_int_int.calls (k : Nat) (A0 : Option Addr) (c0 : Nat) (l0 : List Int) (a1 : Int) (r : Bool) (w : World) (hr0 : Kd.C (Kd.int .i64) w A0 l0.length l0) (hc0 : l0.length ≤ c0) (h : slices_Contains_int_int.f k l0 a1 = some r) :
  Calls Try.prog 65 #[.slice A0 l0.length c0, .int .i64 a1] w fun e w' => e = .returned (.bool r) ∧ Drawn0 w w' := by
 have HR0 := Am hr0
 have HC0 := Am hc0
 clear hr0 hc0
 have H : ((slices_Index_int_int.f k l0 a1).bind fun t269 => (some (decide (t269 ≥ 0)))) = some r := h
 clear h
 replace H := Option.bind_eq_some_iff.mp H
 obtain ⟨t269, A30, H⟩ := H
 replace H : (some (decide (t269 ≥ 0))) = some r := H
 have A3 := Am A30
 clear A30
 obtain rfl := Option.some.inj H
 go_enter Try.func65, Try.ntmps65
 go_wp2_with (first | ((refine Gc (f := 90) rfl ?_); refine goesL_ (some 7) rfl rfl Try.func90 (by kernel_rfl) rfl #[.slice A0 l0.length c0, .int .i64 a1] rfl (by first | rfl | (simp only [List.map_toArray, List.map_cons, List.map_nil]; first | done | rfl)) ?_; (with_reducible refine (slices_Index_int_int.calls k _ _ l0 a1 t269 _ ?side1 ?side2 A3.out).mono ?_); (case side1 => repeat (first | exact HR0.out | (with_reducible refine Kd.C_alloc ?_ _) | (with_reducible refine Kd.C_drewN ?_ _) | (with_reducible refine Kd.C_drew ?_))); (case side2 => exact HC0.out); rintro e w' ⟨rfl, ⟨nd, rfl⟩⟩; refine ⟨_, rfl, ?_⟩))
 go_ret
 exact ⟨by first | rfl | (simp; done) | (simp [*]; done), by repeat (first | exact Drawn0.refl _ | apply Drawn0.step)⟩
def impl_interfere_1.f (k : Nat) (a0 : Int) (a1_0 : Int) (a1_1 : Int) (a1_2 : Int) (a1_3 : Int) (a1_4 : Int) : Option (Bool) := (impl_touches.f a1_0 a1_1 a1_2 a1_3 a1_4).bind fun t271 => ((slices_Contains_int_int.f k t271 a0).bind fun t274 => (some t274))
theorem impl_interfere_1.mono : ∀ a0 a1 a2 a3 a4 a5 k, LeO (impl_interfere_1.f k a0 a1 a2 a3 a4 a5) (impl_interfere_1.f (k + 1) a0 a1 a2 a3 a4 a5) := by
 intro a0 a1 a2 a3 a4 a5 k
 unfold impl_interfere_1.f
 repeat' first
   | (with_reducible exact slices_Contains_int_int.mono _ _ _)
   | (with_reducible exact LeO.refl _)
   | (with_reducible exact LeO.none _)
   | (with_reducible refine LeO.ite ?_ ?_)
   | (with_reducible refine LeO.bind ?_ (fun _ => ?_))
   | exact slices_Contains_int_int.mono _ _ _
   | exact LeO.none _
   | refine LeO.ite ?_ ?_
   | refine LeO.bind ?_ (fun _ => ?_)
set_option maxHeartbeats 8000000 in
set_option maxRecDepth 100000 in
theorem impl_interfere_1.calls (k : Nat) (a0 : Int) (gq1 : Nat) (a1_0 : Int) (a1_1 : Int) (a1_2 : Int) (a1_3 : Int) (a1_4 : Int) (r : Bool) (w : World) (hb1 : w.heap[gq1]? = some (.cells #[.int .i64 a1_0, .int .i64 a1_1, .int .i64 a1_2, .int .i64 a1_3, .int .i64 a1_4] 28 (0, 0))) (h : impl_interfere_1.f k a0 a1_0 a1_1 a1_2 a1_3 a1_4 = some r) :
  Calls Try.prog 64 #[.int .i64 a0, .pointer (some ⟨gq1, 0, none⟩)] w fun e w' => e = .returned (.bool r) ∧ Below w.heap.size w w' := by
 have hu28 := Try.underlying28
 have BK270 := Am hb1
 clear hb1
 have HB := Am (Below.refl w.heap.size w)
 have H : ((impl_touches.f a1_0 a1_1 a1_2 a1_3 a1_4).bind fun t271 => ((slices_Contains_int_int.f k t271 a0).bind fun t274 => (some t274))) = some r := h
 clear h
 replace H := Option.bind_eq_some_iff.mp H
 obtain ⟨t271, A30, H⟩ := H
 replace H : ((slices_Contains_int_int.f k t271 a0).bind fun t274 => (some t274)) = some r := H
 have A3 := Am A30
 clear A30
 replace H := Option.bind_eq_some_iff.mp H
 obtain ⟨t274, A40, H⟩ := H
 replace H : (some t274) = some r := H
 have A4 := Am A40
 clear A40
 obtain rfl := Option.some.inj H
 have hcz5_0 : w.cell? ⟨gq1, 0, none⟩ = some (.int .i64 a1_0) := (Kc BK270.out 0).trans rfl
 have hcz5_1 : w.cell? ⟨gq1, 1, none⟩ = some (.int .i64 a1_1) := (Kc BK270.out 1).trans rfl
 have hcz5_2 : w.cell? ⟨gq1, 2, none⟩ = some (.int .i64 a1_2) := (Kc BK270.out 2).trans rfl
 have hcz5_3 : w.cell? ⟨gq1, 3, none⟩ = some (.int .i64 a1_3) := (Kc BK270.out 3).trans rfl
 have hcz5_4 : w.cell? ⟨gq1, 4, none⟩ = some (.int .i64 a1_4) := (Kc BK270.out 4).trans rfl
 have hfz5_0 := Kz BK270.out 0
 have hfz5_1 := Kz BK270.out 1
 have hfz5_2 := Kz BK270.out 2
 have hfz5_3 := Kz BK270.out 3
 have hfz5_4 := Kz BK270.out 4
 go_enter Try.func64, Try.ntmps64
 go_wp2_with (first | ((refine Gc (f := 63) rfl ?_); refine goesL_ (some 5) rfl rfl Try.func63 (by kernel_rfl) rfl #[.agg #[.int .i64 a1_0, .int .i64 a1_1, .int .i64 a1_2, .int .i64 a1_3, .int .i64 a1_4]] rfl (by first | rfl | (simp only [List.map_toArray, List.map_cons, List.map_nil]; first | done | rfl)) ?_; (with_reducible refine (impl_touches.calls a1_0 a1_1 a1_2 a1_3 a1_4 t271 _ A3.out).mono ?_); rintro e w6 ⟨v272, rfl, ho0, hb⟩; refine ⟨_, rfl, ?_⟩; have n0_ := Am (Kd.R_lower ho0 (Bz (by repeat (first | (with_reducible first | exact HB.out | apply Ba | apply Bn | apply Bd | refine Bs ?_ GE270.out) | exact HB.out)))); have n1_ := Am (Kb (g := gq1) (o := .cells #[.int .i64 a1_0, .int .i64 a1_1, .int .i64 a1_2, .int .i64 a1_3, .int .i64 a1_4] 28 (0, 0)) (by (with_reducible repeat (first | refine Kn ?_ _ | refine Ke ?_ | refine Ka ?_ _)); exact BK270.out) hb); have n2_ := Am (Bt (by repeat (first | (with_reducible first | exact HB.out | apply Ba | apply Bn | apply Bd | refine Bs ?_ GE270.out) | exact HB.out)) hb); clear BK270; clear HB; have HO273 := n0_; have BK270 := n1_; have HB := n2_; clear n0_ n1_ n2_; (try clear hb); (try clear hb2); (try clear hk); (try clear hi); (try clear ho0); obtain ⟨Ao7, co7, eo7⟩ := Kd.R_slice HO273.out; subst eo7) | ((refine Gc (f := 65) rfl ?_); refine goesL_ (some 7) rfl rfl Try.func65 (by kernel_rfl) rfl #[.slice Ao7 t271.length co7, .int .i64 a0] rfl (by first | rfl | (simp only [List.map_toArray, List.map_cons, List.map_nil]; first | done | rfl)) ?_; (with_reducible refine (slices_Contains_int_int.calls k _ _ t271 a0 t274 _ ?side1 ?side2 A4.out).mono ?_); (case side1 => repeat (first | exact (Kd.R_reads' HO273.out).2.2 | (with_reducible refine Kd.C_alloc ?_ _) | (with_reducible refine Kd.C_drewN ?_ _) | (with_reducible refine Kd.C_drew ?_))); (case side2 => exact (Kd.R_reads' HO273.out).2.1); rintro e w' ⟨rfl, ⟨nd, rfl⟩⟩; refine ⟨_, rfl, ?_⟩))
 go_ret
 exact ⟨by first | rfl | (simp [*, errW_none, errW_some] <;> rfl), by repeat (first | (with_reducible first | exact HB.out | apply Ba | apply Bn | apply Bd | refine Bs ?_ GE270.out) | exact HB.out)⟩
def impl_interfere_1_in_c.f (k : Nat) (l0 : List Int) (aa0_0 : Int) (aa0_1 : Int) (aa0_2 : Int) (aa0_3 : Int) (aa0_4 : Int) : Option Bool := Mine.anyO (fun x : Int => impl_interfere_1.f k x aa0_0 aa0_1 aa0_2 aa0_3 aa0_4) l0
theorem impl_interfere_1_in_c.mono : ∀ a0 b0 b1 b2 b3 b4 k, LeO (impl_interfere_1_in_c.f k a0 b0 b1 b2 b3 b4) (impl_interfere_1_in_c.f (k + 1) a0 b0 b1 b2 b3 b4) := by
 intro a0 b0 b1 b2 b3 b4 k
 unfold impl_interfere_1_in_c.f
 exact Mine.anyO_mono (fun (x : Int) b_ hb_ => impl_interfere_1.mono x b0 b1 b2 b3 b4 k b_ hb_) a0
set_option maxHeartbeats 2000000 in
theorem impl_interfere_1_in_c.calls (k : Nat) (A0 : Option Addr) (c0 : Nat) (l0 : List Int) (gq0 : Nat) (aa0_0 : Int) (aa0_1 : Int) (aa0_2 : Int) (aa0_3 : Int) (aa0_4 : Int) (r : Bool) (w : World) (hr0 : Kd.C (Kd.int .i64) w A0 l0.length l0) (hc0 : l0.length ≤ c0) (hb0 : w.heap[gq0]? = some (.cells #[.int .i64 aa0_0, .int .i64 aa0_1, .int .i64 aa0_2, .int .i64 aa0_3, .int .i64 aa0_4] 28 (0, 0))) (h : impl_interfere_1_in_c.f k l0 aa0_0 aa0_1 aa0_2 aa0_3 aa0_4 = some r) :
  Calls Try.prog 62 #[.slice A0 l0.length c0, .func (.func 64) #[] #[.pointer (some ⟨gq0, 0, none⟩)]] w fun e w' => e = .returned (.bool r) ∧ Below w.heap.size w w' :=
 slices_ContainsFunc_int_int.anyO 64 #[.pointer (some ⟨gq0, 0, none⟩)] (fun x : Int => impl_interfere_1.f k x aa0_0 aa0_1 aa0_2 aa0_3 aa0_4) A0 c0 l0 w r (fun args w => enters_ Try.func64 (by kernel_rfl) rfl args w) hr0 hc0
  (fun W x hx bW b hb_ => (impl_interfere_1.calls k x gq0 aa0_0 aa0_1 aa0_2 aa0_3 aa0_4 b W (Kb hb0 bW) hb_).mono (fun e w' hh => ⟨hh.1, hh.2⟩)) h
def impl_interfere.f (k : Nat) (a0_0 : Int) (a0_1 : Int) (a0_2 : Int) (a0_3 : Int) (a0_4 : Int) (a1_0 : Int) (a1_1 : Int) (a1_2 : Int) (a1_3 : Int) (a1_4 : Int) : Option (Bool) := (impl_touches.f a0_0 a0_1 a0_2 a0_3 a0_4).bind fun t277 => ((impl_interfere_1_in_c.f k t277 a1_0 a1_1 a1_2 a1_3 a1_4).bind fun t280 => (some t280))
theorem impl_interfere.mono : ∀ a0 a1 a2 a3 a4 a5 a6 a7 a8 a9 k, LeO (impl_interfere.f k a0 a1 a2 a3 a4 a5 a6 a7 a8 a9) (impl_interfere.f (k + 1) a0 a1 a2 a3 a4 a5 a6 a7 a8 a9) := by
 intro a0 a1 a2 a3 a4 a5 a6 a7 a8 a9 k
 unfold impl_interfere.f
 repeat' first
   | (with_reducible exact impl_interfere_1_in_c.mono _ _ _ _ _ _ _)
   | (with_reducible exact LeO.refl _)
   | (with_reducible exact LeO.none _)
   | (with_reducible refine LeO.ite ?_ ?_)
   | (with_reducible refine LeO.bind ?_ (fun _ => ?_))
   | exact impl_interfere_1_in_c.mono _ _ _ _ _ _ _
   | exact LeO.none _
   | refine LeO.ite ?_ ?_
   | refine LeO.bind ?_ (fun _ => ?_)
set_option maxHeartbeats 8000000 in
set_option maxRecDepth 100000 in
theorem impl_interfere.calls (k : Nat) (a0_0 : Int) (a0_1 : Int) (a0_2 : Int) (a0_3 : Int) (a0_4 : Int) (a1_0 : Int) (a1_1 : Int) (a1_2 : Int) (a1_3 : Int) (a1_4 : Int) (r : Bool) (w : World) (h : impl_interfere.f k a0_0 a0_1 a0_2 a0_3 a0_4 a1_0 a1_1 a1_2 a1_3 a1_4 = some r) :
  Calls Try.prog 28 #[.agg #[.int .i64 a0_0, .int .i64 a0_1, .int .i64 a0_2, .int .i64 a0_3, .int .i64 a0_4], .agg #[.int .i64 a1_0, .int .i64 a1_1, .int .i64 a1_2, .int .i64 a1_3, .int .i64 a1_4]] w fun e w' => e = .returned (.bool r) ∧ Below w.heap.size w w' := by
 have hu28 := Try.underlying28
 have HB := Am (Below.refl w.heap.size w)
 have H : ((impl_touches.f a0_0 a0_1 a0_2 a0_3 a0_4).bind fun t277 => ((impl_interfere_1_in_c.f k t277 a1_0 a1_1 a1_2 a1_3 a1_4).bind fun t280 => (some t280))) = some r := h
 clear h
 replace H := Option.bind_eq_some_iff.mp H
 obtain ⟨t277, A30, H⟩ := H
 replace H : ((impl_interfere_1_in_c.f k t277 a1_0 a1_1 a1_2 a1_3 a1_4).bind fun t280 => (some t280)) = some r := H
 have A3 := Am A30
 clear A30
 replace H := Option.bind_eq_some_iff.mp H
 obtain ⟨t280, A40, H⟩ := H
 replace H : (some t280) = some r := H
 have A4 := Am A40
 clear A40
 obtain rfl := Option.some.inj H
 go_enter Try.func28, Try.ntmps28
 go_wp2_with (first | ((refine Gd (N := 2) rfl ?_); refine Be ?hg (N := 2) ?hd (cs := #[.int .i64 a0_0, .int .i64 a0_1, .int .i64 a0_2, .int .i64 a0_3, .int .i64 a0_4]) (t := 28) ?hr ?_; (case hd | hg => rfl); (case hr => first | (go_simp; done) | (go_simp; rfl)); intro gb275 hg w5 hbox hb; have n0_ := Am (Bt (by repeat (first | exact HB.out | apply Ba | apply Bn | apply Bd)) hb); have n1_ := Am (hbox); have n2_ := Am ((by rw [hg]; exact (Bz (by repeat (first | exact HB.out | apply Ba | apply Bn | apply Bd))) : w.heap.size ≤ gb275)); have n3_ := Am ((by rw [hg]; exact (Bz (by repeat (first | exact HB.out | apply Ba | apply Bn | apply Bd))) : w.heap.size ≤ gb275)); clear HB; have HB := n0_; have BK275 := n1_; have GW275 := n2_; have GE275 := n3_; clear n0_ n1_ n2_ n3_; clear hb hbox hg) | ((refine Gd (N := 3) rfl ?_); refine Be ?hg (N := 3) ?hd (cs := #[.int .i64 a1_0, .int .i64 a1_1, .int .i64 a1_2, .int .i64 a1_3, .int .i64 a1_4]) (t := 28) ?hr ?_; (case hd | hg => rfl); (case hr => first | (go_simp; done) | (go_simp; rfl)); intro gb276 hg w6 hbox hb; have n0_ := Am (Kb (g := gb275) (o := .cells #[.int .i64 a0_0, .int .i64 a0_1, .int .i64 a0_2, .int .i64 a0_3, .int .i64 a0_4] 28 (0, 0)) (by (with_reducible repeat (first | refine Kn ?_ _ | refine Ke ?_ | refine Ka ?_ _)); exact BK275.out) hb); have n1_ := Am (Bt (by repeat (first | (with_reducible first | exact HB.out | apply Ba | apply Bn | apply Bd | refine Bs ?_ GE275.out) | exact HB.out)) hb); have n2_ := Am (hbox); have n3_ := Am ((by rw [hg]; exact (Bz (by repeat (first | (with_reducible first | exact HB.out | apply Ba | apply Bn | apply Bd | refine Bs ?_ GE275.out) | exact HB.out))) : w.heap.size ≤ gb276)); have n4_ := Am ((by rw [hg]; exact (Bz (by repeat (first | (with_reducible first | exact HB.out | apply Ba | apply Bn | apply Bd | refine Bs ?_ GE275.out) | exact HB.out))) : w.heap.size ≤ gb276)); have n5_ := Am ((by rw [hg]; exact Nat.ne_of_lt (blk_lt (g := gb275) (o := .cells #[.int .i64 a0_0, .int .i64 a0_1, .int .i64 a0_2, .int .i64 a0_3, .int .i64 a0_4] 28 (0, 0)) (by (with_reducible repeat (first | refine Kn ?_ _ | refine Ke ?_ | refine Ka ?_ _)); exact BK275.out)) : gb275 ≠ gb276)); have n6_ := Am ((by rw [hg]; exact Nat.ne_of_gt (blk_lt (g := gb275) (o := .cells #[.int .i64 a0_0, .int .i64 a0_1, .int .i64 a0_2, .int .i64 a0_3, .int .i64 a0_4] 28 (0, 0)) (by (with_reducible repeat (first | refine Kn ?_ _ | refine Ke ?_ | refine Ka ?_ _)); exact BK275.out)) : gb276 ≠ gb275)); clear BK275; clear HB; have BK275 := n0_; have HB := n1_; have BK276 := n2_; have GW276 := n3_; have GE276 := n4_; have NB275_276 := n5_; have NB276_275 := n6_; clear n0_ n1_ n2_ n3_ n4_ n5_ n6_; clear hb hbox hg; have hnb7 := NB275_276.out; have hnc7 := NB276_275.out; have hcz8_0 : w6.cell? ⟨gb275, 0, none⟩ = some (.int .i64 a0_0) := (Kc BK275.out 0).trans rfl; have hcz8_1 : w6.cell? ⟨gb275, 1, none⟩ = some (.int .i64 a0_1) := (Kc BK275.out 1).trans rfl; have hcz8_2 : w6.cell? ⟨gb275, 2, none⟩ = some (.int .i64 a0_2) := (Kc BK275.out 2).trans rfl; have hcz8_3 : w6.cell? ⟨gb275, 3, none⟩ = some (.int .i64 a0_3) := (Kc BK275.out 3).trans rfl; have hcz8_4 : w6.cell? ⟨gb275, 4, none⟩ = some (.int .i64 a0_4) := (Kc BK275.out 4).trans rfl; have hfz8_0 := Kz BK275.out 0; have hfz8_1 := Kz BK275.out 1; have hfz8_2 := Kz BK275.out 2; have hfz8_3 := Kz BK275.out 3; have hfz8_4 := Kz BK275.out 4) | ((refine Gc (f := 63) rfl ?_); refine goesL_ (some 6) rfl rfl Try.func63 (by kernel_rfl) rfl #[.agg #[.int .i64 a0_0, .int .i64 a0_1, .int .i64 a0_2, .int .i64 a0_3, .int .i64 a0_4]] rfl (by first | rfl | (simp only [List.map_toArray, List.map_cons, List.map_nil]; first | done | rfl)) ?_; (with_reducible refine (impl_touches.calls a0_0 a0_1 a0_2 a0_3 a0_4 t277 _ A3.out).mono ?_); rintro e w9 ⟨v278, rfl, ho0, hb⟩; refine ⟨_, rfl, ?_⟩; have n0_ := Am (Kd.R_lower ho0 (Bz (by repeat (first | (with_reducible first | exact HB.out | apply Ba | apply Bn | apply Bd | refine Bs ?_ GE275.out | refine Bs ?_ GE276.out) | exact HB.out)))); have n1_ := Am (Kb (g := gb275) (o := .cells #[.int .i64 a0_0, .int .i64 a0_1, .int .i64 a0_2, .int .i64 a0_3, .int .i64 a0_4] 28 (0, 0)) (by (with_reducible repeat (first | refine Kn ?_ _ | refine Ke ?_ | refine Ka ?_ _)); exact BK275.out) hb); have n2_ := Am (Kb (g := gb276) (o := .cells #[.int .i64 a1_0, .int .i64 a1_1, .int .i64 a1_2, .int .i64 a1_3, .int .i64 a1_4] 28 (0, 0)) (by (with_reducible repeat (first | refine Kn ?_ _ | refine Ke ?_ | refine Ka ?_ _)); exact BK276.out) hb); have n3_ := Am (Bt (by repeat (first | (with_reducible first | exact HB.out | apply Ba | apply Bn | apply Bd | refine Bs ?_ GE275.out | refine Bs ?_ GE276.out) | exact HB.out)) hb); clear BK275; clear BK276; clear HB; have HO279 := n0_; have BK275 := n1_; have BK276 := n2_; have HB := n3_; clear n0_ n1_ n2_ n3_; (try clear hb); (try clear hb2); (try clear hk); (try clear hi); (try clear ho0); obtain ⟨Ao10, co10, eo10⟩ := Kd.R_slice HO279.out; subst eo10) | ((refine Gc (f := 62) rfl ?_); refine goesL_ (some 8) rfl rfl Try.func62 (by kernel_rfl) rfl #[.slice Ao10 t277.length co10, .func (.func 64) #[] #[.pointer (some ⟨gb276, 0, none⟩)]] rfl (by first | rfl | (simp only [List.map_toArray, List.map_cons, List.map_nil]; first | done | rfl)) ?_; (with_reducible refine (impl_interfere_1_in_c.calls k _ _ t277 gb276 a1_0 a1_1 a1_2 a1_3 a1_4 t280 _ ?side1 ?side2 ?side3 A4.out).mono ?_); (case side1 => repeat (first | exact (Kd.R_reads' HO279.out).2.2 | (with_reducible refine Kd.C_alloc ?_ _) | (with_reducible refine Kd.C_drewN ?_ _) | (with_reducible refine Kd.C_drew ?_))); (case side2 => exact (Kd.R_reads' HO279.out).2.1); (case side3 => exact by (with_reducible repeat (first | refine Kn ?_ _ | refine Ke ?_ | refine Ka ?_ _)); exact BK276.out); rintro e w11 ⟨rfl, hb⟩; refine ⟨_, rfl, ?_⟩; have n0_ := Am (Kd.R_below (by (with_reducible repeat (first | apply Ra | apply Rn | apply Rd)); exact HO279.out) hb); have n1_ := Am (Kb (g := gb275) (o := .cells #[.int .i64 a0_0, .int .i64 a0_1, .int .i64 a0_2, .int .i64 a0_3, .int .i64 a0_4] 28 (0, 0)) (by (with_reducible repeat (first | refine Kn ?_ _ | refine Ke ?_ | refine Ka ?_ _)); exact BK275.out) hb); have n2_ := Am (Kb (g := gb276) (o := .cells #[.int .i64 a1_0, .int .i64 a1_1, .int .i64 a1_2, .int .i64 a1_3, .int .i64 a1_4] 28 (0, 0)) (by (with_reducible repeat (first | refine Kn ?_ _ | refine Ke ?_ | refine Ka ?_ _)); exact BK276.out) hb); have n3_ := Am (Bt (by repeat (first | (with_reducible first | exact HB.out | apply Ba | apply Bn | apply Bd | refine Bs ?_ GE275.out | refine Bs ?_ GE276.out) | exact HB.out)) hb); clear HO279; clear BK275; clear BK276; clear HB; have HO279 := n0_; have BK275 := n1_; have BK276 := n2_; have HB := n3_; clear n0_ n1_ n2_ n3_; (try clear hb); (try clear hb2); (try clear hk); (try clear hi)))
 go_ret
 exact ⟨by first | rfl | (simp [*, errW_none, errW_some] <;> rfl), by repeat (first | (with_reducible first | exact HB.out | apply Ba | apply Bn | apply Bd | refine Bs ?_ GE275.out | refine Bs ?_ GE276.out) | exact HB.out)⟩
def impl_Table_attrFor_1.Rel (go gr gn gc g8 B : Nat) (rep no : Int) (c : S28) (w0 : World) (s : Int × List Int) (W : World) : Prop :=
 ∃ v, W.heap[go]? = some (.cells #[.int .i64 s.1, v] 33 (0, 0)) ∧ Kd.R (Kd.int .i64) 3 W B (fun _ => True) v s.2 ∧ W.heap[gr]? = some (.cells #[.int .i64 rep] 3 (0, 0)) ∧ W.heap[gn]? = some (.cells #[.int .i64 no] 3 (0, 0)) ∧ W.heap[gc]? = some (.cells #[.int .i64 c.f0, .int .i64 c.f1, .int .i64 c.f2, .int .i64 c.f3, .int .i64 c.f4] 28 (0, 0)) ∧ W.heap[g8]? = some (.cells #[.int .i64 0, .slice none 0 0] 33 (0, 0)) ∧ Below w0.heap.size w0 W ∧ (gr < B ∧ gn < B ∧ w0.heap.size ≤ B ∧ w0.heap.size ≤ go ∧ g8 ≠ go)
theorem impl_Table_attrFor_1.mono {go gr gn gc g8 B : Nat} {rep no : Int} {c : S28} {w0 W W' : World} {s : Int × List Int} (h : impl_Table_attrFor_1.Rel go gr gn gc g8 B rep no c w0 s W) (hb : Below W.heap.size W W') : impl_Table_attrFor_1.Rel go gr gn gc g8 B rep no c w0 s W' := by
 obtain ⟨v, h1, h2, h3, h4, h5, h8, h6, h7⟩ := h
 exact ⟨v, Kb h1 hb, Kd.R_below h2 hb, Kb h3 hb, Kb h4 hb, Kb h5 hb, Kb h8 hb, below_then h6 h6.size hb, h7⟩
def impl_Table_attrFor_1.stepA (K : Nat) (rep no : Int) (c : S28) (s : Int × List Int) (i j : Int) (x : S39) : Option (Int × List Int) :=
 if (i = rep ∧ j = no) ∨ x.f2 = 0 then some s else (impl_interfere.f K x.f3.f0 x.f3.f1 x.f3.f2 x.f3.f3 x.f3.f4 c.f0 c.f1 c.f2 c.f3 c.f4).bind fun b => if b = true then (if 0 ≤ i ∧ i < (s.2.length : Int) then some (if s.1 < x.f4.f0 then x.f4.f0 else s.1, s.2.set i.toNat (if s.2.getD i.toNat 0 < j then j else s.2.getD i.toNat 0)) else none) else some s
set_option maxHeartbeats 4000000 in
set_option maxRecDepth 100000 in
theorem impl_Table_attrFor_1.closed (K : Nat) (go gr gn gc g8 B : Nat) (rep no : Int) (c : S28) (w0 : World) (s s' : Int × List Int) (i j : Int) (x : S39) (A9 : Option Addr) (c9 : Nat) (W : World) (hrel : impl_Table_attrFor_1.Rel go gr gn gc g8 B rep no c w0 s W) (h : impl_Table_attrFor_1.stepA K rep no c s i j x = some s') :
  Calls Try.prog 56 #[.int .i64 i, .int .i64 j, .agg #[.int .i64 x.f0, .int .i64 x.f1, .int .i64 x.f2, .int .i64 x.f3.f0, .int .i64 x.f3.f1, .int .i64 x.f3.f2, .int .i64 x.f3.f3, .int .i64 x.f3.f4, .int .i64 x.f4.f0, .slice A9 x.f4.f1.length c9], .pointer (some ⟨gr, 0, none⟩), .pointer (some ⟨gn, 0, none⟩), .pointer (some ⟨gc, 0, none⟩), .pointer (some ⟨go, 0, none⟩)] W fun e W' => e = .returned (.tuple #[]) ∧ impl_Table_attrFor_1.Rel go gr gn gc g8 B rep no c w0 s' W' := by
 have hu := Try.underlying39
 have hu2 := Try.underlying28
 have HR := Am hrel
 have HI := Am h
 clear hrel h
 go_enter Try.func56, Try.ntmps56
 go_upto_region 1 with (fail)
 refine letC (fun W_ => Below W.heap.size W W_ ∧ W_.heap[W.heap.size]? = some (.cells #[.int .i64 x.f0, .int .i64 x.f1, .int .i64 x.f2, .int .i64 x.f3.f0, .int .i64 x.f3.f1, .int .i64 x.f3.f2, .int .i64 x.f3.f3, .int .i64 x.f3.f4, .int .i64 x.f4.f0, .slice A9 x.f4.f1.length c9] 39 (0, 0))) ⟨Ba (Below.refl _ _) _, blk_new W (.cells #[.int .i64 x.f0, .int .i64 x.f1, .int .i64 x.f2, .int .i64 x.f3.f0, .int .i64 x.f3.f1, .int .i64 x.f3.f2, .int .i64 x.f3.f3, .int .i64 x.f3.f4, .int .i64 x.f4.f0, .slice A9 x.f4.f1.length c9] 39)⟩ ?_
 rintro W1 ⟨hb, hx⟩
 have HR1 := Am (impl_Table_attrFor_1.mono HR.out hb)
 have HX1 := Am hx
 clear hb hx HR
 have qr : W1.cell? ⟨gr, 0, none⟩ = some (.int .i64 rep) := (Kc HR1.out.choose_spec.2.2.1 0).trans rfl
 have qn : W1.cell? ⟨gn, 0, none⟩ = some (.int .i64 no) := (Kc HR1.out.choose_spec.2.2.2.1 0).trans rfl
 have qc0 : W1.cell? ⟨gc, 0, none⟩ = some (.int .i64 c.f0) := (Kc HR1.out.choose_spec.2.2.2.2.1 0).trans rfl
 have qc1 : W1.cell? ⟨gc, 1, none⟩ = some (.int .i64 c.f1) := (Kc HR1.out.choose_spec.2.2.2.2.1 1).trans rfl
 have qc2 : W1.cell? ⟨gc, 2, none⟩ = some (.int .i64 c.f2) := (Kc HR1.out.choose_spec.2.2.2.2.1 2).trans rfl
 have qc3 : W1.cell? ⟨gc, 3, none⟩ = some (.int .i64 c.f3) := (Kc HR1.out.choose_spec.2.2.2.2.1 3).trans rfl
 have qc4 : W1.cell? ⟨gc, 4, none⟩ = some (.int .i64 c.f4) := (Kc HR1.out.choose_spec.2.2.2.2.1 4).trans rfl
 have qx0 : W1.cell? ⟨W.heap.size, 0, none⟩ = some (.int .i64 x.f0) := (Kc HX1.out 0).trans rfl
 have qx1 : W1.cell? ⟨W.heap.size, 1, none⟩ = some (.int .i64 x.f1) := (Kc HX1.out 1).trans rfl
 have qx2 : W1.cell? ⟨W.heap.size, 2, none⟩ = some (.int .i64 x.f2) := (Kc HX1.out 2).trans rfl
 have qx3 : W1.cell? ⟨W.heap.size, 3, none⟩ = some (.int .i64 x.f3.f0) := (Kc HX1.out 3).trans rfl
 have qx4 : W1.cell? ⟨W.heap.size, 4, none⟩ = some (.int .i64 x.f3.f1) := (Kc HX1.out 4).trans rfl
 have qx5 : W1.cell? ⟨W.heap.size, 5, none⟩ = some (.int .i64 x.f3.f2) := (Kc HX1.out 5).trans rfl
 have qx6 : W1.cell? ⟨W.heap.size, 6, none⟩ = some (.int .i64 x.f3.f3) := (Kc HX1.out 6).trans rfl
 have qx7 : W1.cell? ⟨W.heap.size, 7, none⟩ = some (.int .i64 x.f3.f4) := (Kc HX1.out 7).trans rfl
 unfold impl_Table_attrFor_1.stepA at HI
 by_cases hsk : (i = rep ∧ j = no) ∨ x.f2 = 0
 ·have HE : Ad (s = s') := ⟨by have h_ := HI.out; rw [if_pos hsk] at h_; exact Option.some.inj h_⟩
  clear HI
  by_cases hi : i = rep
  ·have ei : (i == rep) = true := by rw [hi]; simp
   have ni : (i != rep) = false := by rw [hi]; simp
   by_cases hj : j = no
   ·have ej : (j == no) = true := by rw [hj]; simp
    have nj : (j != no) = false := by rw [hj]; simp
    clear hsk hi hj
    go_wp2
    go_end0
    exact ⟨rfl, by rw [← HE.out]; exact HR1.out⟩
   ·have ej : (j == no) = false := by rw [beq_eq_false_iff_ne]; exact hj
    have nj : (j != no) = true := by simp [bne, ej]
    have h2 : x.f2 = 0 := by rcases hsk with ⟨_, h⟩ | h; exact absurd h hj; exact h
    have e2 : (x.f2 == 0) = true := by rw [h2]; rfl
    have n2 : (x.f2 != 0) = false := by rw [h2]; rfl
    clear hsk hi hj h2
    go_wp2
    go_end0
    exact ⟨rfl, by rw [← HE.out]; exact HR1.out⟩
  ·have ei : (i == rep) = false := by rw [beq_eq_false_iff_ne]; exact hi
   have ni : (i != rep) = true := by simp [bne, ei]
   have h2 : x.f2 = 0 := by rcases hsk with ⟨h, _⟩ | h; exact absurd h hi; exact h
   have e2 : (x.f2 == 0) = true := by rw [h2]; rfl
   have n2 : (x.f2 != 0) = false := by rw [h2]; rfl
   clear hsk hi h2
   go_wp2
   go_end0
   exact ⟨rfl, by rw [← HE.out]; exact HR1.out⟩
 ·cases hq : impl_interfere.f K x.f3.f0 x.f3.f1 x.f3.f2 x.f3.f3 x.f3.f4 c.f0 c.f1 c.f2 c.f3 c.f4 with
  | none => exact absurd HI.out (by rw [if_neg hsk, hq]; simp)
  | some b =>
  have HF := Am hq
  have HI : Ad ((if b = true then (if 0 ≤ i ∧ i < (s.2.length : Int) then some (if s.1 < x.f4.f0 then x.f4.f0 else s.1, s.2.set i.toNat (if s.2.getD i.toNat 0 < j then j else s.2.getD i.toNat 0)) else none) else some s) = some s') := ⟨by have h_ := HI.out; rw [if_neg hsk, hq, Option.bind_some] at h_; exact h_⟩
  have h2 : ¬ x.f2 = 0 := fun h => hsk (.inr h)
  have e2 : (x.f2 == 0) = false := by rw [beq_eq_false_iff_ne]; exact h2
  have n2 : (x.f2 != 0) = true := by simp [bne, e2]
  clear hq h2
  by_cases hi : i = rep
  ·have ei : (i == rep) = true := by rw [hi]; simp
   have ni : (i != rep) = false := by rw [hi]; simp
   have hj : ¬ j = no := fun h => hsk (.inl ⟨hi, h⟩)
   have ej : (j == no) = false := by rw [beq_eq_false_iff_ne]; exact hj
   have nj : (j != no) = true := by simp [bne, ej]
   clear hsk hi hj
   go_wp2_with fail
   refine (impl_interfere.calls K x.f3.f0 x.f3.f1 x.f3.f2 x.f3.f3 x.f3.f4 c.f0 c.f1 c.f2 c.f3 c.f4 b W1 HF.out).mono ?_
   rintro e W2 ⟨rfl, hb⟩
   have HR2 := Am (impl_Table_attrFor_1.mono HR1.out hb)
   have HX2 := Am (Kb HX1.out hb)
   clear hb HR1 HX1 qr qn qc0 qc1 qc2 qc3 qc4 qx0 qx1 qx2 qx3 qx4 qx5 qx6 qx7
   cases b with
   | false =>
    have HE : Ad (s = s') := ⟨by simpa using HI.out⟩
    go_wp2
    go_end0
    exact ⟨rfl, by rw [← HE.out]; exact HR2.out⟩
   | true =>
    by_cases hb : 0 ≤ i ∧ i < (s.2.length : Int)
    ·have HE : Ad ((if s.1 < x.f4.f0 then x.f4.f0 else s.1, s.2.set i.toNat (if s.2.getD i.toNat 0 < j then j else s.2.getD i.toNat 0)) = s') := ⟨by have h_ := HI.out; rw [if_pos rfl, if_pos hb] at h_; exact Option.some.inj h_⟩
     obtain ⟨hi0, hi1⟩ := hb
     obtain ⟨v, ho, hr, hgr, hgn, hgc, hg8, hB, hbase⟩ := HR2.out
     obtain ⟨g, cap, rfl, hbg, hgl, cells, hcells⟩ := Kd.R_form hr (by omega)
     obtain ⟨ce, hcl, hM, hcc, hfr⟩ := Kd.R_elem hr 0 i hi0 hi1
     have hM' : ce = [.int .i64 (s.2.getD i.toNat 0)] := hM
     subst hM'
     have hd : W2.cell? ⟨g, i.toNat, none⟩ = some (.int .i64 (s.2.getD i.toNat 0)) := by simpa [Kd.int, Kd.scalar] using hcc 0 _ rfl
     have hf : W2.frozen? ⟨g, i.toNat, none⟩ = false := by simpa [Kd.int, Kd.scalar] using hfr 0
     have HPN := Am (Kd.R_putn (enc := Value.int .i64) (h1 := fun _ => rfl) hr i (if s.2.getD i.toNat 0 < j then j else s.2.getD i.toNat 0))
     have hng : go ≠ g := blk_ne ho hcells (by decide)
     have hng' : g ≠ go := fun e => hng e.symm
     have hnx : W.heap.size ≠ g := blk_ne HX2.out hcells (by decide)
     have hnx' : g ≠ W.heap.size := fun e => hnx e.symm
     have hnz : W.heap.size ≠ go := blk_ne HX2.out ho (by decide)
     have hnz' : go ≠ W.heap.size := fun e => hnz e.symm
     have hs0 : W2.cell? ⟨go, 0, none⟩ = some (.int .i64 s.1) := (Kc ho 0).trans rfl
     have hs1 : W2.cell? ⟨go, 1, none⟩ = some (.slice (some ⟨g, 0, none⟩) s.2.length cap) := (Kc ho 1).trans rfl
     have hsf : W2.frozen? ⟨go, 0, none⟩ = false := Kz ho 0
     have hx8 : W2.cell? ⟨W.heap.size, 8, none⟩ = some (.int .i64 x.f4.f0) := (Kc HX2.out 8).trans rfl
     have HO := Am ho
     have HGR := Am hgr
     have HGN := Am hgn
     have HGC := Am hgc
     have HG8 := Am hg8
     have HBB := Am hB
     have HBS := Am hbase
     have HBG := Am hbg
     have HCL := Am hcells
     clear hcl hM hcc hfr ho hr hgr hgn hgc hg8 hB hbase hbg hcells hgl HR2 HX2
     generalize s.2.getD i.toNat 0 = d at hd HE HPN
     go_wp2
     go_region
     go_end0
     refine ⟨rfl, ?_⟩
     rw [← HE.out]
     have hbs := HBS.out
     have hbg := HBG.out
     have hng := blk_ne HO.out HCL.out (by decide)
     have ho1 := Kf HO.out (p := ⟨g, i.toNat, none⟩) hng (.int .i64 (if d < j then j else d))
     exact ⟨_, Ke (blk_put ho1 0 _ rfl), Rd (Kd.R_set HPN.out ho1 (by decide) 0 _), Ke (Kf (Kf HGR.out (p := ⟨g, i.toNat, none⟩) (show gr ≠ g by omega) _) (blk_ne HGR.out HO.out (by decide)) _), Ke (Kf (Kf HGN.out (p := ⟨g, i.toNat, none⟩) (show gn ≠ g by omega) _) (blk_ne HGN.out HO.out (by decide)) _), Ke (Kf (Kf HGC.out (p := ⟨g, i.toNat, none⟩) (blk_ne HGC.out HCL.out (by decide)) _) (blk_ne HGC.out HO.out (by decide)) _), Ke (Kf (Kf HG8.out (p := ⟨g, i.toNat, none⟩) (blk_ne HG8.out HCL.out (by decide)) _) hbs.2.2.2.2 _), below_drew (Bs (Bs HBB.out (Nat.le_trans hbs.2.2.1 hbg)) hbs.2.2.2.1), hbs⟩
    ·exact absurd HI.out (by rw [if_pos rfl, if_neg hb]; simp)
  ·have ei : (i == rep) = false := by rw [beq_eq_false_iff_ne]; exact hi
   have ni : (i != rep) = true := by simp [bne, ei]
   clear hsk hi
   go_wp2_with fail
   refine (impl_interfere.calls K x.f3.f0 x.f3.f1 x.f3.f2 x.f3.f3 x.f3.f4 c.f0 c.f1 c.f2 c.f3 c.f4 b W1 HF.out).mono ?_
   rintro e W2 ⟨rfl, hb⟩
   have HR2 := Am (impl_Table_attrFor_1.mono HR1.out hb)
   have HX2 := Am (Kb HX1.out hb)
   clear hb HR1 HX1 qr qn qc0 qc1 qc2 qc3 qc4 qx0 qx1 qx2 qx3 qx4 qx5 qx6 qx7
   cases b with
   | false =>
    have HE : Ad (s = s') := ⟨by simpa using HI.out⟩
    go_wp2
    go_end0
    exact ⟨rfl, by rw [← HE.out]; exact HR2.out⟩
   | true =>
    by_cases hb : 0 ≤ i ∧ i < (s.2.length : Int)
    ·have HE : Ad ((if s.1 < x.f4.f0 then x.f4.f0 else s.1, s.2.set i.toNat (if s.2.getD i.toNat 0 < j then j else s.2.getD i.toNat 0)) = s') := ⟨by have h_ := HI.out; rw [if_pos rfl, if_pos hb] at h_; exact Option.some.inj h_⟩
     obtain ⟨hi0, hi1⟩ := hb
     obtain ⟨v, ho, hr, hgr, hgn, hgc, hg8, hB, hbase⟩ := HR2.out
     obtain ⟨g, cap, rfl, hbg, hgl, cells, hcells⟩ := Kd.R_form hr (by omega)
     obtain ⟨ce, hcl, hM, hcc, hfr⟩ := Kd.R_elem hr 0 i hi0 hi1
     have hM' : ce = [.int .i64 (s.2.getD i.toNat 0)] := hM
     subst hM'
     have hd : W2.cell? ⟨g, i.toNat, none⟩ = some (.int .i64 (s.2.getD i.toNat 0)) := by simpa [Kd.int, Kd.scalar] using hcc 0 _ rfl
     have hf : W2.frozen? ⟨g, i.toNat, none⟩ = false := by simpa [Kd.int, Kd.scalar] using hfr 0
     have HPN := Am (Kd.R_putn (enc := Value.int .i64) (h1 := fun _ => rfl) hr i (if s.2.getD i.toNat 0 < j then j else s.2.getD i.toNat 0))
     have hng : go ≠ g := blk_ne ho hcells (by decide)
     have hng' : g ≠ go := fun e => hng e.symm
     have hnx : W.heap.size ≠ g := blk_ne HX2.out hcells (by decide)
     have hnx' : g ≠ W.heap.size := fun e => hnx e.symm
     have hnz : W.heap.size ≠ go := blk_ne HX2.out ho (by decide)
     have hnz' : go ≠ W.heap.size := fun e => hnz e.symm
     have hs0 : W2.cell? ⟨go, 0, none⟩ = some (.int .i64 s.1) := (Kc ho 0).trans rfl
     have hs1 : W2.cell? ⟨go, 1, none⟩ = some (.slice (some ⟨g, 0, none⟩) s.2.length cap) := (Kc ho 1).trans rfl
     have hsf : W2.frozen? ⟨go, 0, none⟩ = false := Kz ho 0
     have hx8 : W2.cell? ⟨W.heap.size, 8, none⟩ = some (.int .i64 x.f4.f0) := (Kc HX2.out 8).trans rfl
     have HO := Am ho
     have HGR := Am hgr
     have HGN := Am hgn
     have HGC := Am hgc
     have HG8 := Am hg8
     have HBB := Am hB
     have HBS := Am hbase
     have HBG := Am hbg
     have HCL := Am hcells
     clear hcl hM hcc hfr ho hr hgr hgn hgc hg8 hB hbase hbg hcells hgl HR2 HX2
     generalize s.2.getD i.toNat 0 = d at hd HE HPN
     go_wp2
     go_region
     go_end0
     refine ⟨rfl, ?_⟩
     rw [← HE.out]
     have hbs := HBS.out
     have hbg := HBG.out
     have hng := blk_ne HO.out HCL.out (by decide)
     have ho1 := Kf HO.out (p := ⟨g, i.toNat, none⟩) hng (.int .i64 (if d < j then j else d))
     exact ⟨_, Ke (blk_put ho1 0 _ rfl), Rd (Kd.R_set HPN.out ho1 (by decide) 0 _), Ke (Kf (Kf HGR.out (p := ⟨g, i.toNat, none⟩) (show gr ≠ g by omega) _) (blk_ne HGR.out HO.out (by decide)) _), Ke (Kf (Kf HGN.out (p := ⟨g, i.toNat, none⟩) (show gn ≠ g by omega) _) (blk_ne HGN.out HO.out (by decide)) _), Ke (Kf (Kf HGC.out (p := ⟨g, i.toNat, none⟩) (blk_ne HGC.out HCL.out (by decide)) _) (blk_ne HGC.out HO.out (by decide)) _), Ke (Kf (Kf HG8.out (p := ⟨g, i.toNat, none⟩) (blk_ne HG8.out HCL.out (by decide)) _) hbs.2.2.2.2 _), below_drew (Bs (Bs HBB.out (Nat.le_trans hbs.2.2.1 hbg)) hbs.2.2.2.1), hbs⟩
    ·exact absurd HI.out (by rw [if_pos rfl, if_neg hb]; simp)
end Go.Proofs.Ytilmcfdhijdhpaa.QFnAttrFor
