-- Written by a program of this session (wip/mk.py) over the kit's print: Lean checks it.
import Derived.Test.YtilmcfdhijdhpaaQFnExactGoodReplicax0
import Derived.Test.YtilmcfdhijdhpaaQFnExactGoodReplicax7
import Derived.Test.YtilmcfdhijdhpaaQFnExactGoodReplicax8
import Derived.Test.YtilmcfdhijdhpaaQFnExactGoodReplicax9
namespace Go.Proofs.Ytilmcfdhijdhpaa.QFnExactGoodReplica
open Go.Proofs.YtilmcfdhijdhpaaW.PrintWords renaming below_alloc → Ba, pw_below_drewN → Bn, below_drew1 → Bd, below_set → Bs, below_size → Bz, below_step → Bt, gate_dst → Gd, gate_callee → Gc, box_event → Be, blk_alloc → Ka, blk_drewN → Kn, blk_drew → Ke, blk_below → Kb, blk_cell → Kc, blk_frozen → Kz
open Go.Proofs.YtilmcfdhijdhpaaW.PrintWords.Aside0 renaming mk → Am
open Go.Proofs.YtilmcfdhijdhpaaW.PrintWords renaming Aside0 → Ad
open Go.RowKit Go.Proofs.YtilmcfdhijdhpaaW.PrintWords Go.Proofs.YtilmcfdhijdhpaaW.PrintLast Go.Proofs.YtilmcfdhijdhpaaW.PrintMore
attribute [local go_sem] max2_int min2_int max_two min_two max_three min_three max_four min_four   -- for this text's walks alone
open Go.Proofs.YtilmcfdhijdhpaaW.PrintWords.Kd renaming C_below → Cb
open Go.Proofs.YtilmcfdhijdhpaaW.PrintWords renaming blk_lt → Kl
set_option linter.unusedVariables false
set_option linter.unusedSimpArgs false
def impl_GoodTable_1_1.f (k : Nat) (a0_0 : Int) (a0_1 : Int) (a0_2 : Int) (a0_3 : Int) (a0_4 : Int) (a0_5 : Int) (a0_6 : Int) (a0_7 : Int) (a0_8 : Int) (l0_9 : List Int) (a1_0 : Int) (l1_1 : List (List (S39))) : Option (Bool) := (impl_goodRow.f k a1_0 a0_0 a0_1 a0_2 a0_3 a0_4 a0_5 a0_6 a0_7 a0_8 l0_9).bind fun t311 => (some (!t311))
theorem impl_GoodTable_1_1.mono : ∀ a0 a1 a2 a3 a4 a5 a6 a7 a8 a9 a10 a11 k, LeO (impl_GoodTable_1_1.f k a0 a1 a2 a3 a4 a5 a6 a7 a8 a9 a10 a11) (impl_GoodTable_1_1.f (k + 1) a0 a1 a2 a3 a4 a5 a6 a7 a8 a9 a10 a11) := by
 intro a0 a1 a2 a3 a4 a5 a6 a7 a8 a9 a10 a11 k
 unfold impl_GoodTable_1_1.f
 repeat' first
   | (with_reducible exact impl_goodRow.mono _ _ _ _ _ _ _ _ _ _ _ _)
   | (with_reducible exact LeO.refl _)
   | (with_reducible exact LeO.none _)
   | (with_reducible refine LeO.ite ?_ ?_)
   | (with_reducible refine LeO.bind ?_ (fun _ => ?_))
   | exact impl_goodRow.mono _ _ _ _ _ _ _ _ _ _ _ _
   | exact LeO.none _
   | refine LeO.ite ?_ ?_
   | refine LeO.bind ?_ (fun _ => ?_)
set_option maxHeartbeats 8000000 in
set_option maxRecDepth 100000 in
theorem impl_GoodTable_1_1.calls (k : Nat) (a0_0 : Int) (a0_1 : Int) (a0_2 : Int) (a0_3 : Int) (a0_4 : Int) (a0_5 : Int) (a0_6 : Int) (a0_7 : Int) (a0_8 : Int) (A0_9 : Option Addr) (c0_9 : Nat) (l0_9 : List Int) (gq1 : Nat) (a1_0 : Int) (A1_1 : Option Addr) (c1_1 : Nat) (l1_1 : List (List (S39))) (r : Bool) (w : World) (hr0_9 : Kd.C (Kd.int .i64) w A0_9 l0_9.length l0_9) (hc0_9 : l0_9.length ≤ c0_9) (hr1_1 : Kd.C (Kd.slice 39 k39) w A1_1 l1_1.length l1_1) (hc1_1 : l1_1.length ≤ c1_1) (hb1 : w.heap[gq1]? = some (.cells #[.int .i64 a1_0, .slice A1_1 l1_1.length c1_1] 26 (0, 0))) (h : impl_GoodTable_1_1.f k a0_0 a0_1 a0_2 a0_3 a0_4 a0_5 a0_6 a0_7 a0_8 l0_9 a1_0 l1_1 = some r) :
  Calls Try.prog 51 #[.agg #[.int .i64 a0_0, .int .i64 a0_1, .int .i64 a0_2, .int .i64 a0_3, .int .i64 a0_4, .int .i64 a0_5, .int .i64 a0_6, .int .i64 a0_7, .int .i64 a0_8, .slice A0_9 l0_9.length c0_9], .pointer (some ⟨gq1, 0, none⟩)] w fun e w' => e = .returned (.bool r) ∧ Below w.heap.size w w' := by
 have hu39 := Try.underlying39
 have HR0_9 := Am hr0_9
 have HC0_9 := Am hc0_9
 clear hr0_9 hc0_9
 have HR1_1 := Am hr1_1
 have HC1_1 := Am hc1_1
 clear hr1_1 hc1_1
 have BK309 := Am hb1
 clear hb1
 have HB := Am (Below.refl w.heap.size w)
 have H : ((impl_goodRow.f k a1_0 a0_0 a0_1 a0_2 a0_3 a0_4 a0_5 a0_6 a0_7 a0_8 l0_9).bind fun t311 => (some (!t311))) = some r := h
 clear h
 replace H := Option.bind_eq_some_iff.mp H
 obtain ⟨t311, A30, H⟩ := H
 replace H : (some (!t311)) = some r := H
 have A3 := Am A30
 clear A30
 obtain rfl := Option.some.inj H
 go_enter Try.func51, Try.ntmps51
 go_wp2_with (first | ((refine Gd (N := 2) rfl ?_); refine Be ?hg (N := 2) ?hd (cs := #[.int .i64 a0_0, .int .i64 a0_1, .int .i64 a0_2, .int .i64 a0_3, .int .i64 a0_4, .int .i64 a0_5, .int .i64 a0_6, .int .i64 a0_7, .int .i64 a0_8, .slice A0_9 l0_9.length c0_9]) (t := 39) ?hr ?_; (case hd | hg => rfl); (case hr => first | (go_simp; done) | (go_simp; rfl)); intro gb310 hg w4 hbox hb; have n0_ := Am (Kb (g := gq1) (o := .cells #[.int .i64 a1_0, .slice A1_1 l1_1.length c1_1] 26 (0, 0)) (by (with_reducible repeat (first | refine Kn ?_ _ | refine Ke ?_ | refine Ka ?_ _)); exact BK309.out) hb); have n1_ := Am (Bt (by repeat (first | (with_reducible first | exact HB.out | apply Ba | apply Bn | apply Bd | refine Bs ?_ GE309.out) | exact HB.out)) hb); have n2_ := Am (hbox); have n3_ := Am ((by rw [hg]; exact (Bz (by repeat (first | (with_reducible first | exact HB.out | apply Ba | apply Bn | apply Bd | refine Bs ?_ GE309.out) | exact HB.out))) : w.heap.size ≤ gb310)); have n4_ := Am ((by rw [hg]; exact (Bz (by repeat (first | (with_reducible first | exact HB.out | apply Ba | apply Bn | apply Bd | refine Bs ?_ GE309.out) | exact HB.out))) : w.heap.size ≤ gb310)); have n5_ := Am ((by rw [hg]; exact Nat.ne_of_lt (Kl (g := gq1) (o := .cells #[.int .i64 a1_0, .slice A1_1 l1_1.length c1_1] 26 (0, 0)) (by (with_reducible repeat (first | refine Kn ?_ _ | refine Ke ?_ | refine Ka ?_ _)); exact BK309.out)) : gq1 ≠ gb310)); have n6_ := Am ((by rw [hg]; exact Nat.ne_of_gt (Kl (g := gq1) (o := .cells #[.int .i64 a1_0, .slice A1_1 l1_1.length c1_1] 26 (0, 0)) (by (with_reducible repeat (first | refine Kn ?_ _ | refine Ke ?_ | refine Ka ?_ _)); exact BK309.out)) : gb310 ≠ gq1)); clear BK309; clear HB; have BK309 := n0_; have HB := n1_; have BK310 := n2_; have GW310 := n3_; have GE310 := n4_; have NB309_310 := n5_; have NB310_309 := n6_; clear n0_ n1_ n2_ n3_ n4_ n5_ n6_; clear hb hbox hg; have hnb5 := NB309_310.out; have hnc5 := NB310_309.out; have hcz6_0 : w4.cell? ⟨gq1, 0, none⟩ = some (.int .i64 a1_0) := (Kc BK309.out 0).trans rfl; have hcz6_1 : w4.cell? ⟨gq1, 1, none⟩ = some (.slice A1_1 l1_1.length c1_1) := (Kc BK309.out 1).trans rfl; have hfz6_0 := Kz BK309.out 0; have hfz6_1 := Kz BK309.out 1; have hcz7_0 : w4.cell? ⟨gb310, 0, none⟩ = some (.int .i64 a0_0) := (Kc BK310.out 0).trans rfl; have hcz7_1 : w4.cell? ⟨gb310, 1, none⟩ = some (.int .i64 a0_1) := (Kc BK310.out 1).trans rfl; have hcz7_2 : w4.cell? ⟨gb310, 2, none⟩ = some (.int .i64 a0_2) := (Kc BK310.out 2).trans rfl; have hcz7_3 : w4.cell? ⟨gb310, 3, none⟩ = some (.int .i64 a0_3) := (Kc BK310.out 3).trans rfl; have hcz7_4 : w4.cell? ⟨gb310, 4, none⟩ = some (.int .i64 a0_4) := (Kc BK310.out 4).trans rfl; have hcz7_5 : w4.cell? ⟨gb310, 5, none⟩ = some (.int .i64 a0_5) := (Kc BK310.out 5).trans rfl; have hcz7_6 : w4.cell? ⟨gb310, 6, none⟩ = some (.int .i64 a0_6) := (Kc BK310.out 6).trans rfl; have hcz7_7 : w4.cell? ⟨gb310, 7, none⟩ = some (.int .i64 a0_7) := (Kc BK310.out 7).trans rfl; have hcz7_8 : w4.cell? ⟨gb310, 8, none⟩ = some (.int .i64 a0_8) := (Kc BK310.out 8).trans rfl; have hcz7_9 : w4.cell? ⟨gb310, 9, none⟩ = some (.slice A0_9 l0_9.length c0_9) := (Kc BK310.out 9).trans rfl; have hfz7_0 := Kz BK310.out 0; have hfz7_1 := Kz BK310.out 1; have hfz7_2 := Kz BK310.out 2; have hfz7_3 := Kz BK310.out 3; have hfz7_4 := Kz BK310.out 4; have hfz7_5 := Kz BK310.out 5; have hfz7_6 := Kz BK310.out 6; have hfz7_7 := Kz BK310.out 7; have hfz7_8 := Kz BK310.out 8; have hfz7_9 := Kz BK310.out 9) | ((refine Gc (f := 52) rfl ?_); refine goesL_ (some 7) rfl rfl Try.func52 (by kernel_rfl) rfl #[.int .i64 a1_0, .agg #[.int .i64 a0_0, .int .i64 a0_1, .int .i64 a0_2, .int .i64 a0_3, .int .i64 a0_4, .int .i64 a0_5, .int .i64 a0_6, .int .i64 a0_7, .int .i64 a0_8, .slice A0_9 l0_9.length c0_9]] rfl (by first | rfl | (simp only [List.map_toArray, List.map_cons, List.map_nil]; first | done | rfl)) ?_; (with_reducible refine (impl_goodRow.calls k a1_0 a0_0 a0_1 a0_2 a0_3 a0_4 a0_5 a0_6 a0_7 a0_8 _ _ l0_9 t311 _ ?side1 ?side2 A3.out).mono ?_); (case side1 => repeat (first | exact (Cb HR0_9.out HB.out) | (with_reducible refine Kd.C_alloc ?_ _) | (with_reducible refine Kd.C_drewN ?_ _) | (with_reducible refine Kd.C_drew ?_))); (case side2 => exact HC0_9.out); rintro e w8 ⟨rfl, hb⟩; refine ⟨_, rfl, ?_⟩; have n0_ := Am (Kb (g := gq1) (o := .cells #[.int .i64 a1_0, .slice A1_1 l1_1.length c1_1] 26 (0, 0)) (by (with_reducible repeat (first | refine Kn ?_ _ | refine Ke ?_ | refine Ka ?_ _)); exact BK309.out) hb); have n1_ := Am (Kb (g := gb310) (o := .cells #[.int .i64 a0_0, .int .i64 a0_1, .int .i64 a0_2, .int .i64 a0_3, .int .i64 a0_4, .int .i64 a0_5, .int .i64 a0_6, .int .i64 a0_7, .int .i64 a0_8, .slice A0_9 l0_9.length c0_9] 39 (0, 0)) (by (with_reducible repeat (first | refine Kn ?_ _ | refine Ke ?_ | refine Ka ?_ _)); exact BK310.out) hb); have n2_ := Am (Bt (by repeat (first | (with_reducible first | exact HB.out | apply Ba | apply Bn | apply Bd | refine Bs ?_ GE309.out | refine Bs ?_ GE310.out) | exact HB.out)) hb); clear BK309; clear BK310; clear HB; have BK309 := n0_; have BK310 := n1_; have HB := n2_; clear n0_ n1_ n2_; (try clear hb); (try clear hb2); (try clear hk); (try clear hi)))
 go_ret
 exact ⟨by first | rfl | (simp [*, errW_none, errW_some] <;> rfl), by repeat (first | (with_reducible first | exact HB.out | apply Ba | apply Bn | apply Bd | refine Bs ?_ GE309.out | refine Bs ?_ GE310.out) | exact HB.out)⟩
def impl_GoodTable_1_1_in_c.f (k : Nat) (l0 : List S39) (aa0_0 : Int) (ll0_1 : List (List (S39))) : Option Bool := Mine.anyO (fun x : S39 => impl_GoodTable_1_1.f k x.f0 x.f1 x.f2 x.f3.f0 x.f3.f1 x.f3.f2 x.f3.f3 x.f3.f4 x.f4.f0 x.f4.f1 aa0_0 ll0_1) l0
theorem impl_GoodTable_1_1_in_c.mono : ∀ a0 b0 b1 k, LeO (impl_GoodTable_1_1_in_c.f k a0 b0 b1) (impl_GoodTable_1_1_in_c.f (k + 1) a0 b0 b1) := by
 intro a0 b0 b1 k
 unfold impl_GoodTable_1_1_in_c.f
 exact Mine.anyO_mono (fun (x : S39) b_ hb_ => impl_GoodTable_1_1.mono x.f0 x.f1 x.f2 x.f3.f0 x.f3.f1 x.f3.f2 x.f3.f3 x.f3.f4 x.f4.f0 x.f4.f1 b0 b1 k b_ hb_) a0
set_option maxHeartbeats 2000000 in
theorem impl_GoodTable_1_1_in_c.calls (k : Nat) (A0 : Option Addr) (c0 : Nat) (l0 : List S39) (gq0 : Nat) (aa0_0 : Int) (AA0_1 : Option Addr) (cc0_1 : Nat) (ll0_1 : List (List (S39))) (r : Bool) (w : World) (hr0 : Kd.C k39 w A0 l0.length l0) (hc0 : l0.length ≤ c0) (hr10_1 : Kd.C (Kd.slice 39 k39) w AA0_1 ll0_1.length ll0_1) (hc10_1 : ll0_1.length ≤ cc0_1) (hb0 : w.heap[gq0]? = some (.cells #[.int .i64 aa0_0, .slice AA0_1 ll0_1.length cc0_1] 26 (0, 0))) (h : impl_GoodTable_1_1_in_c.f k l0 aa0_0 ll0_1 = some r) :
  Calls Try.prog 50 #[.slice A0 l0.length c0, .func (.func 51) #[] #[.pointer (some ⟨gq0, 0, none⟩)]] w fun e w' => e = .returned (.bool r) ∧ Below w.heap.size w w' :=
 impl_Row_50.anyO 51 #[.pointer (some ⟨gq0, 0, none⟩)] (fun x : S39 => impl_GoodTable_1_1.f k x.f0 x.f1 x.f2 x.f3.f0 x.f3.f1 x.f3.f2 x.f3.f3 x.f3.f4 x.f4.f0 x.f4.f1 aa0_0 ll0_1) A0 c0 l0 w r (fun args w => enters_ Try.func51 (by kernel_rfl) rfl args w) hr0 hc0
  (fun W x A9 c9 hx bW hi9 hl9 b hb_ => (impl_GoodTable_1_1.calls k x.f0 x.f1 x.f2 x.f3.f0 x.f3.f1 x.f3.f2 x.f3.f3 x.f3.f4 x.f4.f0 A9 c9 x.f4.f1 gq0 aa0_0 AA0_1 cc0_1 ll0_1 b W hi9 hl9 (Cb hr10_1 bW) hc10_1 (Kb hb0 bW) hb_).mono (fun e w' hh => ⟨hh.1, hh.2⟩)) h
def impl_GoodTable_1.f (k : Nat) (l0 : List (S39)) (a1_0 : Int) (l1_1 : List (List (S39))) : Option (Bool) := if (l0.length : Int) > 6 then (some true) else ((impl_GoodTable_1_1_in_c.f k l0 a1_0 l1_1).bind fun t313 => (some t313))
theorem impl_GoodTable_1.mono : ∀ a0 a1 a2 k, LeO (impl_GoodTable_1.f k a0 a1 a2) (impl_GoodTable_1.f (k + 1) a0 a1 a2) := by
 intro a0 a1 a2 k
 unfold impl_GoodTable_1.f
 repeat' first
   | (with_reducible exact impl_GoodTable_1_1_in_c.mono _ _ _ _)
   | (with_reducible exact LeO.refl _)
   | (with_reducible exact LeO.none _)
   | (with_reducible refine LeO.ite ?_ ?_)
   | (with_reducible refine LeO.bind ?_ (fun _ => ?_))
   | exact impl_GoodTable_1_1_in_c.mono _ _ _ _
   | exact LeO.none _
   | refine LeO.ite ?_ ?_
   | refine LeO.bind ?_ (fun _ => ?_)
set_option maxHeartbeats 8000000 in
set_option maxRecDepth 100000 in
theorem impl_GoodTable_1.calls (k : Nat) (A0 : Option Addr) (c0 : Nat) (l0 : List (S39)) (gq1 : Nat) (a1_0 : Int) (A1_1 : Option Addr) (c1_1 : Nat) (l1_1 : List (List (S39))) (r : Bool) (w : World) (hr0 : Kd.C k39 w A0 l0.length l0) (hc0 : l0.length ≤ c0) (hr1_1 : Kd.C (Kd.slice 39 k39) w A1_1 l1_1.length l1_1) (hc1_1 : l1_1.length ≤ c1_1) (hb1 : w.heap[gq1]? = some (.cells #[.int .i64 a1_0, .slice A1_1 l1_1.length c1_1] 26 (0, 0))) (h : impl_GoodTable_1.f k l0 a1_0 l1_1 = some r) :
  Calls Try.prog 49 #[.slice A0 l0.length c0, .pointer (some ⟨gq1, 0, none⟩)] w fun e w' => e = .returned (.bool r) ∧ Below w.heap.size w w' := by
 have HR0 := Am hr0
 have HC0 := Am hc0
 clear hr0 hc0
 have HR1_1 := Am hr1_1
 have HC1_1 := Am hc1_1
 clear hr1_1 hc1_1
 have BK312 := Am hb1
 clear hb1
 have HB := Am (Below.refl w.heap.size w)
 have H : (if (l0.length : Int) > 6 then (some true) else ((impl_GoodTable_1_1_in_c.f k l0 a1_0 l1_1).bind fun t313 => (some t313))) = some r := h
 clear h
 by_cases c3 : (l0.length : Int) > 6
 ·rw [if_pos c3] at H
  have c3b0 : decide (6 < (l0.length : Int)) = true := decide_eq_true c3
  have c3b1 : decide (6 < l0.length) = true := decide_eq_true (by omega)
  clear c3
  obtain rfl := Option.some.inj H
  go_enter Try.func49, Try.ntmps49
  go_wp2
  go_ret
  exact ⟨by first | rfl | (simp [*, errW_none, errW_some] <;> rfl), by repeat (first | (with_reducible first | exact HB.out | apply Ba | apply Bn | apply Bd | refine Bs ?_ GE312.out) | exact HB.out)⟩
 ·rw [if_neg c3] at H
  have c3b0 : decide (6 < (l0.length : Int)) = false := decide_eq_false c3
  have c3b1 : decide (6 < l0.length) = false := decide_eq_false (by omega)
  clear c3
  replace H := Option.bind_eq_some_iff.mp H
  obtain ⟨t313, A40, H⟩ := H
  replace H : (some t313) = some r := H
  have A4 := Am A40
  clear A40
  obtain rfl := Option.some.inj H
  go_enter Try.func49, Try.ntmps49
  go_wp2_with (first | (go_at_call 50; (with_reducible refine (impl_GoodTable_1_1_in_c.calls k _ _ l0 gq1 a1_0 A1_1 c1_1 l1_1 t313 _ ?side1 ?side2 ?side3 ?side4 ?side5 A4.out).mono ?_); (case side1 => repeat (first | exact HR0.out | (with_reducible refine Kd.C_alloc ?_ _) | (with_reducible refine Kd.C_drewN ?_ _) | (with_reducible refine Kd.C_drew ?_))); (case side2 => exact HC0.out); (case side3 => repeat (first | exact HR1_1.out | (with_reducible refine Kd.C_alloc ?_ _) | (with_reducible refine Kd.C_drewN ?_ _) | (with_reducible refine Kd.C_drew ?_))); (case side4 => exact HC1_1.out); (case side5 => exact by (with_reducible repeat (first | refine Kn ?_ _ | refine Ke ?_ | refine Ka ?_ _)); exact BK312.out); rintro e w5 ⟨rfl, hb⟩; have n0_ := Am (Kb (g := gq1) (o := .cells #[.int .i64 a1_0, .slice A1_1 l1_1.length c1_1] 26 (0, 0)) (by (with_reducible repeat (first | refine Kn ?_ _ | refine Ke ?_ | refine Ka ?_ _)); exact BK312.out) hb); have n1_ := Am (Bt (by repeat (first | (with_reducible first | exact HB.out | apply Ba | apply Bn | apply Bd | refine Bs ?_ GE312.out) | exact HB.out)) hb); clear BK312; clear HB; have BK312 := n0_; have HB := n1_; clear n0_ n1_; (try clear hb); (try clear hb2); (try clear hk); (try clear hi)))
  go_ret
  exact ⟨by first | rfl | (simp [*, errW_none, errW_some] <;> rfl), by repeat (first | (with_reducible first | exact HB.out | apply Ba | apply Bn | apply Bd | refine Bs ?_ GE312.out) | exact HB.out)⟩
def impl_GoodTable_1_in_c.f (k : Nat) (l0 : List (List (S39))) (aa0_0 : Int) (ll0_1 : List (List (S39))) : Option Bool := Mine.anyO (fun x : (List (S39)) => impl_GoodTable_1.f k x aa0_0 ll0_1) l0
theorem impl_GoodTable_1_in_c.mono : ∀ a0 b0 b1 k, LeO (impl_GoodTable_1_in_c.f k a0 b0 b1) (impl_GoodTable_1_in_c.f (k + 1) a0 b0 b1) := by
 intro a0 b0 b1 k
 unfold impl_GoodTable_1_in_c.f
 exact Mine.anyO_mono (fun (x : (List (S39))) b_ hb_ => impl_GoodTable_1.mono x b0 b1 k b_ hb_) a0
set_option maxHeartbeats 2000000 in
theorem impl_GoodTable_1_in_c.calls (k : Nat) (A0 : Option Addr) (c0 : Nat) (l0 : List (List (S39))) (gq0 : Nat) (aa0_0 : Int) (AA0_1 : Option Addr) (cc0_1 : Nat) (ll0_1 : List (List (S39))) (r : Bool) (w : World) (hr0 : Kd.C (Kd.slice 39 k39) w A0 l0.length l0) (hc0 : l0.length ≤ c0) (hr10_1 : Kd.C (Kd.slice 39 k39) w AA0_1 ll0_1.length ll0_1) (hc10_1 : ll0_1.length ≤ cc0_1) (hb0 : w.heap[gq0]? = some (.cells #[.int .i64 aa0_0, .slice AA0_1 ll0_1.length cc0_1] 26 (0, 0))) (h : impl_GoodTable_1_in_c.f k l0 aa0_0 ll0_1 = some r) :
  Calls Try.prog 48 #[.slice A0 l0.length c0, .func (.func 49) #[] #[.pointer (some ⟨gq0, 0, none⟩)]] w fun e w' => e = .returned (.bool r) ∧ Below w.heap.size w w' :=
 impl_Row_48.anyO 49 #[.pointer (some ⟨gq0, 0, none⟩)] (fun x : (List (S39)) => impl_GoodTable_1.f k x aa0_0 ll0_1) A0 c0 l0 w r (fun args w => enters_ Try.func49 (by kernel_rfl) rfl args w) hr0 hc0
  (fun W x A c hx bW hi hl b hb_ => (impl_GoodTable_1.calls k A c x gq0 aa0_0 AA0_1 cc0_1 ll0_1 b W hi hl (Cb hr10_1 bW) hc10_1 (Kb hb0 bW) hb_).mono (fun e w' hh => ⟨hh.1, hh.2⟩)) h
def impl_GoodTable.f (k : Nat) (a0_0 : Int) (l0_1 : List (List (S39))) : Option (Bool) := (impl_IsGroup.f a0_0).bind fun t315 => (if t315 = true then (if (l0_1.length : Int) = a0_0 then ((impl_GoodTable_1_in_c.f k l0_1 a0_0 l0_1).bind fun t316 => (some (!t316))) else (some false)) else (some false))
theorem impl_GoodTable.mono : ∀ a0 a1 k, LeO (impl_GoodTable.f k a0 a1) (impl_GoodTable.f (k + 1) a0 a1) := by
 intro a0 a1 k
 unfold impl_GoodTable.f
 repeat' first
   | (with_reducible exact impl_GoodTable_1_in_c.mono _ _ _ _)
   | (with_reducible exact LeO.refl _)
   | (with_reducible exact LeO.none _)
   | (with_reducible refine LeO.ite ?_ ?_)
   | (with_reducible refine LeO.bind ?_ (fun _ => ?_))
   | exact impl_GoodTable_1_in_c.mono _ _ _ _
   | exact LeO.none _
   | refine LeO.ite ?_ ?_
   | refine LeO.bind ?_ (fun _ => ?_)
set_option maxHeartbeats 8000000 in
set_option maxRecDepth 100000 in
theorem impl_GoodTable.calls (k : Nat) (a0_0 : Int) (A0_1 : Option Addr) (c0_1 : Nat) (l0_1 : List (List (S39))) (r : Bool) (w : World) (hr0_1 : Kd.C (Kd.slice 39 k39) w A0_1 l0_1.length l0_1) (hc0_1 : l0_1.length ≤ c0_1) (h : impl_GoodTable.f k a0_0 l0_1 = some r) :
  Calls Try.prog 20 #[.agg #[.int .i64 a0_0, .slice A0_1 l0_1.length c0_1]] w fun e w' => e = .returned (.bool r) ∧ Below w.heap.size w w' := by
 have hu26 := Try.underlying26
 have HR0_1 := Am hr0_1
 have HC0_1 := Am hc0_1
 clear hr0_1 hc0_1
 have HB := Am (Below.refl w.heap.size w)
 have H : ((impl_IsGroup.f a0_0).bind fun t315 => (if t315 = true then (if (l0_1.length : Int) = a0_0 then ((impl_GoodTable_1_in_c.f k l0_1 a0_0 l0_1).bind fun t316 => (some (!t316))) else (some false)) else (some false))) = some r := h
 clear h
 replace H := Option.bind_eq_some_iff.mp H
 obtain ⟨t315, A20, H⟩ := H
 replace H : (if t315 = true then (if (l0_1.length : Int) = a0_0 then ((impl_GoodTable_1_in_c.f k l0_1 a0_0 l0_1).bind fun t316 => (some (!t316))) else (some false)) else (some false)) = some r := H
 have A2 := Am A20
 clear A20
 by_cases c3 : t315 = true
 ·subst c3
  have H1 : (if (l0_1.length : Int) = a0_0 then ((impl_GoodTable_1_in_c.f k l0_1 a0_0 l0_1).bind fun t316 => (some (!t316))) else (some false)) = some r := by rw [if_pos rfl] at H; exact H
  clear H
  have H := H1
  clear H1
  by_cases c4 : (l0_1.length : Int) = a0_0
  ·rw [if_pos c4] at H
   have c4b0 : ((l0_1.length : Int) == a0_0) = true := beq_iff_eq.mpr c4
   have c4b1 : ((l0_1.length : Int) != a0_0) = false := bne_eq_false_iff_eq.mpr c4
   clear c4
   replace H := Option.bind_eq_some_iff.mp H
   obtain ⟨t316, A50, H⟩ := H
   replace H : (some (!t316)) = some r := H
   have A5 := Am A50
   clear A50
   obtain rfl := Option.some.inj H
   go_enter Try.func20, Try.ntmps20
   go_wp2_with (first | ((refine Gd (N := 1) rfl ?_); (try (refine gate_guard (by rfl) ?_; dsimp only)); refine Be ?hg (N := 1) ?hd (cs := #[.int .i64 a0_0, .slice A0_1 l0_1.length c0_1]) (t := 26) ?hr ?_; (case hd | hg => rfl); (case hr => first | (go_simp; done) | (go_simp; rfl)); intro gb314 hg w6 hbox hb; have n0_ := Am (Bt (by repeat (first | exact HB.out | apply Ba | apply Bn | apply Bd)) hb); have n1_ := Am (hbox); have n2_ := Am ((by rw [hg]; exact (Bz (by repeat (first | exact HB.out | apply Ba | apply Bn | apply Bd))) : w.heap.size ≤ gb314)); have n3_ := Am ((by rw [hg]; exact (Bz (by repeat (first | exact HB.out | apply Ba | apply Bn | apply Bd))) : w.heap.size ≤ gb314)); clear HB; have HB := n0_; have BK314 := n1_; have GW314 := n2_; have GE314 := n3_; clear n0_ n1_ n2_ n3_; clear hb hbox hg; have hcz7_0 : w6.cell? ⟨gb314, 0, none⟩ = some (.int .i64 a0_0) := (Kc BK314.out 0).trans rfl; have hcz7_1 : w6.cell? ⟨gb314, 1, none⟩ = some (.slice A0_1 l0_1.length c0_1) := (Kc BK314.out 1).trans rfl; have hfz7_0 := Kz BK314.out 0; have hfz7_1 := Kz BK314.out 1) | ((refine Gc (f := 47) rfl ?_); refine goesL_ (some 5) rfl rfl Try.func47 (by kernel_rfl) rfl #[.int .i64 a0_0] rfl (by first | rfl | (simp only [List.map_toArray, List.map_cons, List.map_nil]; first | done | rfl)) ?_; (with_reducible refine (impl_IsGroup.calls a0_0 true _ A2.out).mono ?_); rintro e w' ⟨rfl, ⟨nd, rfl⟩⟩; refine ⟨_, rfl, ?_⟩) | (go_at_call 48; (with_reducible refine (impl_GoodTable_1_in_c.calls k _ _ l0_1 gb314 a0_0 A0_1 c0_1 l0_1 t316 _ ?side1 ?side2 ?side3 ?side4 ?side5 A5.out).mono ?_); (case side1 => repeat (first | exact (Cb HR0_1.out (by repeat (first | (with_reducible first | exact HB.out | apply Ba | apply Bn | apply Bd | refine Bs ?_ GE314.out) | exact HB.out))) | (with_reducible refine Kd.C_alloc ?_ _) | (with_reducible refine Kd.C_drewN ?_ _) | (with_reducible refine Kd.C_drew ?_))); (case side2 => exact HC0_1.out); (case side3 => repeat (first | exact (Cb HR0_1.out (by repeat (first | (with_reducible first | exact HB.out | apply Ba | apply Bn | apply Bd | refine Bs ?_ GE314.out) | exact HB.out))) | (with_reducible refine Kd.C_alloc ?_ _) | (with_reducible refine Kd.C_drewN ?_ _) | (with_reducible refine Kd.C_drew ?_))); (case side4 => exact HC0_1.out); (case side5 => exact by (with_reducible repeat (first | refine Kn ?_ _ | refine Ke ?_ | refine Ka ?_ _)); exact BK314.out); rintro e w8 ⟨rfl, hb⟩; have n0_ := Am (Kb (g := gb314) (o := .cells #[.int .i64 a0_0, .slice A0_1 l0_1.length c0_1] 26 (0, 0)) (by (with_reducible repeat (first | refine Kn ?_ _ | refine Ke ?_ | refine Ka ?_ _)); exact BK314.out) hb); have n1_ := Am (Bt (by repeat (first | (with_reducible first | exact HB.out | apply Ba | apply Bn | apply Bd | refine Bs ?_ GE314.out) | exact HB.out)) hb); clear BK314; clear HB; have BK314 := n0_; have HB := n1_; clear n0_ n1_; (try clear hb); (try clear hb2); (try clear hk); (try clear hi)))
   go_ret
   exact ⟨by first | rfl | (simp [*, errW_none, errW_some] <;> rfl), by repeat (first | (with_reducible first | exact HB.out | apply Ba | apply Bn | apply Bd | refine Bs ?_ GE314.out) | exact HB.out)⟩
  ·rw [if_neg c4] at H
   have c4b0 : ((l0_1.length : Int) == a0_0) = false := beq_eq_false_iff_ne.mpr c4
   have c4b1 : ((l0_1.length : Int) != a0_0) = true := bne_iff_ne.mpr c4
   obtain rfl := Option.some.inj H
   go_enter Try.func20, Try.ntmps20
   go_wp2_with (first | ((refine Gd (N := 1) rfl ?_); (try (refine gate_guard (by rfl) ?_; dsimp only)); refine Be ?hg (N := 1) ?hd (cs := #[.int .i64 a0_0, .slice A0_1 l0_1.length c0_1]) (t := 26) ?hr ?_; (case hd | hg => rfl); (case hr => first | (go_simp; done) | (go_simp; rfl)); intro gb314 hg w9 hbox hb; have n0_ := Am (Bt (by repeat (first | exact HB.out | apply Ba | apply Bn | apply Bd)) hb); have n1_ := Am (hbox); have n2_ := Am ((by rw [hg]; exact (Bz (by repeat (first | exact HB.out | apply Ba | apply Bn | apply Bd))) : w.heap.size ≤ gb314)); have n3_ := Am ((by rw [hg]; exact (Bz (by repeat (first | exact HB.out | apply Ba | apply Bn | apply Bd))) : w.heap.size ≤ gb314)); clear HB; have HB := n0_; have BK314 := n1_; have GW314 := n2_; have GE314 := n3_; clear n0_ n1_ n2_ n3_; clear hb hbox hg; have hcz10_0 : w9.cell? ⟨gb314, 0, none⟩ = some (.int .i64 a0_0) := (Kc BK314.out 0).trans rfl; have hcz10_1 : w9.cell? ⟨gb314, 1, none⟩ = some (.slice A0_1 l0_1.length c0_1) := (Kc BK314.out 1).trans rfl; have hfz10_0 := Kz BK314.out 0; have hfz10_1 := Kz BK314.out 1) | ((refine Gc (f := 47) rfl ?_); refine goesL_ (some 5) rfl rfl Try.func47 (by kernel_rfl) rfl #[.int .i64 a0_0] rfl (by first | rfl | (simp only [List.map_toArray, List.map_cons, List.map_nil]; first | done | rfl)) ?_; (with_reducible refine (impl_IsGroup.calls a0_0 true _ A2.out).mono ?_); rintro e w' ⟨rfl, ⟨nd, rfl⟩⟩; refine ⟨_, rfl, ?_⟩))
   go_ret
   exact ⟨by first | rfl | (simp [*, errW_none, errW_some] <;> rfl), by repeat (first | (with_reducible first | exact HB.out | apply Ba | apply Bn | apply Bd | refine Bs ?_ GE314.out) | exact HB.out)⟩
 ·replace c3 := Bool.eq_false_iff.mpr c3
  subst c3
  have H1 : (some false) = some r := by rw [if_neg (show ¬ (false = true) by decide)] at H; exact H
  clear H
  have H := H1
  clear H1
  obtain rfl := Option.some.inj H
  go_enter Try.func20, Try.ntmps20
  go_wp2_with (first | ((refine Gd (N := 1) rfl ?_); (try (refine gate_guard (by rfl) ?_; dsimp only)); refine Be ?hg (N := 1) ?hd (cs := #[.int .i64 a0_0, .slice A0_1 l0_1.length c0_1]) (t := 26) ?hr ?_; (case hd | hg => rfl); (case hr => first | (go_simp; done) | (go_simp; rfl)); intro gb314 hg w11 hbox hb; have n0_ := Am (Bt (by repeat (first | exact HB.out | apply Ba | apply Bn | apply Bd)) hb); have n1_ := Am (hbox); have n2_ := Am ((by rw [hg]; exact (Bz (by repeat (first | exact HB.out | apply Ba | apply Bn | apply Bd))) : w.heap.size ≤ gb314)); have n3_ := Am ((by rw [hg]; exact (Bz (by repeat (first | exact HB.out | apply Ba | apply Bn | apply Bd))) : w.heap.size ≤ gb314)); clear HB; have HB := n0_; have BK314 := n1_; have GW314 := n2_; have GE314 := n3_; clear n0_ n1_ n2_ n3_; clear hb hbox hg; have hcz12_0 : w11.cell? ⟨gb314, 0, none⟩ = some (.int .i64 a0_0) := (Kc BK314.out 0).trans rfl; have hcz12_1 : w11.cell? ⟨gb314, 1, none⟩ = some (.slice A0_1 l0_1.length c0_1) := (Kc BK314.out 1).trans rfl; have hfz12_0 := Kz BK314.out 0; have hfz12_1 := Kz BK314.out 1) | ((refine Gc (f := 47) rfl ?_); refine goesL_ (some 5) rfl rfl Try.func47 (by kernel_rfl) rfl #[.int .i64 a0_0] rfl (by first | rfl | (simp only [List.map_toArray, List.map_cons, List.map_nil]; first | done | rfl)) ?_; (with_reducible refine (impl_IsGroup.calls a0_0 false _ A2.out).mono ?_); rintro e w' ⟨rfl, ⟨nd, rfl⟩⟩; refine ⟨_, rfl, ?_⟩))
  go_ret
  exact ⟨by first | rfl | (simp [*, errW_none, errW_some] <;> rfl), by repeat (first | (with_reducible first | exact HB.out | apply Ba | apply Bn | apply Bd | refine Bs ?_ GE314.out) | exact HB.out)⟩
def impl_isInstance.f (a0 : Int) (a1 : Int) (a2 : Int) : Option (Bool) := (impl_IsGroup.f a0).bind fun t317 => (if t317 = true then ((impl_within.f a1 0 (wrap64 (a0 - 1))).bind fun t318 => (if t318 = true then ((impl_within.f a2 1 6).bind fun t319 => (some t319)) else (some false))) else (some false))
set_option maxHeartbeats 8000000 in
set_option maxRecDepth 100000 in
theorem impl_isInstance.calls (a0 : Int) (a1 : Int) (a2 : Int) (r : Bool) (w : World) (h : impl_isInstance.f a0 a1 a2 = some r) :
  Calls Try.prog 22 #[.int .i64 a0, .int .i64 a1, .int .i64 a2] w fun e w' => e = .returned (.bool r) ∧ Drawn0 w w' := by
 have H : ((impl_IsGroup.f a0).bind fun t317 => (if t317 = true then ((impl_within.f a1 0 (wrap64 (a0 - 1))).bind fun t318 => (if t318 = true then ((impl_within.f a2 1 6).bind fun t319 => (some t319)) else (some false))) else (some false))) = some r := h
 clear h
 replace H := Option.bind_eq_some_iff.mp H
 obtain ⟨t317, A40, H⟩ := H
 replace H : (if t317 = true then ((impl_within.f a1 0 (wrap64 (a0 - 1))).bind fun t318 => (if t318 = true then ((impl_within.f a2 1 6).bind fun t319 => (some t319)) else (some false))) else (some false)) = some r := H
 have A4 := Am A40
 clear A40
 by_cases c5 : t317 = true
 ·subst c5
  have H1 : ((impl_within.f a1 0 (wrap64 (a0 - 1))).bind fun t318 => (if t318 = true then ((impl_within.f a2 1 6).bind fun t319 => (some t319)) else (some false))) = some r := by rw [if_pos rfl] at H; exact H
  clear H
  have H := H1
  clear H1
  replace H := Option.bind_eq_some_iff.mp H
  obtain ⟨t318, A60, H⟩ := H
  replace H : (if t318 = true then ((impl_within.f a2 1 6).bind fun t319 => (some t319)) else (some false)) = some r := H
  have A6 := Am A60
  clear A60
  by_cases c7 : t318 = true
  ·subst c7
   have H1 : ((impl_within.f a2 1 6).bind fun t319 => (some t319)) = some r := by rw [if_pos rfl] at H; exact H
   clear H
   have H := H1
   clear H1
   replace H := Option.bind_eq_some_iff.mp H
   obtain ⟨t319, A80, H⟩ := H
   replace H : (some t319) = some r := H
   have A8 := Am A80
   clear A80
   obtain rfl := Option.some.inj H
   go_enter Try.func22, Try.ntmps22
   go_wp2_with (first | ((refine Gc (f := 47) rfl ?_); refine goesL_ (some 8) rfl rfl Try.func47 (by kernel_rfl) rfl #[.int .i64 a0] rfl (by first | rfl | (simp only [List.map_toArray, List.map_cons, List.map_nil]; first | done | rfl)) ?_; (with_reducible refine (impl_IsGroup.calls a0 true _ A4.out).mono ?_); rintro e w' ⟨rfl, ⟨nd, rfl⟩⟩; refine ⟨_, rfl, ?_⟩) | (go_at_call 37; (with_reducible refine (impl_within.calls a1 0 (wrap64 (a0 - 1)) true _ A6.out).mono ?_); rintro e w' ⟨rfl, ⟨nd, rfl⟩⟩) | (go_at_call 37; (with_reducible refine (impl_within.calls a2 1 6 t319 _ A8.out).mono ?_); rintro e w' ⟨rfl, ⟨nd, rfl⟩⟩))
   go_ret
   exact ⟨by first | rfl | (simp; done) | (simp [*]; done), by repeat (first | exact Drawn0.refl _ | apply Drawn0.step)⟩
  ·replace c7 := Bool.eq_false_iff.mpr c7
   subst c7
   have H1 : (some false) = some r := by rw [if_neg (show ¬ (false = true) by decide)] at H; exact H
   clear H
   have H := H1
   clear H1
   obtain rfl := Option.some.inj H
   go_enter Try.func22, Try.ntmps22
   go_wp2_with (first | ((refine Gc (f := 47) rfl ?_); refine goesL_ (some 8) rfl rfl Try.func47 (by kernel_rfl) rfl #[.int .i64 a0] rfl (by first | rfl | (simp only [List.map_toArray, List.map_cons, List.map_nil]; first | done | rfl)) ?_; (with_reducible refine (impl_IsGroup.calls a0 true _ A4.out).mono ?_); rintro e w' ⟨rfl, ⟨nd, rfl⟩⟩; refine ⟨_, rfl, ?_⟩) | (go_at_call 37; (with_reducible refine (impl_within.calls a1 0 (wrap64 (a0 - 1)) false _ A6.out).mono ?_); rintro e w' ⟨rfl, ⟨nd, rfl⟩⟩))
   go_ret
   exact ⟨by first | rfl | (simp; done) | (simp [*]; done), by repeat (first | exact Drawn0.refl _ | apply Drawn0.step)⟩
 ·replace c5 := Bool.eq_false_iff.mpr c5
  subst c5
  have H1 : (some false) = some r := by rw [if_neg (show ¬ (false = true) by decide)] at H; exact H
  clear H
  have H := H1
  clear H1
  obtain rfl := Option.some.inj H
  go_enter Try.func22, Try.ntmps22
  go_wp2_with (first | ((refine Gc (f := 47) rfl ?_); refine goesL_ (some 8) rfl rfl Try.func47 (by kernel_rfl) rfl #[.int .i64 a0] rfl (by first | rfl | (simp only [List.map_toArray, List.map_cons, List.map_nil]; first | done | rfl)) ?_; (with_reducible refine (impl_IsGroup.calls a0 false _ A4.out).mono ?_); rintro e w' ⟨rfl, ⟨nd, rfl⟩⟩; refine ⟨_, rfl, ?_⟩))
  go_ret
  exact ⟨by first | rfl | (simp; done) | (simp [*]; done), by repeat (first | exact Drawn0.refl _ | apply Drawn0.step)⟩
def slices_Index_int_int.l0 : Nat → List Int → Int → Int → Int → Option (Int)
 | 0, _, _, _, _ => none
 | k + 1, x0, x1, x7, x8 => if x8 < x7 then (if 0 ≤ x8 then (if x8 < (x0.length : Int) then (if x1 = (rd x0 x8) then (some x8) else (slices_Index_int_int.l0 k x0 x1 x7 (wrap64 (x8 + 1)))) else (none)) else (none)) else (some (-1))
def slices_Index_int_int.f (k : Nat) (l0 : List Int) (a1 : Int) : Option (Int) := slices_Index_int_int.l0 k l0 a1 (l0.length : Int) 0
theorem slices_Index_int_int.mono_l : ∀ k, (∀ y0 y1 y2 y3, LeO (slices_Index_int_int.l0 k y0 y1 y2 y3) (slices_Index_int_int.l0 (k + 1) y0 y1 y2 y3))
 | 0 => fun _ _ _ _ r h => by simp [slices_Index_int_int.l0] at h
 | k + 1 => by
  have ih0 := slices_Index_int_int.mono_l k
  ·intro y0 y1 y2 y3
   unfold slices_Index_int_int.l0
   repeat' first
   | (with_reducible exact ih0 _ _ _ _)
   | (with_reducible exact LeO.refl _)
   | (with_reducible exact LeO.none _)
   | (with_reducible refine LeO.ite ?_ ?_)
   | (with_reducible refine LeO.bind ?_ (fun _ => ?_))
   | exact ih0 _ _ _ _
   | exact LeO.none _
   | refine LeO.ite ?_ ?_
   | refine LeO.bind ?_ (fun _ => ?_)
theorem slices_Index_int_int.mono : ∀ a0 a1 k, LeO (slices_Index_int_int.f k a0 a1) (slices_Index_int_int.f (k + 1) a0 a1) := by
 intro a0 a1 k
 have ih0 := slices_Index_int_int.mono_l k
 unfold slices_Index_int_int.f
 repeat' first
   | (with_reducible exact ih0 _ _ _ _)
   | (with_reducible exact LeO.refl _)
   | (with_reducible exact LeO.none _)
   | (with_reducible refine LeO.ite ?_ ?_)
   | (with_reducible refine LeO.bind ?_ (fun _ => ?_))
   | exact ih0 _ _ _ _
   | exact LeO.none _
   | refine LeO.ite ?_ ?_
   | refine LeO.bind ?_ (fun _ => ?_)
set_option maxHeartbeats 8000000 in
set_option maxRecDepth 100000 in
theorem slices_Index_int_int.calls (k : Nat) (A0 : Option Addr) (c0 : Nat) (l0 : List Int) (a1 : Int) (r : Int) (w : World) (hr0 : Kd.C (Kd.int .i64) w A0 l0.length l0) (hc0 : l0.length ≤ c0) (h : slices_Index_int_int.f k l0 a1 = some r) :
  Calls Try.prog 90 #[.slice A0 l0.length c0, .int .i64 a1] w fun e w' => e = .returned (.int .i64 r) ∧ Drawn0 w w' := by
 have HR0 := Am hr0
 have HC0 := Am hc0
 clear hr0 hc0
 have H : (slices_Index_int_int.l0 k l0 a1 (l0.length : Int) 0) = some r := h
 clear h
 have H' := Am H
 clear H
 go_enter Try.func90, Try.ntmps90
 go_wp2
 go_loopg [8] k (fun kq v8 w' => ∃ (x8_1 : Int), v8 = .int .i64 x8_1 ∧ Ad (slices_Index_int_int.l0 kq l0 a1 (l0.length : Int) x8_1 = some r) ∧ Ad (kq ≤ k) ∧ Drawn0 w w')
 case atStart => exact ⟨(0), (by first | rfl | (simp; done) | (simp [*]; done)), H', ⟨Nat.le_refl _⟩, by repeat (first | exact Drawn0.refl _ | apply Drawn0.step)⟩
 case round =>
  clear H'
  try clear p2
  obtain ⟨x8_1, rfl, HA, HK1, ⟨m1, rfl⟩⟩ := hrel
  cases gk with
  | zero => exact absurd HA.out (by simp [slices_Index_int_int.l0])
  | succ k1 =>
   have H := HA.out
   clear HA
   simp only [slices_Index_int_int.l0] at H
   by_cases c3 : x8_1 < (l0.length : Int)
   ·rw [if_pos c3] at H
    have c3b0 : decide (x8_1 < (l0.length : Int)) = true := decide_eq_true c3
    clear c3
    by_cases c4 : 0 ≤ x8_1
    ·rw [if_pos c4] at H
     have c4b0 : decide (0 ≤ x8_1) = true := decide_eq_true c4
     clear c4
     by_cases c5 : x8_1 < (l0.length : Int)
     ·rw [if_pos c5] at H
      have c5b0 : decide (x8_1 < (l0.length : Int)) = true := decide_eq_true c5
      clear c5
      by_cases c6 : a1 = (rd l0 x8_1)
      ·rw [if_pos c6] at H
       have c6b0 : (a1 == (rd l0 x8_1)) = true := beq_iff_eq.mpr c6
       have c6b1 : (a1 != (rd l0 x8_1)) = false := bne_eq_false_iff_eq.mpr c6
       clear c6
       obtain rfl := Option.some.inj H
       have p320 : 0 ≤ (x8_1 : Int) := of_decide_eq_true (by assumption)
       have q320 : x8_1 < (l0.length : Int) := of_decide_eq_true (by assumption)
       obtain ⟨ad320, e320, hx320_0⟩ := Kd.at_int HR0.out x8_1 p320 q320
       cases e320
       replace p320 := eq_true p320
       replace q320 := eq_true q320
       go_wp2
       go_ret
       exact ⟨by first | rfl | (simp; done) | (simp [*]; done), by repeat (first | exact Drawn0.refl _ | apply Drawn0.step)⟩
      ·rw [if_neg c6] at H
       have c6b0 : (a1 == (rd l0 x8_1)) = false := beq_eq_false_iff_ne.mpr c6
       have c6b1 : (a1 != (rd l0 x8_1)) = true := bne_iff_ne.mpr c6
       have H' := Am H
       clear H
       have p320 : 0 ≤ (x8_1 : Int) := of_decide_eq_true (by assumption)
       have q320 : x8_1 < (l0.length : Int) := of_decide_eq_true (by assumption)
       obtain ⟨ad320, e320, hx320_0⟩ := Kd.at_int HR0.out x8_1 p320 q320
       cases e320
       replace p320 := eq_true p320
       replace q320 := eq_true q320
       go_wp2
       go_roundg k1
       case measure => have := HK1.out; omega
       case rel => exact ⟨(wrap64 (x8_1 + 1)), (by first | rfl | (simp; done) | (simp [*]; done)), H', ⟨by have := HK1.out; omega⟩, by repeat (first | exact Drawn0.refl _ | apply Drawn0.step)⟩
     ·rw [if_neg c5] at H
      exact absurd H (by simp)
    ·rw [if_neg c4] at H
     exact absurd H (by simp)
   ·rw [if_neg c3] at H
    have c3b0 : decide (x8_1 < (l0.length : Int)) = false := decide_eq_false c3
    clear c3
    obtain rfl := Option.some.inj H
    go_wp2
    go_ret
    exact ⟨by first | rfl | (simp; done) | (simp [*]; done), by repeat (first | exact Drawn0.refl _ | apply Drawn0.step)⟩
def slices_Contains_int_int.f (k : Nat) (l0 : List Int) (a1 : Int) : Option (Bool) := (slices_Index_int_int.f k l0 a1).bind fun t321 => (some (decide (t321 ≥ 0)))
theorem slices_Contains_int_int.mono : ∀ a0 a1 k, LeO (slices_Contains_int_int.f k a0 a1) (slices_Contains_int_int.f (k + 1) a0 a1) := by
 intro a0 a1 k
 unfold slices_Contains_int_int.f
 repeat' first
   | (with_reducible exact slices_Index_int_int.mono _ _ _)
   | (with_reducible exact LeO.refl _)
   | (with_reducible exact LeO.none _)
   | (with_reducible refine LeO.ite ?_ ?_)
   | (with_reducible refine LeO.bind ?_ (fun _ => ?_))
   | exact slices_Index_int_int.mono _ _ _
   | exact LeO.none _
   | refine LeO.ite ?_ ?_
   | refine LeO.bind ?_ (fun _ => ?_)
set_option maxHeartbeats 8000000 in
set_option maxRecDepth 100000 in
theorem slices_Contains_int_int.calls (k : Nat) (A0 : Option Addr) (c0 : Nat) (l0 : List Int) (a1 : Int) (r : Bool) (w : World) (hr0 : Kd.C (Kd.int .i64) w A0 l0.length l0) (hc0 : l0.length ≤ c0) (h : slices_Contains_int_int.f k l0 a1 = some r) :
  Calls Try.prog 65 #[.slice A0 l0.length c0, .int .i64 a1] w fun e w' => e = .returned (.bool r) ∧ Drawn0 w w' := by
 have HR0 := Am hr0
 have HC0 := Am hc0
 clear hr0 hc0
 have H : ((slices_Index_int_int.f k l0 a1).bind fun t321 => (some (decide (t321 ≥ 0)))) = some r := h
 clear h
 replace H := Option.bind_eq_some_iff.mp H
 obtain ⟨t321, A30, H⟩ := H
 replace H : (some (decide (t321 ≥ 0))) = some r := H
 have A3 := Am A30
 clear A30
 obtain rfl := Option.some.inj H
 go_enter Try.func65, Try.ntmps65
 go_wp2_with (first | ((refine Gc (f := 90) rfl ?_); refine goesL_ (some 7) rfl rfl Try.func90 (by kernel_rfl) rfl #[.slice A0 l0.length c0, .int .i64 a1] rfl (by first | rfl | (simp only [List.map_toArray, List.map_cons, List.map_nil]; first | done | rfl)) ?_; (with_reducible refine (slices_Index_int_int.calls k _ _ l0 a1 t321 _ ?side1 ?side2 A3.out).mono ?_); (case side1 => repeat (first | exact HR0.out | (with_reducible refine Kd.C_alloc ?_ _) | (with_reducible refine Kd.C_drewN ?_ _) | (with_reducible refine Kd.C_drew ?_))); (case side2 => exact HC0.out); rintro e w' ⟨rfl, ⟨nd, rfl⟩⟩; refine ⟨_, rfl, ?_⟩))
 go_ret
 exact ⟨by first | rfl | (simp; done) | (simp [*]; done), by repeat (first | exact Drawn0.refl _ | apply Drawn0.step)⟩
def impl_rise.l0 : Nat → List Int → Int → Option (Bool)
 | 0, _, _ => none
 | k + 1, x0, x3 => if x3 < (x0.length : Int) then (if 0 ≤ x3 then (if 0 ≤ (wrap64 (x3 - 1)) then (if (wrap64 (x3 - 1)) < (x0.length : Int) then (if (rd x0 x3) ≤ (rd x0 (wrap64 (x3 - 1))) then (some false) else (impl_rise.l0 k x0 (wrap64 (x3 + 1)))) else (none)) else (none)) else (none)) else (some true)
def impl_rise.f (k : Nat) (l0 : List Int) : Option (Bool) := impl_rise.l0 k l0 1
theorem impl_rise.mono_l : ∀ k, (∀ y0 y1, LeO (impl_rise.l0 k y0 y1) (impl_rise.l0 (k + 1) y0 y1))
 | 0 => fun _ _ r h => by simp [impl_rise.l0] at h
 | k + 1 => by
  have ih0 := impl_rise.mono_l k
  ·intro y0 y1
   unfold impl_rise.l0
   repeat' first
   | (with_reducible exact ih0 _ _)
   | (with_reducible exact LeO.refl _)
   | (with_reducible exact LeO.none _)
   | (with_reducible refine LeO.ite ?_ ?_)
   | (with_reducible refine LeO.bind ?_ (fun _ => ?_))
   | exact ih0 _ _
   | exact LeO.none _
   | refine LeO.ite ?_ ?_
   | refine LeO.bind ?_ (fun _ => ?_)
theorem impl_rise.mono : ∀ a0 k, LeO (impl_rise.f k a0) (impl_rise.f (k + 1) a0) := by
 intro a0 k
 have ih0 := impl_rise.mono_l k
 unfold impl_rise.f
 repeat' first
   | (with_reducible exact ih0 _ _)
   | (with_reducible exact LeO.refl _)
   | (with_reducible exact LeO.none _)
   | (with_reducible refine LeO.ite ?_ ?_)
   | (with_reducible refine LeO.bind ?_ (fun _ => ?_))
   | exact ih0 _ _
   | exact LeO.none _
   | refine LeO.ite ?_ ?_
   | refine LeO.bind ?_ (fun _ => ?_)
set_option maxHeartbeats 8000000 in
set_option maxRecDepth 100000 in
theorem impl_rise.calls (k : Nat) (A0 : Option Addr) (c0 : Nat) (l0 : List Int) (r : Bool) (w : World) (hr0 : Kd.C (Kd.int .i64) w A0 l0.length l0) (hc0 : l0.length ≤ c0) (h : impl_rise.f k l0 = some r) :
  Calls Try.prog 100 #[.slice A0 l0.length c0] w fun e w' => e = .returned (.bool r) ∧ Drawn0 w w' := by
 have HR0 := Am hr0
 have HC0 := Am hc0
 clear hr0 hc0
 have H : (impl_rise.l0 k l0 1) = some r := h
 clear h
 have H' := Am H
 clear H
 go_enter Try.func100, Try.ntmps100
 go_wp2
 repeat (go_quiet (fail); try go_wp2)
 go_loopg [3] k (fun kq v3 w' => ∃ (x3_1 : Int), v3 = .int .i64 x3_1 ∧ Ad (impl_rise.l0 kq l0 x3_1 = some r) ∧ Ad (kq ≤ k) ∧ Drawn0 w w')
 case atStart => exact ⟨(1), (by first | rfl | (simp; done) | (simp [*]; done)), H', ⟨Nat.le_refl _⟩, by repeat (first | exact Drawn0.refl _ | apply Drawn0.step)⟩
 case round =>
  clear H'
  try clear c1
  obtain ⟨x3_1, rfl, HA, HK1, ⟨m1, rfl⟩⟩ := hrel
  cases gk with
  | zero => exact absurd HA.out (by simp [impl_rise.l0])
  | succ k1 =>
   have H := HA.out
   clear HA
   simp only [impl_rise.l0] at H
   by_cases c2 : x3_1 < (l0.length : Int)
   ·rw [if_pos c2] at H
    have c2b0 : decide (x3_1 < (l0.length : Int)) = true := decide_eq_true c2
    clear c2
    by_cases c3 : 0 ≤ x3_1
    ·rw [if_pos c3] at H
     have c3b0 : decide (0 ≤ x3_1) = true := decide_eq_true c3
     clear c3
     obtain ⟨ji4, hji4⟩ : ∃ j_ : Int, (wrap64 (x3_1 - 1)) = j_ := ⟨_, rfl⟩
     replace H : (if 0 ≤ (ji4) then (if (ji4) < (l0.length : Int) then (if (rd l0 x3_1) ≤ (rd l0 (ji4)) then (some false) else (impl_rise.l0 k1 l0 (wrap64 (x3_1 + 1)))) else (none)) else (none)) = some r := by first | (rw [hji4] at H; exact H) | (simp only [hji4] at H ⊢; exact H)
     have hji4w : (IntKind.i64.wrap (x3_1 - 1)) = ji4 := (i64_w _).trans hji4
     by_cases c5 : 0 ≤ (ji4)
     ·rw [if_pos c5] at H
      have c5b0 : decide (0 ≤ (ji4)) = true := decide_eq_true c5
      clear c5
      by_cases c6 : (ji4) < (l0.length : Int)
      ·rw [if_pos c6] at H
       have c6b0 : decide ((ji4) < (l0.length : Int)) = true := decide_eq_true c6
       clear c6
       by_cases c7 : (rd l0 x3_1) ≤ (rd l0 (ji4))
       ·rw [if_pos c7] at H
        have c7b0 : decide ((rd l0 x3_1) ≤ (rd l0 (ji4))) = true := decide_eq_true c7
        clear c7
        obtain rfl := Option.some.inj H
        have p322 : 0 ≤ (x3_1 : Int) := of_decide_eq_true (by assumption)
        have q322 : x3_1 < (l0.length : Int) := of_decide_eq_true (by assumption)
        obtain ⟨ad322, e322, hx322_0⟩ := Kd.at_int HR0.out x3_1 p322 q322
        cases e322
        replace p322 := eq_true p322
        replace q322 := eq_true q322
        have p323 : 0 ≤ ((ji4) : Int) := of_decide_eq_true (by assumption)
        have q323 : (ji4) < (l0.length : Int) := of_decide_eq_true (by assumption)
        obtain ⟨ad323, e323, hx323_0⟩ := Kd.at_int HR0.out (ji4) p323 q323
        obtain rfl : ad322 = ad323 := (by injection e323)
        replace p323 := eq_true p323
        replace q323 := eq_true q323
        go_wp2
        repeat (go_quiet (fail); try go_wp2)
        go_ret
        exact ⟨by first | rfl | (simp; done) | (simp only [← hji4] <;> (first | rfl | simp)) | (simp [*]; done), by repeat (first | exact Drawn0.refl _ | apply Drawn0.step)⟩
       ·rw [if_neg c7] at H
        have c7b0 : decide ((rd l0 x3_1) ≤ (rd l0 (ji4))) = false := decide_eq_false c7
        clear c7
        have H' := Am H
        clear H
        have p322 : 0 ≤ (x3_1 : Int) := of_decide_eq_true (by assumption)
        have q322 : x3_1 < (l0.length : Int) := of_decide_eq_true (by assumption)
        obtain ⟨ad322, e322, hx322_0⟩ := Kd.at_int HR0.out x3_1 p322 q322
        cases e322
        replace p322 := eq_true p322
        replace q322 := eq_true q322
        have p323 : 0 ≤ ((ji4) : Int) := of_decide_eq_true (by assumption)
        have q323 : (ji4) < (l0.length : Int) := of_decide_eq_true (by assumption)
        obtain ⟨ad323, e323, hx323_0⟩ := Kd.at_int HR0.out (ji4) p323 q323
        obtain rfl : ad322 = ad323 := (by injection e323)
        replace p323 := eq_true p323
        replace q323 := eq_true q323
        go_wp2
        repeat (go_quiet (fail); try go_wp2)
        go_roundg k1
        case measure => have := HK1.out; omega
        case rel => exact ⟨(wrap64 (x3_1 + 1)), (by first | rfl | (simp; done) | (simp [*]; done)), H', ⟨by have := HK1.out; omega⟩, by repeat (first | exact Drawn0.refl _ | apply Drawn0.step)⟩
      ·rw [if_neg c6] at H
       exact absurd H (by simp)
     ·rw [if_neg c5] at H
      exact absurd H (by simp)
    ·rw [if_neg c3] at H
     exact absurd H (by simp)
   ·rw [if_neg c2] at H
    have c2b0 : decide (x3_1 < (l0.length : Int)) = false := decide_eq_false c2
    clear c2
    obtain rfl := Option.some.inj H
    go_wp2
    repeat (go_quiet (fail); try go_wp2)
    go_ret
    exact ⟨by first | rfl | (simp; done) | (simp [*]; done), by repeat (first | exact Drawn0.refl _ | apply Drawn0.step)⟩
theorem within_f_77 (a b c : Int) : impl_within.f a b c = some (Mine.inB b c a) := by
 unfold impl_within.f Mine.inB
 by_cases h : b ≤ a
 ·rw [if_pos h]; simp [h]
 ·rw [if_neg h]; simp [h]
theorem impl_areMembers.lit (n x : Int) (B : Nat) (w : World) (hb : w.heap[B]? = some (.cells #[.int .i64 n] 3 (0, 0))) :
  Calls Try.prog 101 #[.int .i64 x, .pointer (some ⟨B, 0, none⟩)] w fun e w' => e = .returned (.bool (Mine.outB 0 (wrap64 (n - 1)) x)) ∧ Below w.heap.size w w' := by
 have hc := Kc hb 0
 have hw := Am (within_f_77 x 0 (wrap64 (n - 1)))
 go_enter Try.func101, Try.ntmps101
 go_wp2_with fail
 refine (impl_within.calls _ _ _ _ _ hw.out).mono ?_; rintro e w' ⟨rfl, hd⟩
 go_wp2
 go_ret
 exact ⟨rfl, hd.below⟩
theorem impl_areMembers.rise (l : List Int) (hl : l.length ≤ 9223372036854775807) : ∃ k, impl_rise.f k l = some (Mine.riseB l) := by
 have next : ∀ i : Int, 0 ≤ i → i < (l.length : Int) → wrap64 (i + 1) = i + 1 := by intro i h0 h1; unfold wrap64; omega
 have prev : ∀ i : Int, 1 ≤ i → i < (l.length : Int) → wrap64 (i - 1) = i - 1 := by intro i h0 h1; unfold wrap64; omega
 have step : ∀ (d : Nat) (j : Nat), 1 ≤ j → l.length - j = d → ∃ k, impl_rise.l0 k l (j : Int) = some (Mine.riseB (l.drop (j - 1))) := by
  intro d
  induction d with
  | zero =>
   intro j hj hd
   refine ⟨1, ?_⟩
   simp only [impl_rise.l0]
   rw [if_neg (by omega)]
   have : (l.drop (j - 1)).length ≤ 1 := by rw [List.length_drop]; omega
   match h : l.drop (j - 1), this with
   | [], _ => rfl
   | [_], _ => rfl
  | succ d ih =>
   intro j hj hd
   have hlt : j < l.length := by omega
   have e1 : l.drop (j - 1) = l.getD (j - 1) 0 :: l.drop j := by
    have := Mine.drop_at l 0 (j - 1) (by omega)
    rwa [show j - 1 + 1 = j by omega] at this
   have e2 := Mine.drop_at l 0 j hlt
   have r1 : rd l (j : Int) = l.getD j 0 := by unfold rd; rw [Int.toNat_natCast]
   have r2 : rd l ((j : Int) - 1) = l.getD (j - 1) 0 := by unfold rd; congr 1; omega
   obtain ⟨k, hk⟩ := ih (j + 1) (by omega) (by omega)
   rw [show j + 1 - 1 = j by omega] at hk
   refine ⟨k + 1, ?_⟩
   simp only [impl_rise.l0]
   rw [if_pos (by omega), if_pos (by omega), prev _ (by omega) (by omega), if_pos (by omega), if_pos (by omega), r1, r2, next _ (by omega) (by omega), e1, e2, Mine.riseB]
   by_cases h : l.getD j 0 ≤ l.getD (j - 1) 0
   ·rw [if_pos h, decide_eq_false (by omega : ¬ l.getD (j - 1) 0 < l.getD j 0), Bool.false_and]
   ·rw [if_neg h]
    have hlt' : l.getD (j - 1) 0 < l.getD j 0 := by omega
    rw [← e2, show ((j : Int) + 1) = ((j + 1 : Nat) : Int) by omega, hk]
    simp only [decide_eq_true hlt', Bool.true_and]
 obtain ⟨k, hk⟩ := step (l.length - 1) 1 (by omega) rfl
 refine ⟨k, ?_⟩
 unfold impl_rise.f
 simpa using hk
def impl_areMembers.f (a0 : Int) (l1 : List Int) : Option Bool := some (Mine.riseB l1 && !Mine.anyP (Mine.outB 0 (wrap64 (a0 - 1))) l1)
set_option maxHeartbeats 2000000 in
theorem impl_areMembers.calls (a0 : Int) (A1 : Option Addr) (c1 : Nat) (l1 : List Int) (r : Bool) (w : World) (hr1 : Kd.C (Kd.int .i64) w A1 l1.length l1) (hc1 : l1.length ≤ c1) (h : impl_areMembers.f a0 l1 = some r) :
  Calls Try.prog 77 #[.int .i64 a0, .slice A1 l1.length c1] w fun e w' => e = .returned (.bool r) ∧ Below w.heap.size w w' := by
 obtain rfl := Option.some.inj h
 obtain ⟨k, hk⟩ := impl_areMembers.rise l1 hr1.2.1
 have eg : ∀ args w, (callFunc 101 args).run Try.prog w = .ok (.enter 101 args) w := fun args w => enters_ Try.func101 (by kernel_rfl) rfl args w
 cases hq : Mine.riseB l1 with
 | false =>
  rw [hq] at hk
  have HK := Am hk
  clear hq hk h eg
  go_enter Try.func77, Try.ntmps77
  go_wp2_with fail
  refine (impl_rise.calls k A1 c1 l1 _ _ (Cb hr1 (Ba (Below.refl _ _) _)) hc1 HK.out).mono ?_; rintro e w' ⟨rfl, hd⟩
  have hb := hd.below
  go_wp2
  go_ret
  exact ⟨rfl, Bt (Ba (Below.refl _ _) _) hb⟩
 | true =>
  rw [hq] at hk
  have HK := Am hk
  have HE := Am eg
  clear hq hk h eg
  go_enter Try.func77, Try.ntmps77
  go_wp2_with fail
  refine (impl_rise.calls k A1 c1 l1 _ _ (Cb hr1 (Ba (Below.refl _ _) _)) hc1 HK.out).mono ?_; rintro e w' ⟨rfl, hd⟩
  have hb := hd.below
  have hbk := Kb (blk_new w (.cells #[.int .i64 a0] 3)) hb
  have HB := Am (Bt (Ba (Below.refl _ _) _) hb)
  clear hb hd
  go_wp2_with fail
  refine (slices_ContainsFunc_int_int.any 101 #[.pointer (some ⟨w.heap.size, 0, none⟩)] (Mine.outB 0 (wrap64 (a0 - 1))) A1 c1 l1 w' HE.out (Cb hr1 HB.out) hc1 (fun W x _ hW => impl_areMembers.lit a0 x w.heap.size W (Kb hbk hW))).mono ?_; rintro e w'' ⟨rfl, hb⟩
  have HB2 := Am (Bt HB.out hb)
  clear hb
  go_wp2
  go_ret
  exact ⟨rfl, HB2.out⟩
def impl_goodLead_1.f (k : Nat) (a0_0 : Int) (a0_1 : Int) (a0_2 : Int) (a0_3 : Int) (a0_4 : Int) (a0_5 : Int) (a0_6 : Int) (a0_7 : Int) (a0_8 : Int) (l0_9 : List Int) (a1_0 : Int) : Option (Bool) := (impl_goodRow.f k a1_0 a0_0 a0_1 a0_2 a0_3 a0_4 a0_5 a0_6 a0_7 a0_8 l0_9).bind fun t326 => (if t326 = true then (some (a0_2 == 3)) else (some true))
theorem impl_goodLead_1.mono : ∀ a0 a1 a2 a3 a4 a5 a6 a7 a8 a9 a10 k, LeO (impl_goodLead_1.f k a0 a1 a2 a3 a4 a5 a6 a7 a8 a9 a10) (impl_goodLead_1.f (k + 1) a0 a1 a2 a3 a4 a5 a6 a7 a8 a9 a10) := by
 intro a0 a1 a2 a3 a4 a5 a6 a7 a8 a9 a10 k
 unfold impl_goodLead_1.f
 repeat' first
   | (with_reducible exact impl_goodRow.mono _ _ _ _ _ _ _ _ _ _ _ _)
   | (with_reducible exact LeO.refl _)
   | (with_reducible exact LeO.none _)
   | (with_reducible refine LeO.ite ?_ ?_)
   | (with_reducible refine LeO.bind ?_ (fun _ => ?_))
   | exact impl_goodRow.mono _ _ _ _ _ _ _ _ _ _ _ _
   | exact LeO.none _
   | refine LeO.ite ?_ ?_
   | refine LeO.bind ?_ (fun _ => ?_)
set_option maxHeartbeats 8000000 in
set_option maxRecDepth 100000 in
theorem impl_goodLead_1.calls (k : Nat) (a0_0 : Int) (a0_1 : Int) (a0_2 : Int) (a0_3 : Int) (a0_4 : Int) (a0_5 : Int) (a0_6 : Int) (a0_7 : Int) (a0_8 : Int) (A0_9 : Option Addr) (c0_9 : Nat) (l0_9 : List Int) (gq1 : Nat) (a1_0 : Int) (r : Bool) (w : World) (hr0_9 : Kd.C (Kd.int .i64) w A0_9 l0_9.length l0_9) (hc0_9 : l0_9.length ≤ c0_9) (hb1 : w.heap[gq1]? = some (.cells #[.int .i64 a1_0] 3 (0, 0))) (h : impl_goodLead_1.f k a0_0 a0_1 a0_2 a0_3 a0_4 a0_5 a0_6 a0_7 a0_8 l0_9 a1_0 = some r) :
  Calls Try.prog 79 #[.agg #[.int .i64 a0_0, .int .i64 a0_1, .int .i64 a0_2, .int .i64 a0_3, .int .i64 a0_4, .int .i64 a0_5, .int .i64 a0_6, .int .i64 a0_7, .int .i64 a0_8, .slice A0_9 l0_9.length c0_9], .pointer (some ⟨gq1, 0, none⟩)] w fun e w' => e = .returned (.bool r) ∧ Below w.heap.size w w' := by
 have hu39 := Try.underlying39
 have HR0_9 := Am hr0_9
 have HC0_9 := Am hc0_9
 clear hr0_9 hc0_9
 have BK324 := Am hb1
 clear hb1
 have HB := Am (Below.refl w.heap.size w)
 have H : ((impl_goodRow.f k a1_0 a0_0 a0_1 a0_2 a0_3 a0_4 a0_5 a0_6 a0_7 a0_8 l0_9).bind fun t326 => (if t326 = true then (some (a0_2 == 3)) else (some true))) = some r := h
 clear h
 replace H := Option.bind_eq_some_iff.mp H
 obtain ⟨t326, A30, H⟩ := H
 replace H : (if t326 = true then (some (a0_2 == 3)) else (some true)) = some r := H
 have A3 := Am A30
 clear A30
 by_cases c4 : t326 = true
 ·subst c4
  have H1 : (some (a0_2 == 3)) = some r := by rw [if_pos rfl] at H; exact H
  clear H
  have H := H1
  clear H1
  obtain rfl := Option.some.inj H
  go_enter Try.func79, Try.ntmps79
  go_wp2_with (first | ((refine Gd (N := 2) rfl ?_); refine Be ?hg (N := 2) ?hd (cs := #[.int .i64 a0_0, .int .i64 a0_1, .int .i64 a0_2, .int .i64 a0_3, .int .i64 a0_4, .int .i64 a0_5, .int .i64 a0_6, .int .i64 a0_7, .int .i64 a0_8, .slice A0_9 l0_9.length c0_9]) (t := 39) ?hr ?_; (case hd | hg => rfl); (case hr => first | (go_simp; done) | (go_simp; rfl)); intro gb325 hg w5 hbox hb; have n0_ := Am (Kb (g := gq1) (o := .cells #[.int .i64 a1_0] 3 (0, 0)) (by (with_reducible repeat (first | refine Kn ?_ _ | refine Ke ?_ | refine Ka ?_ _)); exact BK324.out) hb); have n1_ := Am (Bt (by repeat (first | (with_reducible first | exact HB.out | apply Ba | apply Bn | apply Bd | refine Bs ?_ GE324.out) | exact HB.out)) hb); have n2_ := Am (hbox); have n3_ := Am ((by rw [hg]; exact (Bz (by repeat (first | (with_reducible first | exact HB.out | apply Ba | apply Bn | apply Bd | refine Bs ?_ GE324.out) | exact HB.out))) : w.heap.size ≤ gb325)); have n4_ := Am ((by rw [hg]; exact (Bz (by repeat (first | (with_reducible first | exact HB.out | apply Ba | apply Bn | apply Bd | refine Bs ?_ GE324.out) | exact HB.out))) : w.heap.size ≤ gb325)); have n5_ := Am ((by rw [hg]; exact Nat.ne_of_lt (Kl (g := gq1) (o := .cells #[.int .i64 a1_0] 3 (0, 0)) (by (with_reducible repeat (first | refine Kn ?_ _ | refine Ke ?_ | refine Ka ?_ _)); exact BK324.out)) : gq1 ≠ gb325)); have n6_ := Am ((by rw [hg]; exact Nat.ne_of_gt (Kl (g := gq1) (o := .cells #[.int .i64 a1_0] 3 (0, 0)) (by (with_reducible repeat (first | refine Kn ?_ _ | refine Ke ?_ | refine Ka ?_ _)); exact BK324.out)) : gb325 ≠ gq1)); clear BK324; clear HB; have BK324 := n0_; have HB := n1_; have BK325 := n2_; have GW325 := n3_; have GE325 := n4_; have NB324_325 := n5_; have NB325_324 := n6_; clear n0_ n1_ n2_ n3_ n4_ n5_ n6_; clear hb hbox hg; have hnb6 := NB324_325.out; have hnc6 := NB325_324.out; have hcz7_0 : w5.cell? ⟨gq1, 0, none⟩ = some (.int .i64 a1_0) := (Kc BK324.out 0).trans rfl; have hfz7_0 := Kz BK324.out 0; have hcz8_0 : w5.cell? ⟨gb325, 0, none⟩ = some (.int .i64 a0_0) := (Kc BK325.out 0).trans rfl; have hcz8_1 : w5.cell? ⟨gb325, 1, none⟩ = some (.int .i64 a0_1) := (Kc BK325.out 1).trans rfl; have hcz8_2 : w5.cell? ⟨gb325, 2, none⟩ = some (.int .i64 a0_2) := (Kc BK325.out 2).trans rfl; have hcz8_3 : w5.cell? ⟨gb325, 3, none⟩ = some (.int .i64 a0_3) := (Kc BK325.out 3).trans rfl; have hcz8_4 : w5.cell? ⟨gb325, 4, none⟩ = some (.int .i64 a0_4) := (Kc BK325.out 4).trans rfl; have hcz8_5 : w5.cell? ⟨gb325, 5, none⟩ = some (.int .i64 a0_5) := (Kc BK325.out 5).trans rfl; have hcz8_6 : w5.cell? ⟨gb325, 6, none⟩ = some (.int .i64 a0_6) := (Kc BK325.out 6).trans rfl; have hcz8_7 : w5.cell? ⟨gb325, 7, none⟩ = some (.int .i64 a0_7) := (Kc BK325.out 7).trans rfl; have hcz8_8 : w5.cell? ⟨gb325, 8, none⟩ = some (.int .i64 a0_8) := (Kc BK325.out 8).trans rfl; have hcz8_9 : w5.cell? ⟨gb325, 9, none⟩ = some (.slice A0_9 l0_9.length c0_9) := (Kc BK325.out 9).trans rfl; have hfz8_0 := Kz BK325.out 0; have hfz8_1 := Kz BK325.out 1; have hfz8_2 := Kz BK325.out 2; have hfz8_3 := Kz BK325.out 3; have hfz8_4 := Kz BK325.out 4; have hfz8_5 := Kz BK325.out 5; have hfz8_6 := Kz BK325.out 6; have hfz8_7 := Kz BK325.out 7; have hfz8_8 := Kz BK325.out 8; have hfz8_9 := Kz BK325.out 9) | ((refine Gc (f := 52) rfl ?_); refine goesL_ (some 6) rfl rfl Try.func52 (by kernel_rfl) rfl #[.int .i64 a1_0, .agg #[.int .i64 a0_0, .int .i64 a0_1, .int .i64 a0_2, .int .i64 a0_3, .int .i64 a0_4, .int .i64 a0_5, .int .i64 a0_6, .int .i64 a0_7, .int .i64 a0_8, .slice A0_9 l0_9.length c0_9]] rfl (by first | rfl | (simp only [List.map_toArray, List.map_cons, List.map_nil]; first | done | rfl)) ?_; (with_reducible refine (impl_goodRow.calls k a1_0 a0_0 a0_1 a0_2 a0_3 a0_4 a0_5 a0_6 a0_7 a0_8 _ _ l0_9 true _ ?side1 ?side2 A3.out).mono ?_); (case side1 => repeat (first | exact (Cb HR0_9.out HB.out) | (with_reducible refine Kd.C_alloc ?_ _) | (with_reducible refine Kd.C_drewN ?_ _) | (with_reducible refine Kd.C_drew ?_))); (case side2 => exact HC0_9.out); rintro e w9 ⟨rfl, hb⟩; refine ⟨_, rfl, ?_⟩; have n0_ := Am (Kb (g := gq1) (o := .cells #[.int .i64 a1_0] 3 (0, 0)) (by (with_reducible repeat (first | refine Kn ?_ _ | refine Ke ?_ | refine Ka ?_ _)); exact BK324.out) hb); have n1_ := Am (Kb (g := gb325) (o := .cells #[.int .i64 a0_0, .int .i64 a0_1, .int .i64 a0_2, .int .i64 a0_3, .int .i64 a0_4, .int .i64 a0_5, .int .i64 a0_6, .int .i64 a0_7, .int .i64 a0_8, .slice A0_9 l0_9.length c0_9] 39 (0, 0)) (by (with_reducible repeat (first | refine Kn ?_ _ | refine Ke ?_ | refine Ka ?_ _)); exact BK325.out) hb); have n2_ := Am (Bt (by repeat (first | (with_reducible first | exact HB.out | apply Ba | apply Bn | apply Bd | refine Bs ?_ GE324.out | refine Bs ?_ GE325.out) | exact HB.out)) hb); clear BK324; clear BK325; clear HB; have BK324 := n0_; have BK325 := n1_; have HB := n2_; clear n0_ n1_ n2_; (try clear hb); (try clear hb2); (try clear hk); (try clear hi); have hcz10_0 : w9.cell? ⟨gb325, 0, none⟩ = some (.int .i64 a0_0) := (Kc BK325.out 0).trans rfl; have hcz10_1 : w9.cell? ⟨gb325, 1, none⟩ = some (.int .i64 a0_1) := (Kc BK325.out 1).trans rfl; have hcz10_2 : w9.cell? ⟨gb325, 2, none⟩ = some (.int .i64 a0_2) := (Kc BK325.out 2).trans rfl; have hcz10_3 : w9.cell? ⟨gb325, 3, none⟩ = some (.int .i64 a0_3) := (Kc BK325.out 3).trans rfl; have hcz10_4 : w9.cell? ⟨gb325, 4, none⟩ = some (.int .i64 a0_4) := (Kc BK325.out 4).trans rfl; have hcz10_5 : w9.cell? ⟨gb325, 5, none⟩ = some (.int .i64 a0_5) := (Kc BK325.out 5).trans rfl; have hcz10_6 : w9.cell? ⟨gb325, 6, none⟩ = some (.int .i64 a0_6) := (Kc BK325.out 6).trans rfl; have hcz10_7 : w9.cell? ⟨gb325, 7, none⟩ = some (.int .i64 a0_7) := (Kc BK325.out 7).trans rfl; have hcz10_8 : w9.cell? ⟨gb325, 8, none⟩ = some (.int .i64 a0_8) := (Kc BK325.out 8).trans rfl; have hcz10_9 : w9.cell? ⟨gb325, 9, none⟩ = some (.slice A0_9 l0_9.length c0_9) := (Kc BK325.out 9).trans rfl; have hfz10_0 := Kz BK325.out 0; have hfz10_1 := Kz BK325.out 1; have hfz10_2 := Kz BK325.out 2; have hfz10_3 := Kz BK325.out 3; have hfz10_4 := Kz BK325.out 4; have hfz10_5 := Kz BK325.out 5; have hfz10_6 := Kz BK325.out 6; have hfz10_7 := Kz BK325.out 7; have hfz10_8 := Kz BK325.out 8; have hfz10_9 := Kz BK325.out 9))
  go_ret
  exact ⟨by first | rfl | (simp [*, errW_none, errW_some] <;> rfl), by repeat (first | (with_reducible first | exact HB.out | apply Ba | apply Bn | apply Bd | refine Bs ?_ GE324.out | refine Bs ?_ GE325.out) | exact HB.out)⟩
 ·replace c4 := Bool.eq_false_iff.mpr c4
  subst c4
  have H1 : (some true) = some r := by rw [if_neg (show ¬ (false = true) by decide)] at H; exact H
  clear H
  have H := H1
  clear H1
  obtain rfl := Option.some.inj H
  go_enter Try.func79, Try.ntmps79
  go_wp2_with (first | ((refine Gd (N := 2) rfl ?_); refine Be ?hg (N := 2) ?hd (cs := #[.int .i64 a0_0, .int .i64 a0_1, .int .i64 a0_2, .int .i64 a0_3, .int .i64 a0_4, .int .i64 a0_5, .int .i64 a0_6, .int .i64 a0_7, .int .i64 a0_8, .slice A0_9 l0_9.length c0_9]) (t := 39) ?hr ?_; (case hd | hg => rfl); (case hr => first | (go_simp; done) | (go_simp; rfl)); intro gb325 hg w11 hbox hb; have n0_ := Am (Kb (g := gq1) (o := .cells #[.int .i64 a1_0] 3 (0, 0)) (by (with_reducible repeat (first | refine Kn ?_ _ | refine Ke ?_ | refine Ka ?_ _)); exact BK324.out) hb); have n1_ := Am (Bt (by repeat (first | (with_reducible first | exact HB.out | apply Ba | apply Bn | apply Bd | refine Bs ?_ GE324.out) | exact HB.out)) hb); have n2_ := Am (hbox); have n3_ := Am ((by rw [hg]; exact (Bz (by repeat (first | (with_reducible first | exact HB.out | apply Ba | apply Bn | apply Bd | refine Bs ?_ GE324.out) | exact HB.out))) : w.heap.size ≤ gb325)); have n4_ := Am ((by rw [hg]; exact (Bz (by repeat (first | (with_reducible first | exact HB.out | apply Ba | apply Bn | apply Bd | refine Bs ?_ GE324.out) | exact HB.out))) : w.heap.size ≤ gb325)); have n5_ := Am ((by rw [hg]; exact Nat.ne_of_lt (Kl (g := gq1) (o := .cells #[.int .i64 a1_0] 3 (0, 0)) (by (with_reducible repeat (first | refine Kn ?_ _ | refine Ke ?_ | refine Ka ?_ _)); exact BK324.out)) : gq1 ≠ gb325)); have n6_ := Am ((by rw [hg]; exact Nat.ne_of_gt (Kl (g := gq1) (o := .cells #[.int .i64 a1_0] 3 (0, 0)) (by (with_reducible repeat (first | refine Kn ?_ _ | refine Ke ?_ | refine Ka ?_ _)); exact BK324.out)) : gb325 ≠ gq1)); clear BK324; clear HB; have BK324 := n0_; have HB := n1_; have BK325 := n2_; have GW325 := n3_; have GE325 := n4_; have NB324_325 := n5_; have NB325_324 := n6_; clear n0_ n1_ n2_ n3_ n4_ n5_ n6_; clear hb hbox hg; have hnb12 := NB324_325.out; have hnc12 := NB325_324.out; have hcz13_0 : w11.cell? ⟨gq1, 0, none⟩ = some (.int .i64 a1_0) := (Kc BK324.out 0).trans rfl; have hfz13_0 := Kz BK324.out 0; have hcz14_0 : w11.cell? ⟨gb325, 0, none⟩ = some (.int .i64 a0_0) := (Kc BK325.out 0).trans rfl; have hcz14_1 : w11.cell? ⟨gb325, 1, none⟩ = some (.int .i64 a0_1) := (Kc BK325.out 1).trans rfl; have hcz14_2 : w11.cell? ⟨gb325, 2, none⟩ = some (.int .i64 a0_2) := (Kc BK325.out 2).trans rfl; have hcz14_3 : w11.cell? ⟨gb325, 3, none⟩ = some (.int .i64 a0_3) := (Kc BK325.out 3).trans rfl; have hcz14_4 : w11.cell? ⟨gb325, 4, none⟩ = some (.int .i64 a0_4) := (Kc BK325.out 4).trans rfl; have hcz14_5 : w11.cell? ⟨gb325, 5, none⟩ = some (.int .i64 a0_5) := (Kc BK325.out 5).trans rfl; have hcz14_6 : w11.cell? ⟨gb325, 6, none⟩ = some (.int .i64 a0_6) := (Kc BK325.out 6).trans rfl; have hcz14_7 : w11.cell? ⟨gb325, 7, none⟩ = some (.int .i64 a0_7) := (Kc BK325.out 7).trans rfl; have hcz14_8 : w11.cell? ⟨gb325, 8, none⟩ = some (.int .i64 a0_8) := (Kc BK325.out 8).trans rfl; have hcz14_9 : w11.cell? ⟨gb325, 9, none⟩ = some (.slice A0_9 l0_9.length c0_9) := (Kc BK325.out 9).trans rfl; have hfz14_0 := Kz BK325.out 0; have hfz14_1 := Kz BK325.out 1; have hfz14_2 := Kz BK325.out 2; have hfz14_3 := Kz BK325.out 3; have hfz14_4 := Kz BK325.out 4; have hfz14_5 := Kz BK325.out 5; have hfz14_6 := Kz BK325.out 6; have hfz14_7 := Kz BK325.out 7; have hfz14_8 := Kz BK325.out 8; have hfz14_9 := Kz BK325.out 9) | ((refine Gc (f := 52) rfl ?_); refine goesL_ (some 6) rfl rfl Try.func52 (by kernel_rfl) rfl #[.int .i64 a1_0, .agg #[.int .i64 a0_0, .int .i64 a0_1, .int .i64 a0_2, .int .i64 a0_3, .int .i64 a0_4, .int .i64 a0_5, .int .i64 a0_6, .int .i64 a0_7, .int .i64 a0_8, .slice A0_9 l0_9.length c0_9]] rfl (by first | rfl | (simp only [List.map_toArray, List.map_cons, List.map_nil]; first | done | rfl)) ?_; (with_reducible refine (impl_goodRow.calls k a1_0 a0_0 a0_1 a0_2 a0_3 a0_4 a0_5 a0_6 a0_7 a0_8 _ _ l0_9 false _ ?side1 ?side2 A3.out).mono ?_); (case side1 => repeat (first | exact (Cb HR0_9.out HB.out) | (with_reducible refine Kd.C_alloc ?_ _) | (with_reducible refine Kd.C_drewN ?_ _) | (with_reducible refine Kd.C_drew ?_))); (case side2 => exact HC0_9.out); rintro e w15 ⟨rfl, hb⟩; refine ⟨_, rfl, ?_⟩; have n0_ := Am (Kb (g := gq1) (o := .cells #[.int .i64 a1_0] 3 (0, 0)) (by (with_reducible repeat (first | refine Kn ?_ _ | refine Ke ?_ | refine Ka ?_ _)); exact BK324.out) hb); have n1_ := Am (Kb (g := gb325) (o := .cells #[.int .i64 a0_0, .int .i64 a0_1, .int .i64 a0_2, .int .i64 a0_3, .int .i64 a0_4, .int .i64 a0_5, .int .i64 a0_6, .int .i64 a0_7, .int .i64 a0_8, .slice A0_9 l0_9.length c0_9] 39 (0, 0)) (by (with_reducible repeat (first | refine Kn ?_ _ | refine Ke ?_ | refine Ka ?_ _)); exact BK325.out) hb); have n2_ := Am (Bt (by repeat (first | (with_reducible first | exact HB.out | apply Ba | apply Bn | apply Bd | refine Bs ?_ GE324.out | refine Bs ?_ GE325.out) | exact HB.out)) hb); clear BK324; clear BK325; clear HB; have BK324 := n0_; have BK325 := n1_; have HB := n2_; clear n0_ n1_ n2_; (try clear hb); (try clear hb2); (try clear hk); (try clear hi)))
  go_ret
  exact ⟨by first | rfl | (simp [*, errW_none, errW_some] <;> rfl), by repeat (first | (with_reducible first | exact HB.out | apply Ba | apply Bn | apply Bd | refine Bs ?_ GE324.out | refine Bs ?_ GE325.out) | exact HB.out)⟩
end Go.Proofs.Ytilmcfdhijdhpaa.QFnExactGoodReplica
