-- Written by a program of this session (wip/mk.py) over the kit's print: Lean checks it.
import Derived.Test.YtacpjifbgnlppaaQFnExactAttrForx0
import Derived.Test.YtacpjifbgnlppaaQFnExactAttrForx8
import Derived.Test.YtacpjifbgnlppaaQFnExactAttrForx10
import Derived.Test.YtacpjifbgnlppaaQFnExactAttrForx11
import Derived.Test.YtacpjifbgnlppaaQFnExactAttrForx12
namespace Go.Proofs.Ytacpjifbgnlppaa.QFnExactAttrFor
open Go.Proofs.YtacpjifbgnlppaaW.PrintWords.Kd renaming R_alloc → Ra, R_drewN → Rn, R_drew → Rd
open Go.Proofs.YtacpjifbgnlppaaW.PrintWords renaming below_alloc → Ba, pw_below_drewN → Bn, below_drew1 → Bd, below_set → Bs, below_size → Bz, below_step → Bt, gate_dst → Gd, gate_callee → Gc, box_event → Be, blk_alloc → Ka, blk_drewN → Kn, blk_drew → Ke, blk_below → Kb, blk_cell → Kc, blk_far → Kf, blk_frozen → Kz
open Go.Proofs.YtacpjifbgnlppaaW.PrintWords.Aside0 renaming mk → Am
open Go.Proofs.YtacpjifbgnlppaaW.PrintWords renaming Aside0 → Ad
open Go.RowKit Go.Proofs.YtacpjifbgnlppaaW.PrintWords Go.Proofs.YtacpjifbgnlppaaW.PrintLast Go.Proofs.YtacpjifbgnlppaaW.PrintMore
attribute [local go_sem] max2_int min2_int max_two min_two max_three min_three max_four min_four   -- for this text's walks alone
set_option linter.unusedVariables false
set_option linter.unusedSimpArgs false
def impl_GoodTable_1_1.f (k : Nat) (a0_0 : Int) (a0_1 : Int) (a0_2 : Int) (a0_3 : Int) (a0_4 : Int) (a0_5 : Int) (a0_6 : Int) (a0_7 : Int) (a0_8 : Int) (l0_9 : List Int) (a1_0 : Int) (l1_1 : List (List (S72))) : Option (Bool) := (impl_goodRow.f k a1_0 a0_0 a0_1 a0_2 a0_3 a0_4 a0_5 a0_6 a0_7 a0_8 l0_9).bind fun t338 => (some (!t338))
theorem impl_GoodTable_1_1.mono : ∀ a0 a1 a2 a3 a4 a5 a6 a7 a8 a9 a10 a11 k, LeO (impl_GoodTable_1_1.f k a0 a1 a2 a3 a4 a5 a6 a7 a8 a9 a10 a11) (impl_GoodTable_1_1.f (k + 1) a0 a1 a2 a3 a4 a5 a6 a7 a8 a9 a10 a11) := by
 intro a0 a1 a2 a3 a4 a5 a6 a7 a8 a9 a10 a11 k
 unfold impl_GoodTable_1_1.f
 repeat' first
   | (with_reducible exact impl_goodRow.mono _ _ _ _ _ _ _ _ _ _ _ _)
   | (with_reducible exact LeO.refl _)
   | (with_reducible exact LeO.none _)
   | (with_reducible refine LeO.ite ?_ ?_)
   | (with_reducible refine LeO.bind ?_ (fun _ => ?_))
   | exact impl_goodRow.mono _ _ _ _ _ _ _ _ _ _ _ _
   | exact LeO.none _
   | refine LeO.ite ?_ ?_
   | refine LeO.bind ?_ (fun _ => ?_)
set_option maxHeartbeats 8000000 in
set_option maxRecDepth 100000 in
theorem impl_GoodTable_1_1.calls (k : Nat) (a0_0 : Int) (a0_1 : Int) (a0_2 : Int) (a0_3 : Int) (a0_4 : Int) (a0_5 : Int) (a0_6 : Int) (a0_7 : Int) (a0_8 : Int) (A0_9 : Option Addr) (c0_9 : Nat) (l0_9 : List Int) (gq1 : Nat) (a1_0 : Int) (A1_1 : Option Addr) (c1_1 : Nat) (l1_1 : List (List (S72))) (r : Bool) (w : World) (hr0_9 : Kd.C (Kd.int .i64) w A0_9 l0_9.length l0_9) (hc0_9 : l0_9.length ≤ c0_9) (hr1_1 : Kd.C (Kd.slice 72 k72) w A1_1 l1_1.length l1_1) (hc1_1 : l1_1.length ≤ c1_1) (hb1 : w.heap[gq1]? = some (.cells #[.int .i64 a1_0, .slice A1_1 l1_1.length c1_1] 29 (0, 0))) (h : impl_GoodTable_1_1.f k a0_0 a0_1 a0_2 a0_3 a0_4 a0_5 a0_6 a0_7 a0_8 l0_9 a1_0 l1_1 = some r) :
  Calls Try.prog 46 #[.agg #[.int .i64 a0_0, .int .i64 a0_1, .int .i64 a0_2, .int .i64 a0_3, .int .i64 a0_4, .int .i64 a0_5, .int .i64 a0_6, .int .i64 a0_7, .int .i64 a0_8, .slice A0_9 l0_9.length c0_9], .pointer (some ⟨gq1, 0, none⟩)] w fun e w' => e = .returned (.bool r) ∧ Below w.heap.size w w' := by
 have hu72 := Try.underlying72
 have HR0_9 := Am hr0_9
 have HC0_9 := Am hc0_9
 clear hr0_9 hc0_9
 have HR1_1 := Am hr1_1
 have HC1_1 := Am hc1_1
 clear hr1_1 hc1_1
 have BK336 := Am hb1
 clear hb1
 have HB := Am (Below.refl w.heap.size w)
 have H : ((impl_goodRow.f k a1_0 a0_0 a0_1 a0_2 a0_3 a0_4 a0_5 a0_6 a0_7 a0_8 l0_9).bind fun t338 => (some (!t338))) = some r := h
 clear h
 replace H := Option.bind_eq_some_iff.mp H
 obtain ⟨t338, A30, H⟩ := H
 replace H : (some (!t338)) = some r := H
 have A3 := Am A30
 clear A30
 obtain rfl := Option.some.inj H
 go_enter Try.func46, Try.ntmps46
 go_wp2_with (first | ((refine Gd (N := 2) rfl ?_); refine Be ?hg (N := 2) ?hd (cs := #[.int .i64 a0_0, .int .i64 a0_1, .int .i64 a0_2, .int .i64 a0_3, .int .i64 a0_4, .int .i64 a0_5, .int .i64 a0_6, .int .i64 a0_7, .int .i64 a0_8, .slice A0_9 l0_9.length c0_9]) (t := 72) ?hr ?_; (case hd | hg => rfl); (case hr => first | (go_simp; done) | (go_simp; rfl)); intro gb337 hg w4 hbox hb; have n0_ := Am (Kb (g := gq1) (o := .cells #[.int .i64 a1_0, .slice A1_1 l1_1.length c1_1] 29 (0, 0)) (by (with_reducible repeat (first | refine Kn ?_ _ | refine Ke ?_ | refine Ka ?_ _)); exact BK336.out) hb); have n1_ := Am (Bt (by repeat (first | (with_reducible first | exact HB.out | apply Ba | apply Bn | apply Bd | refine Bs ?_ GE336.out) | exact HB.out)) hb); have n2_ := Am (hbox); have n3_ := Am ((by rw [hg]; exact (Bz (by repeat (first | (with_reducible first | exact HB.out | apply Ba | apply Bn | apply Bd | refine Bs ?_ GE336.out) | exact HB.out))) : w.heap.size ≤ gb337)); have n4_ := Am ((by rw [hg]; exact (Bz (by repeat (first | (with_reducible first | exact HB.out | apply Ba | apply Bn | apply Bd | refine Bs ?_ GE336.out) | exact HB.out))) : w.heap.size ≤ gb337)); have n5_ := Am ((by rw [hg]; exact Nat.ne_of_lt (blk_lt (g := gq1) (o := .cells #[.int .i64 a1_0, .slice A1_1 l1_1.length c1_1] 29 (0, 0)) (by (with_reducible repeat (first | refine Kn ?_ _ | refine Ke ?_ | refine Ka ?_ _)); exact BK336.out)) : gq1 ≠ gb337)); have n6_ := Am ((by rw [hg]; exact Nat.ne_of_gt (blk_lt (g := gq1) (o := .cells #[.int .i64 a1_0, .slice A1_1 l1_1.length c1_1] 29 (0, 0)) (by (with_reducible repeat (first | refine Kn ?_ _ | refine Ke ?_ | refine Ka ?_ _)); exact BK336.out)) : gb337 ≠ gq1)); clear BK336; clear HB; have BK336 := n0_; have HB := n1_; have BK337 := n2_; have GW337 := n3_; have GE337 := n4_; have NB336_337 := n5_; have NB337_336 := n6_; clear n0_ n1_ n2_ n3_ n4_ n5_ n6_; clear hb hbox hg; have hnb5 := NB336_337.out; have hnc5 := NB337_336.out; have hcz6_0 : w4.cell? ⟨gq1, 0, none⟩ = some (.int .i64 a1_0) := (Kc BK336.out 0).trans rfl; have hcz6_1 : w4.cell? ⟨gq1, 1, none⟩ = some (.slice A1_1 l1_1.length c1_1) := (Kc BK336.out 1).trans rfl; have hfz6_0 := Kz BK336.out 0; have hfz6_1 := Kz BK336.out 1; have hcz7_0 : w4.cell? ⟨gb337, 0, none⟩ = some (.int .i64 a0_0) := (Kc BK337.out 0).trans rfl; have hcz7_1 : w4.cell? ⟨gb337, 1, none⟩ = some (.int .i64 a0_1) := (Kc BK337.out 1).trans rfl; have hcz7_2 : w4.cell? ⟨gb337, 2, none⟩ = some (.int .i64 a0_2) := (Kc BK337.out 2).trans rfl; have hcz7_3 : w4.cell? ⟨gb337, 3, none⟩ = some (.int .i64 a0_3) := (Kc BK337.out 3).trans rfl; have hcz7_4 : w4.cell? ⟨gb337, 4, none⟩ = some (.int .i64 a0_4) := (Kc BK337.out 4).trans rfl; have hcz7_5 : w4.cell? ⟨gb337, 5, none⟩ = some (.int .i64 a0_5) := (Kc BK337.out 5).trans rfl; have hcz7_6 : w4.cell? ⟨gb337, 6, none⟩ = some (.int .i64 a0_6) := (Kc BK337.out 6).trans rfl; have hcz7_7 : w4.cell? ⟨gb337, 7, none⟩ = some (.int .i64 a0_7) := (Kc BK337.out 7).trans rfl; have hcz7_8 : w4.cell? ⟨gb337, 8, none⟩ = some (.int .i64 a0_8) := (Kc BK337.out 8).trans rfl; have hcz7_9 : w4.cell? ⟨gb337, 9, none⟩ = some (.slice A0_9 l0_9.length c0_9) := (Kc BK337.out 9).trans rfl; have hfz7_0 := Kz BK337.out 0; have hfz7_1 := Kz BK337.out 1; have hfz7_2 := Kz BK337.out 2; have hfz7_3 := Kz BK337.out 3; have hfz7_4 := Kz BK337.out 4; have hfz7_5 := Kz BK337.out 5; have hfz7_6 := Kz BK337.out 6; have hfz7_7 := Kz BK337.out 7; have hfz7_8 := Kz BK337.out 8; have hfz7_9 := Kz BK337.out 9) | ((refine Gc (f := 47) rfl ?_); refine goesL_ (some 7) rfl rfl Try.func47 (by kernel_rfl) rfl #[.int .i64 a1_0, .agg #[.int .i64 a0_0, .int .i64 a0_1, .int .i64 a0_2, .int .i64 a0_3, .int .i64 a0_4, .int .i64 a0_5, .int .i64 a0_6, .int .i64 a0_7, .int .i64 a0_8, .slice A0_9 l0_9.length c0_9]] rfl (by first | rfl | (simp only [List.map_toArray, List.map_cons, List.map_nil]; first | done | rfl)) ?_; (with_reducible refine (impl_goodRow.calls k a1_0 a0_0 a0_1 a0_2 a0_3 a0_4 a0_5 a0_6 a0_7 a0_8 _ _ l0_9 t338 _ ?side1 ?side2 A3.out).mono ?_); (case side1 => repeat (first | exact (Kd.C_below HR0_9.out HB.out) | (with_reducible refine Kd.C_alloc ?_ _) | (with_reducible refine Kd.C_drewN ?_ _) | (with_reducible refine Kd.C_drew ?_))); (case side2 => exact HC0_9.out); rintro e w8 ⟨rfl, hb⟩; refine ⟨_, rfl, ?_⟩; have n0_ := Am (Kb (g := gq1) (o := .cells #[.int .i64 a1_0, .slice A1_1 l1_1.length c1_1] 29 (0, 0)) (by (with_reducible repeat (first | refine Kn ?_ _ | refine Ke ?_ | refine Ka ?_ _)); exact BK336.out) hb); have n1_ := Am (Kb (g := gb337) (o := .cells #[.int .i64 a0_0, .int .i64 a0_1, .int .i64 a0_2, .int .i64 a0_3, .int .i64 a0_4, .int .i64 a0_5, .int .i64 a0_6, .int .i64 a0_7, .int .i64 a0_8, .slice A0_9 l0_9.length c0_9] 72 (0, 0)) (by (with_reducible repeat (first | refine Kn ?_ _ | refine Ke ?_ | refine Ka ?_ _)); exact BK337.out) hb); have n2_ := Am (Bt (by repeat (first | (with_reducible first | exact HB.out | apply Ba | apply Bn | apply Bd | refine Bs ?_ GE336.out | refine Bs ?_ GE337.out) | exact HB.out)) hb); clear BK336; clear BK337; clear HB; have BK336 := n0_; have BK337 := n1_; have HB := n2_; clear n0_ n1_ n2_; (try clear hb); (try clear hb2); (try clear hk); (try clear hi)))
 go_ret
 exact ⟨by first | rfl | (simp [*, errW_none, errW_some] <;> rfl), by repeat (first | (with_reducible first | exact HB.out | apply Ba | apply Bn | apply Bd | refine Bs ?_ GE336.out | refine Bs ?_ GE337.out) | exact HB.out)⟩
def impl_GoodTable_1_1_in_c.f (k : Nat) (l0 : List S72) (aa0_0 : Int) (ll0_1 : List (List (S72))) : Option Bool := Mine.anyO (fun x : S72 => impl_GoodTable_1_1.f k x.f0 x.f1 x.f2 x.f3.f0 x.f3.f1 x.f3.f2 x.f3.f3 x.f3.f4 x.f4.f0 x.f4.f1 aa0_0 ll0_1) l0
theorem impl_GoodTable_1_1_in_c.mono : ∀ a0 b0 b1 k, LeO (impl_GoodTable_1_1_in_c.f k a0 b0 b1) (impl_GoodTable_1_1_in_c.f (k + 1) a0 b0 b1) := by
 intro a0 b0 b1 k
 unfold impl_GoodTable_1_1_in_c.f
 exact Mine.anyO_mono (fun (x : S72) b_ hb_ => impl_GoodTable_1_1.mono x.f0 x.f1 x.f2 x.f3.f0 x.f3.f1 x.f3.f2 x.f3.f3 x.f3.f4 x.f4.f0 x.f4.f1 b0 b1 k b_ hb_) a0
set_option maxHeartbeats 2000000 in
theorem impl_GoodTable_1_1_in_c.calls (k : Nat) (A0 : Option Addr) (c0 : Nat) (l0 : List S72) (gq0 : Nat) (aa0_0 : Int) (AA0_1 : Option Addr) (cc0_1 : Nat) (ll0_1 : List (List (S72))) (r : Bool) (w : World) (hr0 : Kd.C k72 w A0 l0.length l0) (hc0 : l0.length ≤ c0) (hr10_1 : Kd.C (Kd.slice 72 k72) w AA0_1 ll0_1.length ll0_1) (hc10_1 : ll0_1.length ≤ cc0_1) (hb0 : w.heap[gq0]? = some (.cells #[.int .i64 aa0_0, .slice AA0_1 ll0_1.length cc0_1] 29 (0, 0))) (h : impl_GoodTable_1_1_in_c.f k l0 aa0_0 ll0_1 = some r) :
  Calls Try.prog 45 #[.slice A0 l0.length c0, .func (.func 46) #[] #[.pointer (some ⟨gq0, 0, none⟩)]] w fun e w' => e = .returned (.bool r) ∧ Below w.heap.size w w' :=
 impl_Row_45.anyO 46 #[.pointer (some ⟨gq0, 0, none⟩)] (fun x : S72 => impl_GoodTable_1_1.f k x.f0 x.f1 x.f2 x.f3.f0 x.f3.f1 x.f3.f2 x.f3.f3 x.f3.f4 x.f4.f0 x.f4.f1 aa0_0 ll0_1) A0 c0 l0 w r (fun args w => enters_ Try.func46 (by kernel_rfl) rfl args w) hr0 hc0
  (fun W x A9 c9 hx bW hi9 hl9 b hb_ => (impl_GoodTable_1_1.calls k x.f0 x.f1 x.f2 x.f3.f0 x.f3.f1 x.f3.f2 x.f3.f3 x.f3.f4 x.f4.f0 A9 c9 x.f4.f1 gq0 aa0_0 AA0_1 cc0_1 ll0_1 b W hi9 hl9 (Kd.C_below hr10_1 bW) hc10_1 (Kb hb0 bW) hb_).mono (fun e w' hh => ⟨hh.1, hh.2⟩)) h
def impl_GoodTable_1.f (k : Nat) (l0 : List (S72)) (a1_0 : Int) (l1_1 : List (List (S72))) : Option (Bool) := if (l0.length : Int) > 6 then (some true) else ((impl_GoodTable_1_1_in_c.f k l0 a1_0 l1_1).bind fun t340 => (some t340))
theorem impl_GoodTable_1.mono : ∀ a0 a1 a2 k, LeO (impl_GoodTable_1.f k a0 a1 a2) (impl_GoodTable_1.f (k + 1) a0 a1 a2) := by
 intro a0 a1 a2 k
 unfold impl_GoodTable_1.f
 repeat' first
   | (with_reducible exact impl_GoodTable_1_1_in_c.mono _ _ _ _)
   | (with_reducible exact LeO.refl _)
   | (with_reducible exact LeO.none _)
   | (with_reducible refine LeO.ite ?_ ?_)
   | (with_reducible refine LeO.bind ?_ (fun _ => ?_))
   | exact impl_GoodTable_1_1_in_c.mono _ _ _ _
   | exact LeO.none _
   | refine LeO.ite ?_ ?_
   | refine LeO.bind ?_ (fun _ => ?_)
set_option maxHeartbeats 8000000 in
set_option maxRecDepth 100000 in
theorem impl_GoodTable_1.calls (k : Nat) (A0 : Option Addr) (c0 : Nat) (l0 : List (S72)) (gq1 : Nat) (a1_0 : Int) (A1_1 : Option Addr) (c1_1 : Nat) (l1_1 : List (List (S72))) (r : Bool) (w : World) (hr0 : Kd.C k72 w A0 l0.length l0) (hc0 : l0.length ≤ c0) (hr1_1 : Kd.C (Kd.slice 72 k72) w A1_1 l1_1.length l1_1) (hc1_1 : l1_1.length ≤ c1_1) (hb1 : w.heap[gq1]? = some (.cells #[.int .i64 a1_0, .slice A1_1 l1_1.length c1_1] 29 (0, 0))) (h : impl_GoodTable_1.f k l0 a1_0 l1_1 = some r) :
  Calls Try.prog 44 #[.slice A0 l0.length c0, .pointer (some ⟨gq1, 0, none⟩)] w fun e w' => e = .returned (.bool r) ∧ Below w.heap.size w w' := by
 have HR0 := Am hr0
 have HC0 := Am hc0
 clear hr0 hc0
 have HR1_1 := Am hr1_1
 have HC1_1 := Am hc1_1
 clear hr1_1 hc1_1
 have BK339 := Am hb1
 clear hb1
 have HB := Am (Below.refl w.heap.size w)
 have H : (if (l0.length : Int) > 6 then (some true) else ((impl_GoodTable_1_1_in_c.f k l0 a1_0 l1_1).bind fun t340 => (some t340))) = some r := h
 clear h
 by_cases c3 : (l0.length : Int) > 6
 ·rw [if_pos c3] at H
  have c3b0 : decide (6 < (l0.length : Int)) = true := decide_eq_true c3
  have c3b1 : decide (6 < l0.length) = true := decide_eq_true (by omega)
  clear c3
  obtain rfl := Option.some.inj H
  go_enter Try.func44, Try.ntmps44
  go_wp2
  go_ret
  exact ⟨by first | rfl | (simp [*, errW_none, errW_some] <;> rfl), by repeat (first | (with_reducible first | exact HB.out | apply Ba | apply Bn | apply Bd | refine Bs ?_ GE339.out) | exact HB.out)⟩
 ·rw [if_neg c3] at H
  have c3b0 : decide (6 < (l0.length : Int)) = false := decide_eq_false c3
  have c3b1 : decide (6 < l0.length) = false := decide_eq_false (by omega)
  clear c3
  replace H := Option.bind_eq_some_iff.mp H
  obtain ⟨t340, A40, H⟩ := H
  replace H : (some t340) = some r := H
  have A4 := Am A40
  clear A40
  obtain rfl := Option.some.inj H
  go_enter Try.func44, Try.ntmps44
  go_wp2_with (first | (go_at_call 45; (with_reducible refine (impl_GoodTable_1_1_in_c.calls k _ _ l0 gq1 a1_0 A1_1 c1_1 l1_1 t340 _ ?side1 ?side2 ?side3 ?side4 ?side5 A4.out).mono ?_); (case side1 => repeat (first | exact HR0.out | (with_reducible refine Kd.C_alloc ?_ _) | (with_reducible refine Kd.C_drewN ?_ _) | (with_reducible refine Kd.C_drew ?_))); (case side2 => exact HC0.out); (case side3 => repeat (first | exact HR1_1.out | (with_reducible refine Kd.C_alloc ?_ _) | (with_reducible refine Kd.C_drewN ?_ _) | (with_reducible refine Kd.C_drew ?_))); (case side4 => exact HC1_1.out); (case side5 => exact by (with_reducible repeat (first | refine Kn ?_ _ | refine Ke ?_ | refine Ka ?_ _)); exact BK339.out); rintro e w5 ⟨rfl, hb⟩; have n0_ := Am (Kb (g := gq1) (o := .cells #[.int .i64 a1_0, .slice A1_1 l1_1.length c1_1] 29 (0, 0)) (by (with_reducible repeat (first | refine Kn ?_ _ | refine Ke ?_ | refine Ka ?_ _)); exact BK339.out) hb); have n1_ := Am (Bt (by repeat (first | (with_reducible first | exact HB.out | apply Ba | apply Bn | apply Bd | refine Bs ?_ GE339.out) | exact HB.out)) hb); clear BK339; clear HB; have BK339 := n0_; have HB := n1_; clear n0_ n1_; (try clear hb); (try clear hb2); (try clear hk); (try clear hi)))
  go_ret
  exact ⟨by first | rfl | (simp [*, errW_none, errW_some] <;> rfl), by repeat (first | (with_reducible first | exact HB.out | apply Ba | apply Bn | apply Bd | refine Bs ?_ GE339.out) | exact HB.out)⟩
def impl_GoodTable_1_in_c.f (k : Nat) (l0 : List (List (S72))) (aa0_0 : Int) (ll0_1 : List (List (S72))) : Option Bool := Mine.anyO (fun x : (List (S72)) => impl_GoodTable_1.f k x aa0_0 ll0_1) l0
theorem impl_GoodTable_1_in_c.mono : ∀ a0 b0 b1 k, LeO (impl_GoodTable_1_in_c.f k a0 b0 b1) (impl_GoodTable_1_in_c.f (k + 1) a0 b0 b1) := by
 intro a0 b0 b1 k
 unfold impl_GoodTable_1_in_c.f
 exact Mine.anyO_mono (fun (x : (List (S72))) b_ hb_ => impl_GoodTable_1.mono x b0 b1 k b_ hb_) a0
set_option maxHeartbeats 2000000 in
theorem impl_GoodTable_1_in_c.calls (k : Nat) (A0 : Option Addr) (c0 : Nat) (l0 : List (List (S72))) (gq0 : Nat) (aa0_0 : Int) (AA0_1 : Option Addr) (cc0_1 : Nat) (ll0_1 : List (List (S72))) (r : Bool) (w : World) (hr0 : Kd.C (Kd.slice 72 k72) w A0 l0.length l0) (hc0 : l0.length ≤ c0) (hr10_1 : Kd.C (Kd.slice 72 k72) w AA0_1 ll0_1.length ll0_1) (hc10_1 : ll0_1.length ≤ cc0_1) (hb0 : w.heap[gq0]? = some (.cells #[.int .i64 aa0_0, .slice AA0_1 ll0_1.length cc0_1] 29 (0, 0))) (h : impl_GoodTable_1_in_c.f k l0 aa0_0 ll0_1 = some r) :
  Calls Try.prog 43 #[.slice A0 l0.length c0, .func (.func 44) #[] #[.pointer (some ⟨gq0, 0, none⟩)]] w fun e w' => e = .returned (.bool r) ∧ Below w.heap.size w w' :=
 impl_Row_43.anyO 44 #[.pointer (some ⟨gq0, 0, none⟩)] (fun x : (List (S72)) => impl_GoodTable_1.f k x aa0_0 ll0_1) A0 c0 l0 w r (fun args w => enters_ Try.func44 (by kernel_rfl) rfl args w) hr0 hc0
  (fun W x A c hx bW hi hl b hb_ => (impl_GoodTable_1.calls k A c x gq0 aa0_0 AA0_1 cc0_1 ll0_1 b W hi hl (Kd.C_below hr10_1 bW) hc10_1 (Kb hb0 bW) hb_).mono (fun e w' hh => ⟨hh.1, hh.2⟩)) h
def impl_GoodTable.f (k : Nat) (a0_0 : Int) (l0_1 : List (List (S72))) : Option (Bool) := (impl_IsGroup.f a0_0).bind fun t342 => (if t342 = true then (if (l0_1.length : Int) = a0_0 then ((impl_GoodTable_1_in_c.f k l0_1 a0_0 l0_1).bind fun t343 => (some (!t343))) else (some false)) else (some false))
theorem impl_GoodTable.mono : ∀ a0 a1 k, LeO (impl_GoodTable.f k a0 a1) (impl_GoodTable.f (k + 1) a0 a1) := by
 intro a0 a1 k
 unfold impl_GoodTable.f
 repeat' first
   | (with_reducible exact impl_GoodTable_1_in_c.mono _ _ _ _)
   | (with_reducible exact LeO.refl _)
   | (with_reducible exact LeO.none _)
   | (with_reducible refine LeO.ite ?_ ?_)
   | (with_reducible refine LeO.bind ?_ (fun _ => ?_))
   | exact impl_GoodTable_1_in_c.mono _ _ _ _
   | exact LeO.none _
   | refine LeO.ite ?_ ?_
   | refine LeO.bind ?_ (fun _ => ?_)
set_option maxHeartbeats 8000000 in
set_option maxRecDepth 100000 in
theorem impl_GoodTable.calls (k : Nat) (a0_0 : Int) (A0_1 : Option Addr) (c0_1 : Nat) (l0_1 : List (List (S72))) (r : Bool) (w : World) (hr0_1 : Kd.C (Kd.slice 72 k72) w A0_1 l0_1.length l0_1) (hc0_1 : l0_1.length ≤ c0_1) (h : impl_GoodTable.f k a0_0 l0_1 = some r) :
  Calls Try.prog 12 #[.agg #[.int .i64 a0_0, .slice A0_1 l0_1.length c0_1]] w fun e w' => e = .returned (.bool r) ∧ Below w.heap.size w w' := by
 have hu29 := Try.underlying29
 have HR0_1 := Am hr0_1
 have HC0_1 := Am hc0_1
 clear hr0_1 hc0_1
 have HB := Am (Below.refl w.heap.size w)
 have H : ((impl_IsGroup.f a0_0).bind fun t342 => (if t342 = true then (if (l0_1.length : Int) = a0_0 then ((impl_GoodTable_1_in_c.f k l0_1 a0_0 l0_1).bind fun t343 => (some (!t343))) else (some false)) else (some false))) = some r := h
 clear h
 replace H := Option.bind_eq_some_iff.mp H
 obtain ⟨t342, A20, H⟩ := H
 replace H : (if t342 = true then (if (l0_1.length : Int) = a0_0 then ((impl_GoodTable_1_in_c.f k l0_1 a0_0 l0_1).bind fun t343 => (some (!t343))) else (some false)) else (some false)) = some r := H
 have A2 := Am A20
 clear A20
 by_cases c3 : t342 = true
 ·subst c3
  have H1 : (if (l0_1.length : Int) = a0_0 then ((impl_GoodTable_1_in_c.f k l0_1 a0_0 l0_1).bind fun t343 => (some (!t343))) else (some false)) = some r := by rw [if_pos rfl] at H; exact H
  clear H
  have H := H1
  clear H1
  by_cases c4 : (l0_1.length : Int) = a0_0
  ·rw [if_pos c4] at H
   have c4b0 : ((l0_1.length : Int) == a0_0) = true := beq_iff_eq.mpr c4
   have c4b1 : ((l0_1.length : Int) != a0_0) = false := bne_eq_false_iff_eq.mpr c4
   clear c4
   replace H := Option.bind_eq_some_iff.mp H
   obtain ⟨t343, A50, H⟩ := H
   replace H : (some (!t343)) = some r := H
   have A5 := Am A50
   clear A50
   obtain rfl := Option.some.inj H
   go_enter Try.func12, Try.ntmps12
   go_wp2_with (first | ((refine Gd (N := 1) rfl ?_); (try (refine gate_guard (by rfl) ?_; dsimp only)); refine Be ?hg (N := 1) ?hd (cs := #[.int .i64 a0_0, .slice A0_1 l0_1.length c0_1]) (t := 29) ?hr ?_; (case hd | hg => rfl); (case hr => first | (go_simp; done) | (go_simp; rfl)); intro gb341 hg w6 hbox hb; have n0_ := Am (Bt (by repeat (first | exact HB.out | apply Ba | apply Bn | apply Bd)) hb); have n1_ := Am (hbox); have n2_ := Am ((by rw [hg]; exact (Bz (by repeat (first | exact HB.out | apply Ba | apply Bn | apply Bd))) : w.heap.size ≤ gb341)); have n3_ := Am ((by rw [hg]; exact (Bz (by repeat (first | exact HB.out | apply Ba | apply Bn | apply Bd))) : w.heap.size ≤ gb341)); clear HB; have HB := n0_; have BK341 := n1_; have GW341 := n2_; have GE341 := n3_; clear n0_ n1_ n2_ n3_; clear hb hbox hg; have hcz7_0 : w6.cell? ⟨gb341, 0, none⟩ = some (.int .i64 a0_0) := (Kc BK341.out 0).trans rfl; have hcz7_1 : w6.cell? ⟨gb341, 1, none⟩ = some (.slice A0_1 l0_1.length c0_1) := (Kc BK341.out 1).trans rfl; have hfz7_0 := Kz BK341.out 0; have hfz7_1 := Kz BK341.out 1) | ((refine Gc (f := 42) rfl ?_); refine goesL_ (some 5) rfl rfl Try.func42 (by kernel_rfl) rfl #[.int .i64 a0_0] rfl (by first | rfl | (simp only [List.map_toArray, List.map_cons, List.map_nil]; first | done | rfl)) ?_; (with_reducible refine (impl_IsGroup.calls a0_0 true _ A2.out).mono ?_); rintro e w' ⟨rfl, ⟨nd, rfl⟩⟩; refine ⟨_, rfl, ?_⟩) | (go_at_call 43; (with_reducible refine (impl_GoodTable_1_in_c.calls k _ _ l0_1 gb341 a0_0 A0_1 c0_1 l0_1 t343 _ ?side1 ?side2 ?side3 ?side4 ?side5 A5.out).mono ?_); (case side1 => repeat (first | exact (Kd.C_below HR0_1.out (by repeat (first | (with_reducible first | exact HB.out | apply Ba | apply Bn | apply Bd | refine Bs ?_ GE341.out) | exact HB.out))) | (with_reducible refine Kd.C_alloc ?_ _) | (with_reducible refine Kd.C_drewN ?_ _) | (with_reducible refine Kd.C_drew ?_))); (case side2 => exact HC0_1.out); (case side3 => repeat (first | exact (Kd.C_below HR0_1.out (by repeat (first | (with_reducible first | exact HB.out | apply Ba | apply Bn | apply Bd | refine Bs ?_ GE341.out) | exact HB.out))) | (with_reducible refine Kd.C_alloc ?_ _) | (with_reducible refine Kd.C_drewN ?_ _) | (with_reducible refine Kd.C_drew ?_))); (case side4 => exact HC0_1.out); (case side5 => exact by (with_reducible repeat (first | refine Kn ?_ _ | refine Ke ?_ | refine Ka ?_ _)); exact BK341.out); rintro e w8 ⟨rfl, hb⟩; have n0_ := Am (Kb (g := gb341) (o := .cells #[.int .i64 a0_0, .slice A0_1 l0_1.length c0_1] 29 (0, 0)) (by (with_reducible repeat (first | refine Kn ?_ _ | refine Ke ?_ | refine Ka ?_ _)); exact BK341.out) hb); have n1_ := Am (Bt (by repeat (first | (with_reducible first | exact HB.out | apply Ba | apply Bn | apply Bd | refine Bs ?_ GE341.out) | exact HB.out)) hb); clear BK341; clear HB; have BK341 := n0_; have HB := n1_; clear n0_ n1_; (try clear hb); (try clear hb2); (try clear hk); (try clear hi)))
   go_ret
   exact ⟨by first | rfl | (simp [*, errW_none, errW_some] <;> rfl), by repeat (first | (with_reducible first | exact HB.out | apply Ba | apply Bn | apply Bd | refine Bs ?_ GE341.out) | exact HB.out)⟩
  ·rw [if_neg c4] at H
   have c4b0 : ((l0_1.length : Int) == a0_0) = false := beq_eq_false_iff_ne.mpr c4
   have c4b1 : ((l0_1.length : Int) != a0_0) = true := bne_iff_ne.mpr c4
   obtain rfl := Option.some.inj H
   go_enter Try.func12, Try.ntmps12
   go_wp2_with (first | ((refine Gd (N := 1) rfl ?_); (try (refine gate_guard (by rfl) ?_; dsimp only)); refine Be ?hg (N := 1) ?hd (cs := #[.int .i64 a0_0, .slice A0_1 l0_1.length c0_1]) (t := 29) ?hr ?_; (case hd | hg => rfl); (case hr => first | (go_simp; done) | (go_simp; rfl)); intro gb341 hg w9 hbox hb; have n0_ := Am (Bt (by repeat (first | exact HB.out | apply Ba | apply Bn | apply Bd)) hb); have n1_ := Am (hbox); have n2_ := Am ((by rw [hg]; exact (Bz (by repeat (first | exact HB.out | apply Ba | apply Bn | apply Bd))) : w.heap.size ≤ gb341)); have n3_ := Am ((by rw [hg]; exact (Bz (by repeat (first | exact HB.out | apply Ba | apply Bn | apply Bd))) : w.heap.size ≤ gb341)); clear HB; have HB := n0_; have BK341 := n1_; have GW341 := n2_; have GE341 := n3_; clear n0_ n1_ n2_ n3_; clear hb hbox hg; have hcz10_0 : w9.cell? ⟨gb341, 0, none⟩ = some (.int .i64 a0_0) := (Kc BK341.out 0).trans rfl; have hcz10_1 : w9.cell? ⟨gb341, 1, none⟩ = some (.slice A0_1 l0_1.length c0_1) := (Kc BK341.out 1).trans rfl; have hfz10_0 := Kz BK341.out 0; have hfz10_1 := Kz BK341.out 1) | ((refine Gc (f := 42) rfl ?_); refine goesL_ (some 5) rfl rfl Try.func42 (by kernel_rfl) rfl #[.int .i64 a0_0] rfl (by first | rfl | (simp only [List.map_toArray, List.map_cons, List.map_nil]; first | done | rfl)) ?_; (with_reducible refine (impl_IsGroup.calls a0_0 true _ A2.out).mono ?_); rintro e w' ⟨rfl, ⟨nd, rfl⟩⟩; refine ⟨_, rfl, ?_⟩))
   go_ret
   exact ⟨by first | rfl | (simp [*, errW_none, errW_some] <;> rfl), by repeat (first | (with_reducible first | exact HB.out | apply Ba | apply Bn | apply Bd | refine Bs ?_ GE341.out) | exact HB.out)⟩
 ·replace c3 := Bool.eq_false_iff.mpr c3
  subst c3
  have H1 : (some false) = some r := by rw [if_neg (show ¬ (false = true) by decide)] at H; exact H
  clear H
  have H := H1
  clear H1
  obtain rfl := Option.some.inj H
  go_enter Try.func12, Try.ntmps12
  go_wp2_with (first | ((refine Gd (N := 1) rfl ?_); (try (refine gate_guard (by rfl) ?_; dsimp only)); refine Be ?hg (N := 1) ?hd (cs := #[.int .i64 a0_0, .slice A0_1 l0_1.length c0_1]) (t := 29) ?hr ?_; (case hd | hg => rfl); (case hr => first | (go_simp; done) | (go_simp; rfl)); intro gb341 hg w11 hbox hb; have n0_ := Am (Bt (by repeat (first | exact HB.out | apply Ba | apply Bn | apply Bd)) hb); have n1_ := Am (hbox); have n2_ := Am ((by rw [hg]; exact (Bz (by repeat (first | exact HB.out | apply Ba | apply Bn | apply Bd))) : w.heap.size ≤ gb341)); have n3_ := Am ((by rw [hg]; exact (Bz (by repeat (first | exact HB.out | apply Ba | apply Bn | apply Bd))) : w.heap.size ≤ gb341)); clear HB; have HB := n0_; have BK341 := n1_; have GW341 := n2_; have GE341 := n3_; clear n0_ n1_ n2_ n3_; clear hb hbox hg; have hcz12_0 : w11.cell? ⟨gb341, 0, none⟩ = some (.int .i64 a0_0) := (Kc BK341.out 0).trans rfl; have hcz12_1 : w11.cell? ⟨gb341, 1, none⟩ = some (.slice A0_1 l0_1.length c0_1) := (Kc BK341.out 1).trans rfl; have hfz12_0 := Kz BK341.out 0; have hfz12_1 := Kz BK341.out 1) | ((refine Gc (f := 42) rfl ?_); refine goesL_ (some 5) rfl rfl Try.func42 (by kernel_rfl) rfl #[.int .i64 a0_0] rfl (by first | rfl | (simp only [List.map_toArray, List.map_cons, List.map_nil]; first | done | rfl)) ?_; (with_reducible refine (impl_IsGroup.calls a0_0 false _ A2.out).mono ?_); rintro e w' ⟨rfl, ⟨nd, rfl⟩⟩; refine ⟨_, rfl, ?_⟩))
  go_ret
  exact ⟨by first | rfl | (simp [*, errW_none, errW_some] <;> rfl), by repeat (first | (with_reducible first | exact HB.out | apply Ba | apply Bn | apply Bd | refine Bs ?_ GE341.out) | exact HB.out)⟩
def impl_isInstance.f (a0 : Int) (a1 : Int) (a2 : Int) : Option (Bool) := (impl_IsGroup.f a0).bind fun t344 => (if t344 = true then ((impl_within.f a1 0 (wrap64 (a0 - 1))).bind fun t345 => (if t345 = true then ((impl_within.f a2 1 6).bind fun t346 => (some t346)) else (some false))) else (some false))
set_option maxHeartbeats 8000000 in
set_option maxRecDepth 100000 in
theorem impl_isInstance.calls (a0 : Int) (a1 : Int) (a2 : Int) (r : Bool) (w : World) (h : impl_isInstance.f a0 a1 a2 = some r) :
  Calls Try.prog 62 #[.int .i64 a0, .int .i64 a1, .int .i64 a2] w fun e w' => e = .returned (.bool r) ∧ Drawn0 w w' := by
 have H : ((impl_IsGroup.f a0).bind fun t344 => (if t344 = true then ((impl_within.f a1 0 (wrap64 (a0 - 1))).bind fun t345 => (if t345 = true then ((impl_within.f a2 1 6).bind fun t346 => (some t346)) else (some false))) else (some false))) = some r := h
 clear h
 replace H := Option.bind_eq_some_iff.mp H
 obtain ⟨t344, A40, H⟩ := H
 replace H : (if t344 = true then ((impl_within.f a1 0 (wrap64 (a0 - 1))).bind fun t345 => (if t345 = true then ((impl_within.f a2 1 6).bind fun t346 => (some t346)) else (some false))) else (some false)) = some r := H
 have A4 := Am A40
 clear A40
 by_cases c5 : t344 = true
 ·subst c5
  have H1 : ((impl_within.f a1 0 (wrap64 (a0 - 1))).bind fun t345 => (if t345 = true then ((impl_within.f a2 1 6).bind fun t346 => (some t346)) else (some false))) = some r := by rw [if_pos rfl] at H; exact H
  clear H
  have H := H1
  clear H1
  replace H := Option.bind_eq_some_iff.mp H
  obtain ⟨t345, A60, H⟩ := H
  replace H : (if t345 = true then ((impl_within.f a2 1 6).bind fun t346 => (some t346)) else (some false)) = some r := H
  have A6 := Am A60
  clear A60
  by_cases c7 : t345 = true
  ·subst c7
   have H1 : ((impl_within.f a2 1 6).bind fun t346 => (some t346)) = some r := by rw [if_pos rfl] at H; exact H
   clear H
   have H := H1
   clear H1
   replace H := Option.bind_eq_some_iff.mp H
   obtain ⟨t346, A80, H⟩ := H
   replace H : (some t346) = some r := H
   have A8 := Am A80
   clear A80
   obtain rfl := Option.some.inj H
   go_enter Try.func62, Try.ntmps62
   go_wp2_with (first | ((refine Gc (f := 42) rfl ?_); refine goesL_ (some 8) rfl rfl Try.func42 (by kernel_rfl) rfl #[.int .i64 a0] rfl (by first | rfl | (simp only [List.map_toArray, List.map_cons, List.map_nil]; first | done | rfl)) ?_; (with_reducible refine (impl_IsGroup.calls a0 true _ A4.out).mono ?_); rintro e w' ⟨rfl, ⟨nd, rfl⟩⟩; refine ⟨_, rfl, ?_⟩) | (go_at_call 68; (with_reducible refine (impl_within.calls a1 0 (wrap64 (a0 - 1)) true _ A6.out).mono ?_); rintro e w' ⟨rfl, ⟨nd, rfl⟩⟩) | (go_at_call 68; (with_reducible refine (impl_within.calls a2 1 6 t346 _ A8.out).mono ?_); rintro e w' ⟨rfl, ⟨nd, rfl⟩⟩))
   go_ret
   exact ⟨by first | rfl | (simp; done) | (simp [*]; done), by repeat (first | exact Drawn0.refl _ | apply Drawn0.step)⟩
  ·replace c7 := Bool.eq_false_iff.mpr c7
   subst c7
   have H1 : (some false) = some r := by rw [if_neg (show ¬ (false = true) by decide)] at H; exact H
   clear H
   have H := H1
   clear H1
   obtain rfl := Option.some.inj H
   go_enter Try.func62, Try.ntmps62
   go_wp2_with (first | ((refine Gc (f := 42) rfl ?_); refine goesL_ (some 8) rfl rfl Try.func42 (by kernel_rfl) rfl #[.int .i64 a0] rfl (by first | rfl | (simp only [List.map_toArray, List.map_cons, List.map_nil]; first | done | rfl)) ?_; (with_reducible refine (impl_IsGroup.calls a0 true _ A4.out).mono ?_); rintro e w' ⟨rfl, ⟨nd, rfl⟩⟩; refine ⟨_, rfl, ?_⟩) | (go_at_call 68; (with_reducible refine (impl_within.calls a1 0 (wrap64 (a0 - 1)) false _ A6.out).mono ?_); rintro e w' ⟨rfl, ⟨nd, rfl⟩⟩))
   go_ret
   exact ⟨by first | rfl | (simp; done) | (simp [*]; done), by repeat (first | exact Drawn0.refl _ | apply Drawn0.step)⟩
 ·replace c5 := Bool.eq_false_iff.mpr c5
  subst c5
  have H1 : (some false) = some r := by rw [if_neg (show ¬ (false = true) by decide)] at H; exact H
  clear H
  have H := H1
  clear H1
  obtain rfl := Option.some.inj H
  go_enter Try.func62, Try.ntmps62
  go_wp2_with (first | ((refine Gc (f := 42) rfl ?_); refine goesL_ (some 8) rfl rfl Try.func42 (by kernel_rfl) rfl #[.int .i64 a0] rfl (by first | rfl | (simp only [List.map_toArray, List.map_cons, List.map_nil]; first | done | rfl)) ?_; (with_reducible refine (impl_IsGroup.calls a0 false _ A4.out).mono ?_); rintro e w' ⟨rfl, ⟨nd, rfl⟩⟩; refine ⟨_, rfl, ?_⟩))
  go_ret
  exact ⟨by first | rfl | (simp; done) | (simp [*]; done), by repeat (first | exact Drawn0.refl _ | apply Drawn0.step)⟩
def impl_touches.f (a0_0 : Int) (a0_1 : Int) (a0_2 : Int) (a0_3 : Int) (a0_4 : Int) : Option (List Int) := if a0_0 = 1 then (some (([mn a0_2 a0_3, mx a0_2 a0_3] : List Int))) else (if a0_0 = 2 then (some (([a0_2] : List Int))) else (some (([] : List Int))))
set_option maxHeartbeats 8000000 in
set_option maxRecDepth 100000 in
theorem impl_touches.calls (a0_0 : Int) (a0_1 : Int) (a0_2 : Int) (a0_3 : Int) (a0_4 : Int) (r : List Int) (w : World) (h : impl_touches.f a0_0 a0_1 a0_2 a0_3 a0_4 = some r) :
  Calls Try.prog 116 #[.agg #[.int .i64 a0_0, .int .i64 a0_1, .int .i64 a0_2, .int .i64 a0_3, .int .i64 a0_4]] w fun e w' => ∃ v0_ : Value, e = .returned (v0_) ∧ Kd.R (Kd.int .i64) 3 w' w.heap.size (fun _ => True) v0_ r ∧ Below w.heap.size w w' := by
 have hu49 := Try.underlying49
 have HB := Am (Below.refl w.heap.size w)
 have H : (if a0_0 = 1 then (some (([mn a0_2 a0_3, mx a0_2 a0_3] : List Int))) else (if a0_0 = 2 then (some (([a0_2] : List Int))) else (some (([] : List Int))))) = some r := h
 clear h
 by_cases c2 : a0_0 = 1
 ·rw [if_pos c2] at H
  have c2b0 : (a0_0 == 1) = true := beq_iff_eq.mpr c2
  have c2b1 : (a0_0 != 1) = false := bne_eq_false_iff_eq.mpr c2
  clear c2
  obtain ⟨ji3, hji3⟩ : ∃ j_ : Int, (mn a0_2 a0_3) = j_ := ⟨_, rfl⟩
  replace H : (some (([ji3, mx a0_2 a0_3] : List Int))) = some r := by first | (rw [hji3] at H; exact H) | (simp only [hji3] at H ⊢; exact H)
  have hji3_ : (if a0_3 < a0_2 then a0_3 else a0_2) = ji3 := hji3
  obtain ⟨ji4, hji4⟩ : ∃ j_ : Int, (mx a0_2 a0_3) = j_ := ⟨_, rfl⟩
  replace H : (some (([ji3, ji4] : List Int))) = some r := by first | (rw [hji4] at H; exact H) | (simp only [hji4] at H ⊢; exact H)
  have hji4_ : (if a0_2 < a0_3 then a0_3 else a0_2) = ji4 := hji4
  obtain ⟨y348, hy348⟩ : ∃ y_ : List Int, y_ = (([ji3, ji4] : List Int)) := ⟨_, rfl⟩
  replace H : (some y348) = some r := by first | (rw [hy348]; with_reducible exact H) | (have H2_ := (Option.bind_some _ _).symm.trans H; rw [hy348]; with_reducible exact H2_) | (have H2_ := (Option.bind_some _ _).symm.trans H; with_reducible exact H2_) | with_reducible exact H | (rw [hy348]; exact H) | exact H
  have Ny348 := Am hy348
  clear hy348
  obtain rfl := Option.some.inj H
  go_enter Try.func116, Try.ntmps116
  go_wp2_with (first | ((refine Gd (N := 1) rfl ?_); refine Be ?hg (N := 1) ?hd (cs := #[.int .i64 a0_0, .int .i64 a0_1, .int .i64 a0_2, .int .i64 a0_3, .int .i64 a0_4]) (t := 49) ?hr ?_; (case hd | hg => rfl); (case hr => first | (go_simp; done) | (go_simp; rfl)); intro gb347 hg w5 hbox hb; have n0_ := Am (Bt (by repeat (first | exact HB.out | apply Ba | apply Bn | apply Bd)) hb); have n1_ := Am (hbox); have n2_ := Am ((by rw [hg]; exact (Bz (by repeat (first | exact HB.out | apply Ba | apply Bn | apply Bd))) : w.heap.size ≤ gb347)); have n3_ := Am ((by rw [hg]; exact (Bz (by repeat (first | exact HB.out | apply Ba | apply Bn | apply Bd))) : w.heap.size ≤ gb347)); clear HB; have HB := n0_; have BK347 := n1_; have GW347 := n2_; have GE347 := n3_; clear n0_ n1_ n2_ n3_; clear hb hbox hg; have hcz6_0 : w5.cell? ⟨gb347, 0, none⟩ = some (.int .i64 a0_0) := (Kc BK347.out 0).trans rfl; have hcz6_1 : w5.cell? ⟨gb347, 1, none⟩ = some (.int .i64 a0_1) := (Kc BK347.out 1).trans rfl; have hcz6_2 : w5.cell? ⟨gb347, 2, none⟩ = some (.int .i64 a0_2) := (Kc BK347.out 2).trans rfl; have hcz6_3 : w5.cell? ⟨gb347, 3, none⟩ = some (.int .i64 a0_3) := (Kc BK347.out 3).trans rfl; have hcz6_4 : w5.cell? ⟨gb347, 4, none⟩ = some (.int .i64 a0_4) := (Kc BK347.out 4).trans rfl; have hfz6_0 := Kz BK347.out 0; have hfz6_1 := Kz BK347.out 1; have hfz6_2 := Kz BK347.out 2; have hfz6_3 := Kz BK347.out 3; have hfz6_4 := Kz BK347.out 4) | ((refine Gd (N := 17) rfl ?_); refine Kd.R_lit (Kd.int .i64) _ 3 ?hg (N := 17) ?hd (xs := ([ji3, ji4] : List Int)) (inner := [.int .i64 ji3, .int .i64 ji4]) (ok := fun _ => True) (okp := fun _ => True) ?hr ?hp (fun _ hk => hk) trivial (Below.refl _ _) (Nat.le_refl _) (by simp) ?_; (case hd | hg => rfl); (case hr => first | (go_simp; done) | (go_simp; rfl)); (case hp => exact (Reps.one (show Kd.M (Kd.int .i64) _ _ _ ji3 [.int .i64 ji3] from rfl) (Reps.one (show Kd.M (Kd.int .i64) _ _ _ ji4 [.int .i64 ji4] from rfl) (Reps.none _ _)))); intro v349 w7 ho8 hb hg_ hnew_; clear hg_ hnew_; (first | rw [← Ny348.out] at ho8 | (simp only [Int.reduceToNat] at ho8; rw [← Ny348.out] at ho8)); have n0_ := Am (Kd.R_lower ho8 (Bz (by repeat (first | (with_reducible first | exact HB.out | apply Ba | apply Bn | apply Bd | refine Bs ?_ GE347.out) | exact HB.out)))); have n1_ := Am (Kb (g := gb347) (o := .cells #[.int .i64 a0_0, .int .i64 a0_1, .int .i64 a0_2, .int .i64 a0_3, .int .i64 a0_4] 49 (0, 0)) (by (with_reducible repeat (first | refine Kn ?_ _ | refine Ke ?_ | refine Ka ?_ _)); exact BK347.out) hb); have n2_ := Am (Bt (by repeat (first | (with_reducible first | exact HB.out | apply Ba | apply Bn | apply Bd | refine Bs ?_ GE347.out) | exact HB.out)) hb); clear BK347; clear HB; have HO350 := n0_; have BK347 := n1_; have HB := n2_; clear n0_ n1_ n2_; clear hb ho8))
  go_ret
  exact ⟨_, by first | rfl | (simp [errW_none, errW_some] <;> rfl) | (simp only [← hji3, ← hji4]; first | rfl | (simp [errW_none, errW_some] <;> rfl)) | (simp [*, errW_none, errW_some] <;> rfl), by (with_reducible repeat (first | apply Ra | apply Rn | apply Rd)); exact HO350.out, by repeat (first | (with_reducible first | exact HB.out | apply Ba | apply Bn | apply Bd | refine Bs ?_ GE347.out) | exact HB.out)⟩
 ·rw [if_neg c2] at H
  have c2b0 : (a0_0 == 1) = false := beq_eq_false_iff_ne.mpr c2
  have c2b1 : (a0_0 != 1) = true := bne_iff_ne.mpr c2
  by_cases c9 : a0_0 = 2
  ·rw [if_pos c9] at H
   have c9b0 : (a0_0 == 2) = true := beq_iff_eq.mpr c9
   have c9b1 : (a0_0 != 2) = false := bne_eq_false_iff_eq.mpr c9
   clear c9
   obtain ⟨y351, hy351⟩ : ∃ y_ : List Int, y_ = (([a0_2] : List Int)) := ⟨_, rfl⟩
   replace H : (some y351) = some r := by first | (rw [hy351]; with_reducible exact H) | (have H2_ := (Option.bind_some _ _).symm.trans H; rw [hy351]; with_reducible exact H2_) | (have H2_ := (Option.bind_some _ _).symm.trans H; with_reducible exact H2_) | with_reducible exact H | (rw [hy351]; exact H) | exact H
   have Ny351 := Am hy351
   clear hy351
   obtain rfl := Option.some.inj H
   go_enter Try.func116, Try.ntmps116
   go_wp2_with (first | ((refine Gd (N := 1) rfl ?_); refine Be ?hg (N := 1) ?hd (cs := #[.int .i64 a0_0, .int .i64 a0_1, .int .i64 a0_2, .int .i64 a0_3, .int .i64 a0_4]) (t := 49) ?hr ?_; (case hd | hg => rfl); (case hr => first | (go_simp; done) | (go_simp; rfl)); intro gb347 hg w10 hbox hb; have n0_ := Am (Bt (by repeat (first | exact HB.out | apply Ba | apply Bn | apply Bd)) hb); have n1_ := Am (hbox); have n2_ := Am ((by rw [hg]; exact (Bz (by repeat (first | exact HB.out | apply Ba | apply Bn | apply Bd))) : w.heap.size ≤ gb347)); have n3_ := Am ((by rw [hg]; exact (Bz (by repeat (first | exact HB.out | apply Ba | apply Bn | apply Bd))) : w.heap.size ≤ gb347)); clear HB; have HB := n0_; have BK347 := n1_; have GW347 := n2_; have GE347 := n3_; clear n0_ n1_ n2_ n3_; clear hb hbox hg; have hcz11_0 : w10.cell? ⟨gb347, 0, none⟩ = some (.int .i64 a0_0) := (Kc BK347.out 0).trans rfl; have hcz11_1 : w10.cell? ⟨gb347, 1, none⟩ = some (.int .i64 a0_1) := (Kc BK347.out 1).trans rfl; have hcz11_2 : w10.cell? ⟨gb347, 2, none⟩ = some (.int .i64 a0_2) := (Kc BK347.out 2).trans rfl; have hcz11_3 : w10.cell? ⟨gb347, 3, none⟩ = some (.int .i64 a0_3) := (Kc BK347.out 3).trans rfl; have hcz11_4 : w10.cell? ⟨gb347, 4, none⟩ = some (.int .i64 a0_4) := (Kc BK347.out 4).trans rfl; have hfz11_0 := Kz BK347.out 0; have hfz11_1 := Kz BK347.out 1; have hfz11_2 := Kz BK347.out 2; have hfz11_3 := Kz BK347.out 3; have hfz11_4 := Kz BK347.out 4) | ((refine Gd (N := 22) rfl ?_); refine Kd.R_lit (Kd.int .i64) _ 3 ?hg (N := 22) ?hd (xs := ([a0_2] : List Int)) (inner := [.int .i64 a0_2]) (ok := fun _ => True) (okp := fun _ => True) ?hr ?hp (fun _ hk => hk) trivial (Below.refl _ _) (Nat.le_refl _) (by simp) ?_; (case hd | hg => rfl); (case hr => first | (go_simp; done) | (go_simp; rfl)); (case hp => exact (Reps.one (show Kd.M (Kd.int .i64) _ _ _ a0_2 [.int .i64 a0_2] from rfl) (Reps.none _ _))); intro v352 w12 ho13 hb hg_ hnew_; clear hg_ hnew_; (first | rw [← Ny351.out] at ho13 | (simp only [Int.reduceToNat] at ho13; rw [← Ny351.out] at ho13)); have n0_ := Am (Kd.R_lower ho13 (Bz (by repeat (first | (with_reducible first | exact HB.out | apply Ba | apply Bn | apply Bd | refine Bs ?_ GE347.out) | exact HB.out)))); have n1_ := Am (Kb (g := gb347) (o := .cells #[.int .i64 a0_0, .int .i64 a0_1, .int .i64 a0_2, .int .i64 a0_3, .int .i64 a0_4] 49 (0, 0)) (by (with_reducible repeat (first | refine Kn ?_ _ | refine Ke ?_ | refine Ka ?_ _)); exact BK347.out) hb); have n2_ := Am (Bt (by repeat (first | (with_reducible first | exact HB.out | apply Ba | apply Bn | apply Bd | refine Bs ?_ GE347.out) | exact HB.out)) hb); clear BK347; clear HB; have HO353 := n0_; have BK347 := n1_; have HB := n2_; clear n0_ n1_ n2_; clear hb ho13))
   go_ret
   exact ⟨_, by first | rfl | (simp [*, errW_none, errW_some] <;> rfl), by (with_reducible repeat (first | apply Ra | apply Rn | apply Rd)); exact HO353.out, by repeat (first | (with_reducible first | exact HB.out | apply Ba | apply Bn | apply Bd | refine Bs ?_ GE347.out) | exact HB.out)⟩
  ·rw [if_neg c9] at H
   have c9b0 : (a0_0 == 2) = false := beq_eq_false_iff_ne.mpr c9
   have c9b1 : (a0_0 != 2) = true := bne_iff_ne.mpr c9
   obtain ⟨y354, hy354⟩ : ∃ y_ : List Int, y_ = (([] : List Int)) := ⟨_, rfl⟩
   replace H : (some y354) = some r := by first | (rw [hy354]; with_reducible exact H) | (have H2_ := (Option.bind_some _ _).symm.trans H; rw [hy354]; with_reducible exact H2_) | (have H2_ := (Option.bind_some _ _).symm.trans H; with_reducible exact H2_) | with_reducible exact H | (rw [hy354]; exact H) | exact H
   have Ny354 := Am hy354
   clear hy354
   obtain rfl := Option.some.inj H
   go_enter Try.func116, Try.ntmps116
   go_wp2_with (first | ((refine Gd (N := 1) rfl ?_); refine Be ?hg (N := 1) ?hd (cs := #[.int .i64 a0_0, .int .i64 a0_1, .int .i64 a0_2, .int .i64 a0_3, .int .i64 a0_4]) (t := 49) ?hr ?_; (case hd | hg => rfl); (case hr => first | (go_simp; done) | (go_simp; rfl)); intro gb347 hg w14 hbox hb; have n0_ := Am (Bt (by repeat (first | exact HB.out | apply Ba | apply Bn | apply Bd)) hb); have n1_ := Am (hbox); have n2_ := Am ((by rw [hg]; exact (Bz (by repeat (first | exact HB.out | apply Ba | apply Bn | apply Bd))) : w.heap.size ≤ gb347)); have n3_ := Am ((by rw [hg]; exact (Bz (by repeat (first | exact HB.out | apply Ba | apply Bn | apply Bd))) : w.heap.size ≤ gb347)); clear HB; have HB := n0_; have BK347 := n1_; have GW347 := n2_; have GE347 := n3_; clear n0_ n1_ n2_ n3_; clear hb hbox hg; have hcz15_0 : w14.cell? ⟨gb347, 0, none⟩ = some (.int .i64 a0_0) := (Kc BK347.out 0).trans rfl; have hcz15_1 : w14.cell? ⟨gb347, 1, none⟩ = some (.int .i64 a0_1) := (Kc BK347.out 1).trans rfl; have hcz15_2 : w14.cell? ⟨gb347, 2, none⟩ = some (.int .i64 a0_2) := (Kc BK347.out 2).trans rfl; have hcz15_3 : w14.cell? ⟨gb347, 3, none⟩ = some (.int .i64 a0_3) := (Kc BK347.out 3).trans rfl; have hcz15_4 : w14.cell? ⟨gb347, 4, none⟩ = some (.int .i64 a0_4) := (Kc BK347.out 4).trans rfl; have hfz15_0 := Kz BK347.out 0; have hfz15_1 := Kz BK347.out 1; have hfz15_2 := Kz BK347.out 2; have hfz15_3 := Kz BK347.out 3; have hfz15_4 := Kz BK347.out 4) | ((refine Gd (N := 23) rfl ?_); refine Kd.R_lit (Kd.int .i64) _ 3 ?hg (N := 23) ?hd (xs := ([] : List Int)) (inner := []) (ok := fun _ => True) (okp := fun _ => True) ?hr ?hp (fun _ hk => hk) trivial (Below.refl _ _) (Nat.le_refl _) (by simp) ?_; (case hd | hg => rfl); (case hr => first | (go_simp; done) | (go_simp; rfl)); (case hp => exact (Reps.none _ _)); intro v355 w16 ho17 hb hg_ hnew_; clear hg_ hnew_; (first | rw [← Ny354.out] at ho17 | (simp only [Int.reduceToNat] at ho17; rw [← Ny354.out] at ho17)); have n0_ := Am (Kd.R_lower ho17 (Bz (by repeat (first | (with_reducible first | exact HB.out | apply Ba | apply Bn | apply Bd | refine Bs ?_ GE347.out) | exact HB.out)))); have n1_ := Am (Kb (g := gb347) (o := .cells #[.int .i64 a0_0, .int .i64 a0_1, .int .i64 a0_2, .int .i64 a0_3, .int .i64 a0_4] 49 (0, 0)) (by (with_reducible repeat (first | refine Kn ?_ _ | refine Ke ?_ | refine Ka ?_ _)); exact BK347.out) hb); have n2_ := Am (Bt (by repeat (first | (with_reducible first | exact HB.out | apply Ba | apply Bn | apply Bd | refine Bs ?_ GE347.out) | exact HB.out)) hb); clear BK347; clear HB; have HO356 := n0_; have BK347 := n1_; have HB := n2_; clear n0_ n1_ n2_; clear hb ho17))
   go_ret
   exact ⟨_, by first | rfl | (simp [*, errW_none, errW_some] <;> rfl), by (with_reducible repeat (first | apply Ra | apply Rn | apply Rd)); exact HO356.out, by repeat (first | (with_reducible first | exact HB.out | apply Ba | apply Bn | apply Bd | refine Bs ?_ GE347.out) | exact HB.out)⟩
def slices_Index_int_int.l0 : Nat → List Int → Int → Int → Int → Option (Int)
 | 0, _, _, _, _ => none
 | k + 1, x0, x1, x7, x8 => if x8 < x7 then (if 0 ≤ x8 then (if x8 < (x0.length : Int) then (if x1 = (rd x0 x8) then (some x8) else (slices_Index_int_int.l0 k x0 x1 x7 (wrap64 (x8 + 1)))) else (none)) else (none)) else (some (-1))
def slices_Index_int_int.f (k : Nat) (l0 : List Int) (a1 : Int) : Option (Int) := slices_Index_int_int.l0 k l0 a1 (l0.length : Int) 0
theorem slices_Index_int_int.mono_l : ∀ k, (∀ y0 y1 y2 y3, LeO (slices_Index_int_int.l0 k y0 y1 y2 y3) (slices_Index_int_int.l0 (k + 1) y0 y1 y2 y3))
 | 0 => fun _ _ _ _ r h => by simp [slices_Index_int_int.l0] at h
 | k + 1 => by
  have ih0 := slices_Index_int_int.mono_l k
  ·intro y0 y1 y2 y3
   unfold slices_Index_int_int.l0
   repeat' first
   | (with_reducible exact ih0 _ _ _ _)
   | (with_reducible exact LeO.refl _)
   | (with_reducible exact LeO.none _)
   | (with_reducible refine LeO.ite ?_ ?_)
   | (with_reducible refine LeO.bind ?_ (fun _ => ?_))
   | exact ih0 _ _ _ _
   | exact LeO.none _
   | refine LeO.ite ?_ ?_
   | refine LeO.bind ?_ (fun _ => ?_)
theorem slices_Index_int_int.mono : ∀ a0 a1 k, LeO (slices_Index_int_int.f k a0 a1) (slices_Index_int_int.f (k + 1) a0 a1) := by
 intro a0 a1 k
 have ih0 := slices_Index_int_int.mono_l k
 unfold slices_Index_int_int.f
 repeat' first
   | (with_reducible exact ih0 _ _ _ _)
   | (with_reducible exact LeO.refl _)
   | (with_reducible exact LeO.none _)
   | (with_reducible refine LeO.ite ?_ ?_)
   | (with_reducible refine LeO.bind ?_ (fun _ => ?_))
   | exact ih0 _ _ _ _
   | exact LeO.none _
   | refine LeO.ite ?_ ?_
   | refine LeO.bind ?_ (fun _ => ?_)
set_option maxHeartbeats 8000000 in
set_option maxRecDepth 100000 in
theorem slices_Index_int_int.calls (k : Nat) (A0 : Option Addr) (c0 : Nat) (l0 : List Int) (a1 : Int) (r : Int) (w : World) (hr0 : Kd.C (Kd.int .i64) w A0 l0.length l0) (hc0 : l0.length ≤ c0) (h : slices_Index_int_int.f k l0 a1 = some r) :
  Calls Try.prog 124 #[.slice A0 l0.length c0, .int .i64 a1] w fun e w' => e = .returned (.int .i64 r) ∧ Drawn0 w w' := by
 have HR0 := Am hr0
 have HC0 := Am hc0
 clear hr0 hc0
 have H : (slices_Index_int_int.l0 k l0 a1 (l0.length : Int) 0) = some r := h
 clear h
 have H' := Am H
 clear H
 go_enter Try.func124, Try.ntmps124
 go_wp2
 go_loopg [8] k (fun kq v8 w' => ∃ (x8_1 : Int), v8 = .int .i64 x8_1 ∧ Ad (slices_Index_int_int.l0 kq l0 a1 (l0.length : Int) x8_1 = some r) ∧ Ad (kq ≤ k) ∧ Drawn0 w w')
 case atStart => exact ⟨(0), (by first | rfl | (simp; done) | (simp [*]; done)), H', ⟨Nat.le_refl _⟩, by repeat (first | exact Drawn0.refl _ | apply Drawn0.step)⟩
 case round =>
  clear H'
  try clear c1
  try clear p2
  obtain ⟨x8_1, rfl, HA, HK1, ⟨m1, rfl⟩⟩ := hrel
  cases gk with
  | zero => exact absurd HA.out (by simp [slices_Index_int_int.l0])
  | succ k1 =>
   have H := HA.out
   clear HA
   simp only [slices_Index_int_int.l0] at H
   by_cases c3 : x8_1 < (l0.length : Int)
   ·rw [if_pos c3] at H
    have c3b0 : decide (x8_1 < (l0.length : Int)) = true := decide_eq_true c3
    clear c3
    by_cases c4 : 0 ≤ x8_1
    ·rw [if_pos c4] at H
     have c4b0 : decide (0 ≤ x8_1) = true := decide_eq_true c4
     clear c4
     by_cases c5 : x8_1 < (l0.length : Int)
     ·rw [if_pos c5] at H
      have c5b0 : decide (x8_1 < (l0.length : Int)) = true := decide_eq_true c5
      clear c5
      by_cases c6 : a1 = (rd l0 x8_1)
      ·rw [if_pos c6] at H
       have c6b0 : (a1 == (rd l0 x8_1)) = true := beq_iff_eq.mpr c6
       have c6b1 : (a1 != (rd l0 x8_1)) = false := bne_eq_false_iff_eq.mpr c6
       clear c6
       obtain rfl := Option.some.inj H
       have p357 : 0 ≤ (x8_1 : Int) := of_decide_eq_true (by assumption)
       have q357 : x8_1 < (l0.length : Int) := of_decide_eq_true (by assumption)
       obtain ⟨ad357, e357, hx357_0⟩ := Kd.at_int HR0.out x8_1 p357 q357
       cases e357
       replace p357 := eq_true p357
       replace q357 := eq_true q357
       go_wp2
       go_ret
       exact ⟨by first | rfl | (simp; done) | (simp [*]; done), by repeat (first | exact Drawn0.refl _ | apply Drawn0.step)⟩
      ·rw [if_neg c6] at H
       have c6b0 : (a1 == (rd l0 x8_1)) = false := beq_eq_false_iff_ne.mpr c6
       have c6b1 : (a1 != (rd l0 x8_1)) = true := bne_iff_ne.mpr c6
       have H' := Am H
       clear H
       have p357 : 0 ≤ (x8_1 : Int) := of_decide_eq_true (by assumption)
       have q357 : x8_1 < (l0.length : Int) := of_decide_eq_true (by assumption)
       obtain ⟨ad357, e357, hx357_0⟩ := Kd.at_int HR0.out x8_1 p357 q357
       cases e357
       replace p357 := eq_true p357
       replace q357 := eq_true q357
       go_wp2
       go_roundg k1
       case measure => have := HK1.out; omega
       case rel => exact ⟨(wrap64 (x8_1 + 1)), (by first | rfl | (simp; done) | (simp [*]; done)), H', ⟨by have := HK1.out; omega⟩, by repeat (first | exact Drawn0.refl _ | apply Drawn0.step)⟩
     ·rw [if_neg c5] at H
      exact absurd H (by simp)
    ·rw [if_neg c4] at H
     exact absurd H (by simp)
   ·rw [if_neg c3] at H
    have c3b0 : decide (x8_1 < (l0.length : Int)) = false := decide_eq_false c3
    clear c3
    obtain rfl := Option.some.inj H
    go_wp2
    go_ret
    exact ⟨by first | rfl | (simp; done) | (simp [*]; done), by repeat (first | exact Drawn0.refl _ | apply Drawn0.step)⟩
def slices_Contains_int_int.f (k : Nat) (l0 : List Int) (a1 : Int) : Option (Bool) := (slices_Index_int_int.f k l0 a1).bind fun t358 => (some (decide (t358 ≥ 0)))
theorem slices_Contains_int_int.mono : ∀ a0 a1 k, LeO (slices_Contains_int_int.f k a0 a1) (slices_Contains_int_int.f (k + 1) a0 a1) := by
 intro a0 a1 k
 unfold slices_Contains_int_int.f
 repeat' first
   | (with_reducible exact slices_Index_int_int.mono _ _ _)
   | (with_reducible exact LeO.refl _)
   | (with_reducible exact LeO.none _)
   | (with_reducible refine LeO.ite ?_ ?_)
   | (with_reducible refine LeO.bind ?_ (fun _ => ?_))
   | exact slices_Index_int_int.mono _ _ _
   | exact LeO.none _
   | refine LeO.ite ?_ ?_
   | refine LeO.bind ?_ (fun _ => ?_)
set_option maxHeartbeats 8000000 in
set_option maxRecDepth 100000 in
theorem slices_Contains_int_int.calls (k : Nat) (A0 : Option Addr) (c0 : Nat) (l0 : List Int) (a1 : Int) (r : Bool) (w : World) (hr0 : Kd.C (Kd.int .i64) w A0 l0.length l0) (hc0 : l0.length ≤ c0) (h : slices_Contains_int_int.f k l0 a1 = some r) :
  Calls Try.prog 102 #[.slice A0 l0.length c0, .int .i64 a1] w fun e w' => e = .returned (.bool r) ∧ Drawn0 w w' := by
 have HR0 := Am hr0
 have HC0 := Am hc0
 clear hr0 hc0
 have H : ((slices_Index_int_int.f k l0 a1).bind fun t358 => (some (decide (t358 ≥ 0)))) = some r := h
 clear h
 replace H := Option.bind_eq_some_iff.mp H
 obtain ⟨t358, A30, H⟩ := H
 replace H : (some (decide (t358 ≥ 0))) = some r := H
 have A3 := Am A30
 clear A30
 obtain rfl := Option.some.inj H
 go_enter Try.func102, Try.ntmps102
 go_wp2_with (first | ((refine Gc (f := 124) rfl ?_); refine goesL_ (some 7) rfl rfl Try.func124 (by kernel_rfl) rfl #[.slice A0 l0.length c0, .int .i64 a1] rfl (by first | rfl | (simp only [List.map_toArray, List.map_cons, List.map_nil]; first | done | rfl)) ?_; (with_reducible refine (slices_Index_int_int.calls k _ _ l0 a1 t358 _ ?side1 ?side2 A3.out).mono ?_); (case side1 => repeat (first | exact HR0.out | (with_reducible refine Kd.C_alloc ?_ _) | (with_reducible refine Kd.C_drewN ?_ _) | (with_reducible refine Kd.C_drew ?_))); (case side2 => exact HC0.out); rintro e w' ⟨rfl, ⟨nd, rfl⟩⟩; refine ⟨_, rfl, ?_⟩))
 go_ret
 exact ⟨by first | rfl | (simp; done) | (simp [*]; done), by repeat (first | exact Drawn0.refl _ | apply Drawn0.step)⟩
def impl_interfere_1.f (k : Nat) (a0 : Int) (a1_0 : Int) (a1_1 : Int) (a1_2 : Int) (a1_3 : Int) (a1_4 : Int) : Option (Bool) := (impl_touches.f a1_0 a1_1 a1_2 a1_3 a1_4).bind fun t360 => ((slices_Contains_int_int.f k t360 a0).bind fun t363 => (some t363))
theorem impl_interfere_1.mono : ∀ a0 a1 a2 a3 a4 a5 k, LeO (impl_interfere_1.f k a0 a1 a2 a3 a4 a5) (impl_interfere_1.f (k + 1) a0 a1 a2 a3 a4 a5) := by
 intro a0 a1 a2 a3 a4 a5 k
 unfold impl_interfere_1.f
 repeat' first
   | (with_reducible exact slices_Contains_int_int.mono _ _ _)
   | (with_reducible exact LeO.refl _)
   | (with_reducible exact LeO.none _)
   | (with_reducible refine LeO.ite ?_ ?_)
   | (with_reducible refine LeO.bind ?_ (fun _ => ?_))
   | exact slices_Contains_int_int.mono _ _ _
   | exact LeO.none _
   | refine LeO.ite ?_ ?_
   | refine LeO.bind ?_ (fun _ => ?_)
set_option maxHeartbeats 8000000 in
set_option maxRecDepth 100000 in
theorem impl_interfere_1.calls (k : Nat) (a0 : Int) (gq1 : Nat) (a1_0 : Int) (a1_1 : Int) (a1_2 : Int) (a1_3 : Int) (a1_4 : Int) (r : Bool) (w : World) (hb1 : w.heap[gq1]? = some (.cells #[.int .i64 a1_0, .int .i64 a1_1, .int .i64 a1_2, .int .i64 a1_3, .int .i64 a1_4] 49 (0, 0))) (h : impl_interfere_1.f k a0 a1_0 a1_1 a1_2 a1_3 a1_4 = some r) :
  Calls Try.prog 117 #[.int .i64 a0, .pointer (some ⟨gq1, 0, none⟩)] w fun e w' => e = .returned (.bool r) ∧ Below w.heap.size w w' := by
 have hu49 := Try.underlying49
 have BK359 := Am hb1
 clear hb1
 have HB := Am (Below.refl w.heap.size w)
 have H : ((impl_touches.f a1_0 a1_1 a1_2 a1_3 a1_4).bind fun t360 => ((slices_Contains_int_int.f k t360 a0).bind fun t363 => (some t363))) = some r := h
 clear h
 replace H := Option.bind_eq_some_iff.mp H
 obtain ⟨t360, A30, H⟩ := H
 replace H : ((slices_Contains_int_int.f k t360 a0).bind fun t363 => (some t363)) = some r := H
 have A3 := Am A30
 clear A30
 replace H := Option.bind_eq_some_iff.mp H
 obtain ⟨t363, A40, H⟩ := H
 replace H : (some t363) = some r := H
 have A4 := Am A40
 clear A40
 obtain rfl := Option.some.inj H
 have hcz5_0 : w.cell? ⟨gq1, 0, none⟩ = some (.int .i64 a1_0) := (Kc BK359.out 0).trans rfl
 have hcz5_1 : w.cell? ⟨gq1, 1, none⟩ = some (.int .i64 a1_1) := (Kc BK359.out 1).trans rfl
 have hcz5_2 : w.cell? ⟨gq1, 2, none⟩ = some (.int .i64 a1_2) := (Kc BK359.out 2).trans rfl
 have hcz5_3 : w.cell? ⟨gq1, 3, none⟩ = some (.int .i64 a1_3) := (Kc BK359.out 3).trans rfl
 have hcz5_4 : w.cell? ⟨gq1, 4, none⟩ = some (.int .i64 a1_4) := (Kc BK359.out 4).trans rfl
 have hfz5_0 := Kz BK359.out 0
 have hfz5_1 := Kz BK359.out 1
 have hfz5_2 := Kz BK359.out 2
 have hfz5_3 := Kz BK359.out 3
 have hfz5_4 := Kz BK359.out 4
 go_enter Try.func117, Try.ntmps117
 go_wp2_with (first | ((refine Gc (f := 116) rfl ?_); refine goesL_ (some 5) rfl rfl Try.func116 (by kernel_rfl) rfl #[.agg #[.int .i64 a1_0, .int .i64 a1_1, .int .i64 a1_2, .int .i64 a1_3, .int .i64 a1_4]] rfl (by first | rfl | (simp only [List.map_toArray, List.map_cons, List.map_nil]; first | done | rfl)) ?_; (with_reducible refine (impl_touches.calls a1_0 a1_1 a1_2 a1_3 a1_4 t360 _ A3.out).mono ?_); rintro e w6 ⟨v361, rfl, ho0, hb⟩; refine ⟨_, rfl, ?_⟩; have n0_ := Am (Kd.R_lower ho0 (Bz (by repeat (first | (with_reducible first | exact HB.out | apply Ba | apply Bn | apply Bd | refine Bs ?_ GE359.out) | exact HB.out)))); have n1_ := Am (Kb (g := gq1) (o := .cells #[.int .i64 a1_0, .int .i64 a1_1, .int .i64 a1_2, .int .i64 a1_3, .int .i64 a1_4] 49 (0, 0)) (by (with_reducible repeat (first | refine Kn ?_ _ | refine Ke ?_ | refine Ka ?_ _)); exact BK359.out) hb); have n2_ := Am (Bt (by repeat (first | (with_reducible first | exact HB.out | apply Ba | apply Bn | apply Bd | refine Bs ?_ GE359.out) | exact HB.out)) hb); clear BK359; clear HB; have HO362 := n0_; have BK359 := n1_; have HB := n2_; clear n0_ n1_ n2_; (try clear hb); (try clear hb2); (try clear hk); (try clear hi); (try clear ho0); obtain ⟨Ao7, co7, eo7⟩ := Kd.R_slice HO362.out; subst eo7) | ((refine Gc (f := 102) rfl ?_); refine goesL_ (some 7) rfl rfl Try.func102 (by kernel_rfl) rfl #[.slice Ao7 t360.length co7, .int .i64 a0] rfl (by first | rfl | (simp only [List.map_toArray, List.map_cons, List.map_nil]; first | done | rfl)) ?_; (with_reducible refine (slices_Contains_int_int.calls k _ _ t360 a0 t363 _ ?side1 ?side2 A4.out).mono ?_); (case side1 => repeat (first | exact (Kd.R_reads' HO362.out).2.2 | (with_reducible refine Kd.C_alloc ?_ _) | (with_reducible refine Kd.C_drewN ?_ _) | (with_reducible refine Kd.C_drew ?_))); (case side2 => exact (Kd.R_reads' HO362.out).2.1); rintro e w' ⟨rfl, ⟨nd, rfl⟩⟩; refine ⟨_, rfl, ?_⟩))
 go_ret
 exact ⟨by first | rfl | (simp [*, errW_none, errW_some] <;> rfl), by repeat (first | (with_reducible first | exact HB.out | apply Ba | apply Bn | apply Bd | refine Bs ?_ GE359.out) | exact HB.out)⟩
def impl_interfere_1_in_c.f (k : Nat) (l0 : List Int) (aa0_0 : Int) (aa0_1 : Int) (aa0_2 : Int) (aa0_3 : Int) (aa0_4 : Int) : Option Bool := Mine.anyO (fun x : Int => impl_interfere_1.f k x aa0_0 aa0_1 aa0_2 aa0_3 aa0_4) l0
theorem impl_interfere_1_in_c.mono : ∀ a0 b0 b1 b2 b3 b4 k, LeO (impl_interfere_1_in_c.f k a0 b0 b1 b2 b3 b4) (impl_interfere_1_in_c.f (k + 1) a0 b0 b1 b2 b3 b4) := by
 intro a0 b0 b1 b2 b3 b4 k
 unfold impl_interfere_1_in_c.f
 exact Mine.anyO_mono (fun (x : Int) b_ hb_ => impl_interfere_1.mono x b0 b1 b2 b3 b4 k b_ hb_) a0
set_option maxHeartbeats 2000000 in
theorem impl_interfere_1_in_c.calls (k : Nat) (A0 : Option Addr) (c0 : Nat) (l0 : List Int) (gq0 : Nat) (aa0_0 : Int) (aa0_1 : Int) (aa0_2 : Int) (aa0_3 : Int) (aa0_4 : Int) (r : Bool) (w : World) (hr0 : Kd.C (Kd.int .i64) w A0 l0.length l0) (hc0 : l0.length ≤ c0) (hb0 : w.heap[gq0]? = some (.cells #[.int .i64 aa0_0, .int .i64 aa0_1, .int .i64 aa0_2, .int .i64 aa0_3, .int .i64 aa0_4] 49 (0, 0))) (h : impl_interfere_1_in_c.f k l0 aa0_0 aa0_1 aa0_2 aa0_3 aa0_4 = some r) :
  Calls Try.prog 110 #[.slice A0 l0.length c0, .func (.func 117) #[] #[.pointer (some ⟨gq0, 0, none⟩)]] w fun e w' => e = .returned (.bool r) ∧ Below w.heap.size w w' :=
 slices_ContainsFunc_int_int.anyO 117 #[.pointer (some ⟨gq0, 0, none⟩)] (fun x : Int => impl_interfere_1.f k x aa0_0 aa0_1 aa0_2 aa0_3 aa0_4) A0 c0 l0 w r (fun args w => enters_ Try.func117 (by kernel_rfl) rfl args w) hr0 hc0
  (fun W x hx bW b hb_ => (impl_interfere_1.calls k x gq0 aa0_0 aa0_1 aa0_2 aa0_3 aa0_4 b W (Kb hb0 bW) hb_).mono (fun e w' hh => ⟨hh.1, hh.2⟩)) h
def impl_interfere.f (k : Nat) (a0_0 : Int) (a0_1 : Int) (a0_2 : Int) (a0_3 : Int) (a0_4 : Int) (a1_0 : Int) (a1_1 : Int) (a1_2 : Int) (a1_3 : Int) (a1_4 : Int) : Option (Bool) := (impl_touches.f a0_0 a0_1 a0_2 a0_3 a0_4).bind fun t366 => ((impl_interfere_1_in_c.f k t366 a1_0 a1_1 a1_2 a1_3 a1_4).bind fun t369 => (some t369))
theorem impl_interfere.mono : ∀ a0 a1 a2 a3 a4 a5 a6 a7 a8 a9 k, LeO (impl_interfere.f k a0 a1 a2 a3 a4 a5 a6 a7 a8 a9) (impl_interfere.f (k + 1) a0 a1 a2 a3 a4 a5 a6 a7 a8 a9) := by
 intro a0 a1 a2 a3 a4 a5 a6 a7 a8 a9 k
 unfold impl_interfere.f
 repeat' first
   | (with_reducible exact impl_interfere_1_in_c.mono _ _ _ _ _ _ _)
   | (with_reducible exact LeO.refl _)
   | (with_reducible exact LeO.none _)
   | (with_reducible refine LeO.ite ?_ ?_)
   | (with_reducible refine LeO.bind ?_ (fun _ => ?_))
   | exact impl_interfere_1_in_c.mono _ _ _ _ _ _ _
   | exact LeO.none _
   | refine LeO.ite ?_ ?_
   | refine LeO.bind ?_ (fun _ => ?_)
set_option maxHeartbeats 8000000 in
set_option maxRecDepth 100000 in
theorem impl_interfere.calls (k : Nat) (a0_0 : Int) (a0_1 : Int) (a0_2 : Int) (a0_3 : Int) (a0_4 : Int) (a1_0 : Int) (a1_1 : Int) (a1_2 : Int) (a1_3 : Int) (a1_4 : Int) (r : Bool) (w : World) (h : impl_interfere.f k a0_0 a0_1 a0_2 a0_3 a0_4 a1_0 a1_1 a1_2 a1_3 a1_4 = some r) :
  Calls Try.prog 96 #[.agg #[.int .i64 a0_0, .int .i64 a0_1, .int .i64 a0_2, .int .i64 a0_3, .int .i64 a0_4], .agg #[.int .i64 a1_0, .int .i64 a1_1, .int .i64 a1_2, .int .i64 a1_3, .int .i64 a1_4]] w fun e w' => e = .returned (.bool r) ∧ Below w.heap.size w w' := by
 have hu49 := Try.underlying49
 have HB := Am (Below.refl w.heap.size w)
 have H : ((impl_touches.f a0_0 a0_1 a0_2 a0_3 a0_4).bind fun t366 => ((impl_interfere_1_in_c.f k t366 a1_0 a1_1 a1_2 a1_3 a1_4).bind fun t369 => (some t369))) = some r := h
 clear h
 replace H := Option.bind_eq_some_iff.mp H
 obtain ⟨t366, A30, H⟩ := H
 replace H : ((impl_interfere_1_in_c.f k t366 a1_0 a1_1 a1_2 a1_3 a1_4).bind fun t369 => (some t369)) = some r := H
 have A3 := Am A30
 clear A30
 replace H := Option.bind_eq_some_iff.mp H
 obtain ⟨t369, A40, H⟩ := H
 replace H : (some t369) = some r := H
 have A4 := Am A40
 clear A40
 obtain rfl := Option.some.inj H
 go_enter Try.func96, Try.ntmps96
 go_wp2_with (first | ((refine Gd (N := 2) rfl ?_); refine Be ?hg (N := 2) ?hd (cs := #[.int .i64 a0_0, .int .i64 a0_1, .int .i64 a0_2, .int .i64 a0_3, .int .i64 a0_4]) (t := 49) ?hr ?_; (case hd | hg => rfl); (case hr => first | (go_simp; done) | (go_simp; rfl)); intro gb364 hg w5 hbox hb; have n0_ := Am (Bt (by repeat (first | exact HB.out | apply Ba | apply Bn | apply Bd)) hb); have n1_ := Am (hbox); have n2_ := Am ((by rw [hg]; exact (Bz (by repeat (first | exact HB.out | apply Ba | apply Bn | apply Bd))) : w.heap.size ≤ gb364)); have n3_ := Am ((by rw [hg]; exact (Bz (by repeat (first | exact HB.out | apply Ba | apply Bn | apply Bd))) : w.heap.size ≤ gb364)); clear HB; have HB := n0_; have BK364 := n1_; have GW364 := n2_; have GE364 := n3_; clear n0_ n1_ n2_ n3_; clear hb hbox hg) | ((refine Gd (N := 3) rfl ?_); refine Be ?hg (N := 3) ?hd (cs := #[.int .i64 a1_0, .int .i64 a1_1, .int .i64 a1_2, .int .i64 a1_3, .int .i64 a1_4]) (t := 49) ?hr ?_; (case hd | hg => rfl); (case hr => first | (go_simp; done) | (go_simp; rfl)); intro gb365 hg w6 hbox hb; have n0_ := Am (Kb (g := gb364) (o := .cells #[.int .i64 a0_0, .int .i64 a0_1, .int .i64 a0_2, .int .i64 a0_3, .int .i64 a0_4] 49 (0, 0)) (by (with_reducible repeat (first | refine Kn ?_ _ | refine Ke ?_ | refine Ka ?_ _)); exact BK364.out) hb); have n1_ := Am (Bt (by repeat (first | (with_reducible first | exact HB.out | apply Ba | apply Bn | apply Bd | refine Bs ?_ GE364.out) | exact HB.out)) hb); have n2_ := Am (hbox); have n3_ := Am ((by rw [hg]; exact (Bz (by repeat (first | (with_reducible first | exact HB.out | apply Ba | apply Bn | apply Bd | refine Bs ?_ GE364.out) | exact HB.out))) : w.heap.size ≤ gb365)); have n4_ := Am ((by rw [hg]; exact (Bz (by repeat (first | (with_reducible first | exact HB.out | apply Ba | apply Bn | apply Bd | refine Bs ?_ GE364.out) | exact HB.out))) : w.heap.size ≤ gb365)); have n5_ := Am ((by rw [hg]; exact Nat.ne_of_lt (blk_lt (g := gb364) (o := .cells #[.int .i64 a0_0, .int .i64 a0_1, .int .i64 a0_2, .int .i64 a0_3, .int .i64 a0_4] 49 (0, 0)) (by (with_reducible repeat (first | refine Kn ?_ _ | refine Ke ?_ | refine Ka ?_ _)); exact BK364.out)) : gb364 ≠ gb365)); have n6_ := Am ((by rw [hg]; exact Nat.ne_of_gt (blk_lt (g := gb364) (o := .cells #[.int .i64 a0_0, .int .i64 a0_1, .int .i64 a0_2, .int .i64 a0_3, .int .i64 a0_4] 49 (0, 0)) (by (with_reducible repeat (first | refine Kn ?_ _ | refine Ke ?_ | refine Ka ?_ _)); exact BK364.out)) : gb365 ≠ gb364)); clear BK364; clear HB; have BK364 := n0_; have HB := n1_; have BK365 := n2_; have GW365 := n3_; have GE365 := n4_; have NB364_365 := n5_; have NB365_364 := n6_; clear n0_ n1_ n2_ n3_ n4_ n5_ n6_; clear hb hbox hg; have hnb7 := NB364_365.out; have hnc7 := NB365_364.out; have hcz8_0 : w6.cell? ⟨gb364, 0, none⟩ = some (.int .i64 a0_0) := (Kc BK364.out 0).trans rfl; have hcz8_1 : w6.cell? ⟨gb364, 1, none⟩ = some (.int .i64 a0_1) := (Kc BK364.out 1).trans rfl; have hcz8_2 : w6.cell? ⟨gb364, 2, none⟩ = some (.int .i64 a0_2) := (Kc BK364.out 2).trans rfl; have hcz8_3 : w6.cell? ⟨gb364, 3, none⟩ = some (.int .i64 a0_3) := (Kc BK364.out 3).trans rfl; have hcz8_4 : w6.cell? ⟨gb364, 4, none⟩ = some (.int .i64 a0_4) := (Kc BK364.out 4).trans rfl; have hfz8_0 := Kz BK364.out 0; have hfz8_1 := Kz BK364.out 1; have hfz8_2 := Kz BK364.out 2; have hfz8_3 := Kz BK364.out 3; have hfz8_4 := Kz BK364.out 4) | ((refine Gc (f := 116) rfl ?_); refine goesL_ (some 6) rfl rfl Try.func116 (by kernel_rfl) rfl #[.agg #[.int .i64 a0_0, .int .i64 a0_1, .int .i64 a0_2, .int .i64 a0_3, .int .i64 a0_4]] rfl (by first | rfl | (simp only [List.map_toArray, List.map_cons, List.map_nil]; first | done | rfl)) ?_; (with_reducible refine (impl_touches.calls a0_0 a0_1 a0_2 a0_3 a0_4 t366 _ A3.out).mono ?_); rintro e w9 ⟨v367, rfl, ho0, hb⟩; refine ⟨_, rfl, ?_⟩; have n0_ := Am (Kd.R_lower ho0 (Bz (by repeat (first | (with_reducible first | exact HB.out | apply Ba | apply Bn | apply Bd | refine Bs ?_ GE364.out | refine Bs ?_ GE365.out) | exact HB.out)))); have n1_ := Am (Kb (g := gb364) (o := .cells #[.int .i64 a0_0, .int .i64 a0_1, .int .i64 a0_2, .int .i64 a0_3, .int .i64 a0_4] 49 (0, 0)) (by (with_reducible repeat (first | refine Kn ?_ _ | refine Ke ?_ | refine Ka ?_ _)); exact BK364.out) hb); have n2_ := Am (Kb (g := gb365) (o := .cells #[.int .i64 a1_0, .int .i64 a1_1, .int .i64 a1_2, .int .i64 a1_3, .int .i64 a1_4] 49 (0, 0)) (by (with_reducible repeat (first | refine Kn ?_ _ | refine Ke ?_ | refine Ka ?_ _)); exact BK365.out) hb); have n3_ := Am (Bt (by repeat (first | (with_reducible first | exact HB.out | apply Ba | apply Bn | apply Bd | refine Bs ?_ GE364.out | refine Bs ?_ GE365.out) | exact HB.out)) hb); clear BK364; clear BK365; clear HB; have HO368 := n0_; have BK364 := n1_; have BK365 := n2_; have HB := n3_; clear n0_ n1_ n2_ n3_; (try clear hb); (try clear hb2); (try clear hk); (try clear hi); (try clear ho0); obtain ⟨Ao10, co10, eo10⟩ := Kd.R_slice HO368.out; subst eo10) | ((refine Gc (f := 110) rfl ?_); refine goesL_ (some 8) rfl rfl Try.func110 (by kernel_rfl) rfl #[.slice Ao10 t366.length co10, .func (.func 117) #[] #[.pointer (some ⟨gb365, 0, none⟩)]] rfl (by first | rfl | (simp only [List.map_toArray, List.map_cons, List.map_nil]; first | done | rfl)) ?_; (with_reducible refine (impl_interfere_1_in_c.calls k _ _ t366 gb365 a1_0 a1_1 a1_2 a1_3 a1_4 t369 _ ?side1 ?side2 ?side3 A4.out).mono ?_); (case side1 => repeat (first | exact (Kd.R_reads' HO368.out).2.2 | (with_reducible refine Kd.C_alloc ?_ _) | (with_reducible refine Kd.C_drewN ?_ _) | (with_reducible refine Kd.C_drew ?_))); (case side2 => exact (Kd.R_reads' HO368.out).2.1); (case side3 => exact by (with_reducible repeat (first | refine Kn ?_ _ | refine Ke ?_ | refine Ka ?_ _)); exact BK365.out); rintro e w11 ⟨rfl, hb⟩; refine ⟨_, rfl, ?_⟩; have n0_ := Am (Kd.R_below (by (with_reducible repeat (first | apply Ra | apply Rn | apply Rd)); exact HO368.out) hb); have n1_ := Am (Kb (g := gb364) (o := .cells #[.int .i64 a0_0, .int .i64 a0_1, .int .i64 a0_2, .int .i64 a0_3, .int .i64 a0_4] 49 (0, 0)) (by (with_reducible repeat (first | refine Kn ?_ _ | refine Ke ?_ | refine Ka ?_ _)); exact BK364.out) hb); have n2_ := Am (Kb (g := gb365) (o := .cells #[.int .i64 a1_0, .int .i64 a1_1, .int .i64 a1_2, .int .i64 a1_3, .int .i64 a1_4] 49 (0, 0)) (by (with_reducible repeat (first | refine Kn ?_ _ | refine Ke ?_ | refine Ka ?_ _)); exact BK365.out) hb); have n3_ := Am (Bt (by repeat (first | (with_reducible first | exact HB.out | apply Ba | apply Bn | apply Bd | refine Bs ?_ GE364.out | refine Bs ?_ GE365.out) | exact HB.out)) hb); clear HO368; clear BK364; clear BK365; clear HB; have HO368 := n0_; have BK364 := n1_; have BK365 := n2_; have HB := n3_; clear n0_ n1_ n2_ n3_; (try clear hb); (try clear hb2); (try clear hk); (try clear hi)))
 go_ret
 exact ⟨by first | rfl | (simp [*, errW_none, errW_some] <;> rfl), by repeat (first | (with_reducible first | exact HB.out | apply Ba | apply Bn | apply Bd | refine Bs ?_ GE364.out | refine Bs ?_ GE365.out) | exact HB.out)⟩
def impl_Table_attrFor_1.Rel (go gr gn gc g8 B : Nat) (rep no : Int) (c : S49) (w0 : World) (s : Int × List Int) (W : World) : Prop :=
 ∃ v, W.heap[go]? = some (.cells #[.int .i64 s.1, v] 46 (0, 0)) ∧ Kd.R (Kd.int .i64) 3 W B (fun _ => True) v s.2 ∧ W.heap[gr]? = some (.cells #[.int .i64 rep] 3 (0, 0)) ∧ W.heap[gn]? = some (.cells #[.int .i64 no] 3 (0, 0)) ∧ W.heap[gc]? = some (.cells #[.int .i64 c.f0, .int .i64 c.f1, .int .i64 c.f2, .int .i64 c.f3, .int .i64 c.f4] 49 (0, 0)) ∧ W.heap[g8]? = some (.cells #[.int .i64 0, .slice none 0 0] 46 (0, 0)) ∧ Below w0.heap.size w0 W ∧ (gr < B ∧ gn < B ∧ w0.heap.size ≤ B ∧ w0.heap.size ≤ go ∧ g8 ≠ go)
theorem impl_Table_attrFor_1.mono {go gr gn gc g8 B : Nat} {rep no : Int} {c : S49} {w0 W W' : World} {s : Int × List Int} (h : impl_Table_attrFor_1.Rel go gr gn gc g8 B rep no c w0 s W) (hb : Below W.heap.size W W') : impl_Table_attrFor_1.Rel go gr gn gc g8 B rep no c w0 s W' := by
 obtain ⟨v, h1, h2, h3, h4, h5, h8, h6, h7⟩ := h
 exact ⟨v, Kb h1 hb, Kd.R_below h2 hb, Kb h3 hb, Kb h4 hb, Kb h5 hb, Kb h8 hb, below_then h6 h6.size hb, h7⟩
def impl_Table_attrFor_1.stepA (K : Nat) (rep no : Int) (c : S49) (s : Int × List Int) (i j : Int) (x : S72) : Option (Int × List Int) :=
 if (i = rep ∧ j = no) ∨ x.f2 = 0 then some s else (impl_interfere.f K x.f3.f0 x.f3.f1 x.f3.f2 x.f3.f3 x.f3.f4 c.f0 c.f1 c.f2 c.f3 c.f4).bind fun b => if b = true then (if 0 ≤ i ∧ i < (s.2.length : Int) then some (if s.1 < x.f4.f0 then x.f4.f0 else s.1, s.2.set i.toNat (if s.2.getD i.toNat 0 < j then j else s.2.getD i.toNat 0)) else none) else some s
set_option maxHeartbeats 4000000 in
set_option maxRecDepth 100000 in
theorem impl_Table_attrFor_1.closed (K : Nat) (go gr gn gc g8 B : Nat) (rep no : Int) (c : S49) (w0 : World) (s s' : Int × List Int) (i j : Int) (x : S72) (A9 : Option Addr) (c9 : Nat) (W : World) (hrel : impl_Table_attrFor_1.Rel go gr gn gc g8 B rep no c w0 s W) (h : impl_Table_attrFor_1.stepA K rep no c s i j x = some s') :
  Calls Try.prog 95 #[.int .i64 i, .int .i64 j, .agg #[.int .i64 x.f0, .int .i64 x.f1, .int .i64 x.f2, .int .i64 x.f3.f0, .int .i64 x.f3.f1, .int .i64 x.f3.f2, .int .i64 x.f3.f3, .int .i64 x.f3.f4, .int .i64 x.f4.f0, .slice A9 x.f4.f1.length c9], .pointer (some ⟨gr, 0, none⟩), .pointer (some ⟨gn, 0, none⟩), .pointer (some ⟨gc, 0, none⟩), .pointer (some ⟨go, 0, none⟩)] W fun e W' => e = .returned (.tuple #[]) ∧ impl_Table_attrFor_1.Rel go gr gn gc g8 B rep no c w0 s' W' := by
 have hu := Try.underlying72
 have hu2 := Try.underlying49
 have HR := Am hrel
 have HI := Am h
 clear hrel h
 go_enter Try.func95, Try.ntmps95
 go_upto_region 1 with (fail)
 refine letC (fun W_ => Below W.heap.size W W_ ∧ W_.heap[W.heap.size]? = some (.cells #[.int .i64 x.f0, .int .i64 x.f1, .int .i64 x.f2, .int .i64 x.f3.f0, .int .i64 x.f3.f1, .int .i64 x.f3.f2, .int .i64 x.f3.f3, .int .i64 x.f3.f4, .int .i64 x.f4.f0, .slice A9 x.f4.f1.length c9] 72 (0, 0))) ⟨Ba (Below.refl _ _) _, blk_new W (.cells #[.int .i64 x.f0, .int .i64 x.f1, .int .i64 x.f2, .int .i64 x.f3.f0, .int .i64 x.f3.f1, .int .i64 x.f3.f2, .int .i64 x.f3.f3, .int .i64 x.f3.f4, .int .i64 x.f4.f0, .slice A9 x.f4.f1.length c9] 72)⟩ ?_
 rintro W1 ⟨hb, hx⟩
 have HR1 := Am (impl_Table_attrFor_1.mono HR.out hb)
 have HX1 := Am hx
 clear hb hx HR
 have qr : W1.cell? ⟨gr, 0, none⟩ = some (.int .i64 rep) := (Kc HR1.out.choose_spec.2.2.1 0).trans rfl
 have qn : W1.cell? ⟨gn, 0, none⟩ = some (.int .i64 no) := (Kc HR1.out.choose_spec.2.2.2.1 0).trans rfl
 have qc0 : W1.cell? ⟨gc, 0, none⟩ = some (.int .i64 c.f0) := (Kc HR1.out.choose_spec.2.2.2.2.1 0).trans rfl
 have qc1 : W1.cell? ⟨gc, 1, none⟩ = some (.int .i64 c.f1) := (Kc HR1.out.choose_spec.2.2.2.2.1 1).trans rfl
 have qc2 : W1.cell? ⟨gc, 2, none⟩ = some (.int .i64 c.f2) := (Kc HR1.out.choose_spec.2.2.2.2.1 2).trans rfl
 have qc3 : W1.cell? ⟨gc, 3, none⟩ = some (.int .i64 c.f3) := (Kc HR1.out.choose_spec.2.2.2.2.1 3).trans rfl
 have qc4 : W1.cell? ⟨gc, 4, none⟩ = some (.int .i64 c.f4) := (Kc HR1.out.choose_spec.2.2.2.2.1 4).trans rfl
 have qx0 : W1.cell? ⟨W.heap.size, 0, none⟩ = some (.int .i64 x.f0) := (Kc HX1.out 0).trans rfl
 have qx1 : W1.cell? ⟨W.heap.size, 1, none⟩ = some (.int .i64 x.f1) := (Kc HX1.out 1).trans rfl
 have qx2 : W1.cell? ⟨W.heap.size, 2, none⟩ = some (.int .i64 x.f2) := (Kc HX1.out 2).trans rfl
 have qx3 : W1.cell? ⟨W.heap.size, 3, none⟩ = some (.int .i64 x.f3.f0) := (Kc HX1.out 3).trans rfl
 have qx4 : W1.cell? ⟨W.heap.size, 4, none⟩ = some (.int .i64 x.f3.f1) := (Kc HX1.out 4).trans rfl
 have qx5 : W1.cell? ⟨W.heap.size, 5, none⟩ = some (.int .i64 x.f3.f2) := (Kc HX1.out 5).trans rfl
 have qx6 : W1.cell? ⟨W.heap.size, 6, none⟩ = some (.int .i64 x.f3.f3) := (Kc HX1.out 6).trans rfl
 have qx7 : W1.cell? ⟨W.heap.size, 7, none⟩ = some (.int .i64 x.f3.f4) := (Kc HX1.out 7).trans rfl
 unfold impl_Table_attrFor_1.stepA at HI
 by_cases hsk : (i = rep ∧ j = no) ∨ x.f2 = 0
 ·have HE : Ad (s = s') := ⟨by have h_ := HI.out; rw [if_pos hsk] at h_; exact Option.some.inj h_⟩
  clear HI
  by_cases hi : i = rep
  ·have ei : (i == rep) = true := by rw [hi]; simp
   have ni : (i != rep) = false := by rw [hi]; simp
   by_cases hj : j = no
   ·have ej : (j == no) = true := by rw [hj]; simp
    have nj : (j != no) = false := by rw [hj]; simp
    clear hsk hi hj
    go_wp2
    go_end0
    exact ⟨rfl, by rw [← HE.out]; exact HR1.out⟩
   ·have ej : (j == no) = false := by rw [beq_eq_false_iff_ne]; exact hj
    have nj : (j != no) = true := by simp [bne, ej]
    have h2 : x.f2 = 0 := by rcases hsk with ⟨_, h⟩ | h; exact absurd h hj; exact h
    have e2 : (x.f2 == 0) = true := by rw [h2]; rfl
    have n2 : (x.f2 != 0) = false := by rw [h2]; rfl
    clear hsk hi hj h2
    go_wp2
    go_end0
    exact ⟨rfl, by rw [← HE.out]; exact HR1.out⟩
  ·have ei : (i == rep) = false := by rw [beq_eq_false_iff_ne]; exact hi
   have ni : (i != rep) = true := by simp [bne, ei]
   have h2 : x.f2 = 0 := by rcases hsk with ⟨h, _⟩ | h; exact absurd h hi; exact h
   have e2 : (x.f2 == 0) = true := by rw [h2]; rfl
   have n2 : (x.f2 != 0) = false := by rw [h2]; rfl
   clear hsk hi h2
   go_wp2
   go_end0
   exact ⟨rfl, by rw [← HE.out]; exact HR1.out⟩
 ·cases hq : impl_interfere.f K x.f3.f0 x.f3.f1 x.f3.f2 x.f3.f3 x.f3.f4 c.f0 c.f1 c.f2 c.f3 c.f4 with
  | none => exact absurd HI.out (by rw [if_neg hsk, hq]; simp)
  | some b =>
  have HF := Am hq
  have HI : Ad ((if b = true then (if 0 ≤ i ∧ i < (s.2.length : Int) then some (if s.1 < x.f4.f0 then x.f4.f0 else s.1, s.2.set i.toNat (if s.2.getD i.toNat 0 < j then j else s.2.getD i.toNat 0)) else none) else some s) = some s') := ⟨by have h_ := HI.out; rw [if_neg hsk, hq, Option.bind_some] at h_; exact h_⟩
  have h2 : ¬ x.f2 = 0 := fun h => hsk (.inr h)
  have e2 : (x.f2 == 0) = false := by rw [beq_eq_false_iff_ne]; exact h2
  have n2 : (x.f2 != 0) = true := by simp [bne, e2]
  clear hq h2
  by_cases hi : i = rep
  ·have ei : (i == rep) = true := by rw [hi]; simp
   have ni : (i != rep) = false := by rw [hi]; simp
   have hj : ¬ j = no := fun h => hsk (.inl ⟨hi, h⟩)
   have ej : (j == no) = false := by rw [beq_eq_false_iff_ne]; exact hj
   have nj : (j != no) = true := by simp [bne, ej]
   clear hsk hi hj
   go_wp2_with fail
   refine (impl_interfere.calls K x.f3.f0 x.f3.f1 x.f3.f2 x.f3.f3 x.f3.f4 c.f0 c.f1 c.f2 c.f3 c.f4 b W1 HF.out).mono ?_
   rintro e W2 ⟨rfl, hb⟩
   have HR2 := Am (impl_Table_attrFor_1.mono HR1.out hb)
   have HX2 := Am (Kb HX1.out hb)
   clear hb HR1 HX1 qr qn qc0 qc1 qc2 qc3 qc4 qx0 qx1 qx2 qx3 qx4 qx5 qx6 qx7
   cases b with
   | false =>
    have HE : Ad (s = s') := ⟨by simpa using HI.out⟩
    go_wp2
    go_end0
    exact ⟨rfl, by rw [← HE.out]; exact HR2.out⟩
   | true =>
    by_cases hb : 0 ≤ i ∧ i < (s.2.length : Int)
    ·have HE : Ad ((if s.1 < x.f4.f0 then x.f4.f0 else s.1, s.2.set i.toNat (if s.2.getD i.toNat 0 < j then j else s.2.getD i.toNat 0)) = s') := ⟨by have h_ := HI.out; rw [if_pos rfl, if_pos hb] at h_; exact Option.some.inj h_⟩
     obtain ⟨hi0, hi1⟩ := hb
     obtain ⟨v, ho, hr, hgr, hgn, hgc, hg8, hB, hbase⟩ := HR2.out
     obtain ⟨g, cap, rfl, hbg, hgl, cells, hcells⟩ := Kd.R_form hr (by omega)
     obtain ⟨ce, hcl, hM, hcc, hfr⟩ := Kd.R_elem hr 0 i hi0 hi1
     have hM' : ce = [.int .i64 (s.2.getD i.toNat 0)] := hM
     subst hM'
     have hd : W2.cell? ⟨g, i.toNat, none⟩ = some (.int .i64 (s.2.getD i.toNat 0)) := by simpa [Kd.int, Kd.scalar] using hcc 0 _ rfl
     have hf : W2.frozen? ⟨g, i.toNat, none⟩ = false := by simpa [Kd.int, Kd.scalar] using hfr 0
     have HPN := Am (Kd.R_putn (enc := Value.int .i64) (h1 := fun _ => rfl) hr i (if s.2.getD i.toNat 0 < j then j else s.2.getD i.toNat 0))
     have hng : go ≠ g := blk_ne ho hcells (by decide)
     have hng' : g ≠ go := fun e => hng e.symm
     have hnx : W.heap.size ≠ g := blk_ne HX2.out hcells (by decide)
     have hnx' : g ≠ W.heap.size := fun e => hnx e.symm
     have hnz : W.heap.size ≠ go := blk_ne HX2.out ho (by decide)
     have hnz' : go ≠ W.heap.size := fun e => hnz e.symm
     have hs0 : W2.cell? ⟨go, 0, none⟩ = some (.int .i64 s.1) := (Kc ho 0).trans rfl
     have hs1 : W2.cell? ⟨go, 1, none⟩ = some (.slice (some ⟨g, 0, none⟩) s.2.length cap) := (Kc ho 1).trans rfl
     have hsf : W2.frozen? ⟨go, 0, none⟩ = false := Kz ho 0
     have hx8 : W2.cell? ⟨W.heap.size, 8, none⟩ = some (.int .i64 x.f4.f0) := (Kc HX2.out 8).trans rfl
     have HO := Am ho
     have HGR := Am hgr
     have HGN := Am hgn
     have HGC := Am hgc
     have HG8 := Am hg8
     have HBB := Am hB
     have HBS := Am hbase
     have HBG := Am hbg
     have HCL := Am hcells
     clear hcl hM hcc hfr ho hr hgr hgn hgc hg8 hB hbase hbg hcells hgl HR2 HX2
     generalize s.2.getD i.toNat 0 = d at hd HE HPN
     go_wp2
     go_region
     go_end0
     refine ⟨rfl, ?_⟩
     rw [← HE.out]
     have hbs := HBS.out
     have hbg := HBG.out
     have hng := blk_ne HO.out HCL.out (by decide)
     have ho1 := Kf HO.out (p := ⟨g, i.toNat, none⟩) hng (.int .i64 (if d < j then j else d))
     exact ⟨_, Ke (blk_put ho1 0 _ rfl), Rd (Kd.R_set HPN.out ho1 (by decide) 0 _), Ke (Kf (Kf HGR.out (p := ⟨g, i.toNat, none⟩) (show gr ≠ g by omega) _) (blk_ne HGR.out HO.out (by decide)) _), Ke (Kf (Kf HGN.out (p := ⟨g, i.toNat, none⟩) (show gn ≠ g by omega) _) (blk_ne HGN.out HO.out (by decide)) _), Ke (Kf (Kf HGC.out (p := ⟨g, i.toNat, none⟩) (blk_ne HGC.out HCL.out (by decide)) _) (blk_ne HGC.out HO.out (by decide)) _), Ke (Kf (Kf HG8.out (p := ⟨g, i.toNat, none⟩) (blk_ne HG8.out HCL.out (by decide)) _) hbs.2.2.2.2 _), below_drew (Bs (Bs HBB.out (Nat.le_trans hbs.2.2.1 hbg)) hbs.2.2.2.1), hbs⟩
    ·exact absurd HI.out (by rw [if_pos rfl, if_neg hb]; simp)
  ·have ei : (i == rep) = false := by rw [beq_eq_false_iff_ne]; exact hi
   have ni : (i != rep) = true := by simp [bne, ei]
   clear hsk hi
   go_wp2_with fail
   refine (impl_interfere.calls K x.f3.f0 x.f3.f1 x.f3.f2 x.f3.f3 x.f3.f4 c.f0 c.f1 c.f2 c.f3 c.f4 b W1 HF.out).mono ?_
   rintro e W2 ⟨rfl, hb⟩
   have HR2 := Am (impl_Table_attrFor_1.mono HR1.out hb)
   have HX2 := Am (Kb HX1.out hb)
   clear hb HR1 HX1 qr qn qc0 qc1 qc2 qc3 qc4 qx0 qx1 qx2 qx3 qx4 qx5 qx6 qx7
   cases b with
   | false =>
    have HE : Ad (s = s') := ⟨by simpa using HI.out⟩
    go_wp2
    go_end0
    exact ⟨rfl, by rw [← HE.out]; exact HR2.out⟩
   | true =>
    by_cases hb : 0 ≤ i ∧ i < (s.2.length : Int)
    ·have HE : Ad ((if s.1 < x.f4.f0 then x.f4.f0 else s.1, s.2.set i.toNat (if s.2.getD i.toNat 0 < j then j else s.2.getD i.toNat 0)) = s') := ⟨by have h_ := HI.out; rw [if_pos rfl, if_pos hb] at h_; exact Option.some.inj h_⟩
     obtain ⟨hi0, hi1⟩ := hb
     obtain ⟨v, ho, hr, hgr, hgn, hgc, hg8, hB, hbase⟩ := HR2.out
     obtain ⟨g, cap, rfl, hbg, hgl, cells, hcells⟩ := Kd.R_form hr (by omega)
     obtain ⟨ce, hcl, hM, hcc, hfr⟩ := Kd.R_elem hr 0 i hi0 hi1
     have hM' : ce = [.int .i64 (s.2.getD i.toNat 0)] := hM
     subst hM'
     have hd : W2.cell? ⟨g, i.toNat, none⟩ = some (.int .i64 (s.2.getD i.toNat 0)) := by simpa [Kd.int, Kd.scalar] using hcc 0 _ rfl
     have hf : W2.frozen? ⟨g, i.toNat, none⟩ = false := by simpa [Kd.int, Kd.scalar] using hfr 0
     have HPN := Am (Kd.R_putn (enc := Value.int .i64) (h1 := fun _ => rfl) hr i (if s.2.getD i.toNat 0 < j then j else s.2.getD i.toNat 0))
     have hng : go ≠ g := blk_ne ho hcells (by decide)
     have hng' : g ≠ go := fun e => hng e.symm
     have hnx : W.heap.size ≠ g := blk_ne HX2.out hcells (by decide)
     have hnx' : g ≠ W.heap.size := fun e => hnx e.symm
     have hnz : W.heap.size ≠ go := blk_ne HX2.out ho (by decide)
     have hnz' : go ≠ W.heap.size := fun e => hnz e.symm
     have hs0 : W2.cell? ⟨go, 0, none⟩ = some (.int .i64 s.1) := (Kc ho 0).trans rfl
     have hs1 : W2.cell? ⟨go, 1, none⟩ = some (.slice (some ⟨g, 0, none⟩) s.2.length cap) := (Kc ho 1).trans rfl
     have hsf : W2.frozen? ⟨go, 0, none⟩ = false := Kz ho 0
     have hx8 : W2.cell? ⟨W.heap.size, 8, none⟩ = some (.int .i64 x.f4.f0) := (Kc HX2.out 8).trans rfl
     have HO := Am ho
     have HGR := Am hgr
     have HGN := Am hgn
     have HGC := Am hgc
     have HG8 := Am hg8
     have HBB := Am hB
     have HBS := Am hbase
     have HBG := Am hbg
     have HCL := Am hcells
     clear hcl hM hcc hfr ho hr hgr hgn hgc hg8 hB hbase hbg hcells hgl HR2 HX2
     generalize s.2.getD i.toNat 0 = d at hd HE HPN
     go_wp2
     go_region
     go_end0
     refine ⟨rfl, ?_⟩
     rw [← HE.out]
     have hbs := HBS.out
     have hbg := HBG.out
     have hng := blk_ne HO.out HCL.out (by decide)
     have ho1 := Kf HO.out (p := ⟨g, i.toNat, none⟩) hng (.int .i64 (if d < j then j else d))
     exact ⟨_, Ke (blk_put ho1 0 _ rfl), Rd (Kd.R_set HPN.out ho1 (by decide) 0 _), Ke (Kf (Kf HGR.out (p := ⟨g, i.toNat, none⟩) (show gr ≠ g by omega) _) (blk_ne HGR.out HO.out (by decide)) _), Ke (Kf (Kf HGN.out (p := ⟨g, i.toNat, none⟩) (show gn ≠ g by omega) _) (blk_ne HGN.out HO.out (by decide)) _), Ke (Kf (Kf HGC.out (p := ⟨g, i.toNat, none⟩) (blk_ne HGC.out HCL.out (by decide)) _) (blk_ne HGC.out HO.out (by decide)) _), Ke (Kf (Kf HG8.out (p := ⟨g, i.toNat, none⟩) (blk_ne HG8.out HCL.out (by decide)) _) hbs.2.2.2.2 _), below_drew (Bs (Bs HBB.out (Nat.le_trans hbs.2.2.1 hbg)) hbs.2.2.2.1), hbs⟩
    ·exact absurd HI.out (by rw [if_pos rfl, if_neg hb]; simp)
def impl_Table_attrFor.f (K : Nat) (n : Int) (l : List (List S72)) (c0 c1 c2 c3 c4 : Int) (rep no : Int) : Option (Int × List Int × Bool) :=
 (impl_noneAttr.f n).bind fun bt => (impl_Table_each.allO (impl_Table_attrFor_1.stepA K rep no ⟨c0, c1, c2, c3, c4⟩) l 0 (bt.1, bt.2)).bind fun s => some (wrap64 (s.1 + 1), s.2, decide (wrap64 (s.1 + 1) ≤ 999))
set_option maxHeartbeats 4000000 in
set_option maxRecDepth 100000 in
theorem impl_Table_attrFor.calls (K : Nat) (n : Int) (A : Option Addr) (cl : Nat) (l : List (List S72)) (c0 c1 c2 c3 c4 : Int) (rep no : Int) (r1 : Int) (r2 : List Int) (r3 : Bool) (w : World) (hr : Kd.C (Kd.slice 72 k72) w A l.length l) (hcl : l.length ≤ cl) (h : impl_Table_attrFor.f K n l c0 c1 c2 c3 c4 rep no = some (r1, r2, r3)) :
  Calls Try.prog 63 #[.agg #[.int .i64 n, .slice A l.length cl], .agg #[.int .i64 c0, .int .i64 c1, .int .i64 c2, .int .i64 c3, .int .i64 c4], .int .i64 rep, .int .i64 no] w fun e w' => ∃ v1_ : Value, e = .returned (.tuple #[.agg #[.int .i64 r1, v1_], .bool r3]) ∧ Kd.R (Kd.int .i64) 3 w' w.heap.size (fun _ => True) v1_ r2 ∧ Below w.heap.size w w' := by
 have hu2 := Try.underlying49
 have hu3 := Try.underlying29
 have hu4 := Try.underlying46
 obtain ⟨c, hcc⟩ : ∃ c : S49, c = ⟨c0, c1, c2, c3, c4⟩ := ⟨_, rfl⟩
 have e0 : c0 = c.f0 := by rw [hcc]
 have e1 : c1 = c.f1 := by rw [hcc]
 have e2 : c2 = c.f2 := by rw [hcc]
 have e3 : c3 = c.f3 := by rw [hcc]
 have e4 : c4 = c.f4 := by rw [hcc]
 unfold impl_Table_attrFor.f at h
 rw [← hcc] at h
 rw [e0, e1, e2, e3, e4]
 clear hcc e0 e1 e2 e3 e4 hcl
 cases hn : impl_noneAttr.f n with
 | none => rw [hn] at h; cases h
 | some bt =>
 obtain ⟨b1, b2⟩ := bt
 rw [hn, Option.bind_some] at h
 dsimp only at h
 cases ha : impl_Table_each.allO (impl_Table_attrFor_1.stepA K rep no c) l 0 (b1, b2) with
 | none => rw [ha] at h; cases h
 | some sr =>
 have HE : Ad (wrap64 (sr.1 + 1) = r1 ∧ sr.2 = r2 ∧ decide (wrap64 (sr.1 + 1) ≤ 999) = r3) := ⟨by rw [ha, Option.bind_some] at h; simpa using h⟩
 have HR := Am hr
 have HN := Am hn
 have HA := Am ha
 clear h hn ha hr
 go_enter Try.func63, Try.ntmps63
 go_upto_region 1 with (fail)
 refine letC (fun W_ => Below w.heap.size w W_ ∧ W_.heap[w.heap.size]? = some (.cells #[.int .i64 n, .slice A l.length cl] 29 (0, 0)) ∧ W_.heap[w.heap.size + 1]? = some (.cells #[.int .i64 c.f0, .int .i64 c.f1, .int .i64 c.f2, .int .i64 c.f3, .int .i64 c.f4] 49 (0, 0)) ∧ W_.heap[w.heap.size + 2]? = some (.cells #[.int .i64 rep] 3 (0, 0)) ∧ W_.heap[w.heap.size + 3]? = some (.cells #[.int .i64 no] 3 (0, 0)) ∧ W_.heap[w.heap.size + 4]? = some (.cells #[.int .i64 0, .slice none 0 0] 46 (0, 0))) ⟨Ba (Ba (Ba (Ba (Ba (Below.refl _ _) _) _) _) _) _, ?_, ?_, ?_, ?_, ?_⟩ ?_
 ·simpa using Ka (Ka (Ka (Ka (blk_new w (.cells #[.int .i64 n, .slice A l.length cl] 29)) (.cells #[.int .i64 c.f0, .int .i64 c.f1, .int .i64 c.f2, .int .i64 c.f3, .int .i64 c.f4] 49)) (.cells #[.int .i64 rep] 3)) (.cells #[.int .i64 no] 3)) (.cells #[.int .i64 0, .slice none 0 0] 46)
 ·simpa using Ka (Ka (Ka (blk_new (w.alloc (.cells #[.int .i64 n, .slice A l.length cl] 29)) (.cells #[.int .i64 c.f0, .int .i64 c.f1, .int .i64 c.f2, .int .i64 c.f3, .int .i64 c.f4] 49)) (.cells #[.int .i64 rep] 3)) (.cells #[.int .i64 no] 3)) (.cells #[.int .i64 0, .slice none 0 0] 46)
 ·simpa using Ka (Ka (blk_new ((w.alloc (.cells #[.int .i64 n, .slice A l.length cl] 29)).alloc (.cells #[.int .i64 c.f0, .int .i64 c.f1, .int .i64 c.f2, .int .i64 c.f3, .int .i64 c.f4] 49)) (.cells #[.int .i64 rep] 3)) (.cells #[.int .i64 no] 3)) (.cells #[.int .i64 0, .slice none 0 0] 46)
 ·simpa using Ka (blk_new (((w.alloc (.cells #[.int .i64 n, .slice A l.length cl] 29)).alloc (.cells #[.int .i64 c.f0, .int .i64 c.f1, .int .i64 c.f2, .int .i64 c.f3, .int .i64 c.f4] 49)).alloc (.cells #[.int .i64 rep] 3)) (.cells #[.int .i64 no] 3)) (.cells #[.int .i64 0, .slice none 0 0] 46)
 ·simpa using blk_new ((((w.alloc (.cells #[.int .i64 n, .slice A l.length cl] 29)).alloc (.cells #[.int .i64 c.f0, .int .i64 c.f1, .int .i64 c.f2, .int .i64 c.f3, .int .i64 c.f4] 49)).alloc (.cells #[.int .i64 rep] 3)).alloc (.cells #[.int .i64 no] 3)) (.cells #[.int .i64 0, .slice none 0 0] 46)
 rintro W1 ⟨hb, ht, hc, hrp, hnp, h8⟩
 have HB1 := Am hb
 have HT1 := Am ht
 have HC1 := Am hc
 have HP1 := Am hrp
 have HQ1 := Am hnp
 have H81 := Am h8
 have q0 : W1.cell? ⟨w.heap.size, 0, none⟩ = some (.int .i64 n) := (Kc ht 0).trans rfl
 have HLB := Am (blk_lt hnp)
 clear hb ht hc hrp hnp h8
 go_wp2_with fail
 refine (impl_noneAttr.calls n b1 b2 W1 HN.out).mono ?_
 rintro e W2 ⟨v1, rfl, hR, hb⟩
 have HR2 := Am hR
 have HB2 := Am (below_then HB1.out HB1.out.size hb)
 have HT2 := Am (Kb HT1.out hb)
 have HC2 := Am (Kb HC1.out hb)
 have HP2 := Am (Kb HP1.out hb)
 have HQ2 := Am (Kb HQ1.out hb)
 have H82 := Am (Kb H81.out hb)
 have HLT := Am (blk_lt H82.out)
 have HBB := Am HB1.out.size
 clear hR hb q0 HT1 HC1 HP1 HQ1 H81 HB1
 obtain ⟨Av, cv, rfl⟩ := Kd.R_slice HR2.out
 generalize W1.heap.size = B at HR2 HBB HLB
 go_upto_region 2 with (fail)
 refine letC (fun W_ => Below W2.heap.size W2 W_ ∧ W_.heap[W2.heap.size]? = some (.cells #[.int .i64 b1, .slice Av b2.length cv] 46 (0, 0))) ⟨Ba (Below.refl _ _) _, blk_new W2 (.cells #[.int .i64 b1, .slice Av b2.length cv] 46)⟩ ?_
 rintro W3 ⟨hb, ho⟩
 have HREL : Ad (impl_Table_attrFor_1.Rel W2.heap.size (w.heap.size + 2) (w.heap.size + 3) (w.heap.size + 1) (w.heap.size + 4) B rep no c w (b1, b2) W3) := ⟨_, ho, Kd.R_below HR2.out hb, Kb HP2.out hb, Kb HQ2.out hb, Kb HC2.out hb, Kb H82.out hb, below_then HB2.out HB2.out.size hb, by have := HLB.out; omega, HLB.out, HBB.out, HB2.out.size, Nat.ne_of_lt HLT.out⟩
 have q0 : W3.cell? ⟨w.heap.size, 0, none⟩ = some (.int .i64 n) := (Kc (Kb HT2.out hb) 0).trans rfl
 have q1 : W3.cell? ⟨w.heap.size, 1, none⟩ = some (.slice A l.length cl) := (Kc (Kb HT2.out hb) 1).trans rfl
 have HG8 : Ad (w.heap.size ≤ w.heap.size + 4) := ⟨by omega⟩
 clear hb ho HR2 HB2 HT2 HC2 HP2 HQ2 H82 HLT HBB HLB
 generalize W2.heap.size = go at HREL
 go_wp2_with fail
 refine (impl_Table_each.gen 95 #[.pointer (some ⟨w.heap.size + 2, 0, none⟩), .pointer (some ⟨w.heap.size + 3, 0, none⟩), .pointer (some ⟨w.heap.size + 1, 0, none⟩), .pointer (some ⟨go, 0, none⟩)] (impl_Table_attrFor_1.Rel go (w.heap.size + 2) (w.heap.size + 3) (w.heap.size + 1) (w.heap.size + 4) B rep no c w) (impl_Table_attrFor_1.stepA K rep no c) n A cl l (b1, b2) sr w W3 (fun args w => enters_ Try.func95 (by kernel_rfl) rfl args w) HR.out (fun s W hR => by obtain ⟨_, _, _, _, _, _, _, hB, _⟩ := hR; exact hB) (fun s W W' hR hb => impl_Table_attrFor_1.mono hR hb) (fun s s' i j x A9 c9 W hR hs => impl_Table_attrFor_1.closed K go _ _ _ _ B rep no c w s s' i j x A9 c9 W hR hs) HREL.out HA.out).mono ?_
 rintro e W4 ⟨rfl, hrel⟩
 clear q0 q1 HREL HA
 obtain ⟨v, ho, hr, hgr, hgn, hgc, hg8, hB, hbase⟩ := hrel
 have hs0 : W4.cell? ⟨go, 0, none⟩ = some (.int .i64 sr.1) := (Kc ho 0).trans rfl
 have hsf : W4.frozen? ⟨go, 0, none⟩ = false := Kz ho 0
 have HNEW : Ad (∃ v, (W4.setCell ⟨go, 0, none⟩ (.int .i64 (wrap64 (sr.1 + 1)))).heap[go]? = some (.cells #[.int .i64 (wrap64 (sr.1 + 1)), v] 46 (0, 0)) ∧ Kd.R (Kd.int .i64) 3 (W4.setCell ⟨go, 0, none⟩ (.int .i64 (wrap64 (sr.1 + 1)))) B (fun _ => True) v sr.2 ∧ (W4.setCell ⟨go, 0, none⟩ (.int .i64 (wrap64 (sr.1 + 1)))).heap[w.heap.size + 4]? = some (.cells #[.int .i64 0, .slice none 0 0] 46 (0, 0)) ∧ Below w.heap.size w (W4.setCell ⟨go, 0, none⟩ (.int .i64 (wrap64 (sr.1 + 1))))) := ⟨_, blk_put ho 0 _ rfl, Kd.R_set hr ho (by decide) 0 _, Kf hg8 hbase.2.2.2.2 _, Bs hB hbase.2.2.2.1⟩
 have HBS : Ad (w.heap.size ≤ B ∧ w.heap.size + 4 ≠ go) := ⟨hbase.2.2.1, hbase.2.2.2.2⟩
 clear ho hr hgr hgn hgc hg8 hB hbase
 go_upto_region 4 with (fail)
 refine letC (fun W_ => ∃ v, W_.heap[go]? = some (.cells #[.int .i64 (wrap64 (sr.1 + 1)), v] 46 (0, 0)) ∧ Kd.R (Kd.int .i64) 3 W_ B (fun _ => True) v sr.2 ∧ W_.heap[w.heap.size + 4]? = some (.cells #[.int .i64 0, .slice none 0 0] 46 (0, 0)) ∧ Below w.heap.size w W_) HNEW.out ?_
 rintro W5 ⟨v, ho, hr, hg8, hB⟩
 clear HNEW hs0 hsf
 obtain ⟨Ae, ce, rfl⟩ := Kd.R_slice hr
 obtain ⟨g8, hg⟩ : ∃ g8, g8 = w.heap.size + 4 := ⟨_, rfl⟩
 rw [← hg] at hg8 HBS HG8 ⊢
 clear hg
 have qo0 : W5.cell? ⟨go, 0, none⟩ = some (.int .i64 (wrap64 (sr.1 + 1))) := (Kc ho 0).trans rfl
 have qo1 : W5.cell? ⟨go, 1, none⟩ = some (.slice Ae sr.2.length ce) := (Kc ho 1).trans rfl
 have HFIN : Ad (((W5.setCell ⟨g8, 0, none⟩ (.int .i64 (wrap64 (sr.1 + 1)))).setCell ⟨g8, 1, none⟩ (.slice Ae sr.2.length ce)).heap[g8]? = some (.cells #[.int .i64 (wrap64 (sr.1 + 1)), .slice Ae sr.2.length ce] 46 (0, 0))) := ⟨blk_put (cs := #[.int .i64 (wrap64 (sr.1 + 1)), .slice none 0 0]) (blk_put hg8 0 _ rfl) 1 _ rfl⟩
 have q80 : W5.cell? ⟨g8, 0, none⟩ = some (.int .i64 0) := (Kc hg8 0).trans rfl
 have q81 : W5.cell? ⟨g8, 1, none⟩ = some (.slice none 0 0) := (Kc hg8 1).trans rfl
 have f80 := Kz hg8 0
 have f81 := Kz hg8 1
 have hne : g8 ≠ go := HBS.out.2
 have hne' : go ≠ g8 := fun e => hne e.symm
 have HRR := Am (Kd.R_set (Kd.R_set hr hg8 (by decide) 0 (.int .i64 (wrap64 (sr.1 + 1)))) (blk_put hg8 0 _ rfl) (by decide) 1 (.slice Ae sr.2.length ce))
 have HBB := Am hB
 clear ho hr hg8 hB
 go_wp2
 go_region
 go_wp2
 (try simp only [Exit.inBlock, Exit.then])
 refine bodyPost_ret (results_ct rfl _ _ g8 46 #[.int .i64 (wrap64 (sr.1 + 1)), .slice Ae sr.2.length ce] (0, 0) _ rfl (Ke HFIN.out) Try.underlying46 rfl (by kernel_rfl)) rfl ?_
 obtain ⟨h1, h2, h3⟩ := HE.out
 rw [← h1, ← h2, ← h3]
 exact ⟨_, rfl, Rd (Kd.R_lower HRR.out HBS.out.1), below_drew (Bs (Bs HBB.out HG8.out) HG8.out)⟩
end Go.Proofs.Ytacpjifbgnlppaa.QFnExactAttrFor
