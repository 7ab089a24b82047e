-- Written by a program of this session (wip/mk.py) over the kit's print: Lean checks it.
import Derived.Test.YteecmbfebenjjaaQFnTellsSamex0
import Derived.Test.YteecmbfebenjjaaQFnTellsSamex1
import Derived.Test.YteecmbfebenjjaaQFnTellsSamex8
namespace Go.Proofs.Yteecmbfebenjjaa.QFnTellsSame
open Go.Proofs.YteecmbfebenjjaaW.PrintWords.Kd renaming R_alloc → Ra, R_drewN → Rn, R_drew → Rd
open Go.Proofs.YteecmbfebenjjaaW.PrintWords renaming below_alloc → Ba, pw_below_drewN → Bn, below_drew1 → Bd, below_set → Bs, below_size → Bz, below_step → Bt, gate_dst → Gd, gate_callee → Gc, box_event → Be, blk_alloc → Ka, blk_drewN → Kn, blk_drew → Ke, blk_below → Kb, blk_cell → Kc, blk_frozen → Kz
open Go.World renaming block_lt_of_cell? → bl_
open Go.Proofs.YteecmbfebenjjaaW.PrintWords.Aside0 renaming mk → Am
open Go.Proofs.YteecmbfebenjjaaW.PrintWords renaming Aside0 → Ad
open Go.RowKit Go.Proofs.YteecmbfebenjjaaW.PrintWords Go.Proofs.YteecmbfebenjjaaW.PrintLast Go.Proofs.YteecmbfebenjjaaW.PrintMore
attribute [local go_sem] max2_int min2_int max_two min_two max_three min_three max_four min_four   -- for this text's walks alone
set_option linter.unusedVariables false
set_option linter.unusedSimpArgs false
attribute [local go_sem high] eqA26
def spec_l2Code.f (a0_0 : Int) (a0_1 : Int) (a0_2 : Int) (a0_3 : Int) (a0_4 : Int) : Option (Int) := (spec_l2Account.f a0_2).bind fun t266 => (if t266 = true then (if a0_0 = 1 then ((spec_l2Account.f a0_3).bind fun t267 => (if t267 = true then (if a0_2 = a0_3 then (some 5) else ((spec_l1In.f a0_1 1 999).bind fun t268 => (if t268 = true then ((spec_l1In.f a0_4 1 1000).bind fun t269 => (if t269 = true then (some 0) else (some 6))) else (some 6)))) else (some 4))) else ((spec_l1In.f a0_1 1 999).bind fun t270 => (if t270 = true then (some 0) else (some 6)))) else (some 4))
set_option maxHeartbeats 8000000 in
set_option maxRecDepth 100000 in
theorem spec_l2Code.calls (a0_0 : Int) (a0_1 : Int) (a0_2 : Int) (a0_3 : Int) (a0_4 : Int) (r : Int) (w : World) (h : spec_l2Code.f a0_0 a0_1 a0_2 a0_3 a0_4 = some r) :
  Calls Try.prog 132 #[.agg #[.int .i64 a0_0, .int .i64 a0_1, .int .i64 a0_2, .int .i64 a0_3, .int .i64 a0_4]] w fun e w' => e = .returned (.int .i64 r) ∧ Below w.heap.size w w' := by
 have hu26 := Try.underlying26
 have HB := Am (Below.refl w.heap.size w)
 have H : ((spec_l2Account.f a0_2).bind fun t266 => (if t266 = true then (if a0_0 = 1 then ((spec_l2Account.f a0_3).bind fun t267 => (if t267 = true then (if a0_2 = a0_3 then (some 5) else ((spec_l1In.f a0_1 1 999).bind fun t268 => (if t268 = true then ((spec_l1In.f a0_4 1 1000).bind fun t269 => (if t269 = true then (some 0) else (some 6))) else (some 6)))) else (some 4))) else ((spec_l1In.f a0_1 1 999).bind fun t270 => (if t270 = true then (some 0) else (some 6)))) else (some 4))) = some r := h
 clear h
 replace H := Option.bind_eq_some_iff.mp H
 obtain ⟨t266, A20, H⟩ := H
 replace H : (if t266 = true then (if a0_0 = 1 then ((spec_l2Account.f a0_3).bind fun t267 => (if t267 = true then (if a0_2 = a0_3 then (some 5) else ((spec_l1In.f a0_1 1 999).bind fun t268 => (if t268 = true then ((spec_l1In.f a0_4 1 1000).bind fun t269 => (if t269 = true then (some 0) else (some 6))) else (some 6)))) else (some 4))) else ((spec_l1In.f a0_1 1 999).bind fun t270 => (if t270 = true then (some 0) else (some 6)))) else (some 4)) = some r := H
 have A2 := Am A20
 clear A20
 by_cases c3 : t266 = true
 ·subst c3
  have H1 : (if a0_0 = 1 then ((spec_l2Account.f a0_3).bind fun t267 => (if t267 = true then (if a0_2 = a0_3 then (some 5) else ((spec_l1In.f a0_1 1 999).bind fun t268 => (if t268 = true then ((spec_l1In.f a0_4 1 1000).bind fun t269 => (if t269 = true then (some 0) else (some 6))) else (some 6)))) else (some 4))) else ((spec_l1In.f a0_1 1 999).bind fun t270 => (if t270 = true then (some 0) else (some 6)))) = some r := by rw [if_pos rfl] at H; exact H
  clear H
  have H := H1
  clear H1
  by_cases c4 : a0_0 = 1
  ·rw [if_pos c4] at H
   have c4b0 : (a0_0 == 1) = true := beq_iff_eq.mpr c4
   have c4b1 : (a0_0 != 1) = false := bne_eq_false_iff_eq.mpr c4
   clear c4
   replace H := Option.bind_eq_some_iff.mp H
   obtain ⟨t267, A50, H⟩ := H
   replace H : (if t267 = true then (if a0_2 = a0_3 then (some 5) else ((spec_l1In.f a0_1 1 999).bind fun t268 => (if t268 = true then ((spec_l1In.f a0_4 1 1000).bind fun t269 => (if t269 = true then (some 0) else (some 6))) else (some 6)))) else (some 4)) = some r := H
   have A5 := Am A50
   clear A50
   by_cases c6 : t267 = true
   ·subst c6
    have H1 : (if a0_2 = a0_3 then (some 5) else ((spec_l1In.f a0_1 1 999).bind fun t268 => (if t268 = true then ((spec_l1In.f a0_4 1 1000).bind fun t269 => (if t269 = true then (some 0) else (some 6))) else (some 6)))) = some r := by rw [if_pos rfl] at H; exact H
    clear H
    have H := H1
    clear H1
    by_cases c7 : a0_2 = a0_3
    ·rw [if_pos c7] at H
     have c7b0 : (a0_2 == a0_3) = true := beq_iff_eq.mpr c7
     have c7b1 : (a0_2 != a0_3) = false := bne_eq_false_iff_eq.mpr c7
     clear c7
     obtain rfl := Option.some.inj H
     go_enter Try.func132, Try.ntmps132
     go_wp2_with (first | ((refine Gd (N := 1) rfl ?_); refine Be ?hg (N := 1) ?hd (cs := #[.int .i64 a0_0, .int .i64 a0_1, .int .i64 a0_2, .int .i64 a0_3, .int .i64 a0_4]) (t := 26) ?hr ?_; (case hd | hg => rfl); (case hr => first | (go_simp; done) | (go_simp; rfl)); intro gb265 hg w8 hbox hb; have n0_ := Am (Bt (by repeat (first | exact HB.out | apply Ba | apply Bn | apply Bd)) hb); have n1_ := Am (hbox); have n2_ := Am ((by rw [hg]; exact (Bz (by repeat (first | exact HB.out | apply Ba | apply Bn | apply Bd))) : w.heap.size ≤ gb265)); have n3_ := Am ((by rw [hg]; exact (Bz (by repeat (first | exact HB.out | apply Ba | apply Bn | apply Bd))) : w.heap.size ≤ gb265)); clear HB; have HB := n0_; have BK265 := n1_; have GW265 := n2_; have GE265 := n3_; clear n0_ n1_ n2_ n3_; clear hb hbox hg; have hcz9_0 : w8.cell? ⟨gb265, 0, none⟩ = some (.int .i64 a0_0) := (Kc BK265.out 0).trans rfl; have hcz9_1 : w8.cell? ⟨gb265, 1, none⟩ = some (.int .i64 a0_1) := (Kc BK265.out 1).trans rfl; have hcz9_2 : w8.cell? ⟨gb265, 2, none⟩ = some (.int .i64 a0_2) := (Kc BK265.out 2).trans rfl; have hcz9_3 : w8.cell? ⟨gb265, 3, none⟩ = some (.int .i64 a0_3) := (Kc BK265.out 3).trans rfl; have hcz9_4 : w8.cell? ⟨gb265, 4, none⟩ = some (.int .i64 a0_4) := (Kc BK265.out 4).trans rfl; have hfz9_0 := Kz BK265.out 0; have hfz9_1 := Kz BK265.out 1; have hfz9_2 := Kz BK265.out 2; have hfz9_3 := Kz BK265.out 3; have hfz9_4 := Kz BK265.out 4) | ((refine Gc (f := 174) rfl ?_); refine goesL_ (some 10) rfl rfl Try.func174 (by kernel_rfl) rfl #[.int .i64 a0_2] rfl (by first | rfl | (simp only [List.map_toArray, List.map_cons, List.map_nil]; first | done | rfl)) ?_; (with_reducible refine (spec_l2Account.calls a0_2 true _ A2.out).mono ?_); rintro e w' ⟨rfl, ⟨nd, rfl⟩⟩; refine ⟨_, rfl, ?_⟩) | (go_at_call 174; (with_reducible refine (spec_l2Account.calls a0_3 true _ A5.out).mono ?_); rintro e w' ⟨rfl, ⟨nd, rfl⟩⟩))
     go_ret
     exact ⟨by first | rfl | (simp [*, errW_none, errW_some] <;> rfl), by repeat (first | (with_reducible first | exact HB.out | apply Ba | apply Bn | apply Bd | refine Bs ?_ GE265.out) | exact HB.out)⟩
    ·rw [if_neg c7] at H
     have c7b0 : (a0_2 == a0_3) = false := beq_eq_false_iff_ne.mpr c7
     have c7b1 : (a0_2 != a0_3) = true := bne_iff_ne.mpr c7
     replace H := Option.bind_eq_some_iff.mp H
     obtain ⟨t268, A100, H⟩ := H
     replace H : (if t268 = true then ((spec_l1In.f a0_4 1 1000).bind fun t269 => (if t269 = true then (some 0) else (some 6))) else (some 6)) = some r := H
     have A10 := Am A100
     clear A100
     by_cases c11 : t268 = true
     ·subst c11
      have H1 : ((spec_l1In.f a0_4 1 1000).bind fun t269 => (if t269 = true then (some 0) else (some 6))) = some r := by rw [if_pos rfl] at H; exact H
      clear H
      have H := H1
      clear H1
      replace H := Option.bind_eq_some_iff.mp H
      obtain ⟨t269, A120, H⟩ := H
      replace H : (if t269 = true then (some 0) else (some 6)) = some r := H
      have A12 := Am A120
      clear A120
      by_cases c13 : t269 = true
      ·subst c13
       have H1 : (some 0) = some r := by rw [if_pos rfl] at H; exact H
       clear H
       have H := H1
       clear H1
       obtain rfl := Option.some.inj H
       go_enter Try.func132, Try.ntmps132
       go_wp2_with (first | ((refine Gd (N := 1) rfl ?_); refine Be ?hg (N := 1) ?hd (cs := #[.int .i64 a0_0, .int .i64 a0_1, .int .i64 a0_2, .int .i64 a0_3, .int .i64 a0_4]) (t := 26) ?hr ?_; (case hd | hg => rfl); (case hr => first | (go_simp; done) | (go_simp; rfl)); intro gb265 hg w14 hbox hb; have n0_ := Am (Bt (by repeat (first | exact HB.out | apply Ba | apply Bn | apply Bd)) hb); have n1_ := Am (hbox); have n2_ := Am ((by rw [hg]; exact (Bz (by repeat (first | exact HB.out | apply Ba | apply Bn | apply Bd))) : w.heap.size ≤ gb265)); have n3_ := Am ((by rw [hg]; exact (Bz (by repeat (first | exact HB.out | apply Ba | apply Bn | apply Bd))) : w.heap.size ≤ gb265)); clear HB; have HB := n0_; have BK265 := n1_; have GW265 := n2_; have GE265 := n3_; clear n0_ n1_ n2_ n3_; clear hb hbox hg; have hcz15_0 : w14.cell? ⟨gb265, 0, none⟩ = some (.int .i64 a0_0) := (Kc BK265.out 0).trans rfl; have hcz15_1 : w14.cell? ⟨gb265, 1, none⟩ = some (.int .i64 a0_1) := (Kc BK265.out 1).trans rfl; have hcz15_2 : w14.cell? ⟨gb265, 2, none⟩ = some (.int .i64 a0_2) := (Kc BK265.out 2).trans rfl; have hcz15_3 : w14.cell? ⟨gb265, 3, none⟩ = some (.int .i64 a0_3) := (Kc BK265.out 3).trans rfl; have hcz15_4 : w14.cell? ⟨gb265, 4, none⟩ = some (.int .i64 a0_4) := (Kc BK265.out 4).trans rfl; have hfz15_0 := Kz BK265.out 0; have hfz15_1 := Kz BK265.out 1; have hfz15_2 := Kz BK265.out 2; have hfz15_3 := Kz BK265.out 3; have hfz15_4 := Kz BK265.out 4) | ((refine Gc (f := 174) rfl ?_); refine goesL_ (some 10) rfl rfl Try.func174 (by kernel_rfl) rfl #[.int .i64 a0_2] rfl (by first | rfl | (simp only [List.map_toArray, List.map_cons, List.map_nil]; first | done | rfl)) ?_; (with_reducible refine (spec_l2Account.calls a0_2 true _ A2.out).mono ?_); rintro e w' ⟨rfl, ⟨nd, rfl⟩⟩; refine ⟨_, rfl, ?_⟩) | (go_at_call 174; (with_reducible refine (spec_l2Account.calls a0_3 true _ A5.out).mono ?_); rintro e w' ⟨rfl, ⟨nd, rfl⟩⟩) | ((refine Gc (f := 78) rfl ?_); refine goesL_ (some 33) rfl rfl Try.func78 (by kernel_rfl) rfl #[.int .i64 a0_1, .int .i64 1, .int .i64 999] rfl (by first | rfl | (simp only [List.map_toArray, List.map_cons, List.map_nil]; first | done | rfl)) ?_; (with_reducible refine (spec_l1In.calls a0_1 1 999 true _ A10.out).mono ?_); rintro e w' ⟨rfl, ⟨nd, rfl⟩⟩; refine ⟨_, rfl, ?_⟩) | (go_at_call 78; (with_reducible refine (spec_l1In.calls a0_4 1 1000 true _ A12.out).mono ?_); rintro e w' ⟨rfl, ⟨nd, rfl⟩⟩))
       go_ret
       exact ⟨by first | rfl | (simp [*, errW_none, errW_some] <;> rfl), by repeat (first | (with_reducible first | exact HB.out | apply Ba | apply Bn | apply Bd | refine Bs ?_ GE265.out) | exact HB.out)⟩
      ·replace c13 := Bool.eq_false_iff.mpr c13
       subst c13
       have H1 : (some 6) = some r := by rw [if_neg (show ¬ (false = true) by decide)] at H; exact H
       clear H
       have H := H1
       clear H1
       obtain rfl := Option.some.inj H
       go_enter Try.func132, Try.ntmps132
       go_wp2_with (first | ((refine Gd (N := 1) rfl ?_); refine Be ?hg (N := 1) ?hd (cs := #[.int .i64 a0_0, .int .i64 a0_1, .int .i64 a0_2, .int .i64 a0_3, .int .i64 a0_4]) (t := 26) ?hr ?_; (case hd | hg => rfl); (case hr => first | (go_simp; done) | (go_simp; rfl)); intro gb265 hg w16 hbox hb; have n0_ := Am (Bt (by repeat (first | exact HB.out | apply Ba | apply Bn | apply Bd)) hb); have n1_ := Am (hbox); have n2_ := Am ((by rw [hg]; exact (Bz (by repeat (first | exact HB.out | apply Ba | apply Bn | apply Bd))) : w.heap.size ≤ gb265)); have n3_ := Am ((by rw [hg]; exact (Bz (by repeat (first | exact HB.out | apply Ba | apply Bn | apply Bd))) : w.heap.size ≤ gb265)); clear HB; have HB := n0_; have BK265 := n1_; have GW265 := n2_; have GE265 := n3_; clear n0_ n1_ n2_ n3_; clear hb hbox hg; have hcz17_0 : w16.cell? ⟨gb265, 0, none⟩ = some (.int .i64 a0_0) := (Kc BK265.out 0).trans rfl; have hcz17_1 : w16.cell? ⟨gb265, 1, none⟩ = some (.int .i64 a0_1) := (Kc BK265.out 1).trans rfl; have hcz17_2 : w16.cell? ⟨gb265, 2, none⟩ = some (.int .i64 a0_2) := (Kc BK265.out 2).trans rfl; have hcz17_3 : w16.cell? ⟨gb265, 3, none⟩ = some (.int .i64 a0_3) := (Kc BK265.out 3).trans rfl; have hcz17_4 : w16.cell? ⟨gb265, 4, none⟩ = some (.int .i64 a0_4) := (Kc BK265.out 4).trans rfl; have hfz17_0 := Kz BK265.out 0; have hfz17_1 := Kz BK265.out 1; have hfz17_2 := Kz BK265.out 2; have hfz17_3 := Kz BK265.out 3; have hfz17_4 := Kz BK265.out 4) | ((refine Gc (f := 174) rfl ?_); refine goesL_ (some 10) rfl rfl Try.func174 (by kernel_rfl) rfl #[.int .i64 a0_2] rfl (by first | rfl | (simp only [List.map_toArray, List.map_cons, List.map_nil]; first | done | rfl)) ?_; (with_reducible refine (spec_l2Account.calls a0_2 true _ A2.out).mono ?_); rintro e w' ⟨rfl, ⟨nd, rfl⟩⟩; refine ⟨_, rfl, ?_⟩) | (go_at_call 174; (with_reducible refine (spec_l2Account.calls a0_3 true _ A5.out).mono ?_); rintro e w' ⟨rfl, ⟨nd, rfl⟩⟩) | ((refine Gc (f := 78) rfl ?_); refine goesL_ (some 33) rfl rfl Try.func78 (by kernel_rfl) rfl #[.int .i64 a0_1, .int .i64 1, .int .i64 999] rfl (by first | rfl | (simp only [List.map_toArray, List.map_cons, List.map_nil]; first | done | rfl)) ?_; (with_reducible refine (spec_l1In.calls a0_1 1 999 true _ A10.out).mono ?_); rintro e w' ⟨rfl, ⟨nd, rfl⟩⟩; refine ⟨_, rfl, ?_⟩) | (go_at_call 78; (with_reducible refine (spec_l1In.calls a0_4 1 1000 false _ A12.out).mono ?_); rintro e w' ⟨rfl, ⟨nd, rfl⟩⟩))
       go_ret
       exact ⟨by first | rfl | (simp [*, errW_none, errW_some] <;> rfl), by repeat (first | (with_reducible first | exact HB.out | apply Ba | apply Bn | apply Bd | refine Bs ?_ GE265.out) | exact HB.out)⟩
     ·replace c11 := Bool.eq_false_iff.mpr c11
      subst c11
      have H1 : (some 6) = some r := by rw [if_neg (show ¬ (false = true) by decide)] at H; exact H
      clear H
      have H := H1
      clear H1
      obtain rfl := Option.some.inj H
      go_enter Try.func132, Try.ntmps132
      go_wp2_with (first | ((refine Gd (N := 1) rfl ?_); refine Be ?hg (N := 1) ?hd (cs := #[.int .i64 a0_0, .int .i64 a0_1, .int .i64 a0_2, .int .i64 a0_3, .int .i64 a0_4]) (t := 26) ?hr ?_; (case hd | hg => rfl); (case hr => first | (go_simp; done) | (go_simp; rfl)); intro gb265 hg w18 hbox hb; have n0_ := Am (Bt (by repeat (first | exact HB.out | apply Ba | apply Bn | apply Bd)) hb); have n1_ := Am (hbox); have n2_ := Am ((by rw [hg]; exact (Bz (by repeat (first | exact HB.out | apply Ba | apply Bn | apply Bd))) : w.heap.size ≤ gb265)); have n3_ := Am ((by rw [hg]; exact (Bz (by repeat (first | exact HB.out | apply Ba | apply Bn | apply Bd))) : w.heap.size ≤ gb265)); clear HB; have HB := n0_; have BK265 := n1_; have GW265 := n2_; have GE265 := n3_; clear n0_ n1_ n2_ n3_; clear hb hbox hg; have hcz19_0 : w18.cell? ⟨gb265, 0, none⟩ = some (.int .i64 a0_0) := (Kc BK265.out 0).trans rfl; have hcz19_1 : w18.cell? ⟨gb265, 1, none⟩ = some (.int .i64 a0_1) := (Kc BK265.out 1).trans rfl; have hcz19_2 : w18.cell? ⟨gb265, 2, none⟩ = some (.int .i64 a0_2) := (Kc BK265.out 2).trans rfl; have hcz19_3 : w18.cell? ⟨gb265, 3, none⟩ = some (.int .i64 a0_3) := (Kc BK265.out 3).trans rfl; have hcz19_4 : w18.cell? ⟨gb265, 4, none⟩ = some (.int .i64 a0_4) := (Kc BK265.out 4).trans rfl; have hfz19_0 := Kz BK265.out 0; have hfz19_1 := Kz BK265.out 1; have hfz19_2 := Kz BK265.out 2; have hfz19_3 := Kz BK265.out 3; have hfz19_4 := Kz BK265.out 4) | ((refine Gc (f := 174) rfl ?_); refine goesL_ (some 10) rfl rfl Try.func174 (by kernel_rfl) rfl #[.int .i64 a0_2] rfl (by first | rfl | (simp only [List.map_toArray, List.map_cons, List.map_nil]; first | done | rfl)) ?_; (with_reducible refine (spec_l2Account.calls a0_2 true _ A2.out).mono ?_); rintro e w' ⟨rfl, ⟨nd, rfl⟩⟩; refine ⟨_, rfl, ?_⟩) | (go_at_call 174; (with_reducible refine (spec_l2Account.calls a0_3 true _ A5.out).mono ?_); rintro e w' ⟨rfl, ⟨nd, rfl⟩⟩) | ((refine Gc (f := 78) rfl ?_); refine goesL_ (some 33) rfl rfl Try.func78 (by kernel_rfl) rfl #[.int .i64 a0_1, .int .i64 1, .int .i64 999] rfl (by first | rfl | (simp only [List.map_toArray, List.map_cons, List.map_nil]; first | done | rfl)) ?_; (with_reducible refine (spec_l1In.calls a0_1 1 999 false _ A10.out).mono ?_); rintro e w' ⟨rfl, ⟨nd, rfl⟩⟩; refine ⟨_, rfl, ?_⟩))
      go_ret
      exact ⟨by first | rfl | (simp [*, errW_none, errW_some] <;> rfl), by repeat (first | (with_reducible first | exact HB.out | apply Ba | apply Bn | apply Bd | refine Bs ?_ GE265.out) | exact HB.out)⟩
   ·replace c6 := Bool.eq_false_iff.mpr c6
    subst c6
    have H1 : (some 4) = some r := by rw [if_neg (show ¬ (false = true) by decide)] at H; exact H
    clear H
    have H := H1
    clear H1
    obtain rfl := Option.some.inj H
    go_enter Try.func132, Try.ntmps132
    go_wp2_with (first | ((refine Gd (N := 1) rfl ?_); refine Be ?hg (N := 1) ?hd (cs := #[.int .i64 a0_0, .int .i64 a0_1, .int .i64 a0_2, .int .i64 a0_3, .int .i64 a0_4]) (t := 26) ?hr ?_; (case hd | hg => rfl); (case hr => first | (go_simp; done) | (go_simp; rfl)); intro gb265 hg w20 hbox hb; have n0_ := Am (Bt (by repeat (first | exact HB.out | apply Ba | apply Bn | apply Bd)) hb); have n1_ := Am (hbox); have n2_ := Am ((by rw [hg]; exact (Bz (by repeat (first | exact HB.out | apply Ba | apply Bn | apply Bd))) : w.heap.size ≤ gb265)); have n3_ := Am ((by rw [hg]; exact (Bz (by repeat (first | exact HB.out | apply Ba | apply Bn | apply Bd))) : w.heap.size ≤ gb265)); clear HB; have HB := n0_; have BK265 := n1_; have GW265 := n2_; have GE265 := n3_; clear n0_ n1_ n2_ n3_; clear hb hbox hg; have hcz21_0 : w20.cell? ⟨gb265, 0, none⟩ = some (.int .i64 a0_0) := (Kc BK265.out 0).trans rfl; have hcz21_1 : w20.cell? ⟨gb265, 1, none⟩ = some (.int .i64 a0_1) := (Kc BK265.out 1).trans rfl; have hcz21_2 : w20.cell? ⟨gb265, 2, none⟩ = some (.int .i64 a0_2) := (Kc BK265.out 2).trans rfl; have hcz21_3 : w20.cell? ⟨gb265, 3, none⟩ = some (.int .i64 a0_3) := (Kc BK265.out 3).trans rfl; have hcz21_4 : w20.cell? ⟨gb265, 4, none⟩ = some (.int .i64 a0_4) := (Kc BK265.out 4).trans rfl; have hfz21_0 := Kz BK265.out 0; have hfz21_1 := Kz BK265.out 1; have hfz21_2 := Kz BK265.out 2; have hfz21_3 := Kz BK265.out 3; have hfz21_4 := Kz BK265.out 4) | ((refine Gc (f := 174) rfl ?_); refine goesL_ (some 10) rfl rfl Try.func174 (by kernel_rfl) rfl #[.int .i64 a0_2] rfl (by first | rfl | (simp only [List.map_toArray, List.map_cons, List.map_nil]; first | done | rfl)) ?_; (with_reducible refine (spec_l2Account.calls a0_2 true _ A2.out).mono ?_); rintro e w' ⟨rfl, ⟨nd, rfl⟩⟩; refine ⟨_, rfl, ?_⟩) | (go_at_call 174; (with_reducible refine (spec_l2Account.calls a0_3 false _ A5.out).mono ?_); rintro e w' ⟨rfl, ⟨nd, rfl⟩⟩))
    go_ret
    exact ⟨by first | rfl | (simp [*, errW_none, errW_some] <;> rfl), by repeat (first | (with_reducible first | exact HB.out | apply Ba | apply Bn | apply Bd | refine Bs ?_ GE265.out) | exact HB.out)⟩
  ·rw [if_neg c4] at H
   have c4b0 : (a0_0 == 1) = false := beq_eq_false_iff_ne.mpr c4
   have c4b1 : (a0_0 != 1) = true := bne_iff_ne.mpr c4
   replace H := Option.bind_eq_some_iff.mp H
   obtain ⟨t270, A220, H⟩ := H
   replace H : (if t270 = true then (some 0) else (some 6)) = some r := H
   have A22 := Am A220
   clear A220
   by_cases c23 : t270 = true
   ·subst c23
    have H1 : (some 0) = some r := by rw [if_pos rfl] at H; exact H
    clear H
    have H := H1
    clear H1
    obtain rfl := Option.some.inj H
    go_enter Try.func132, Try.ntmps132
    go_wp2_with (first | ((refine Gd (N := 1) rfl ?_); refine Be ?hg (N := 1) ?hd (cs := #[.int .i64 a0_0, .int .i64 a0_1, .int .i64 a0_2, .int .i64 a0_3, .int .i64 a0_4]) (t := 26) ?hr ?_; (case hd | hg => rfl); (case hr => first | (go_simp; done) | (go_simp; rfl)); intro gb265 hg w24 hbox hb; have n0_ := Am (Bt (by repeat (first | exact HB.out | apply Ba | apply Bn | apply Bd)) hb); have n1_ := Am (hbox); have n2_ := Am ((by rw [hg]; exact (Bz (by repeat (first | exact HB.out | apply Ba | apply Bn | apply Bd))) : w.heap.size ≤ gb265)); have n3_ := Am ((by rw [hg]; exact (Bz (by repeat (first | exact HB.out | apply Ba | apply Bn | apply Bd))) : w.heap.size ≤ gb265)); clear HB; have HB := n0_; have BK265 := n1_; have GW265 := n2_; have GE265 := n3_; clear n0_ n1_ n2_ n3_; clear hb hbox hg; have hcz25_0 : w24.cell? ⟨gb265, 0, none⟩ = some (.int .i64 a0_0) := (Kc BK265.out 0).trans rfl; have hcz25_1 : w24.cell? ⟨gb265, 1, none⟩ = some (.int .i64 a0_1) := (Kc BK265.out 1).trans rfl; have hcz25_2 : w24.cell? ⟨gb265, 2, none⟩ = some (.int .i64 a0_2) := (Kc BK265.out 2).trans rfl; have hcz25_3 : w24.cell? ⟨gb265, 3, none⟩ = some (.int .i64 a0_3) := (Kc BK265.out 3).trans rfl; have hcz25_4 : w24.cell? ⟨gb265, 4, none⟩ = some (.int .i64 a0_4) := (Kc BK265.out 4).trans rfl; have hfz25_0 := Kz BK265.out 0; have hfz25_1 := Kz BK265.out 1; have hfz25_2 := Kz BK265.out 2; have hfz25_3 := Kz BK265.out 3; have hfz25_4 := Kz BK265.out 4) | ((refine Gc (f := 174) rfl ?_); refine goesL_ (some 10) rfl rfl Try.func174 (by kernel_rfl) rfl #[.int .i64 a0_2] rfl (by first | rfl | (simp only [List.map_toArray, List.map_cons, List.map_nil]; first | done | rfl)) ?_; (with_reducible refine (spec_l2Account.calls a0_2 true _ A2.out).mono ?_); rintro e w' ⟨rfl, ⟨nd, rfl⟩⟩; refine ⟨_, rfl, ?_⟩) | ((refine Gc (f := 78) rfl ?_); refine goesL_ (some 33) rfl rfl Try.func78 (by kernel_rfl) rfl #[.int .i64 a0_1, .int .i64 1, .int .i64 999] rfl (by first | rfl | (simp only [List.map_toArray, List.map_cons, List.map_nil]; first | done | rfl)) ?_; (with_reducible refine (spec_l1In.calls a0_1 1 999 true _ A22.out).mono ?_); rintro e w' ⟨rfl, ⟨nd, rfl⟩⟩; refine ⟨_, rfl, ?_⟩))
    go_ret
    exact ⟨by first | rfl | (simp [*, errW_none, errW_some] <;> rfl), by repeat (first | (with_reducible first | exact HB.out | apply Ba | apply Bn | apply Bd | refine Bs ?_ GE265.out) | exact HB.out)⟩
   ·replace c23 := Bool.eq_false_iff.mpr c23
    subst c23
    have H1 : (some 6) = some r := by rw [if_neg (show ¬ (false = true) by decide)] at H; exact H
    clear H
    have H := H1
    clear H1
    obtain rfl := Option.some.inj H
    go_enter Try.func132, Try.ntmps132
    go_wp2_with (first | ((refine Gd (N := 1) rfl ?_); refine Be ?hg (N := 1) ?hd (cs := #[.int .i64 a0_0, .int .i64 a0_1, .int .i64 a0_2, .int .i64 a0_3, .int .i64 a0_4]) (t := 26) ?hr ?_; (case hd | hg => rfl); (case hr => first | (go_simp; done) | (go_simp; rfl)); intro gb265 hg w26 hbox hb; have n0_ := Am (Bt (by repeat (first | exact HB.out | apply Ba | apply Bn | apply Bd)) hb); have n1_ := Am (hbox); have n2_ := Am ((by rw [hg]; exact (Bz (by repeat (first | exact HB.out | apply Ba | apply Bn | apply Bd))) : w.heap.size ≤ gb265)); have n3_ := Am ((by rw [hg]; exact (Bz (by repeat (first | exact HB.out | apply Ba | apply Bn | apply Bd))) : w.heap.size ≤ gb265)); clear HB; have HB := n0_; have BK265 := n1_; have GW265 := n2_; have GE265 := n3_; clear n0_ n1_ n2_ n3_; clear hb hbox hg; have hcz27_0 : w26.cell? ⟨gb265, 0, none⟩ = some (.int .i64 a0_0) := (Kc BK265.out 0).trans rfl; have hcz27_1 : w26.cell? ⟨gb265, 1, none⟩ = some (.int .i64 a0_1) := (Kc BK265.out 1).trans rfl; have hcz27_2 : w26.cell? ⟨gb265, 2, none⟩ = some (.int .i64 a0_2) := (Kc BK265.out 2).trans rfl; have hcz27_3 : w26.cell? ⟨gb265, 3, none⟩ = some (.int .i64 a0_3) := (Kc BK265.out 3).trans rfl; have hcz27_4 : w26.cell? ⟨gb265, 4, none⟩ = some (.int .i64 a0_4) := (Kc BK265.out 4).trans rfl; have hfz27_0 := Kz BK265.out 0; have hfz27_1 := Kz BK265.out 1; have hfz27_2 := Kz BK265.out 2; have hfz27_3 := Kz BK265.out 3; have hfz27_4 := Kz BK265.out 4) | ((refine Gc (f := 174) rfl ?_); refine goesL_ (some 10) rfl rfl Try.func174 (by kernel_rfl) rfl #[.int .i64 a0_2] rfl (by first | rfl | (simp only [List.map_toArray, List.map_cons, List.map_nil]; first | done | rfl)) ?_; (with_reducible refine (spec_l2Account.calls a0_2 true _ A2.out).mono ?_); rintro e w' ⟨rfl, ⟨nd, rfl⟩⟩; refine ⟨_, rfl, ?_⟩) | ((refine Gc (f := 78) rfl ?_); refine goesL_ (some 33) rfl rfl Try.func78 (by kernel_rfl) rfl #[.int .i64 a0_1, .int .i64 1, .int .i64 999] rfl (by first | rfl | (simp only [List.map_toArray, List.map_cons, List.map_nil]; first | done | rfl)) ?_; (with_reducible refine (spec_l1In.calls a0_1 1 999 false _ A22.out).mono ?_); rintro e w' ⟨rfl, ⟨nd, rfl⟩⟩; refine ⟨_, rfl, ?_⟩))
    go_ret
    exact ⟨by first | rfl | (simp [*, errW_none, errW_some] <;> rfl), by repeat (first | (with_reducible first | exact HB.out | apply Ba | apply Bn | apply Bd | refine Bs ?_ GE265.out) | exact HB.out)⟩
 ·replace c3 := Bool.eq_false_iff.mpr c3
  subst c3
  have H1 : (some 4) = some r := by rw [if_neg (show ¬ (false = true) by decide)] at H; exact H
  clear H
  have H := H1
  clear H1
  obtain rfl := Option.some.inj H
  go_enter Try.func132, Try.ntmps132
  go_wp2_with (first | ((refine Gd (N := 1) rfl ?_); refine Be ?hg (N := 1) ?hd (cs := #[.int .i64 a0_0, .int .i64 a0_1, .int .i64 a0_2, .int .i64 a0_3, .int .i64 a0_4]) (t := 26) ?hr ?_; (case hd | hg => rfl); (case hr => first | (go_simp; done) | (go_simp; rfl)); intro gb265 hg w28 hbox hb; have n0_ := Am (Bt (by repeat (first | exact HB.out | apply Ba | apply Bn | apply Bd)) hb); have n1_ := Am (hbox); have n2_ := Am ((by rw [hg]; exact (Bz (by repeat (first | exact HB.out | apply Ba | apply Bn | apply Bd))) : w.heap.size ≤ gb265)); have n3_ := Am ((by rw [hg]; exact (Bz (by repeat (first | exact HB.out | apply Ba | apply Bn | apply Bd))) : w.heap.size ≤ gb265)); clear HB; have HB := n0_; have BK265 := n1_; have GW265 := n2_; have GE265 := n3_; clear n0_ n1_ n2_ n3_; clear hb hbox hg; have hcz29_0 : w28.cell? ⟨gb265, 0, none⟩ = some (.int .i64 a0_0) := (Kc BK265.out 0).trans rfl; have hcz29_1 : w28.cell? ⟨gb265, 1, none⟩ = some (.int .i64 a0_1) := (Kc BK265.out 1).trans rfl; have hcz29_2 : w28.cell? ⟨gb265, 2, none⟩ = some (.int .i64 a0_2) := (Kc BK265.out 2).trans rfl; have hcz29_3 : w28.cell? ⟨gb265, 3, none⟩ = some (.int .i64 a0_3) := (Kc BK265.out 3).trans rfl; have hcz29_4 : w28.cell? ⟨gb265, 4, none⟩ = some (.int .i64 a0_4) := (Kc BK265.out 4).trans rfl; have hfz29_0 := Kz BK265.out 0; have hfz29_1 := Kz BK265.out 1; have hfz29_2 := Kz BK265.out 2; have hfz29_3 := Kz BK265.out 3; have hfz29_4 := Kz BK265.out 4) | ((refine Gc (f := 174) rfl ?_); refine goesL_ (some 10) rfl rfl Try.func174 (by kernel_rfl) rfl #[.int .i64 a0_2] rfl (by first | rfl | (simp only [List.map_toArray, List.map_cons, List.map_nil]; first | done | rfl)) ?_; (with_reducible refine (spec_l2Account.calls a0_2 false _ A2.out).mono ?_); rintro e w' ⟨rfl, ⟨nd, rfl⟩⟩; refine ⟨_, rfl, ?_⟩))
  go_ret
  exact ⟨by first | rfl | (simp [*, errW_none, errW_some] <;> rfl), by repeat (first | (with_reducible first | exact HB.out | apply Ba | apply Bn | apply Bd | refine Bs ?_ GE265.out) | exact HB.out)⟩
def spec_GoodCmd.f (a0_0 : Int) (a0_1 : Int) (a0_2 : Int) (a0_3 : Int) (a0_4 : Int) : Option (Bool) := if a0_0 = 0 then (some (a0_0 == 0 && (a0_1 == 0 && (a0_2 == 0 && (a0_3 == 0 && (a0_4 == 0)))))) else (if a0_0 = 1 then ((spec_l2Code.f a0_0 a0_1 a0_2 a0_3 a0_4).bind fun t272 => (some (t272 == 0))) else (if a0_0 = 2 then ((spec_l2Code.f a0_0 a0_1 a0_2 a0_3 a0_4).bind fun t273 => (if t273 = 0 then (if a0_3 = 0 then (some (a0_4 == 0)) else (some false)) else (some false))) else (some false)))
set_option maxHeartbeats 8000000 in
set_option maxRecDepth 100000 in
theorem spec_GoodCmd.calls (a0_0 : Int) (a0_1 : Int) (a0_2 : Int) (a0_3 : Int) (a0_4 : Int) (r : Bool) (w : World) (h : spec_GoodCmd.f a0_0 a0_1 a0_2 a0_3 a0_4 = some r) :
  Calls Try.prog 72 #[.agg #[.int .i64 a0_0, .int .i64 a0_1, .int .i64 a0_2, .int .i64 a0_3, .int .i64 a0_4]] w fun e w' => e = .returned (.bool r) ∧ Below w.heap.size w w' := by
 have hu26 := Try.underlying26
 have HB := Am (Below.refl w.heap.size w)
 have H : (if a0_0 = 0 then (some (a0_0 == 0 && (a0_1 == 0 && (a0_2 == 0 && (a0_3 == 0 && (a0_4 == 0)))))) else (if a0_0 = 1 then ((spec_l2Code.f a0_0 a0_1 a0_2 a0_3 a0_4).bind fun t272 => (some (t272 == 0))) else (if a0_0 = 2 then ((spec_l2Code.f a0_0 a0_1 a0_2 a0_3 a0_4).bind fun t273 => (if t273 = 0 then (if a0_3 = 0 then (some (a0_4 == 0)) else (some false)) else (some false))) else (some false)))) = some r := h
 clear h
 by_cases c2 : a0_0 = 0
 ·rw [if_pos c2] at H
  have c2b0 : (a0_0 == 0) = true := beq_iff_eq.mpr c2
  have c2b1 : (a0_0 != 0) = false := bne_eq_false_iff_eq.mpr c2
  clear c2
  obtain rfl := Option.some.inj H
  go_enter Try.func72, Try.ntmps72
  go_wp2_with (first | ((refine Gd (N := 1) rfl ?_); refine Be ?hg (N := 1) ?hd (cs := #[.int .i64 a0_0, .int .i64 a0_1, .int .i64 a0_2, .int .i64 a0_3, .int .i64 a0_4]) (t := 26) ?hr ?_; (case hd | hg => rfl); (case hr => first | (go_simp; done) | (go_simp; rfl)); intro gb271 hg w3 hbox hb; have n0_ := Am (Bt (by repeat (first | exact HB.out | apply Ba | apply Bn | apply Bd)) hb); have n1_ := Am (hbox); have n2_ := Am ((by rw [hg]; exact (Bz (by repeat (first | exact HB.out | apply Ba | apply Bn | apply Bd))) : w.heap.size ≤ gb271)); have n3_ := Am ((by rw [hg]; exact (Bz (by repeat (first | exact HB.out | apply Ba | apply Bn | apply Bd))) : w.heap.size ≤ gb271)); clear HB; have HB := n0_; have BK271 := n1_; have GW271 := n2_; have GE271 := n3_; clear n0_ n1_ n2_ n3_; clear hb hbox hg; have hcz4_0 : w3.cell? ⟨gb271, 0, none⟩ = some (.int .i64 a0_0) := (Kc BK271.out 0).trans rfl; have hcz4_1 : w3.cell? ⟨gb271, 1, none⟩ = some (.int .i64 a0_1) := (Kc BK271.out 1).trans rfl; have hcz4_2 : w3.cell? ⟨gb271, 2, none⟩ = some (.int .i64 a0_2) := (Kc BK271.out 2).trans rfl; have hcz4_3 : w3.cell? ⟨gb271, 3, none⟩ = some (.int .i64 a0_3) := (Kc BK271.out 3).trans rfl; have hcz4_4 : w3.cell? ⟨gb271, 4, none⟩ = some (.int .i64 a0_4) := (Kc BK271.out 4).trans rfl; have hfz4_0 := Kz BK271.out 0; have hfz4_1 := Kz BK271.out 1; have hfz4_2 := Kz BK271.out 2; have hfz4_3 := Kz BK271.out 3; have hfz4_4 := Kz BK271.out 4))
  go_ret
  exact ⟨by first | rfl | (simp [*, errW_none, errW_some] <;> rfl), by repeat (first | (with_reducible first | exact HB.out | apply Ba | apply Bn | apply Bd | refine Bs ?_ GE271.out) | exact HB.out)⟩
 ·rw [if_neg c2] at H
  have c2b0 : (a0_0 == 0) = false := beq_eq_false_iff_ne.mpr c2
  have c2b1 : (a0_0 != 0) = true := bne_iff_ne.mpr c2
  by_cases c5 : a0_0 = 1
  ·rw [if_pos c5] at H
   have c5b0 : (a0_0 == 1) = true := beq_iff_eq.mpr c5
   have c5b1 : (a0_0 != 1) = false := bne_eq_false_iff_eq.mpr c5
   clear c5
   replace H := Option.bind_eq_some_iff.mp H
   obtain ⟨t272, A60, H⟩ := H
   replace H : (some (t272 == 0)) = some r := H
   have A6 := Am A60
   clear A60
   obtain rfl := Option.some.inj H
   go_enter Try.func72, Try.ntmps72
   go_wp2_with (first | ((refine Gd (N := 1) rfl ?_); refine Be ?hg (N := 1) ?hd (cs := #[.int .i64 a0_0, .int .i64 a0_1, .int .i64 a0_2, .int .i64 a0_3, .int .i64 a0_4]) (t := 26) ?hr ?_; (case hd | hg => rfl); (case hr => first | (go_simp; done) | (go_simp; rfl)); intro gb271 hg w7 hbox hb; have n0_ := Am (Bt (by repeat (first | exact HB.out | apply Ba | apply Bn | apply Bd)) hb); have n1_ := Am (hbox); have n2_ := Am ((by rw [hg]; exact (Bz (by repeat (first | exact HB.out | apply Ba | apply Bn | apply Bd))) : w.heap.size ≤ gb271)); have n3_ := Am ((by rw [hg]; exact (Bz (by repeat (first | exact HB.out | apply Ba | apply Bn | apply Bd))) : w.heap.size ≤ gb271)); clear HB; have HB := n0_; have BK271 := n1_; have GW271 := n2_; have GE271 := n3_; clear n0_ n1_ n2_ n3_; clear hb hbox hg; have hcz8_0 : w7.cell? ⟨gb271, 0, none⟩ = some (.int .i64 a0_0) := (Kc BK271.out 0).trans rfl; have hcz8_1 : w7.cell? ⟨gb271, 1, none⟩ = some (.int .i64 a0_1) := (Kc BK271.out 1).trans rfl; have hcz8_2 : w7.cell? ⟨gb271, 2, none⟩ = some (.int .i64 a0_2) := (Kc BK271.out 2).trans rfl; have hcz8_3 : w7.cell? ⟨gb271, 3, none⟩ = some (.int .i64 a0_3) := (Kc BK271.out 3).trans rfl; have hcz8_4 : w7.cell? ⟨gb271, 4, none⟩ = some (.int .i64 a0_4) := (Kc BK271.out 4).trans rfl; have hfz8_0 := Kz BK271.out 0; have hfz8_1 := Kz BK271.out 1; have hfz8_2 := Kz BK271.out 2; have hfz8_3 := Kz BK271.out 3; have hfz8_4 := Kz BK271.out 4) | ((refine Gc (f := 132) rfl ?_); refine goesL_ (some 13) rfl rfl Try.func132 (by kernel_rfl) rfl #[.agg #[.int .i64 a0_0, .int .i64 a0_1, .int .i64 a0_2, .int .i64 a0_3, .int .i64 a0_4]] rfl (by first | rfl | (simp only [List.map_toArray, List.map_cons, List.map_nil]; first | done | rfl)) ?_; (with_reducible refine (spec_l2Code.calls a0_0 a0_1 a0_2 a0_3 a0_4 t272 _ A6.out).mono ?_); rintro e w9 ⟨rfl, hb⟩; refine ⟨_, rfl, ?_⟩; have n0_ := Am (Kb (g := gb271) (o := .cells #[.int .i64 a0_0, .int .i64 a0_1, .int .i64 a0_2, .int .i64 a0_3, .int .i64 a0_4] 26 (0, 0)) (by (with_reducible repeat (first | refine Kn ?_ _ | refine Ke ?_ | refine Ka ?_ _)); exact BK271.out) hb); have n1_ := Am (Bt (by repeat (first | (with_reducible first | exact HB.out | apply Ba | apply Bn | apply Bd | refine Bs ?_ GE271.out) | exact HB.out)) hb); clear BK271; clear HB; have BK271 := n0_; have HB := n1_; clear n0_ n1_; (try clear hb); (try clear hb2); (try clear hk); (try clear hi)))
   go_ret
   exact ⟨by first | rfl | (simp [*, errW_none, errW_some] <;> rfl), by repeat (first | (with_reducible first | exact HB.out | apply Ba | apply Bn | apply Bd | refine Bs ?_ GE271.out) | exact HB.out)⟩
  ·rw [if_neg c5] at H
   have c5b0 : (a0_0 == 1) = false := beq_eq_false_iff_ne.mpr c5
   have c5b1 : (a0_0 != 1) = true := bne_iff_ne.mpr c5
   by_cases c10 : a0_0 = 2
   ·rw [if_pos c10] at H
    have c10b0 : (a0_0 == 2) = true := beq_iff_eq.mpr c10
    have c10b1 : (a0_0 != 2) = false := bne_eq_false_iff_eq.mpr c10
    clear c10
    replace H := Option.bind_eq_some_iff.mp H
    obtain ⟨t273, A110, H⟩ := H
    replace H : (if t273 = 0 then (if a0_3 = 0 then (some (a0_4 == 0)) else (some false)) else (some false)) = some r := H
    have A11 := Am A110
    clear A110
    by_cases c12 : t273 = 0
    ·rw [if_pos c12] at H
     have c12b0 : (t273 == 0) = true := beq_iff_eq.mpr c12
     have c12b1 : (t273 != 0) = false := bne_eq_false_iff_eq.mpr c12
     clear c12
     by_cases c13 : a0_3 = 0
     ·rw [if_pos c13] at H
      have c13b0 : (a0_3 == 0) = true := beq_iff_eq.mpr c13
      have c13b1 : (a0_3 != 0) = false := bne_eq_false_iff_eq.mpr c13
      clear c13
      obtain rfl := Option.some.inj H
      go_enter Try.func72, Try.ntmps72
      go_wp2_with (first | ((refine Gd (N := 1) rfl ?_); refine Be ?hg (N := 1) ?hd (cs := #[.int .i64 a0_0, .int .i64 a0_1, .int .i64 a0_2, .int .i64 a0_3, .int .i64 a0_4]) (t := 26) ?hr ?_; (case hd | hg => rfl); (case hr => first | (go_simp; done) | (go_simp; rfl)); intro gb271 hg w14 hbox hb; have n0_ := Am (Bt (by repeat (first | exact HB.out | apply Ba | apply Bn | apply Bd)) hb); have n1_ := Am (hbox); have n2_ := Am ((by rw [hg]; exact (Bz (by repeat (first | exact HB.out | apply Ba | apply Bn | apply Bd))) : w.heap.size ≤ gb271)); have n3_ := Am ((by rw [hg]; exact (Bz (by repeat (first | exact HB.out | apply Ba | apply Bn | apply Bd))) : w.heap.size ≤ gb271)); clear HB; have HB := n0_; have BK271 := n1_; have GW271 := n2_; have GE271 := n3_; clear n0_ n1_ n2_ n3_; clear hb hbox hg; have hcz15_0 : w14.cell? ⟨gb271, 0, none⟩ = some (.int .i64 a0_0) := (Kc BK271.out 0).trans rfl; have hcz15_1 : w14.cell? ⟨gb271, 1, none⟩ = some (.int .i64 a0_1) := (Kc BK271.out 1).trans rfl; have hcz15_2 : w14.cell? ⟨gb271, 2, none⟩ = some (.int .i64 a0_2) := (Kc BK271.out 2).trans rfl; have hcz15_3 : w14.cell? ⟨gb271, 3, none⟩ = some (.int .i64 a0_3) := (Kc BK271.out 3).trans rfl; have hcz15_4 : w14.cell? ⟨gb271, 4, none⟩ = some (.int .i64 a0_4) := (Kc BK271.out 4).trans rfl; have hfz15_0 := Kz BK271.out 0; have hfz15_1 := Kz BK271.out 1; have hfz15_2 := Kz BK271.out 2; have hfz15_3 := Kz BK271.out 3; have hfz15_4 := Kz BK271.out 4) | ((refine Gc (f := 132) rfl ?_); refine goesL_ (some 18) rfl rfl Try.func132 (by kernel_rfl) rfl #[.agg #[.int .i64 a0_0, .int .i64 a0_1, .int .i64 a0_2, .int .i64 a0_3, .int .i64 a0_4]] rfl (by first | rfl | (simp only [List.map_toArray, List.map_cons, List.map_nil]; first | done | rfl)) ?_; (with_reducible refine (spec_l2Code.calls a0_0 a0_1 a0_2 a0_3 a0_4 t273 _ A11.out).mono ?_); rintro e w16 ⟨rfl, hb⟩; refine ⟨_, rfl, ?_⟩; have n0_ := Am (Kb (g := gb271) (o := .cells #[.int .i64 a0_0, .int .i64 a0_1, .int .i64 a0_2, .int .i64 a0_3, .int .i64 a0_4] 26 (0, 0)) (by (with_reducible repeat (first | refine Kn ?_ _ | refine Ke ?_ | refine Ka ?_ _)); exact BK271.out) hb); have n1_ := Am (Bt (by repeat (first | (with_reducible first | exact HB.out | apply Ba | apply Bn | apply Bd | refine Bs ?_ GE271.out) | exact HB.out)) hb); clear BK271; clear HB; have BK271 := n0_; have HB := n1_; clear n0_ n1_; (try clear hb); (try clear hb2); (try clear hk); (try clear hi); have hcz17_0 : w16.cell? ⟨gb271, 0, none⟩ = some (.int .i64 a0_0) := (Kc BK271.out 0).trans rfl; have hcz17_1 : w16.cell? ⟨gb271, 1, none⟩ = some (.int .i64 a0_1) := (Kc BK271.out 1).trans rfl; have hcz17_2 : w16.cell? ⟨gb271, 2, none⟩ = some (.int .i64 a0_2) := (Kc BK271.out 2).trans rfl; have hcz17_3 : w16.cell? ⟨gb271, 3, none⟩ = some (.int .i64 a0_3) := (Kc BK271.out 3).trans rfl; have hcz17_4 : w16.cell? ⟨gb271, 4, none⟩ = some (.int .i64 a0_4) := (Kc BK271.out 4).trans rfl; have hfz17_0 := Kz BK271.out 0; have hfz17_1 := Kz BK271.out 1; have hfz17_2 := Kz BK271.out 2; have hfz17_3 := Kz BK271.out 3; have hfz17_4 := Kz BK271.out 4))
      go_ret
      exact ⟨by first | rfl | (simp [*, errW_none, errW_some] <;> rfl), by repeat (first | (with_reducible first | exact HB.out | apply Ba | apply Bn | apply Bd | refine Bs ?_ GE271.out) | exact HB.out)⟩
     ·rw [if_neg c13] at H
      have c13b0 : (a0_3 == 0) = false := beq_eq_false_iff_ne.mpr c13
      have c13b1 : (a0_3 != 0) = true := bne_iff_ne.mpr c13
      obtain rfl := Option.some.inj H
      go_enter Try.func72, Try.ntmps72
      go_wp2_with (first | ((refine Gd (N := 1) rfl ?_); refine Be ?hg (N := 1) ?hd (cs := #[.int .i64 a0_0, .int .i64 a0_1, .int .i64 a0_2, .int .i64 a0_3, .int .i64 a0_4]) (t := 26) ?hr ?_; (case hd | hg => rfl); (case hr => first | (go_simp; done) | (go_simp; rfl)); intro gb271 hg w18 hbox hb; have n0_ := Am (Bt (by repeat (first | exact HB.out | apply Ba | apply Bn | apply Bd)) hb); have n1_ := Am (hbox); have n2_ := Am ((by rw [hg]; exact (Bz (by repeat (first | exact HB.out | apply Ba | apply Bn | apply Bd))) : w.heap.size ≤ gb271)); have n3_ := Am ((by rw [hg]; exact (Bz (by repeat (first | exact HB.out | apply Ba | apply Bn | apply Bd))) : w.heap.size ≤ gb271)); clear HB; have HB := n0_; have BK271 := n1_; have GW271 := n2_; have GE271 := n3_; clear n0_ n1_ n2_ n3_; clear hb hbox hg; have hcz19_0 : w18.cell? ⟨gb271, 0, none⟩ = some (.int .i64 a0_0) := (Kc BK271.out 0).trans rfl; have hcz19_1 : w18.cell? ⟨gb271, 1, none⟩ = some (.int .i64 a0_1) := (Kc BK271.out 1).trans rfl; have hcz19_2 : w18.cell? ⟨gb271, 2, none⟩ = some (.int .i64 a0_2) := (Kc BK271.out 2).trans rfl; have hcz19_3 : w18.cell? ⟨gb271, 3, none⟩ = some (.int .i64 a0_3) := (Kc BK271.out 3).trans rfl; have hcz19_4 : w18.cell? ⟨gb271, 4, none⟩ = some (.int .i64 a0_4) := (Kc BK271.out 4).trans rfl; have hfz19_0 := Kz BK271.out 0; have hfz19_1 := Kz BK271.out 1; have hfz19_2 := Kz BK271.out 2; have hfz19_3 := Kz BK271.out 3; have hfz19_4 := Kz BK271.out 4) | ((refine Gc (f := 132) rfl ?_); refine goesL_ (some 18) rfl rfl Try.func132 (by kernel_rfl) rfl #[.agg #[.int .i64 a0_0, .int .i64 a0_1, .int .i64 a0_2, .int .i64 a0_3, .int .i64 a0_4]] rfl (by first | rfl | (simp only [List.map_toArray, List.map_cons, List.map_nil]; first | done | rfl)) ?_; (with_reducible refine (spec_l2Code.calls a0_0 a0_1 a0_2 a0_3 a0_4 t273 _ A11.out).mono ?_); rintro e w20 ⟨rfl, hb⟩; refine ⟨_, rfl, ?_⟩; have n0_ := Am (Kb (g := gb271) (o := .cells #[.int .i64 a0_0, .int .i64 a0_1, .int .i64 a0_2, .int .i64 a0_3, .int .i64 a0_4] 26 (0, 0)) (by (with_reducible repeat (first | refine Kn ?_ _ | refine Ke ?_ | refine Ka ?_ _)); exact BK271.out) hb); have n1_ := Am (Bt (by repeat (first | (with_reducible first | exact HB.out | apply Ba | apply Bn | apply Bd | refine Bs ?_ GE271.out) | exact HB.out)) hb); clear BK271; clear HB; have BK271 := n0_; have HB := n1_; clear n0_ n1_; (try clear hb); (try clear hb2); (try clear hk); (try clear hi); have hcz21_0 : w20.cell? ⟨gb271, 0, none⟩ = some (.int .i64 a0_0) := (Kc BK271.out 0).trans rfl; have hcz21_1 : w20.cell? ⟨gb271, 1, none⟩ = some (.int .i64 a0_1) := (Kc BK271.out 1).trans rfl; have hcz21_2 : w20.cell? ⟨gb271, 2, none⟩ = some (.int .i64 a0_2) := (Kc BK271.out 2).trans rfl; have hcz21_3 : w20.cell? ⟨gb271, 3, none⟩ = some (.int .i64 a0_3) := (Kc BK271.out 3).trans rfl; have hcz21_4 : w20.cell? ⟨gb271, 4, none⟩ = some (.int .i64 a0_4) := (Kc BK271.out 4).trans rfl; have hfz21_0 := Kz BK271.out 0; have hfz21_1 := Kz BK271.out 1; have hfz21_2 := Kz BK271.out 2; have hfz21_3 := Kz BK271.out 3; have hfz21_4 := Kz BK271.out 4))
      go_ret
      exact ⟨by first | rfl | (simp [*, errW_none, errW_some] <;> rfl), by repeat (first | (with_reducible first | exact HB.out | apply Ba | apply Bn | apply Bd | refine Bs ?_ GE271.out) | exact HB.out)⟩
    ·rw [if_neg c12] at H
     have c12b0 : (t273 == 0) = false := beq_eq_false_iff_ne.mpr c12
     have c12b1 : (t273 != 0) = true := bne_iff_ne.mpr c12
     obtain rfl := Option.some.inj H
     go_enter Try.func72, Try.ntmps72
     go_wp2_with (first | ((refine Gd (N := 1) rfl ?_); refine Be ?hg (N := 1) ?hd (cs := #[.int .i64 a0_0, .int .i64 a0_1, .int .i64 a0_2, .int .i64 a0_3, .int .i64 a0_4]) (t := 26) ?hr ?_; (case hd | hg => rfl); (case hr => first | (go_simp; done) | (go_simp; rfl)); intro gb271 hg w22 hbox hb; have n0_ := Am (Bt (by repeat (first | exact HB.out | apply Ba | apply Bn | apply Bd)) hb); have n1_ := Am (hbox); have n2_ := Am ((by rw [hg]; exact (Bz (by repeat (first | exact HB.out | apply Ba | apply Bn | apply Bd))) : w.heap.size ≤ gb271)); have n3_ := Am ((by rw [hg]; exact (Bz (by repeat (first | exact HB.out | apply Ba | apply Bn | apply Bd))) : w.heap.size ≤ gb271)); clear HB; have HB := n0_; have BK271 := n1_; have GW271 := n2_; have GE271 := n3_; clear n0_ n1_ n2_ n3_; clear hb hbox hg; have hcz23_0 : w22.cell? ⟨gb271, 0, none⟩ = some (.int .i64 a0_0) := (Kc BK271.out 0).trans rfl; have hcz23_1 : w22.cell? ⟨gb271, 1, none⟩ = some (.int .i64 a0_1) := (Kc BK271.out 1).trans rfl; have hcz23_2 : w22.cell? ⟨gb271, 2, none⟩ = some (.int .i64 a0_2) := (Kc BK271.out 2).trans rfl; have hcz23_3 : w22.cell? ⟨gb271, 3, none⟩ = some (.int .i64 a0_3) := (Kc BK271.out 3).trans rfl; have hcz23_4 : w22.cell? ⟨gb271, 4, none⟩ = some (.int .i64 a0_4) := (Kc BK271.out 4).trans rfl; have hfz23_0 := Kz BK271.out 0; have hfz23_1 := Kz BK271.out 1; have hfz23_2 := Kz BK271.out 2; have hfz23_3 := Kz BK271.out 3; have hfz23_4 := Kz BK271.out 4) | ((refine Gc (f := 132) rfl ?_); refine goesL_ (some 18) rfl rfl Try.func132 (by kernel_rfl) rfl #[.agg #[.int .i64 a0_0, .int .i64 a0_1, .int .i64 a0_2, .int .i64 a0_3, .int .i64 a0_4]] rfl (by first | rfl | (simp only [List.map_toArray, List.map_cons, List.map_nil]; first | done | rfl)) ?_; (with_reducible refine (spec_l2Code.calls a0_0 a0_1 a0_2 a0_3 a0_4 t273 _ A11.out).mono ?_); rintro e w24 ⟨rfl, hb⟩; refine ⟨_, rfl, ?_⟩; have n0_ := Am (Kb (g := gb271) (o := .cells #[.int .i64 a0_0, .int .i64 a0_1, .int .i64 a0_2, .int .i64 a0_3, .int .i64 a0_4] 26 (0, 0)) (by (with_reducible repeat (first | refine Kn ?_ _ | refine Ke ?_ | refine Ka ?_ _)); exact BK271.out) hb); have n1_ := Am (Bt (by repeat (first | (with_reducible first | exact HB.out | apply Ba | apply Bn | apply Bd | refine Bs ?_ GE271.out) | exact HB.out)) hb); clear BK271; clear HB; have BK271 := n0_; have HB := n1_; clear n0_ n1_; (try clear hb); (try clear hb2); (try clear hk); (try clear hi)))
     go_ret
     exact ⟨by first | rfl | (simp [*, errW_none, errW_some] <;> rfl), by repeat (first | (with_reducible first | exact HB.out | apply Ba | apply Bn | apply Bd | refine Bs ?_ GE271.out) | exact HB.out)⟩
   ·rw [if_neg c10] at H
    have c10b0 : (a0_0 == 2) = false := beq_eq_false_iff_ne.mpr c10
    have c10b1 : (a0_0 != 2) = true := bne_iff_ne.mpr c10
    obtain rfl := Option.some.inj H
    go_enter Try.func72, Try.ntmps72
    go_wp2_with (first | ((refine Gd (N := 1) rfl ?_); refine Be ?hg (N := 1) ?hd (cs := #[.int .i64 a0_0, .int .i64 a0_1, .int .i64 a0_2, .int .i64 a0_3, .int .i64 a0_4]) (t := 26) ?hr ?_; (case hd | hg => rfl); (case hr => first | (go_simp; done) | (go_simp; rfl)); intro gb271 hg w25 hbox hb; have n0_ := Am (Bt (by repeat (first | exact HB.out | apply Ba | apply Bn | apply Bd)) hb); have n1_ := Am (hbox); have n2_ := Am ((by rw [hg]; exact (Bz (by repeat (first | exact HB.out | apply Ba | apply Bn | apply Bd))) : w.heap.size ≤ gb271)); have n3_ := Am ((by rw [hg]; exact (Bz (by repeat (first | exact HB.out | apply Ba | apply Bn | apply Bd))) : w.heap.size ≤ gb271)); clear HB; have HB := n0_; have BK271 := n1_; have GW271 := n2_; have GE271 := n3_; clear n0_ n1_ n2_ n3_; clear hb hbox hg; have hcz26_0 : w25.cell? ⟨gb271, 0, none⟩ = some (.int .i64 a0_0) := (Kc BK271.out 0).trans rfl; have hcz26_1 : w25.cell? ⟨gb271, 1, none⟩ = some (.int .i64 a0_1) := (Kc BK271.out 1).trans rfl; have hcz26_2 : w25.cell? ⟨gb271, 2, none⟩ = some (.int .i64 a0_2) := (Kc BK271.out 2).trans rfl; have hcz26_3 : w25.cell? ⟨gb271, 3, none⟩ = some (.int .i64 a0_3) := (Kc BK271.out 3).trans rfl; have hcz26_4 : w25.cell? ⟨gb271, 4, none⟩ = some (.int .i64 a0_4) := (Kc BK271.out 4).trans rfl; have hfz26_0 := Kz BK271.out 0; have hfz26_1 := Kz BK271.out 1; have hfz26_2 := Kz BK271.out 2; have hfz26_3 := Kz BK271.out 3; have hfz26_4 := Kz BK271.out 4))
    go_ret
    exact ⟨by first | rfl | (simp [*, errW_none, errW_some] <;> rfl), by repeat (first | (with_reducible first | exact HB.out | apply Ba | apply Bn | apply Bd | refine Bs ?_ GE271.out) | exact HB.out)⟩
def spec_l11Cmds.l0 : Nat → List (S26) → List (S26) → Int → Int → Option (Bool)
 | 0, _, _, _, _ => none
 | k + 1, x0, x5, x6, x7 => if x7 < x6 then (if 0 ≤ x7 then (if x7 < (x5.length : Int) then ((spec_GoodCmd.f ((rd_T26 x5 x7).f0) ((rd_T26 x5 x7).f1) ((rd_T26 x5 x7).f2) ((rd_T26 x5 x7).f3) ((rd_T26 x5 x7).f4)).bind fun t276 => (if t276 = true then (spec_l11Cmds.l0 k x0 x5 x6 (wrap64 (x7 + 1))) else (some false))) else (none)) else (none)) else (some (decide ((x0.length : Int) ≤ 60)))
def spec_l11Cmds.f (k : Nat) (l0 : List (S26)) : Option (Bool) := spec_l11Cmds.l0 k l0 l0 (l0.length : Int) 0
theorem spec_l11Cmds.mono_l : ∀ k, (∀ y0 y1 y2 y3, LeO (spec_l11Cmds.l0 k y0 y1 y2 y3) (spec_l11Cmds.l0 (k + 1) y0 y1 y2 y3))
 | 0 => fun _ _ _ _ r h => by simp [spec_l11Cmds.l0] at h
 | k + 1 => by
  have ih0 := spec_l11Cmds.mono_l k
  ·intro y0 y1 y2 y3
   unfold spec_l11Cmds.l0
   repeat' first
   | (with_reducible exact ih0 _ _ _ _)
   | (with_reducible exact LeO.refl _)
   | (with_reducible exact LeO.none _)
   | (with_reducible refine LeO.ite ?_ ?_)
   | (with_reducible refine LeO.bind ?_ (fun _ => ?_))
   | exact ih0 _ _ _ _
   | exact LeO.none _
   | refine LeO.ite ?_ ?_
   | refine LeO.bind ?_ (fun _ => ?_)
theorem spec_l11Cmds.mono : ∀ a0 k, LeO (spec_l11Cmds.f k a0) (spec_l11Cmds.f (k + 1) a0) := by
 intro a0 k
 have ih0 := spec_l11Cmds.mono_l k
 unfold spec_l11Cmds.f
 repeat' first
   | (with_reducible exact ih0 _ _ _ _)
   | (with_reducible exact LeO.refl _)
   | (with_reducible exact LeO.none _)
   | (with_reducible refine LeO.ite ?_ ?_)
   | (with_reducible refine LeO.bind ?_ (fun _ => ?_))
   | exact ih0 _ _ _ _
   | exact LeO.none _
   | refine LeO.ite ?_ ?_
   | refine LeO.bind ?_ (fun _ => ?_)
set_option maxHeartbeats 8000000 in
set_option maxRecDepth 100000 in
theorem spec_l11Cmds.calls (k : Nat) (A0 : Option Addr) (c0 : Nat) (l0 : List (S26)) (r : Bool) (w : World) (hr0 : Kd.C k26 w A0 l0.length l0) (hc0 : l0.length ≤ c0) (h : spec_l11Cmds.f k l0 = some r) :
  Calls Try.prog 84 #[.slice A0 l0.length c0] w fun e w' => e = .returned (.bool r) ∧ Below w.heap.size w w' := by
 have hu26 := Try.underlying26
 have HR0 := Am hr0
 have HC0 := Am hc0
 clear hr0 hc0
 have HB := Am (Below.refl w.heap.size w)
 have H : (spec_l11Cmds.l0 k l0 l0 (l0.length : Int) 0) = some r := h
 clear h
 have H' := Am H
 clear H
 go_enter Try.func84, Try.ntmps84
 go_wp2
 go_loopg [7] k (fun kq v7 w' => ∃ (x7_1 : Int), v7 = .int .i64 x7_1 ∧ Ad (spec_l11Cmds.l0 kq l0 l0 (l0.length : Int) x7_1 = some r) ∧ Ad (kq ≤ k) ∧ Ad (Below w.heap.size w w'))
 case atStart => exact ⟨(0), (by first | rfl | (simp; done) | (simp [*]; done)), H', ⟨Nat.le_refl _⟩, ⟨by repeat (first | exact HB.out | apply Ba | apply Bn | apply Bd)⟩⟩
 case round =>
  clear H'
  obtain ⟨x7_1, rfl, HA, HK1, HB⟩ := hrel
  cases gk with
  | zero => exact absurd HA.out (by simp [spec_l11Cmds.l0])
  | succ k1 =>
   have H := HA.out
   clear HA
   simp only [spec_l11Cmds.l0] at H
   by_cases c2 : x7_1 < (l0.length : Int)
   ·rw [if_pos c2] at H
    have c2b0 : decide (x7_1 < (l0.length : Int)) = true := decide_eq_true c2
    clear c2
    by_cases c3 : 0 ≤ x7_1
    ·rw [if_pos c3] at H
     have c3b0 : decide (0 ≤ x7_1) = true := decide_eq_true c3
     clear c3
     by_cases c4 : x7_1 < (l0.length : Int)
     ·rw [if_pos c4] at H
      have c4b0 : decide (x7_1 < (l0.length : Int)) = true := decide_eq_true c4
      clear c4
      replace H := Option.bind_eq_some_iff.mp H
      obtain ⟨t276, A50, H⟩ := H
      replace H : (if t276 = true then (spec_l11Cmds.l0 k1 l0 l0 (l0.length : Int) (wrap64 (x7_1 + 1))) else (some false)) = some r := H
      have A5 := Am A50
      clear A50
      by_cases c6 : t276 = true
      ·subst c6
       have H1 : (spec_l11Cmds.l0 k1 l0 l0 (l0.length : Int) (wrap64 (x7_1 + 1))) = some r := by rw [if_pos rfl] at H; exact H
       clear H
       have H := H1
       clear H1
       have H' := Am H
       clear H
       have p274 : 0 ≤ (x7_1 : Int) := of_decide_eq_true (by assumption)
       have q274 : x7_1 < (l0.length : Int) := of_decide_eq_true (by assumption)
       obtain ⟨ad274, e274, hx274_0, hx274_1, hx274_2, hx274_3, hx274_4⟩ := at_T26 HR0.out x7_1 p274 q274
       cases e274
       replace hx274_0 := (HB.out.cell (bl_ w _ hx274_0)).trans hx274_0
       replace hx274_1 := (HB.out.cell (bl_ w _ hx274_1)).trans hx274_1
       replace hx274_2 := (HB.out.cell (bl_ w _ hx274_2)).trans hx274_2
       replace hx274_3 := (HB.out.cell (bl_ w _ hx274_3)).trans hx274_3
       replace hx274_4 := (HB.out.cell (bl_ w _ hx274_4)).trans hx274_4
       replace p274 := eq_true p274
       replace q274 := eq_true q274
       go_wp2_with (first | ((refine Gd (N := 4) rfl ?_); refine Be ?hg (N := 4) ?hd (cs := #[.int .i64 0, .int .i64 0, .int .i64 0, .int .i64 0, .int .i64 0]) (t := 26) ?hr ?_; (case hd | hg => rfl); (case hr => first | (go_simp; done) | (go_simp; rfl)); intro gb275 hg w7 hbox hb; have n0_ := Am (Bt (by repeat (first | exact HB.out | apply Ba | apply Bn | apply Bd)) hb); have n1_ := Am (hbox); have n2_ := Am ((by rw [hg]; exact (Bz (by repeat (first | exact HB.out | apply Ba | apply Bn | apply Bd))) : w.heap.size ≤ gb275)); have n3_ := Am ((by rw [hg]; exact (Bz (by repeat (first | exact HB.out | apply Ba | apply Bn | apply Bd))) : w.heap.size ≤ gb275)); clear HB; have HB := n0_; have BK275 := n1_; have GW275 := n2_; have GE275 := n3_; clear n0_ n1_ n2_ n3_; clear hb hbox hg; have hcz8_0 : w7.cell? ⟨gb275, 0, none⟩ = some (.int .i64 0) := (Kc BK275.out 0).trans rfl; have hcz8_1 : w7.cell? ⟨gb275, 1, none⟩ = some (.int .i64 0) := (Kc BK275.out 1).trans rfl; have hcz8_2 : w7.cell? ⟨gb275, 2, none⟩ = some (.int .i64 0) := (Kc BK275.out 2).trans rfl; have hcz8_3 : w7.cell? ⟨gb275, 3, none⟩ = some (.int .i64 0) := (Kc BK275.out 3).trans rfl; have hcz8_4 : w7.cell? ⟨gb275, 4, none⟩ = some (.int .i64 0) := (Kc BK275.out 4).trans rfl; have hfz8_0 := Kz BK275.out 0; have hfz8_1 := Kz BK275.out 1; have hfz8_2 := Kz BK275.out 2; have hfz8_3 := Kz BK275.out 3; have hfz8_4 := Kz BK275.out 4) | ((refine Gc (f := 72) rfl ?_); refine goesL_ (some 12) rfl rfl Try.func72 (by kernel_rfl) rfl #[.agg #[.int .i64 ((rd_T26 l0 x7_1).f0), .int .i64 ((rd_T26 l0 x7_1).f1), .int .i64 ((rd_T26 l0 x7_1).f2), .int .i64 ((rd_T26 l0 x7_1).f3), .int .i64 ((rd_T26 l0 x7_1).f4)]] rfl (by first | rfl | (simp only [List.map_toArray, List.map_cons, List.map_nil]; first | done | rfl)) ?_; (with_reducible refine (spec_GoodCmd.calls ((rd_T26 l0 x7_1).f0) ((rd_T26 l0 x7_1).f1) ((rd_T26 l0 x7_1).f2) ((rd_T26 l0 x7_1).f3) ((rd_T26 l0 x7_1).f4) true _ A5.out).mono ?_); rintro e w9 ⟨rfl, hb⟩; refine ⟨_, rfl, ?_⟩; have n0_ := Am (Kb (g := gb275) (o := .cells #[.int .i64 ((rd_T26 l0 x7_1).f0), .int .i64 ((rd_T26 l0 x7_1).f1), .int .i64 ((rd_T26 l0 x7_1).f2), .int .i64 ((rd_T26 l0 x7_1).f3), .int .i64 ((rd_T26 l0 x7_1).f4)] 26 (0, 0)) (by (with_reducible repeat (first | refine Kn ?_ _ | refine Ke ?_ | refine Ka ?_ _)); refine blk_put (cs := #[.int .i64 ((rd_T26 l0 x7_1).f0), .int .i64 ((rd_T26 l0 x7_1).f1), .int .i64 ((rd_T26 l0 x7_1).f2), .int .i64 ((rd_T26 l0 x7_1).f3), .int .i64 0]) ?_ 4 _ rfl; (with_reducible repeat (first | refine Kn ?_ _ | refine Ke ?_ | refine Ka ?_ _)); refine blk_put (cs := #[.int .i64 ((rd_T26 l0 x7_1).f0), .int .i64 ((rd_T26 l0 x7_1).f1), .int .i64 ((rd_T26 l0 x7_1).f2), .int .i64 0, .int .i64 0]) ?_ 3 _ rfl; (with_reducible repeat (first | refine Kn ?_ _ | refine Ke ?_ | refine Ka ?_ _)); refine blk_put (cs := #[.int .i64 ((rd_T26 l0 x7_1).f0), .int .i64 ((rd_T26 l0 x7_1).f1), .int .i64 0, .int .i64 0, .int .i64 0]) ?_ 2 _ rfl; (with_reducible repeat (first | refine Kn ?_ _ | refine Ke ?_ | refine Ka ?_ _)); refine blk_put (cs := #[.int .i64 ((rd_T26 l0 x7_1).f0), .int .i64 0, .int .i64 0, .int .i64 0, .int .i64 0]) ?_ 1 _ rfl; (with_reducible repeat (first | refine Kn ?_ _ | refine Ke ?_ | refine Ka ?_ _)); refine blk_put (cs := #[.int .i64 0, .int .i64 0, .int .i64 0, .int .i64 0, .int .i64 0]) ?_ 0 _ rfl; (with_reducible repeat (first | refine Kn ?_ _ | refine Ke ?_ | refine Ka ?_ _)); exact BK275.out) hb); have n1_ := Am (Bt (by repeat (first | (with_reducible first | exact HB.out | apply Ba | apply Bn | apply Bd | refine Bs ?_ GE275.out) | exact HB.out)) hb); clear BK275; clear HB; have BK275 := n0_; have HB := n1_; clear n0_ n1_; (try clear hb); (try clear hb2); (try clear hk); (try clear hi)))
       go_roundg k1
       case measure => have := HK1.out; omega
       case rel => exact ⟨(wrap64 (x7_1 + 1)), (by first | rfl | (simp; done) | (simp [*]; done)), H', ⟨by have := HK1.out; omega⟩, ⟨by repeat (first | (with_reducible first | exact HB.out | apply Ba | apply Bn | apply Bd | refine Bs ?_ GE275.out) | exact HB.out)⟩⟩
      ·replace c6 := Bool.eq_false_iff.mpr c6
       subst c6
       have H1 : (some false) = some r := by rw [if_neg (show ¬ (false = true) by decide)] at H; exact H
       clear H
       have H := H1
       clear H1
       obtain rfl := Option.some.inj H
       have p274 : 0 ≤ (x7_1 : Int) := of_decide_eq_true (by assumption)
       have q274 : x7_1 < (l0.length : Int) := of_decide_eq_true (by assumption)
       obtain ⟨ad274, e274, hx274_0, hx274_1, hx274_2, hx274_3, hx274_4⟩ := at_T26 HR0.out x7_1 p274 q274
       cases e274
       replace hx274_0 := (HB.out.cell (bl_ w _ hx274_0)).trans hx274_0
       replace hx274_1 := (HB.out.cell (bl_ w _ hx274_1)).trans hx274_1
       replace hx274_2 := (HB.out.cell (bl_ w _ hx274_2)).trans hx274_2
       replace hx274_3 := (HB.out.cell (bl_ w _ hx274_3)).trans hx274_3
       replace hx274_4 := (HB.out.cell (bl_ w _ hx274_4)).trans hx274_4
       replace p274 := eq_true p274
       replace q274 := eq_true q274
       go_wp2_with (first | ((refine Gd (N := 4) rfl ?_); refine Be ?hg (N := 4) ?hd (cs := #[.int .i64 0, .int .i64 0, .int .i64 0, .int .i64 0, .int .i64 0]) (t := 26) ?hr ?_; (case hd | hg => rfl); (case hr => first | (go_simp; done) | (go_simp; rfl)); intro gb275 hg w10 hbox hb; have n0_ := Am (Bt (by repeat (first | exact HB.out | apply Ba | apply Bn | apply Bd)) hb); have n1_ := Am (hbox); have n2_ := Am ((by rw [hg]; exact (Bz (by repeat (first | exact HB.out | apply Ba | apply Bn | apply Bd))) : w.heap.size ≤ gb275)); have n3_ := Am ((by rw [hg]; exact (Bz (by repeat (first | exact HB.out | apply Ba | apply Bn | apply Bd))) : w.heap.size ≤ gb275)); clear HB; have HB := n0_; have BK275 := n1_; have GW275 := n2_; have GE275 := n3_; clear n0_ n1_ n2_ n3_; clear hb hbox hg; have hcz11_0 : w10.cell? ⟨gb275, 0, none⟩ = some (.int .i64 0) := (Kc BK275.out 0).trans rfl; have hcz11_1 : w10.cell? ⟨gb275, 1, none⟩ = some (.int .i64 0) := (Kc BK275.out 1).trans rfl; have hcz11_2 : w10.cell? ⟨gb275, 2, none⟩ = some (.int .i64 0) := (Kc BK275.out 2).trans rfl; have hcz11_3 : w10.cell? ⟨gb275, 3, none⟩ = some (.int .i64 0) := (Kc BK275.out 3).trans rfl; have hcz11_4 : w10.cell? ⟨gb275, 4, none⟩ = some (.int .i64 0) := (Kc BK275.out 4).trans rfl; have hfz11_0 := Kz BK275.out 0; have hfz11_1 := Kz BK275.out 1; have hfz11_2 := Kz BK275.out 2; have hfz11_3 := Kz BK275.out 3; have hfz11_4 := Kz BK275.out 4) | ((refine Gc (f := 72) rfl ?_); refine goesL_ (some 12) rfl rfl Try.func72 (by kernel_rfl) rfl #[.agg #[.int .i64 ((rd_T26 l0 x7_1).f0), .int .i64 ((rd_T26 l0 x7_1).f1), .int .i64 ((rd_T26 l0 x7_1).f2), .int .i64 ((rd_T26 l0 x7_1).f3), .int .i64 ((rd_T26 l0 x7_1).f4)]] rfl (by first | rfl | (simp only [List.map_toArray, List.map_cons, List.map_nil]; first | done | rfl)) ?_; (with_reducible refine (spec_GoodCmd.calls ((rd_T26 l0 x7_1).f0) ((rd_T26 l0 x7_1).f1) ((rd_T26 l0 x7_1).f2) ((rd_T26 l0 x7_1).f3) ((rd_T26 l0 x7_1).f4) false _ A5.out).mono ?_); rintro e w12 ⟨rfl, hb⟩; refine ⟨_, rfl, ?_⟩; have n0_ := Am (Kb (g := gb275) (o := .cells #[.int .i64 ((rd_T26 l0 x7_1).f0), .int .i64 ((rd_T26 l0 x7_1).f1), .int .i64 ((rd_T26 l0 x7_1).f2), .int .i64 ((rd_T26 l0 x7_1).f3), .int .i64 ((rd_T26 l0 x7_1).f4)] 26 (0, 0)) (by (with_reducible repeat (first | refine Kn ?_ _ | refine Ke ?_ | refine Ka ?_ _)); refine blk_put (cs := #[.int .i64 ((rd_T26 l0 x7_1).f0), .int .i64 ((rd_T26 l0 x7_1).f1), .int .i64 ((rd_T26 l0 x7_1).f2), .int .i64 ((rd_T26 l0 x7_1).f3), .int .i64 0]) ?_ 4 _ rfl; (with_reducible repeat (first | refine Kn ?_ _ | refine Ke ?_ | refine Ka ?_ _)); refine blk_put (cs := #[.int .i64 ((rd_T26 l0 x7_1).f0), .int .i64 ((rd_T26 l0 x7_1).f1), .int .i64 ((rd_T26 l0 x7_1).f2), .int .i64 0, .int .i64 0]) ?_ 3 _ rfl; (with_reducible repeat (first | refine Kn ?_ _ | refine Ke ?_ | refine Ka ?_ _)); refine blk_put (cs := #[.int .i64 ((rd_T26 l0 x7_1).f0), .int .i64 ((rd_T26 l0 x7_1).f1), .int .i64 0, .int .i64 0, .int .i64 0]) ?_ 2 _ rfl; (with_reducible repeat (first | refine Kn ?_ _ | refine Ke ?_ | refine Ka ?_ _)); refine blk_put (cs := #[.int .i64 ((rd_T26 l0 x7_1).f0), .int .i64 0, .int .i64 0, .int .i64 0, .int .i64 0]) ?_ 1 _ rfl; (with_reducible repeat (first | refine Kn ?_ _ | refine Ke ?_ | refine Ka ?_ _)); refine blk_put (cs := #[.int .i64 0, .int .i64 0, .int .i64 0, .int .i64 0, .int .i64 0]) ?_ 0 _ rfl; (with_reducible repeat (first | refine Kn ?_ _ | refine Ke ?_ | refine Ka ?_ _)); exact BK275.out) hb); have n1_ := Am (Bt (by repeat (first | (with_reducible first | exact HB.out | apply Ba | apply Bn | apply Bd | refine Bs ?_ GE275.out) | exact HB.out)) hb); clear BK275; clear HB; have BK275 := n0_; have HB := n1_; clear n0_ n1_; (try clear hb); (try clear hb2); (try clear hk); (try clear hi)))
       go_ret
       exact ⟨by first | rfl | (simp [*, errW_none, errW_some] <;> rfl), by repeat (first | (with_reducible first | exact HB.out | apply Ba | apply Bn | apply Bd | refine Bs ?_ GE275.out) | exact HB.out)⟩
     ·rw [if_neg c4] at H
      exact absurd H (by simp)
    ·rw [if_neg c3] at H
     exact absurd H (by simp)
   ·rw [if_neg c2] at H
    have c2b0 : decide (x7_1 < (l0.length : Int)) = false := decide_eq_false c2
    clear c2
    obtain rfl := Option.some.inj H
    go_wp2
    go_ret
    exact ⟨by first | rfl | (simp [*, errW_none, errW_some] <;> rfl), by repeat (first | exact HB.out | apply Ba | apply Bn | apply Bd)⟩
def spec_NewSums.l0 : Nat → List Int → Int → Option (List Int)
 | 0, _, _ => none
 | k + 1, x1, x2 => if x2 < 4 then (if x1.length < 17592186044416 then (spec_NewSums.l0 k (x1 ++ [100]) (wrap64 (x2 + 1))) else (none)) else (some x1)
def spec_NewSums.f (k : Nat)  : Option (List Int) := spec_NewSums.l0 k ([] : List Int) 0
theorem spec_NewSums.mono_l : ∀ k, (∀ y0 y1, LeO (spec_NewSums.l0 k y0 y1) (spec_NewSums.l0 (k + 1) y0 y1))
 | 0 => fun _ _ r h => by simp [spec_NewSums.l0] at h
 | k + 1 => by
  have ih0 := spec_NewSums.mono_l k
  ·intro y0 y1
   unfold spec_NewSums.l0
   repeat' first
   | (with_reducible exact ih0 _ _)
   | (with_reducible exact LeO.refl _)
   | (with_reducible exact LeO.none _)
   | (with_reducible refine LeO.ite ?_ ?_)
   | (with_reducible refine LeO.bind ?_ (fun _ => ?_))
   | exact ih0 _ _
   | exact LeO.none _
   | refine LeO.ite ?_ ?_
   | refine LeO.bind ?_ (fun _ => ?_)
theorem spec_NewSums.mono : ∀ k, LeO (spec_NewSums.f k ) (spec_NewSums.f (k + 1) ) := by
 intro  k
 have ih0 := spec_NewSums.mono_l k
 unfold spec_NewSums.f
 repeat' first
   | (with_reducible exact ih0 _ _)
   | (with_reducible exact LeO.refl _)
   | (with_reducible exact LeO.none _)
   | (with_reducible refine LeO.ite ?_ ?_)
   | (with_reducible refine LeO.bind ?_ (fun _ => ?_))
   | exact ih0 _ _
   | exact LeO.none _
   | refine LeO.ite ?_ ?_
   | refine LeO.bind ?_ (fun _ => ?_)
set_option maxHeartbeats 8000000 in
set_option maxRecDepth 100000 in
theorem spec_NewSums.calls (k : Nat)  (r : List Int) (w : World) (h : spec_NewSums.f k  = some r) :
  Calls Try.prog 19 #[] w fun e w' => ∃ v0_ : Value, e = .returned (v0_) ∧ Kd.R (Kd.int .i64) 3 w' w.heap.size (fun _ => True) v0_ r ∧ Below w.heap.size w w' := by
 have HB := Am (Below.refl w.heap.size w)
 have H : (spec_NewSums.l0 k ([] : List Int) 0) = some r := h
 clear h
 have H' := Am H
 clear H
 go_enter Try.func19, Try.ntmps19
 go_wp2
 go_loopg [1, 2] k (fun kq v1 v2 w' => ∃ (x1_1 : List Int) (x2_1 : Int), v2 = .int .i64 x2_1 ∧ Ad (spec_NewSums.l0 kq x1_1 x2_1 = some r) ∧ Ad (kq ≤ k) ∧ Ad (Kd.R (Kd.int .i64) 3 w' w.heap.size (fun _ => True) v1 x1_1) ∧ Ad (Below w.heap.size w w'))
 case atStart => exact ⟨(([] : List Int)), (0), (by first | rfl | (simp; done) | (simp [*]; done)), H', ⟨Nat.le_refl _⟩, ⟨by first | exact Kd.R_nil _ _ _ _ _ | exact Kd.N_nil _ _ _ _ _ | exact Kd.V_nil _ _ _ _ _ | exact Kd.Q_nil _ _ _ _ _ | exact Kd.S_nil _ _ _ _ _⟩, ⟨by repeat (first | exact HB.out | apply Ba | apply Bn | apply Bd)⟩⟩
 case round =>
  clear H'
  obtain ⟨x1_1, x2_1, rfl, HA, HK1, HO_1, HB⟩ := hrel
  cases gk with
  | zero => exact absurd HA.out (by simp [spec_NewSums.l0])
  | succ k1 =>
   have H := HA.out
   clear HA
   simp only [spec_NewSums.l0] at H
   by_cases c1 : x2_1 < 4
   ·rw [if_pos c1] at H
    have c1b0 : decide (x2_1 < 4) = true := decide_eq_true c1
    clear c1
    by_cases c2 : x1_1.length < 17592186044416
    ·rw [if_pos c2] at H
     have LMc2 := Am c2
     clear c2
     obtain ⟨y277, hy277⟩ : ∃ y_ : List Int, y_ = (x1_1 ++ [100]) := ⟨_, rfl⟩
     replace H : (spec_NewSums.l0 k1 y277 (wrap64 (x2_1 + 1))) = some r := by first | (rw [hy277]; with_reducible exact H) | (have H2_ := (Option.bind_some _ _).symm.trans H; rw [hy277]; with_reducible exact H2_) | (have H2_ := (Option.bind_some _ _).symm.trans H; with_reducible exact H2_) | with_reducible exact H | (rw [hy277]; exact H) | exact H
     have Ny277 := Am hy277
     clear hy277
     have H' := Am H
     clear H
     go_wp2_with (first | ((with_reducible refine gate_builtin (b := .append) (xs := #[.tmp 7, .tmp 8]) rfl ?_); at_builtin; refine Kd.R_append (Kd.int .i64) (w0 := w) w.heap.size rfl (.tmp 7) (.tmp 8) 24 3 (.int .i64 0) 8 rfl Try.underlying24 info3 rfl (by decide) (by omega) u1 x1_1 100 [.int .i64 100] (fun _ => True) (fun _ => False) rfl rfl ?aP (fun _ hk => hk.elim) ?aF ?aO ?aB ?aS ?aL ?_; (case aP => exact rfl); (case aB => exact (by repeat (first | exact HB.out | apply Ba | apply Bn | apply Bd))); (case aF => exact (fun _ _ => trivial)); (case aO => exact (by (with_reducible repeat (first | apply Ra | apply Rn | apply Rd)); exact HO_1.out)); (case aS => exact (Bz (by repeat (first | exact HB.out | apply Ba | apply Bn | apply Bd)))); (case aL => have := LMc2.out; omega); intro v278 w3 ho hb hg hat; rw [← Ny277.out] at ho; have n0_ := Am (hb); have n1_ := Am (ho); clear HB; clear HO_1; have HB := n0_; have HO279 := n1_; clear n0_ n1_; clear ho hb hg hat))
     go_roundg k1
     case measure => have := HK1.out; omega
     case rel => exact ⟨(y277), (wrap64 (x2_1 + 1)), (by first | rfl | (simp; done) | (simp [*]; done)), H', ⟨by have := HK1.out; omega⟩, ⟨by (with_reducible repeat (first | apply Ra | apply Rn | apply Rd)); exact HO279.out⟩, ⟨by repeat (first | exact HB.out | apply Ba | apply Bn | apply Bd)⟩⟩
    ·rw [if_neg c2] at H
     exact absurd H (by simp)
   ·rw [if_neg c1] at H
    have c1b0 : decide (x2_1 < 4) = false := decide_eq_false c1
    clear c1
    obtain rfl := Option.some.inj H
    go_wp2
    go_ret
    exact ⟨_, by first | rfl | (simp [*, errW_none, errW_some] <;> rfl), by (with_reducible repeat (first | apply Ra | apply Rn | apply Rd)); exact HO_1.out, by repeat (first | exact HB.out | apply Ba | apply Bn | apply Bd)⟩
def spec_l1Own.f (l0 : List Int) : Option (List Int) := (some (([] : List Int) : List Int)).bind fun y280 => (if y280.length + l0.length < 17592186044416 then (some (y280 ++ l0)) else (none))
set_option maxHeartbeats 8000000 in
set_option maxRecDepth 100000 in
theorem spec_l1Own.calls (A0 : Option Addr) (c0 : Nat) (l0 : List Int) (r : List Int) (w : World) (hr0 : Kd.C (Kd.int .i64) w A0 l0.length l0) (hc0 : l0.length ≤ c0) (h : spec_l1Own.f l0 = some r) :
  Calls Try.prog 133 #[.slice A0 l0.length c0] w fun e w' => ∃ v0_ : Value, e = .returned (v0_) ∧ Kd.R (Kd.int .i64) 3 w' w.heap.size (fun _ => True) v0_ r ∧ Below w.heap.size w w' := by
 have HR0 := Am hr0
 have HC0 := Am hc0
 clear hr0 hc0
 have HB := Am (Below.refl w.heap.size w)
 have H : ((some (([] : List Int) : List Int)).bind fun y280 => (if y280.length + l0.length < 17592186044416 then (some (y280 ++ l0)) else (none))) = some r := h
 clear h
 obtain ⟨y280, hy280⟩ : ∃ y_ : List Int, y_ = (([] : List Int)) := ⟨_, rfl⟩
 replace H : (if y280.length + l0.length < 17592186044416 then (some (y280 ++ l0)) else (none)) = some r := by first | (rw [hy280]; with_reducible exact H) | (have H2_ := (Option.bind_some _ _).symm.trans H; rw [hy280]; with_reducible exact H2_) | (have H2_ := (Option.bind_some _ _).symm.trans H; with_reducible exact H2_) | with_reducible exact H | (rw [hy280]; exact H) | exact H
 have Ny280 := Am hy280
 clear hy280
 by_cases c2 : y280.length + l0.length < 17592186044416
 ·rw [if_pos c2] at H
  have LMc2 := Am c2
  clear c2
  obtain ⟨y283, hy283⟩ : ∃ y_ : List Int, y_ = (y280 ++ l0) := ⟨_, rfl⟩
  replace H : (some y283) = some r := by first | (rw [hy283]; with_reducible exact H) | (have H2_ := (Option.bind_some _ _).symm.trans H; rw [hy283]; with_reducible exact H2_) | (have H2_ := (Option.bind_some _ _).symm.trans H; with_reducible exact H2_) | with_reducible exact H | (rw [hy283]; exact H) | exact H
  have Ny283 := Am hy283
  clear hy283
  obtain rfl := Option.some.inj H
  go_enter Try.func133, Try.ntmps133
  go_wp2_with (first | ((refine Gd (N := 3) rfl ?_); refine Kd.R_lit (Kd.int .i64) _ 3 ?hg (N := 3) ?hd (xs := ([] : List Int)) (inner := []) (ok := fun _ => True) (okp := fun _ => True) ?hr ?hp (fun _ hk => hk) trivial (Below.refl _ _) (Nat.le_refl _) (by simp) ?_; (case hd | hg => rfl); (case hr => first | (go_simp; done) | (go_simp; rfl)); (case hp => exact (Reps.none _ _)); intro v281 w3 ho4 hb hg_ hnew_; clear hg_ hnew_; (first | rw [← Ny280.out] at ho4 | (simp only [Int.reduceToNat] at ho4; rw [← Ny280.out] at ho4)); have n0_ := Am (Kd.R_lower ho4 (Bz (by repeat (first | exact HB.out | apply Ba | apply Bn | apply Bd)))); have n1_ := Am (Bt (by repeat (first | exact HB.out | apply Ba | apply Bn | apply Bd)) hb); clear HB; have HO282 := n0_; have HB := n1_; clear n0_ n1_; clear hb ho4) | ((with_reducible refine gate_builtin (b := .append) (xs := #[.tmp 3, .tmp 4]) rfl ?_); at_builtin; refine Kd.R_append_rows (Kd.int .i64) (w0 := w) w.heap.size rfl (.tmp 3) (.tmp 4) 24 3 (.int .i64 0) 8 rfl Try.underlying24 info3 rfl (by decide) (by omega) v281 y280 l0 _ _ _ (fun _ => True) (fun _ => False) rfl rfl ?aO ?aR (fun _ _ h => h) (fun _ h => h.elim) ?aF ?aB ?aS ?aL ?_; (case aR => repeat (first | exact (Kd.C_below HR0.out HB.out) | (with_reducible refine Kd.C_alloc ?_ _) | (with_reducible refine Kd.C_drewN ?_ _) | (with_reducible refine Kd.C_drew ?_))); (case aB => exact (by repeat (first | exact HB.out | apply Ba | apply Bn | apply Bd))); (case aF => exact (fun _ _ => trivial)); (case aO => exact (by (with_reducible repeat (first | apply Ra | apply Rn | apply Rd)); exact HO282.out)); (case aS => exact (Bz (by repeat (first | exact HB.out | apply Ba | apply Bn | apply Bd)))); (case aL => have := LMc2.out; omega); intro v284 w5 ho hb hg hat; rw [← Ny283.out] at ho; have n0_ := Am (hb); have n1_ := Am (ho); clear HB; clear HO282; have HB := n0_; have HO285 := n1_; clear n0_ n1_; clear ho hb hg hat))
  go_ret
  exact ⟨_, by first | rfl | (simp [*, errW_none, errW_some] <;> rfl), by (with_reducible repeat (first | apply Ra | apply Rn | apply Rd)); exact HO285.out, by repeat (first | exact HB.out | apply Ba | apply Bn | apply Bd)⟩
 ·rw [if_neg c2] at H
  exact absurd H (by simp)
end Go.Proofs.Yteecmbfebenjjaa.QFnTellsSame
