-- Written by a program of this session (wip/mk.py) over the kit's print: Lean checks it.
import Derived.Test.YtmknjfnhfcljcaaDoorQFnCmdsx0
import Derived.Test.YtmknjfnhfcljcaaDoorQFnCmdsx4
import Derived.Test.YtmknjfnhfcljcaaDoorQFnCmdsx10
namespace Go.Proofs.YtmknjfnhfcljcaaDoor.QFnCmds
set_option maxHeartbeats 8000000
set_option maxRecDepth 100000
open Bool renaming true → T_, false → F_
open List renaming map_toArray → Lm, map_cons → Lc, map_nil → Ln
open Go.Proofs.YtmknjfnhfcljcaaDoorW.PrintWords.Kd renaming R_alloc → Ra, R_drewN → Rn, R_drew → Rd
open Go.Proofs.YtmknjfnhfcljcaaDoorW.PrintWords renaming below_alloc → Ba, pw_below_drewN → Bn, below_drew1 → Bd, below_set → Bs, below_size → Bz, below_step → Bt, gate_dst → Gd, gate_callee → Gc, gate_store → Gs, box_event → Be, blk_alloc → Ka, blk_drewN → Kn, blk_drew → Ke, blk_below → Kb, blk_cell → Kc, blk_far → Kf, blk_frozen → Kz
open List renaming setIfInBounds_toArray → Lt, set_cons_zero → Lz, set_cons_succ → Ls
open Go.World renaming block_lt_of_cell? → bl_
open Go.Proofs.YtmknjfnhfcljcaaDoorW.PrintWords.Aside0 renaming mk → Am
open Go.Proofs.YtmknjfnhfcljcaaDoorW.PrintWords renaming Aside0 → Ad
open Go.RowKit Go.Proofs.YtmknjfnhfcljcaaDoorW.PrintWords Go.Proofs.YtmknjfnhfcljcaaDoorW.PrintLast Go.Proofs.YtmknjfnhfcljcaaDoorW.PrintMore
attribute [local go_sem] max2_int min2_int max_two min_two max_three min_three max_four min_four   -- for this text's walks alone
open Go.Proofs.YtmknjfnhfcljcaaDoorW.PrintWords.Kd renaming R_below → Rb, R_mono → Rm, R_reads' → Rr
open Go.Proofs.YtmknjfnhfcljcaaDoorW.PrintWords renaming blk_lt → Kl
set_option linter.unusedVariables false
set_option linter.unusedSimpArgs false
mutual
def spec_ReadCmd.j0 : Nat → List ByteArray → Int → Int → Option (Int × Int × Int × Int × Int × Int × Bool)
 | 0, _, _, _ => none
 | k + 1, x5, x6, x7 => if (x5.length : Int) = x6 then (if 4 ≤ 35184372088832 then (if 1 ≤ (x5.length : Int) then ((some (x5.drop 1 : List ByteArray)).bind fun y403 => (spec_ReadCmd.l0 k x7 (List.replicate 4 0) y403 (y403.length : Int) 0)) else (none)) else (none)) else (some (0, 0, 0, 0, 0, 2, false))
def spec_ReadCmd.l0 : Nat → Int → List Int → List ByteArray → Int → Int → Option (Int × Int × Int × Int × Int × Int × Bool)
 | 0, _, _, _, _, _ => none
 | k + 1, x7, x8, x32, x33, x34 => if x34 < x33 then (if 0 ≤ x34 then (if x34 < (x32.length : Int) then ((spec_l1Read.f k (rdOf ByteArray.empty x32 x34)).bind fun t408 => (if x34 < (x8.length : Int) then ((some (x8.set (x34 : Int).toNat t408 : List Int)).bind fun y409 => (if ((rdOf ByteArray.empty x32 x34).size : Int) > 4 then (some (0, 0, 0, 0, 0, 3, false)) else (if (rd y409 x34) < 0 then (some (0, 0, 0, 0, 0, 3, false)) else (spec_ReadCmd.l0 k x7 y409 x32 x33 (wrap64 (x34 + 1)))))) else (none))) else (none)) else (none)) else (if 0 < (x8.length : Int) then (if 1 < (x8.length : Int) then (if 2 < (x8.length : Int) then (if 3 < (x8.length : Int) then (if x7 = 0 then (some (x7, rd x8 0, rd x8 1, rd x8 2, rd x8 3, 0, true)) else ((spec_l2Code.f x7 (rd x8 0) (rd x8 1) (rd x8 2) (rd x8 3)).bind fun t416 => (if t416 > 0 then (some (0, 0, 0, 0, 0, t416, false)) else (some (x7, rd x8 0, rd x8 1, rd x8 2, rd x8 3, 0, true))))) else (none)) else (none)) else (none)) else (none))
end
def spec_ReadCmd.f (k : Nat) (a0 : ByteArray) : Option (Int × Int × Int × Int × Int × Int × Bool) := (spec_l1Split.f k a0 32).bind fun t396 => (if 0 < (t396.length : Int) then (if (rdOf ByteArray.empty t396 0).toList = ([109, 111, 118, 101] : List UInt8) then (spec_ReadCmd.j0 k t396 5 1) else (if (rdOf ByteArray.empty t396 0).toList = ([114, 101, 97, 100] : List UInt8) then (spec_ReadCmd.j0 k t396 3 2) else (if (rdOf ByteArray.empty t396 0).toList = ([45] : List UInt8) then (spec_ReadCmd.j0 k t396 1 0) else (some (0, 0, 0, 0, 0, 1, false))))) else (none))
theorem spec_ReadCmd.mono_l : ∀ k, (∀ y0 y1 y2, LeO (spec_ReadCmd.j0 k y0 y1 y2) (spec_ReadCmd.j0 (k + 1) y0 y1 y2)) ∧ (∀ y0 y1 y2 y3 y4, LeO (spec_ReadCmd.l0 k y0 y1 y2 y3 y4) (spec_ReadCmd.l0 (k + 1) y0 y1 y2 y3 y4))
 | 0 => ⟨fun _ _ _ r h => by simp [spec_ReadCmd.j0] at h, fun _ _ _ _ _ r h => by simp [spec_ReadCmd.l0] at h⟩
 | k + 1 => by
  obtain ⟨ih0, ih1⟩ := spec_ReadCmd.mono_l k
  refine ⟨?_, ?_⟩
  ·intro y0 y1 y2
   unfold spec_ReadCmd.j0
   repeat' first
   | (with_reducible exact ih0 _ _ _)
   | (with_reducible exact ih1 _ _ _ _ _)
   | (with_reducible exact spec_l1Read.mono _ _)
   | (with_reducible exact spec_l1Split.mono _ _ _)
   | (with_reducible exact LeO.refl _)
   | (with_reducible exact LeO.none _)
   | (with_reducible refine LeO.ite ?_ ?_)
   | (with_reducible refine LeO.bind ?_ (fun _ => ?_))
   | exact ih0 _ _ _
   | exact ih1 _ _ _ _ _
   | exact spec_l1Read.mono _ _
   | exact spec_l1Split.mono _ _ _
   | exact LeO.none _
   | refine LeO.ite ?_ ?_
   | refine LeO.bind ?_ (fun _ => ?_)
  ·intro y0 y1 y2 y3 y4
   unfold spec_ReadCmd.l0
   repeat' first
   | (with_reducible exact ih0 _ _ _)
   | (with_reducible exact ih1 _ _ _ _ _)
   | (with_reducible exact spec_l1Read.mono _ _)
   | (with_reducible exact spec_l1Split.mono _ _ _)
   | (with_reducible exact LeO.refl _)
   | (with_reducible exact LeO.none _)
   | (with_reducible refine LeO.ite ?_ ?_)
   | (with_reducible refine LeO.bind ?_ (fun _ => ?_))
   | exact ih0 _ _ _
   | exact ih1 _ _ _ _ _
   | exact spec_l1Read.mono _ _
   | exact spec_l1Split.mono _ _ _
   | exact LeO.none _
   | refine LeO.ite ?_ ?_
   | refine LeO.bind ?_ (fun _ => ?_)
theorem spec_ReadCmd.mono : ∀ a0 k, LeO (spec_ReadCmd.f k a0) (spec_ReadCmd.f (k + 1) a0) := by
 intro a0 k
 obtain ⟨ih0, ih1⟩ := spec_ReadCmd.mono_l k
 unfold spec_ReadCmd.f
 repeat' first
   | (with_reducible exact ih0 _ _ _)
   | (with_reducible exact ih1 _ _ _ _ _)
   | (with_reducible exact spec_l1Read.mono _ _)
   | (with_reducible exact spec_l1Split.mono _ _ _)
   | (with_reducible exact LeO.refl _)
   | (with_reducible exact LeO.none _)
   | (with_reducible refine LeO.ite ?_ ?_)
   | (with_reducible refine LeO.bind ?_ (fun _ => ?_))
   | exact ih0 _ _ _
   | exact ih1 _ _ _ _ _
   | exact spec_l1Read.mono _ _
   | exact spec_l1Split.mono _ _ _
   | exact LeO.none _
   | refine LeO.ite ?_ ?_
   | refine LeO.bind ?_ (fun _ => ?_)
def spec_ReadCmd.T23 : Bool × List (List Nat × List Nat) := (true, [([], []), ([], []), ([1], [1]), ([2], [2]), ([], []), ([4], [4]), ([5], [5]), ([], []), ([7], [7]), ([8], [8]), ([], []), ([10], [10]), ([11], [11]), ([0, 3, 6, 9, 12], [0, 3, 6, 9, 12]), ([], []), ([14, 13, 0, 1, 2, 3, 4, 5, 6, 7, 8, 9, 10, 11, 12, 13, 14], [13, 14])])
def spec_ReadCmd.B23 : List Nat := [0, 0, 2, 6, 0, 16, 48, 0, 128, 384, 0, 1024, 3072, 8191, 0, 32767]
theorem spec_ReadCmd.tab23 : rtab .any (opsOf Tryd.f20 23) = spec_ReadCmd.T23 := by kernel_rfl
theorem spec_ReadCmd.bits23 : waitsOk spec_ReadCmd.T23.2 spec_ReadCmd.B23 = true := by kernel_rfl
theorem spec_ReadCmd.calls (k : Nat) (a0 : ByteArray) (r1 : Int) (r2 : Int) (r3 : Int) (r4 : Int) (r5 : Int) (r6 : Int) (r7 : Bool) (w : World) (h : spec_ReadCmd.f k a0 = some (r1, r2, r3, r4, r5, r6, r7)) :
  Calls Tryd.prog 20 #[.string a0] w fun e w' => e = .returned (.tuple #[.agg #[.int .i64 r1, .int .i64 r2, .int .i64 r3, .int .i64 r4, .int .i64 r5], .int .i64 r6, .bool r7]) ∧ Below w.heap.size w w' := by
 have hu25 := Tryd.underlying25
 have HB := Am (Below.refl w.heap.size w)
 have H : ((spec_l1Split.f k a0 32).bind fun t396 => (if 0 < (t396.length : Int) then (if (rdOf ByteArray.empty t396 0).toList = ([109, 111, 118, 101] : List UInt8) then (spec_ReadCmd.j0 k t396 5 1) else (if (rdOf ByteArray.empty t396 0).toList = ([114, 101, 97, 100] : List UInt8) then (spec_ReadCmd.j0 k t396 3 2) else (if (rdOf ByteArray.empty t396 0).toList = ([45] : List UInt8) then (spec_ReadCmd.j0 k t396 1 0) else (some (0, 0, 0, 0, 0, 1, false))))) else (none))) = some (r1, r2, r3, r4, r5, r6, r7) := h
 clear h
 replace H := Option.bind_eq_some_iff.mp H
 obtain ⟨t396, A20, H⟩ := H
 replace H : (if 0 < (t396.length : Int) then (if (rdOf ByteArray.empty t396 0).toList = ([109, 111, 118, 101] : List UInt8) then (spec_ReadCmd.j0 k t396 5 1) else (if (rdOf ByteArray.empty t396 0).toList = ([114, 101, 97, 100] : List UInt8) then (spec_ReadCmd.j0 k t396 3 2) else (if (rdOf ByteArray.empty t396 0).toList = ([45] : List UInt8) then (spec_ReadCmd.j0 k t396 1 0) else (some (0, 0, 0, 0, 0, 1, false))))) else (none)) = some (r1, r2, r3, r4, r5, r6, r7) := H
 have A2 := Am A20
 clear A20
 by_cases c3 : 0 < (t396.length : Int)
 ·rw [if_pos c3] at H
  have c3b0 : decide (0 < (t396.length : Int)) = true := Od c3
  have c3b1 : decide (0 < t396.length) = true := Od (by omega)
  clear c3
  have HC4 := Am H
  clear H
  go_enter Tryd.func20, Tryd.ntmps20
  go_upto_block 0 with (first | ((refine Gd (N := 2) rfl ?_); refine Be ?hg (N := 2) ?hd (cs := #[.int .i64 0, .int .i64 0, .int .i64 0, .int .i64 0, .int .i64 0]) (t := 25) ?hr ?_; (case hd | hg => rfl); (case hr => go_simp <;> rfl); intro gb395 hg w5 hbox hb; have n0_ := Am (Bt (by repeat (first | exact HB.out | apply Ba | apply Bn | apply Bd)) hb); have n1_ := Am (hbox); have n2_ := Am ((by rw [hg]; exact (Bz (by repeat (first | exact HB.out | apply Ba | apply Bn | apply Bd))) : w.heap.size ≤ gb395)); have n3_ := Am ((by rw [hg]; exact (Bz (by repeat (first | exact HB.out | apply Ba | apply Bn | apply Bd))) : w.heap.size ≤ gb395)); clear HB; have HB := n0_; have BK395 := n1_; have GW395 := n2_; have GE395 := n3_; clear n0_ n1_ n2_ n3_; clear hb hbox hg) | ((refine Gc (f := 51) rfl ?_); refine goesL_ (some 14) rfl rfl Tryd.func51 (by kernel_rfl) rfl #[.string a0, .int .u8 32] rfl (by first | rfl | simp only [Lm, Lc, Ln] <;> rfl) ?_; (with_reducible refine (spec_l1Split.calls k a0 32 t396 _ A2.out).mono ?_); rintro e w6 ⟨v397, rfl, ho0, hb⟩; refine ⟨_, rfl, ?_⟩; have n0_ := Am (Kd.R_lower ho0 (Bz (by repeat (first | (with_reducible first | exact HB.out | apply Ba | apply Bn | apply Bd | refine Bs ?_ GE395.out) | exact HB.out)))); have n1_ := Am (Kb (g := gb395) (o := .cells #[.int .i64 0, .int .i64 0, .int .i64 0, .int .i64 0, .int .i64 0] 25 (0, 0)) (by (with_reducible repeat (first | refine Kn ?_ _ | refine Ke ?_ | refine Ka ?_ _)); exact BK395.out) hb); have n2_ := Am (Bt (by repeat (first | (with_reducible first | exact HB.out | apply Ba | apply Bn | apply Bd | refine Bs ?_ GE395.out) | exact HB.out)) hb); clear BK395; clear HB; have HO398 := n0_; have BK395 := n1_; have HB := n2_; clear n0_ n1_ n2_; (try clear hb); (try clear hb2); (try clear hk); (try clear hi); (try clear ho0); obtain ⟨Ao7, co7, eo7⟩ := Kd.R_slice HO398.out; subst eo7; have p399 : 0 ≤ (0 : Int) := (by omega); have q399 : 0 < (t396.length : Int) := Oq (by assumption); obtain ⟨ad399, e399, hx399_0⟩ := Kd.at_string (Rr HO398.out).2.2 0 p399 q399; cases e399; have qi399 : (0 < t396.length) = True := eq_true (by omega); (try rw [show ((0 : Int)).toNat = 0 from rfl] at hx399_0); (try rw [Addr.add_zero'] at hx399_0); replace p399 := eq_true p399; replace q399 := eq_true q399))
  (try simp only [Act.put, Lt, Lz, Ls])
  go_cut [6, 7] (fun v6 v7 wc => ∃ (kq : Nat) (x6_3 : Int) (x7_3 : Int) (x396000_3 : Int) (x396001_3 : Int) (x396002_3 : Int) (x396003_3 : Int) (x396004_3 : Int), v6 = .int .i64 x6_3 ∧ v7 = .int .i64 x7_3 ∧ Ad (spec_ReadCmd.j0 kq t396 x6_3 x7_3 = some (r1, r2, r3, r4, r5, r6, r7)) ∧ Ad (kq ≤ k) ∧ Ad (Kd.R Kd.string 9 wc w.heap.size (fun _ => True) (.slice (some ad399) t396.length co7) t396) ∧ Ad (wc.heap[gb395]? = some (.cells #[.int .i64 x396000_3, .int .i64 x396001_3, .int .i64 x396002_3, .int .i64 x396003_3, .int .i64 x396004_3] 25 (0, 0))) ∧ Ad (Below w.heap.size w wc))
  case first =>
   have H := HC4.out
   clear HC4
   by_cases c8 : (rdOf ByteArray.empty t396 0).toList = ([109, 111, 118, 101] : List UInt8)
   ·rw [if_pos c8] at H
    have c8b0 : ((rdOf ByteArray.empty t396 0).toList == ([109, 111, 118, 101] : List UInt8)) = true := beq_iff_eq.mpr c8
    have c8b1 : ((rdOf ByteArray.empty t396 0).toList != ([109, 111, 118, 101] : List UInt8)) = false := bne_eq_false_iff_eq.mpr c8
    clear c8
    (first | rw [c8b0] | (simp only [i64_w, i32_w]; rw [c8b0]) | skip)
    have H' := Am H
    clear H
    go_wp2
    go_meet
    case rel => exact ⟨_, (5), (1), (0), (0), (0), (0), (0), (by first | rfl | (simp; done) | (simp [*]; done)), (by first | rfl | (simp; done) | (simp [*]; done)), H', ⟨by first | omega | exact Nat.le_refl _⟩, ⟨by (with_reducible repeat (first | apply Ra | apply Rn | apply Rd)); exact HO398.out⟩, ⟨by (with_reducible repeat (first | refine Kn ?_ _ | refine Ke ?_ | refine Ka ?_ _)); exact BK395.out⟩, ⟨by repeat (first | (with_reducible first | exact HB.out | apply Ba | apply Bn | apply Bd | refine Bs ?_ GE395.out) | exact HB.out)⟩⟩
   ·rw [if_neg c8] at H
    have c8b0 : ((rdOf ByteArray.empty t396 0).toList == ([109, 111, 118, 101] : List UInt8)) = false := beq_eq_false_iff_ne.mpr c8
    have c8b1 : ((rdOf ByteArray.empty t396 0).toList != ([109, 111, 118, 101] : List UInt8)) = true := bne_iff_ne.mpr c8
    (first | rw [c8b0] | (simp only [i64_w, i32_w]; rw [c8b0]) | skip)
    by_cases c9 : (rdOf ByteArray.empty t396 0).toList = ([114, 101, 97, 100] : List UInt8)
    ·rw [if_pos c9] at H
     have c9b0 : ((rdOf ByteArray.empty t396 0).toList == ([114, 101, 97, 100] : List UInt8)) = true := beq_iff_eq.mpr c9
     have c9b1 : ((rdOf ByteArray.empty t396 0).toList != ([114, 101, 97, 100] : List UInt8)) = false := bne_eq_false_iff_eq.mpr c9
     clear c9
     have H' := Am H
     clear H
     go_wp2
     go_meet
     case rel => exact ⟨_, (3), (2), (0), (0), (0), (0), (0), (by first | rfl | (simp; done) | (simp [*]; done)), (by first | rfl | (simp; done) | (simp [*]; done)), H', ⟨by first | omega | exact Nat.le_refl _⟩, ⟨by (with_reducible repeat (first | apply Ra | apply Rn | apply Rd)); exact HO398.out⟩, ⟨by (with_reducible repeat (first | refine Kn ?_ _ | refine Ke ?_ | refine Ka ?_ _)); exact BK395.out⟩, ⟨by repeat (first | (with_reducible first | exact HB.out | apply Ba | apply Bn | apply Bd | refine Bs ?_ GE395.out) | exact HB.out)⟩⟩
    ·rw [if_neg c9] at H
     have c9b0 : ((rdOf ByteArray.empty t396 0).toList == ([114, 101, 97, 100] : List UInt8)) = false := beq_eq_false_iff_ne.mpr c9
     have c9b1 : ((rdOf ByteArray.empty t396 0).toList != ([114, 101, 97, 100] : List UInt8)) = true := bne_iff_ne.mpr c9
     by_cases c10 : (rdOf ByteArray.empty t396 0).toList = ([45] : List UInt8)
     ·rw [if_pos c10] at H
      have c10b0 : ((rdOf ByteArray.empty t396 0).toList == ([45] : List UInt8)) = true := beq_iff_eq.mpr c10
      have c10b1 : ((rdOf ByteArray.empty t396 0).toList != ([45] : List UInt8)) = false := bne_eq_false_iff_eq.mpr c10
      clear c10
      have H' := Am H
      clear H
      go_wp2
      go_meet
      case rel => exact ⟨_, (1), (0), (0), (0), (0), (0), (0), (by first | rfl | (simp; done) | (simp [*]; done)), (by first | rfl | (simp; done) | (simp [*]; done)), H', ⟨by first | omega | exact Nat.le_refl _⟩, ⟨by (with_reducible repeat (first | apply Ra | apply Rn | apply Rd)); exact HO398.out⟩, ⟨by (with_reducible repeat (first | refine Kn ?_ _ | refine Ke ?_ | refine Ka ?_ _)); exact BK395.out⟩, ⟨by repeat (first | (with_reducible first | exact HB.out | apply Ba | apply Bn | apply Bd | refine Bs ?_ GE395.out) | exact HB.out)⟩⟩
     ·rw [if_neg c10] at H
      have c10b0 : ((rdOf ByteArray.empty t396 0).toList == ([45] : List UInt8)) = false := beq_eq_false_iff_ne.mpr c10
      have c10b1 : ((rdOf ByteArray.empty t396 0).toList != ([45] : List UInt8)) = true := bne_iff_ne.mpr c10
      simp only [Option.some.injEq, Prod.mk.injEq] at H
      obtain ⟨rfl, rfl, rfl, rfl, rfl, rfl, rfl⟩ := H
      have hcz11_0 : w6.cell? ⟨gb395, 0, none⟩ = some (.int .i64 0) := (Kc BK395.out 0).trans rfl
      have hcz11_1 : w6.cell? ⟨gb395, 1, none⟩ = some (.int .i64 0) := (Kc BK395.out 1).trans rfl
      have hcz11_2 : w6.cell? ⟨gb395, 2, none⟩ = some (.int .i64 0) := (Kc BK395.out 2).trans rfl
      have hcz11_3 : w6.cell? ⟨gb395, 3, none⟩ = some (.int .i64 0) := (Kc BK395.out 3).trans rfl
      have hcz11_4 : w6.cell? ⟨gb395, 4, none⟩ = some (.int .i64 0) := (Kc BK395.out 4).trans rfl
      have hfz11_0 := Kz BK395.out 0
      have hfz11_1 := Kz BK395.out 1
      have hfz11_2 := Kz BK395.out 2
      have hfz11_3 := Kz BK395.out 3
      have hfz11_4 := Kz BK395.out 4
      go_wp2
      refine bodyPost_ret (results_ctt rfl _ _ gb395 25 #[.int .i64 0, .int .i64 0, .int .i64 0, .int .i64 0, .int .i64 0] (0, 0) _ rfl (by (with_reducible repeat (first | refine Kn ?_ _ | refine Ke ?_ | refine Ka ?_ _)); refine blk_put (cs := #[.int .i64 0, .int .i64 0, .int .i64 0, .int .i64 0, .int .i64 0]) ?_ 4 _ rfl; (with_reducible repeat (first | refine Kn ?_ _ | refine Ke ?_ | refine Ka ?_ _)); refine blk_put (cs := #[.int .i64 0, .int .i64 0, .int .i64 0, .int .i64 0, .int .i64 0]) ?_ 3 _ rfl; (with_reducible repeat (first | refine Kn ?_ _ | refine Ke ?_ | refine Ka ?_ _)); refine blk_put (cs := #[.int .i64 0, .int .i64 0, .int .i64 0, .int .i64 0, .int .i64 0]) ?_ 2 _ rfl; (with_reducible repeat (first | refine Kn ?_ _ | refine Ke ?_ | refine Ka ?_ _)); refine blk_put (cs := #[.int .i64 0, .int .i64 0, .int .i64 0, .int .i64 0, .int .i64 0]) ?_ 1 _ rfl; (with_reducible repeat (first | refine Kn ?_ _ | refine Ke ?_ | refine Ka ?_ _)); refine blk_put (cs := #[.int .i64 0, .int .i64 0, .int .i64 0, .int .i64 0, .int .i64 0]) ?_ 0 _ rfl; (with_reducible repeat (first | refine Kn ?_ _ | refine Ke ?_ | refine Ka ?_ _)); exact BK395.out) Tryd.underlying25 rfl (by kernel_rfl)) rfl ?_
      exact ⟨by first | rfl | (simp [*, errW_none, errW_some] <;> rfl), by repeat (first | (with_reducible first | exact HB.out | apply Ba | apply Bn | apply Bd | refine Bs ?_ GE395.out) | exact HB.out)⟩
  case rest =>
   clear HC4
   try clear c1
   try clear c2
   try clear p2
   try clear c3
   try clear c3b0
   try clear c3b1
   try clear p3
   try clear q3
   try clear hx3
   try clear qi3
   try clear c5
   try clear c8
   try clear c8b0
   try clear c8b1
   try clear c9
   try clear c9b0
   try clear c9b1
   try clear c10
   try clear c10b0
   try clear c10b1
   try clear hcz11_0
   try clear hcz11_1
   try clear hcz11_2
   try clear hcz11_3
   try clear hcz11_4
   try clear hfz11_0
   try clear hfz11_1
   try clear hfz11_2
   try clear hfz11_3
   try clear hfz11_4
   try clear hx399_0
   try clear p399
   try clear q399
   obtain ⟨kq, x6_3, x7_3, x396000_3, x396001_3, x396002_3, x396003_3, x396004_3, rfl, rfl, HA, HJ3, HO_5, BK395, HB⟩ := hcut
   cases kq with
   | zero => exact absurd HA.out (by simp [spec_ReadCmd.j0])
   | succ kj3 =>
    have H := HA.out
    clear HA
    simp only [spec_ReadCmd.j0] at H
    by_cases c12 : (t396.length : Int) = x6_3
    ·rw [if_pos c12] at H
     have c12b0 : ((t396.length : Int) == x6_3) = true := beq_iff_eq.mpr c12
     have c12b1 : ((t396.length : Int) != x6_3) = false := bne_eq_false_iff_eq.mpr c12
     clear c12
     by_cases c13 : 4 ≤ 35184372088832
     ·rw [if_pos c13] at H
      have c13b0 := eq_true c13
      have c13b1 : decide (4 ≤ 35184372088832) = true := Od c13
      clear c13
      obtain ⟨y400, hy400⟩ : ∃ y_ : List Int, y_ = (List.replicate 4 0) := ⟨_, rfl⟩
      replace H : (if 1 ≤ (t396.length : Int) then ((some (t396.drop 1 : List ByteArray)).bind fun y403 => (spec_ReadCmd.l0 kj3 x7_3 y400 y403 (y403.length : Int) 0)) else (none)) = some (r1, r2, r3, r4, r5, r6, r7) := by first | (rw [hy400]; with_reducible exact H) | (have H2_ := (Option.bind_some _ _).symm.trans H; rw [hy400]; with_reducible exact H2_) | (have H2_ := (Option.bind_some _ _).symm.trans H; with_reducible exact H2_) | with_reducible exact H | (rw [hy400]; exact H) | exact H
      have Ny400 := Am hy400
      clear hy400
      by_cases c14 : 1 ≤ (t396.length : Int)
      ·rw [if_pos c14] at H
       have c14b0 := eq_true c14
       have c14b1 : decide (1 ≤ (t396.length : Int)) = true := Od c14
       clear c14
       obtain ⟨y403, hy403⟩ : ∃ y_ : List ByteArray, y_ = (t396.drop 1) := ⟨_, rfl⟩
       replace H : (spec_ReadCmd.l0 kj3 x7_3 y400 y403 (y403.length : Int) 0) = some (r1, r2, r3, r4, r5, r6, r7) := by first | (rw [hy403]; with_reducible exact H) | (have H2_ := (Option.bind_some _ _).symm.trans H; rw [hy403]; with_reducible exact H2_) | (have H2_ := (Option.bind_some _ _).symm.trans H; with_reducible exact H2_) | with_reducible exact H | (rw [hy403]; exact H) | exact H
       have Ny403 := Am hy403
       clear hy403
       have H' := Am H
       clear H
       go_wp2_with (first | ((refine Gd (N := 30) rfl ?_); refine Kd.R_make (Kd.int .i64) _ 3 rfl (N := 30) rfl 32 _ _ rfl 4 rfl rfl Tryd.underlying32 (.int .i64 0) 8 info3 rfl (by decide) (by omega) 0 (ok := fun _ => True) (okp := fun _ => True) rfl (fun _ hk => hk) trivial (by omega) (by omega) (Below.refl _ _) (Nat.le_refl _) ?_; intro v401 w15 ho16 hb hg_ hnew_; clear hg_ hnew_; (first | rw [← Ny400.out] at ho16 | (simp only [Int.reduceToNat] at ho16; rw [← Ny400.out] at ho16)); have n0_ := Am (Rb (by (with_reducible repeat (first | apply Ra | apply Rn | apply Rd)); exact HO_5.out) hb); have n1_ := Am (Kd.R_lower ho16 (Bz (by repeat (first | (with_reducible first | exact HB.out | apply Ba | apply Bn | apply Bd | refine Bs ?_ GE395.out) | exact HB.out)))); have n2_ := Am (Kb (g := gb395) (o := .cells #[.int .i64 x396000_3, .int .i64 x396001_3, .int .i64 x396002_3, .int .i64 x396003_3, .int .i64 x396004_3] 25 (0, 0)) (by (with_reducible repeat (first | refine Kn ?_ _ | refine Ke ?_ | refine Ka ?_ _)); exact BK395.out) hb); have n3_ := Am (Bt (by repeat (first | (with_reducible first | exact HB.out | apply Ba | apply Bn | apply Bd | refine Bs ?_ GE395.out) | exact HB.out)) hb); clear HO_5; clear BK395; clear HB; have HO_5 := n0_; have HO402 := n1_; have BK395 := n2_; have HB := n3_; clear n0_ n1_ n2_ n3_; clear hb ho16; have q17 : (1 : Int) ≤ ((t396.length : Int) : Int) := Oq (by assumption); obtain ⟨i017, hi017, _, hsz17, _⟩ := info_parts info9; have hroom17 : t396.length ≤ co7 := (Rr HO_5.out).2.1; have hC17 : Kd.C Kd.string _ (some ad399) t396.length t396 := (Rr HO_5.out).2.2; have hcut17 := cut_from (P := Tryd.prog) 62 9 .i64 Tryd.underlying62 hi017 1 hsz17 (some ad399) t396.length co7 1 (by omega) q17; have hr17 := Kd.C_drop (m := (1 : Int).toNat) (c := co7) hC17 (by omega) hroom17; obtain ⟨A17, hA17⟩ : ∃ A1, A1 = (if co7 = (1 : Int).toNat then (some ad399) else ((some ad399) : Option Addr).map (·.add ((1 : Int).toNat * 1))) := ⟨_, rfl⟩; obtain ⟨c17, hc17⟩ : ∃ c1, c1 = co7 - (1 : Int).toNat := ⟨_, rfl⟩; have hy17 : y403.length = t396.length - (1 : Int).toNat := (by rw [Ny403.out, List.length_drop] <;> omega); rw [show (t396).drop (1 : Int).toNat = y403 from Ny403.out.symm] at hr17; replace hr17 : Kd.C Kd.string _ A17 y403.length y403 := (by rw [hA17]; exact hr17); rw [← hy17, ← hA17, ← hc17] at hcut17; have HR406 := Am hr17; have HC406 := Am (show y403.length ≤ c17 from by rw [hy17, hc17]; exact Nat.sub_le_sub_right hroom17 _); clear hr17 hC17 hroom17 hi017 hsz17 hc17; have KY17 := Am hy17; have KA17 := Am hA17; clear hy17 hA17; have KL17 := Am (show 1 ≤ t396.length from by omega); replace q17 := eq_true q17))
       go_loopg [34] kj3 (fun kq v34 w' => ∃ (x8_2 : List Int) (x34_2 : Int) (x396000_2 : Int) (x396001_2 : Int) (x396002_2 : Int) (x396003_2 : Int) (x396004_2 : Int), v34 = .int .i64 x34_2 ∧ Ad (spec_ReadCmd.l0 kq x7_3 x8_2 y403 (y403.length : Int) x34_2 = some (r1, r2, r3, r4, r5, r6, r7)) ∧ Ad (kq ≤ kj3) ∧ Ad (Kd.R (Kd.int .i64) 3 w' w.heap.size (fun _ => True) v401 x8_2) ∧ Ad (w'.heap[gb395]? = some (.cells #[.int .i64 x396000_2, .int .i64 x396001_2, .int .i64 x396002_2, .int .i64 x396003_2, .int .i64 x396004_2] 25 (0, 0))) ∧ Ad (Below w.heap.size w w') ∧ Ad (Kd.R Kd.string 9 w' w.heap.size (fun _ => True) (.slice (some ad399) t396.length co7) t396))
       case atStart => exact ⟨(y400), (0), (x396000_3), (x396001_3), (x396002_3), (x396003_3), (x396004_3), (by first | rfl | (simp; done) | (simp [*]; done)), H', ⟨Nat.le_refl _⟩, ⟨by (with_reducible repeat (first | apply Ra | apply Rn | apply Rd)); exact HO402.out⟩, ⟨by (with_reducible repeat (first | refine Kn ?_ _ | refine Ke ?_ | refine Ka ?_ _)); exact BK395.out⟩, ⟨by repeat (first | (with_reducible first | exact HB.out | apply Ba | apply Bn | apply Bd | refine Bs ?_ GE395.out) | exact HB.out)⟩, ⟨by (with_reducible repeat (first | apply Ra | apply Rn | apply Rd)); exact HO_5.out⟩⟩
       case round =>
        clear H'
        try clear c1
        try clear q1
        try clear c2
        try clear p2
        try clear c3
        try clear c3b0
        try clear c3b1
        try clear p3
        try clear q3
        try clear hx3
        try clear qi3
        try clear c5
        try clear c8
        try clear c8b0
        try clear c8b1
        try clear c9
        try clear c9b0
        try clear c9b1
        try clear c10
        try clear c10b0
        try clear c10b1
        try clear c12
        try clear c12b0
        try clear c12b1
        try clear c13
        try clear c13b0
        try clear c13b1
        try clear c14
        try clear c14b0
        try clear c14b1
        try clear c17
        try clear q17
        try clear hcz11_0
        try clear hcz11_1
        try clear hcz11_2
        try clear hcz11_3
        try clear hcz11_4
        try clear hfz11_0
        try clear hfz11_1
        try clear hfz11_2
        try clear hfz11_3
        try clear hfz11_4
        try clear hx399_0
        try clear p2
        try clear p3
        try clear p399
        try clear q17
        try clear q3
        try clear q399
        obtain ⟨x8_2, x34_2, x396000_2, x396001_2, x396002_2, x396003_2, x396004_2, rfl, HA, HK2, HO_8, BK395, HB, HSR⟩ := hrel
        clear HR406
        have HR406 : Ad (Kd.C Kd.string wr A17 y403.length y403) := ⟨by
         have h1 := Kd.C_drop (m := (1 : Int).toNat) (c := co7) (Rr HSR.out).2.2 (by have := KL17.out; omega) (Rr HSR.out).2.1
         rw [show (t396).drop (1 : Int).toNat = y403 from Ny403.out.symm] at h1
         rw [KA17.out]
         exact h1⟩
        cases gk with
        | zero => exact absurd HA.out (by simp [spec_ReadCmd.l0])
        | succ k2 =>
         have H := HA.out
         clear HA
         simp only [spec_ReadCmd.l0] at H
         by_cases c18 : x34_2 < (y403.length : Int)
         ·rw [if_pos c18] at H
          have c18b0 : decide (x34_2 < (y403.length : Int)) = true := Od c18
          clear c18
          by_cases c19 : 0 ≤ x34_2
          ·rw [if_pos c19] at H
           have c19b0 : decide (0 ≤ x34_2) = true := Od c19
           clear c19
           by_cases c20 : x34_2 < (y403.length : Int)
           ·rw [if_pos c20] at H
            have c20b0 : decide (x34_2 < (y403.length : Int)) = true := Od c20
            clear c20
            replace H := Option.bind_eq_some_iff.mp H
            obtain ⟨t408, A210, H⟩ := H
            replace H : (if x34_2 < (x8_2.length : Int) then ((some (x8_2.set (x34_2 : Int).toNat t408 : List Int)).bind fun y409 => (if ((rdOf ByteArray.empty y403 x34_2).size : Int) > 4 then (some (0, 0, 0, 0, 0, 3, false)) else (if (rd y409 x34_2) < 0 then (some (0, 0, 0, 0, 0, 3, false)) else (spec_ReadCmd.l0 k2 x7_3 y409 y403 (y403.length : Int) (wrap64 (x34_2 + 1)))))) else (none)) = some (r1, r2, r3, r4, r5, r6, r7) := H
            have A21 := Am A210
            clear A210
            by_cases c22 : x34_2 < (x8_2.length : Int)
            ·rw [if_pos c22] at H
             have c22b0 : decide (x34_2 < (x8_2.length : Int)) = true := Od c22
             clear c22
             obtain ⟨y409, hy409⟩ : ∃ y_ : List Int, y_ = (x8_2.set (x34_2 : Int).toNat t408) := ⟨_, rfl⟩
             replace H : (if ((rdOf ByteArray.empty y403 x34_2).size : Int) > 4 then (some (0, 0, 0, 0, 0, 3, false)) else (if (rd y409 x34_2) < 0 then (some (0, 0, 0, 0, 0, 3, false)) else (spec_ReadCmd.l0 k2 x7_3 y409 y403 (y403.length : Int) (wrap64 (x34_2 + 1))))) = some (r1, r2, r3, r4, r5, r6, r7) := by first | (rw [hy409]; with_reducible exact H) | (have H2_ := (Option.bind_some _ _).symm.trans H; rw [hy409]; with_reducible exact H2_) | (have H2_ := (Option.bind_some _ _).symm.trans H; with_reducible exact H2_) | with_reducible exact H | (rw [hy409]; exact H) | exact H
             have Ny409 := Am hy409
             clear hy409
             by_cases c24 : ((rdOf ByteArray.empty y403 x34_2).size : Int) > 4
             ·rw [if_pos c24] at H
              have c24b0 : decide (4 < ((rdOf ByteArray.empty y403 x34_2).size : Int)) = true := Od c24
              have c24b1 : decide (4 < (rdOf ByteArray.empty y403 x34_2).size) = true := Od (by omega)
              clear c24
              simp only [Option.some.injEq, Prod.mk.injEq] at H
              obtain ⟨rfl, rfl, rfl, rfl, rfl, rfl, rfl⟩ := H
              have p407 : 0 ≤ (x34_2 : Int) := Oq (by assumption)
              have q407 : x34_2 < (y403.length : Int) := Oq (by assumption)
              obtain ⟨ad407, e407, hx407_0⟩ := Kd.at_string HR406.out x34_2 p407 q407
              cases e407
              (try replace hx407_0 := (HB.out.cell (bl_ w _ hx407_0)).trans hx407_0)
              replace p407 := eq_true p407
              replace q407 := eq_true q407
              go_wp2_with (first | ((refine Gc (f := 52) rfl ?_); refine goesL_ (some 42) rfl rfl Tryd.func52 (by kernel_rfl) rfl #[.string (rdOf ByteArray.empty y403 x34_2)] rfl (by first | rfl | simp only [Lm, Lc, Ln] <;> rfl) ?_; (with_reducible refine (spec_l1Read.calls k2 (rdOf ByteArray.empty y403 x34_2) t408 _ A21.out).mono ?_); rintro e w' ⟨rfl, ⟨nd, rfl⟩⟩; refine ⟨_, rfl, ?_⟩; (try (rw [drewN_self wr]; generalize hq_ : World.drewN wr _ = wr; have n0_ : Ad (Kd.R (Kd.int .i64) 3 wr w.heap.size (fun _ => True) v401 x8_2) := ⟨by rw [← hq_]; exact (by (with_reducible repeat (first | apply Ra | apply Rn | apply Rd)); exact HO_8.out)⟩; have n1_ : Ad (wr.heap[gb395]? = some (.cells #[.int .i64 x396000_2, .int .i64 x396001_2, .int .i64 x396002_2, .int .i64 x396003_2, .int .i64 x396004_2] 25 (0, 0))) := ⟨by rw [← hq_]; exact (by (with_reducible repeat (first | refine Kn ?_ _ | refine Ke ?_ | refine Ka ?_ _)); exact BK395.out)⟩; have n2_ : Ad (Below w.heap.size w wr) := ⟨by rw [← hq_]; exact (by repeat (first | (with_reducible first | exact HB.out | apply Ba | apply Bn | apply Bd | refine Bs ?_ GE395.out) | exact HB.out))⟩; have n7_ : Ad (Kd.R Kd.string 9 wr w.heap.size (fun _ => True) (.slice (some ad399) t396.length co7) t396) := ⟨by rw [← hq_]; exact Rn HSR.out _⟩; clear HO_8 BK395 HB HSR hq_; have HSR := n7_; clear n7_; have HO_8 := n0_; have BK395 := n1_; have HB := n2_; clear n0_ n1_ n2_)); have p23 : 0 ≤ (x34_2 : Int) := Oq (by assumption); have q23 : (x34_2 : Int) < ((x8_2.length : Int) : Int) := Oq (by assumption); obtain ⟨go23, co23, eo23, gb23, gl23, cl23, HG23⟩ := Kd.R_form HO_8.out (by omega); (first | cases eo23 | (injection eo23 with ea_ en_ ec_; (first | subst ea_ | (injection ea_ with ea_; subst ea_)); subst ec_; clear en_)); have GB23 := Am gb23; have GG23 := Am HG23; clear gb23 gl23 HG23; obtain ⟨hx23_0, hf23_0⟩ := Kd.R_celln 0 HO_8.out (x34_2 : Int) p23 q23; replace p23 := eq_true p23; replace q23 := eq_true q23; obtain ⟨hy25_, hz25_⟩ := Kd.R_celln 0 HO_8.out (x34_2 : Int) (Oq (by assumption)) (Oq (by assumption)); have HP25 := Kd.R_putg HO_8.out (x34_2 : Int) t408) | ((refine Gs (t := 3) (p := 43) rfl ?_); refine store_event (t := 3) (p := 43) (v := ?vo_w26) (w1 := (wr.setCell ⟨go23, (x34_2 : Int).toNat, none⟩ (.int .i64 t408))) ?hg ?ho ?hn ?hr ?_; (case ho => rfl); (case hg => rfl); (case hn => rfl); (case hr => go_simp <;> rfl); intro w26 hw; have hg : wr.grownBy w26 (some go23) := (by rw [hw]; exact HP25.2); have hp_ : Kd.R (Kd.int .i64) 3 w26 w.heap.size (fun _ => True) (.slice (some ⟨go23, 0, none⟩) x8_2.length co23) y409 := (by rw [hw, Ny409.out]; exact HP25.1); clear HP25; have n0_ := Am (hp_); have n1_ := Am (blk_grown (g := gb395) (o := .cells #[.int .i64 x396000_2, .int .i64 x396001_2, .int .i64 x396002_2, .int .i64 x396003_2, .int .i64 x396004_2] 25 (0, 0)) (by (with_reducible repeat (first | refine Kn ?_ _ | refine Ke ?_ | refine Ka ?_ _)); exact BK395.out) hg (Kd.R_ne HO_8.out BK395.out (by decide))); have n2_ := Am ((by rw [hw]; exact Bs (HB.out) GB23.out : Below w.heap.size w w26)); have n9_ : Ad (Kd.R Kd.string 9 w26 w.heap.size (fun _ => True) (.slice (some ad399) t396.length co7) t396) := ⟨by rw [hw]; exact Rm (Kd.R_far (Kd.R_types HSR.out GG23.out (by decide)) (fun _ hk => hk.2) _) (fun _ hk => hk.1)⟩; clear HSR; have HSR := n9_; clear n9_; clear HO_8; clear BK395; clear HB; have HO_8 := n0_; have BK395 := n1_; have HB := n2_; clear n0_ n1_ n2_; clear hg hw hp_; have hcz27_0 : w26.cell? ⟨gb395, 0, none⟩ = some (.int .i64 x396000_2) := (Kc BK395.out 0).trans rfl; have hcz27_1 : w26.cell? ⟨gb395, 1, none⟩ = some (.int .i64 x396001_2) := (Kc BK395.out 1).trans rfl; have hcz27_2 : w26.cell? ⟨gb395, 2, none⟩ = some (.int .i64 x396002_2) := (Kc BK395.out 2).trans rfl; have hcz27_3 : w26.cell? ⟨gb395, 3, none⟩ = some (.int .i64 x396003_2) := (Kc BK395.out 3).trans rfl; have hcz27_4 : w26.cell? ⟨gb395, 4, none⟩ = some (.int .i64 x396004_2) := (Kc BK395.out 4).trans rfl; have hfz27_0 := Kz BK395.out 0; have hfz27_1 := Kz BK395.out 1; have hfz27_2 := Kz BK395.out 2; have hfz27_3 := Kz BK395.out 3; have hfz27_4 := Kz BK395.out 4))
              refine bodyPost_ret (results_ctt rfl _ _ gb395 25 #[.int .i64 0, .int .i64 0, .int .i64 0, .int .i64 0, .int .i64 0] (0, 0) _ rfl (by (with_reducible repeat (first | refine Kn ?_ _ | refine Ke ?_ | refine Ka ?_ _)); refine blk_put (cs := #[.int .i64 0, .int .i64 0, .int .i64 0, .int .i64 0, .int .i64 x396004_2]) ?_ 4 _ rfl; (with_reducible repeat (first | refine Kn ?_ _ | refine Ke ?_ | refine Ka ?_ _)); refine blk_put (cs := #[.int .i64 0, .int .i64 0, .int .i64 0, .int .i64 x396003_2, .int .i64 x396004_2]) ?_ 3 _ rfl; (with_reducible repeat (first | refine Kn ?_ _ | refine Ke ?_ | refine Ka ?_ _)); refine blk_put (cs := #[.int .i64 0, .int .i64 0, .int .i64 x396002_2, .int .i64 x396003_2, .int .i64 x396004_2]) ?_ 2 _ rfl; (with_reducible repeat (first | refine Kn ?_ _ | refine Ke ?_ | refine Ka ?_ _)); refine blk_put (cs := #[.int .i64 0, .int .i64 x396001_2, .int .i64 x396002_2, .int .i64 x396003_2, .int .i64 x396004_2]) ?_ 1 _ rfl; (with_reducible repeat (first | refine Kn ?_ _ | refine Ke ?_ | refine Ka ?_ _)); refine blk_put (cs := #[.int .i64 x396000_2, .int .i64 x396001_2, .int .i64 x396002_2, .int .i64 x396003_2, .int .i64 x396004_2]) ?_ 0 _ rfl; (with_reducible repeat (first | refine Kn ?_ _ | refine Ke ?_ | refine Ka ?_ _)); exact BK395.out) Tryd.underlying25 rfl (by kernel_rfl)) rfl ?_
              exact ⟨by first | rfl | (simp [*, errW_none, errW_some] <;> rfl), by repeat (first | (with_reducible first | exact HB.out | apply Ba | apply Bn | apply Bd | refine Bs ?_ GE395.out) | exact HB.out)⟩
             ·rw [if_neg c24] at H
              have c24b0 : decide (4 < ((rdOf ByteArray.empty y403 x34_2).size : Int)) = false := decide_eq_false c24
              have c24b1 : decide (4 < (rdOf ByteArray.empty y403 x34_2).size) = false := decide_eq_false (by omega)
              clear c24
              by_cases c28 : (rd y409 x34_2) < 0
              ·rw [if_pos c28] at H
               have c28b0 : decide ((rd y409 x34_2) < 0) = true := Od c28
               clear c28
               simp only [Option.some.injEq, Prod.mk.injEq] at H
               obtain ⟨rfl, rfl, rfl, rfl, rfl, rfl, rfl⟩ := H
               have p407 : 0 ≤ (x34_2 : Int) := Oq (by assumption)
               have q407 : x34_2 < (y403.length : Int) := Oq (by assumption)
               obtain ⟨ad407, e407, hx407_0⟩ := Kd.at_string HR406.out x34_2 p407 q407
               cases e407
               (try replace hx407_0 := (HB.out.cell (bl_ w _ hx407_0)).trans hx407_0)
               replace p407 := eq_true p407
               replace q407 := eq_true q407
               go_wp2_with (first | ((refine Gc (f := 52) rfl ?_); refine goesL_ (some 42) rfl rfl Tryd.func52 (by kernel_rfl) rfl #[.string (rdOf ByteArray.empty y403 x34_2)] rfl (by first | rfl | simp only [Lm, Lc, Ln] <;> rfl) ?_; (with_reducible refine (spec_l1Read.calls k2 (rdOf ByteArray.empty y403 x34_2) t408 _ A21.out).mono ?_); rintro e w' ⟨rfl, ⟨nd, rfl⟩⟩; refine ⟨_, rfl, ?_⟩; (try (rw [drewN_self wr]; generalize hq_ : World.drewN wr _ = wr; have n0_ : Ad (Kd.R (Kd.int .i64) 3 wr w.heap.size (fun _ => True) v401 x8_2) := ⟨by rw [← hq_]; exact (by (with_reducible repeat (first | apply Ra | apply Rn | apply Rd)); exact HO_8.out)⟩; have n1_ : Ad (wr.heap[gb395]? = some (.cells #[.int .i64 x396000_2, .int .i64 x396001_2, .int .i64 x396002_2, .int .i64 x396003_2, .int .i64 x396004_2] 25 (0, 0))) := ⟨by rw [← hq_]; exact (by (with_reducible repeat (first | refine Kn ?_ _ | refine Ke ?_ | refine Ka ?_ _)); exact BK395.out)⟩; have n2_ : Ad (Below w.heap.size w wr) := ⟨by rw [← hq_]; exact (by repeat (first | (with_reducible first | exact HB.out | apply Ba | apply Bn | apply Bd | refine Bs ?_ GE395.out) | exact HB.out))⟩; have n7_ : Ad (Kd.R Kd.string 9 wr w.heap.size (fun _ => True) (.slice (some ad399) t396.length co7) t396) := ⟨by rw [← hq_]; exact Rn HSR.out _⟩; clear HO_8 BK395 HB HSR hq_; have HSR := n7_; clear n7_; have HO_8 := n0_; have BK395 := n1_; have HB := n2_; clear n0_ n1_ n2_)); have p23 : 0 ≤ (x34_2 : Int) := Oq (by assumption); have q23 : (x34_2 : Int) < ((x8_2.length : Int) : Int) := Oq (by assumption); obtain ⟨go23, co23, eo23, gb23, gl23, cl23, HG23⟩ := Kd.R_form HO_8.out (by omega); (first | cases eo23 | (injection eo23 with ea_ en_ ec_; (first | subst ea_ | (injection ea_ with ea_; subst ea_)); subst ec_; clear en_)); have GB23 := Am gb23; have GG23 := Am HG23; clear gb23 gl23 HG23; obtain ⟨hx23_0, hf23_0⟩ := Kd.R_celln 0 HO_8.out (x34_2 : Int) p23 q23; replace p23 := eq_true p23; replace q23 := eq_true q23; obtain ⟨hy29_, hz29_⟩ := Kd.R_celln 0 HO_8.out (x34_2 : Int) (Oq (by assumption)) (Oq (by assumption)); have HP29 := Kd.R_putg HO_8.out (x34_2 : Int) t408) | ((refine Gs (t := 3) (p := 43) rfl ?_); refine store_event (t := 3) (p := 43) (v := ?vo_w30) (w1 := (wr.setCell ⟨go23, (x34_2 : Int).toNat, none⟩ (.int .i64 t408))) ?hg ?ho ?hn ?hr ?_; (case ho => rfl); (case hg => rfl); (case hn => rfl); (case hr => go_simp <;> rfl); intro w30 hw; have hg : wr.grownBy w30 (some go23) := (by rw [hw]; exact HP29.2); have hp_ : Kd.R (Kd.int .i64) 3 w30 w.heap.size (fun _ => True) (.slice (some ⟨go23, 0, none⟩) x8_2.length co23) y409 := (by rw [hw, Ny409.out]; exact HP29.1); clear HP29; have n0_ := Am (hp_); have n1_ := Am (blk_grown (g := gb395) (o := .cells #[.int .i64 x396000_2, .int .i64 x396001_2, .int .i64 x396002_2, .int .i64 x396003_2, .int .i64 x396004_2] 25 (0, 0)) (by (with_reducible repeat (first | refine Kn ?_ _ | refine Ke ?_ | refine Ka ?_ _)); exact BK395.out) hg (Kd.R_ne HO_8.out BK395.out (by decide))); have n2_ := Am ((by rw [hw]; exact Bs (HB.out) GB23.out : Below w.heap.size w w30)); have n9_ : Ad (Kd.R Kd.string 9 w30 w.heap.size (fun _ => True) (.slice (some ad399) t396.length co7) t396) := ⟨by rw [hw]; exact Rm (Kd.R_far (Kd.R_types HSR.out GG23.out (by decide)) (fun _ hk => hk.2) _) (fun _ hk => hk.1)⟩; clear HSR; have HSR := n9_; clear n9_; clear HO_8; clear BK395; clear HB; have HO_8 := n0_; have BK395 := n1_; have HB := n2_; clear n0_ n1_ n2_; clear hg hw hp_; have p410 : 0 ≤ (x34_2 : Int) := Oq (by assumption); have q410 : x34_2 < (y409.length : Int) := (by have h_ : (x34_2 : Int) < ((x8_2.length : Int) : Int) := Oq (by assumption); first | (have e_ := (Rr HO_8.out).1; omega) | simpa only [Ny409.out, List.length_set] using h_); have ql410 : ((x34_2 : Int) < ((x8_2.length : Int) : Int)) = True := eq_true (Oq (by assumption)); obtain ⟨ad410, e410, hx410_0⟩ := Kd.at_int (Rr HO_8.out).2.2 x34_2 p410 q410; obtain rfl : (⟨go23, 0, none⟩ : Addr) = ad410 := (by injection e410); (first | simp only [add_plain] at hx410_0 | simp only [add_at] at hx410_0 | simp only [Addr.add, Nat.zero_add] at hx410_0 | skip); replace p410 := eq_true p410; replace q410 := eq_true q410; have hcz31_0 : w30.cell? ⟨gb395, 0, none⟩ = some (.int .i64 x396000_2) := (Kc BK395.out 0).trans rfl; have hcz31_1 : w30.cell? ⟨gb395, 1, none⟩ = some (.int .i64 x396001_2) := (Kc BK395.out 1).trans rfl; have hcz31_2 : w30.cell? ⟨gb395, 2, none⟩ = some (.int .i64 x396002_2) := (Kc BK395.out 2).trans rfl; have hcz31_3 : w30.cell? ⟨gb395, 3, none⟩ = some (.int .i64 x396003_2) := (Kc BK395.out 3).trans rfl; have hcz31_4 : w30.cell? ⟨gb395, 4, none⟩ = some (.int .i64 x396004_2) := (Kc BK395.out 4).trans rfl; have hfz31_0 := Kz BK395.out 0; have hfz31_1 := Kz BK395.out 1; have hfz31_2 := Kz BK395.out 2; have hfz31_3 := Kz BK395.out 3; have hfz31_4 := Kz BK395.out 4))
               refine bodyPost_ret (results_ctt rfl _ _ gb395 25 #[.int .i64 0, .int .i64 0, .int .i64 0, .int .i64 0, .int .i64 0] (0, 0) _ rfl (by (with_reducible repeat (first | refine Kn ?_ _ | refine Ke ?_ | refine Ka ?_ _)); refine blk_put (cs := #[.int .i64 0, .int .i64 0, .int .i64 0, .int .i64 0, .int .i64 x396004_2]) ?_ 4 _ rfl; (with_reducible repeat (first | refine Kn ?_ _ | refine Ke ?_ | refine Ka ?_ _)); refine blk_put (cs := #[.int .i64 0, .int .i64 0, .int .i64 0, .int .i64 x396003_2, .int .i64 x396004_2]) ?_ 3 _ rfl; (with_reducible repeat (first | refine Kn ?_ _ | refine Ke ?_ | refine Ka ?_ _)); refine blk_put (cs := #[.int .i64 0, .int .i64 0, .int .i64 x396002_2, .int .i64 x396003_2, .int .i64 x396004_2]) ?_ 2 _ rfl; (with_reducible repeat (first | refine Kn ?_ _ | refine Ke ?_ | refine Ka ?_ _)); refine blk_put (cs := #[.int .i64 0, .int .i64 x396001_2, .int .i64 x396002_2, .int .i64 x396003_2, .int .i64 x396004_2]) ?_ 1 _ rfl; (with_reducible repeat (first | refine Kn ?_ _ | refine Ke ?_ | refine Ka ?_ _)); refine blk_put (cs := #[.int .i64 x396000_2, .int .i64 x396001_2, .int .i64 x396002_2, .int .i64 x396003_2, .int .i64 x396004_2]) ?_ 0 _ rfl; (with_reducible repeat (first | refine Kn ?_ _ | refine Ke ?_ | refine Ka ?_ _)); exact BK395.out) Tryd.underlying25 rfl (by kernel_rfl)) rfl ?_
               exact ⟨by first | rfl | (simp [*, errW_none, errW_some] <;> rfl), by repeat (first | (with_reducible first | exact HB.out | apply Ba | apply Bn | apply Bd | refine Bs ?_ GE395.out) | exact HB.out)⟩
              ·rw [if_neg c28] at H
               have c28b0 : decide ((rd y409 x34_2) < 0) = false := decide_eq_false c28
               clear c28
               have H' := Am H
               clear H
               have p407 : 0 ≤ (x34_2 : Int) := Oq (by assumption)
               have q407 : x34_2 < (y403.length : Int) := Oq (by assumption)
               obtain ⟨ad407, e407, hx407_0⟩ := Kd.at_string HR406.out x34_2 p407 q407
               cases e407
               (try replace hx407_0 := (HB.out.cell (bl_ w _ hx407_0)).trans hx407_0)
               replace p407 := eq_true p407
               replace q407 := eq_true q407
               go_wp2_with (first | ((refine Gc (f := 52) rfl ?_); refine goesL_ (some 42) rfl rfl Tryd.func52 (by kernel_rfl) rfl #[.string (rdOf ByteArray.empty y403 x34_2)] rfl (by first | rfl | simp only [Lm, Lc, Ln] <;> rfl) ?_; (with_reducible refine (spec_l1Read.calls k2 (rdOf ByteArray.empty y403 x34_2) t408 _ A21.out).mono ?_); rintro e w' ⟨rfl, ⟨nd, rfl⟩⟩; refine ⟨_, rfl, ?_⟩; (try (rw [drewN_self wr]; generalize hq_ : World.drewN wr _ = wr; have n0_ : Ad (Kd.R (Kd.int .i64) 3 wr w.heap.size (fun _ => True) v401 x8_2) := ⟨by rw [← hq_]; exact (by (with_reducible repeat (first | apply Ra | apply Rn | apply Rd)); exact HO_8.out)⟩; have n1_ : Ad (wr.heap[gb395]? = some (.cells #[.int .i64 x396000_2, .int .i64 x396001_2, .int .i64 x396002_2, .int .i64 x396003_2, .int .i64 x396004_2] 25 (0, 0))) := ⟨by rw [← hq_]; exact (by (with_reducible repeat (first | refine Kn ?_ _ | refine Ke ?_ | refine Ka ?_ _)); exact BK395.out)⟩; have n2_ : Ad (Below w.heap.size w wr) := ⟨by rw [← hq_]; exact (by repeat (first | (with_reducible first | exact HB.out | apply Ba | apply Bn | apply Bd | refine Bs ?_ GE395.out) | exact HB.out))⟩; have n7_ : Ad (Kd.R Kd.string 9 wr w.heap.size (fun _ => True) (.slice (some ad399) t396.length co7) t396) := ⟨by rw [← hq_]; exact Rn HSR.out _⟩; clear HO_8 BK395 HB HSR hq_; have HSR := n7_; clear n7_; have HO_8 := n0_; have BK395 := n1_; have HB := n2_; clear n0_ n1_ n2_)); have p23 : 0 ≤ (x34_2 : Int) := Oq (by assumption); have q23 : (x34_2 : Int) < ((x8_2.length : Int) : Int) := Oq (by assumption); obtain ⟨go23, co23, eo23, gb23, gl23, cl23, HG23⟩ := Kd.R_form HO_8.out (by omega); (first | cases eo23 | (injection eo23 with ea_ en_ ec_; (first | subst ea_ | (injection ea_ with ea_; subst ea_)); subst ec_; clear en_)); have GB23 := Am gb23; have GG23 := Am HG23; clear gb23 gl23 HG23; obtain ⟨hx23_0, hf23_0⟩ := Kd.R_celln 0 HO_8.out (x34_2 : Int) p23 q23; replace p23 := eq_true p23; replace q23 := eq_true q23; obtain ⟨hy32_, hz32_⟩ := Kd.R_celln 0 HO_8.out (x34_2 : Int) (Oq (by assumption)) (Oq (by assumption)); have HP32 := Kd.R_putg HO_8.out (x34_2 : Int) t408) | ((refine Gs (t := 3) (p := 43) rfl ?_); refine store_event (t := 3) (p := 43) (v := ?vo_w33) (w1 := (wr.setCell ⟨go23, (x34_2 : Int).toNat, none⟩ (.int .i64 t408))) ?hg ?ho ?hn ?hr ?_; (case ho => rfl); (case hg => rfl); (case hn => rfl); (case hr => go_simp <;> rfl); intro w33 hw; have hg : wr.grownBy w33 (some go23) := (by rw [hw]; exact HP32.2); have hp_ : Kd.R (Kd.int .i64) 3 w33 w.heap.size (fun _ => True) (.slice (some ⟨go23, 0, none⟩) x8_2.length co23) y409 := (by rw [hw, Ny409.out]; exact HP32.1); clear HP32; have n0_ := Am (hp_); have n1_ := Am (blk_grown (g := gb395) (o := .cells #[.int .i64 x396000_2, .int .i64 x396001_2, .int .i64 x396002_2, .int .i64 x396003_2, .int .i64 x396004_2] 25 (0, 0)) (by (with_reducible repeat (first | refine Kn ?_ _ | refine Ke ?_ | refine Ka ?_ _)); exact BK395.out) hg (Kd.R_ne HO_8.out BK395.out (by decide))); have n2_ := Am ((by rw [hw]; exact Bs (HB.out) GB23.out : Below w.heap.size w w33)); have n9_ : Ad (Kd.R Kd.string 9 w33 w.heap.size (fun _ => True) (.slice (some ad399) t396.length co7) t396) := ⟨by rw [hw]; exact Rm (Kd.R_far (Kd.R_types HSR.out GG23.out (by decide)) (fun _ hk => hk.2) _) (fun _ hk => hk.1)⟩; clear HSR; have HSR := n9_; clear n9_; clear HO_8; clear BK395; clear HB; have HO_8 := n0_; have BK395 := n1_; have HB := n2_; clear n0_ n1_ n2_; clear hg hw hp_; have p410 : 0 ≤ (x34_2 : Int) := Oq (by assumption); have q410 : x34_2 < (y409.length : Int) := (by have h_ : (x34_2 : Int) < ((x8_2.length : Int) : Int) := Oq (by assumption); first | (have e_ := (Rr HO_8.out).1; omega) | simpa only [Ny409.out, List.length_set] using h_); have ql410 : ((x34_2 : Int) < ((x8_2.length : Int) : Int)) = True := eq_true (Oq (by assumption)); obtain ⟨ad410, e410, hx410_0⟩ := Kd.at_int (Rr HO_8.out).2.2 x34_2 p410 q410; obtain rfl : (⟨go23, 0, none⟩ : Addr) = ad410 := (by injection e410); (first | simp only [add_plain] at hx410_0 | simp only [add_at] at hx410_0 | simp only [Addr.add, Nat.zero_add] at hx410_0 | skip); replace p410 := eq_true p410; replace q410 := eq_true q410))
               go_roundg k2
               case measure => have := HJ3.out; have := HK2.out; omega
               case rel => exact ⟨(y409), (wrap64 (x34_2 + 1)), (x396000_2), (x396001_2), (x396002_2), (x396003_2), (x396004_2), (by first | rfl | (simp; done) | (simp [*]; done)), H', ⟨by have := HJ3.out; have := HK2.out; omega⟩, ⟨by (with_reducible repeat (first | apply Ra | apply Rn | apply Rd)); exact HO_8.out⟩, ⟨by (with_reducible repeat (first | refine Kn ?_ _ | refine Ke ?_ | refine Ka ?_ _)); exact BK395.out⟩, ⟨by repeat (first | (with_reducible first | exact HB.out | apply Ba | apply Bn | apply Bd | refine Bs ?_ GE395.out) | exact HB.out)⟩, ⟨by (with_reducible repeat (first | apply Ra | apply Rn | apply Rd)); exact HSR.out⟩⟩
            ·rw [if_neg c22] at H
             exact absurd H (by simp)
           ·rw [if_neg c20] at H
            exact absurd H (by simp)
          ·rw [if_neg c19] at H
           exact absurd H (by simp)
         ·rw [if_neg c18] at H
          have c18b0 : decide (x34_2 < (y403.length : Int)) = false := decide_eq_false c18
          clear c18
          by_cases c34 : 0 < (x8_2.length : Int)
          ·rw [if_pos c34] at H
           have c34b0 : decide (0 < (x8_2.length : Int)) = true := Od c34
           have c34b1 : decide (0 < x8_2.length) = true := Od (by omega)
           clear c34
           by_cases c35 : 1 < (x8_2.length : Int)
           ·rw [if_pos c35] at H
            have c35b0 : decide (1 < (x8_2.length : Int)) = true := Od c35
            have c35b1 : decide (1 < x8_2.length) = true := Od (by omega)
            clear c35
            by_cases c36 : 2 < (x8_2.length : Int)
            ·rw [if_pos c36] at H
             have c36b0 : decide (2 < (x8_2.length : Int)) = true := Od c36
             have c36b1 : decide (2 < x8_2.length) = true := Od (by omega)
             clear c36
             by_cases c37 : 3 < (x8_2.length : Int)
             ·rw [if_pos c37] at H
              have c37b0 : decide (3 < (x8_2.length : Int)) = true := Od c37
              have c37b1 : decide (3 < x8_2.length) = true := Od (by omega)
              clear c37
              by_cases c38 : x7_3 = 0
              ·rw [if_pos c38] at H
               have c38b0 : (x7_3 == 0) = true := beq_iff_eq.mpr c38
               have c38b1 : (x7_3 != 0) = false := bne_eq_false_iff_eq.mpr c38
               clear c38
               simp only [Option.some.injEq, Prod.mk.injEq] at H
               obtain ⟨rfl, rfl, rfl, rfl, rfl, rfl, rfl⟩ := H
               try go_wp2
               have n0_ := Am (Rd HO_8.out)
               have n1_ := Am (Ke BK395.out)
               have n2_ := Am (Bd HB.out)
               clear HO_8
               clear BK395
               clear HB
               have HO_8 := n0_
               have BK395 := n1_
               have HB := n2_
               clear n0_ n1_ n2_
               obtain ⟨Ao40, co40, eo40⟩ := Kd.R_slice HO_8.out
               (first | subst eo40 | (injection eo40 with f1_ f2_ f3_; have f4_ := f1_.symm; have f5_ := f3_.symm; clear f1_ f2_ f3_; subst f4_; subst f5_))
               have p411 : 0 ≤ (0 : Int) := (by omega)
               have q411 : 0 < (x8_2.length : Int) := Oq (by assumption)
               obtain ⟨ad411, e411, hx411_0⟩ := Kd.at_int (Rr HO_8.out).2.2 0 p411 q411
               cases e411
               have qi411 : (0 < x8_2.length) = True := eq_true (by omega)
               (try rw [show ((0 : Int)).toNat = 0 from rfl] at hx411_0)
               (try rw [Addr.add_zero'] at hx411_0)
               replace p411 := eq_true p411
               replace q411 := eq_true q411
               have p412 : 0 ≤ (1 : Int) := (by omega)
               have q412 : 1 < (x8_2.length : Int) := Oq (by assumption)
               obtain ⟨ad412, e412, hx412_0⟩ := Kd.at_int (Rr HO_8.out).2.2 1 p412 q412
               obtain rfl : ad411 = ad412 := (by injection e412)
               (try simp only [show (1 : Int).toNat = 1 from rfl, Nat.reduceMul, Nat.reduceEqDiff, Go.Addr.add, ↓reduceIte] at hx412_0)
               have qi412 : (1 < x8_2.length) = True := eq_true (by omega)
               (try rw [show ((1 : Int)).toNat = 1 from rfl] at hx412_0)
               replace p412 := eq_true p412
               replace q412 := eq_true q412
               have p413 : 0 ≤ (2 : Int) := (by omega)
               have q413 : 2 < (x8_2.length : Int) := Oq (by assumption)
               obtain ⟨ad413, e413, hx413_0⟩ := Kd.at_int (Rr HO_8.out).2.2 2 p413 q413
               obtain rfl : ad411 = ad413 := (by injection e413)
               (try simp only [show (2 : Int).toNat = 2 from rfl, Nat.reduceMul, Nat.reduceEqDiff, Go.Addr.add, ↓reduceIte] at hx413_0)
               have qi413 : (2 < x8_2.length) = True := eq_true (by omega)
               (try rw [show ((2 : Int)).toNat = 2 from rfl] at hx413_0)
               replace p413 := eq_true p413
               replace q413 := eq_true q413
               have p414 : 0 ≤ (3 : Int) := (by omega)
               have q414 : 3 < (x8_2.length : Int) := Oq (by assumption)
               obtain ⟨ad414, e414, hx414_0⟩ := Kd.at_int (Rr HO_8.out).2.2 3 p414 q414
               obtain rfl : ad411 = ad414 := (by injection e414)
               (try simp only [show (3 : Int).toNat = 3 from rfl, Nat.reduceMul, Nat.reduceEqDiff, Go.Addr.add, ↓reduceIte] at hx414_0)
               have qi414 : (3 < x8_2.length) = True := eq_true (by omega)
               (try rw [show ((3 : Int)).toNat = 3 from rfl] at hx414_0)
               replace p414 := eq_true p414
               replace q414 := eq_true q414
               refine start_ (n := 16) (S := fun w' => w'.cell? ad411 = some (.int .i64 (rd x8_2 0)) ∧ w'.cell? ⟨ad411.block, ad411.off + 1, none⟩ = some (.int .i64 (rd x8_2 1)) ∧ w'.cell? ⟨ad411.block, ad411.off + 2, none⟩ = some (.int .i64 (rd x8_2 2)) ∧ w'.cell? ⟨ad411.block, ad411.off + 3, none⟩ = some (.int .i64 (rd x8_2 3))) (ds := []) #[F_, F_, F_, F_, F_, F_, F_, F_, F_, F_, F_, F_, F_, F_, F_, F_] (by kernel_rfl) rfl rfl ⟨hx411_0, hx412_0, hx413_0, hx414_0⟩ (fun hHeld => ?_); refine with_tabW spec_ReadCmd.tab23 spec_ReadCmd.bits23 (fun HT_ HW_ => ?_)
               generalize wr.drew = w39 at HO_8 BK395 HB hx411_0 hx412_0 hx413_0 hx414_0 hHeld ⊢
               refine pure_ (i := 0) (N := some 56) (v := ?_) (a' := ?_) #[T_, F_, F_, F_, F_, F_, F_, F_, F_, F_, F_, F_, F_, F_, F_, F_] rfl rfl (any_of HT_.out (by kernel_rfl)) (fun _ _ _ h => h) (Or.inl ⟨by rfl, ?_⟩) ?_ ?_
               rotate_left
               ·intro w'
                go_simp
                with_reducible rfl
               rotate_left
               ·simp only [Act.put, Lt, Lz, Ls, i64_w, i32_w]
                rfl
               refine pure_ (i := 1) (N := some 57) (v := ?_) (a' := ?_) #[T_, T_, F_, F_, F_, F_, F_, F_, F_, F_, F_, F_, F_, F_, F_, F_] rfl rfl (any_of HT_.out (by kernel_rfl)) (fun _ _ _ h => h) (Or.inl ⟨by rfl, ?_⟩) ?_ ?_
               rotate_left
               ·intro w'
                go_simp
                with_reducible rfl
               rotate_left
               ·simp only [Act.put, Lt, Lz, Ls, i64_w, i32_w]
                rfl
               refine pure_ (i := 2) (N := some 58) (v := ?_) (a' := ?_) #[T_, T_, T_, F_, F_, F_, F_, F_, F_, F_, F_, F_, F_, F_, F_, F_] rfl rfl (any_of HT_.out (by kernel_rfl)) (fun _ _ _ h => h) (Or.inl ⟨by rfl, ?_⟩) ?_ ?_
               rotate_left
               ·intro w'
                go_simp
                with_reducible rfl
               rotate_left
               ·simp only [Act.put, Lt, Lz, Ls, i64_w, i32_w]
                rfl
               refine pure_ (i := 4) (N := some 60) (v := ?_) (a' := ?_) #[T_, T_, T_, F_, T_, F_, F_, F_, F_, F_, F_, F_, F_, F_, F_, F_] rfl rfl (any_of HT_.out (by kernel_rfl)) (fun _ _ _ h => h) (Or.inl ⟨by rfl, ?_⟩) ?_ ?_
               rotate_left
               ·intro w'
                go_simp
                with_reducible rfl
               rotate_left
               ·simp only [Act.put, Lt, Lz, Ls, i64_w, i32_w]
                rfl
               refine pure_ (i := 5) (N := some 61) (v := ?_) (a' := ?_) #[T_, T_, T_, F_, T_, T_, F_, F_, F_, F_, F_, F_, F_, F_, F_, F_] rfl rfl (any_of HT_.out (by kernel_rfl)) (fun _ _ _ h => h) (Or.inl ⟨by rfl, ?_⟩) ?_ ?_
               rotate_left
               ·intro w'
                go_simp
                with_reducible rfl
               rotate_left
               ·simp only [Act.put, Lt, Lz, Ls, i64_w, i32_w]
                rfl
               refine pure_ (i := 7) (N := some 63) (v := ?_) (a' := ?_) #[T_, T_, T_, F_, T_, T_, F_, T_, F_, F_, F_, F_, F_, F_, F_, F_] rfl rfl (any_of HT_.out (by kernel_rfl)) (fun _ _ _ h => h) (Or.inl ⟨by rfl, ?_⟩) ?_ ?_
               rotate_left
               ·intro w'
                go_simp
                with_reducible rfl
               rotate_left
               ·simp only [Act.put, Lt, Lz, Ls, i64_w, i32_w]
                rfl
               refine pure_ (i := 8) (N := some 64) (v := ?_) (a' := ?_) #[T_, T_, T_, F_, T_, T_, F_, T_, T_, F_, F_, F_, F_, F_, F_, F_] rfl rfl (any_of HT_.out (by kernel_rfl)) (fun _ _ _ h => h) (Or.inl ⟨by rfl, ?_⟩) ?_ ?_
               rotate_left
               ·intro w'
                go_simp
                with_reducible rfl
               rotate_left
               ·simp only [Act.put, Lt, Lz, Ls, i64_w, i32_w]
                rfl
               refine pure_ (i := 10) (N := some 66) (v := ?_) (a' := ?_) #[T_, T_, T_, F_, T_, T_, F_, T_, T_, F_, T_, F_, F_, F_, F_, F_] rfl rfl (any_of HT_.out (by kernel_rfl)) (fun _ _ _ h => h) (Or.inl ⟨by rfl, ?_⟩) ?_ ?_
               rotate_left
               ·intro w'
                go_simp
                with_reducible rfl
               rotate_left
               ·simp only [Act.put, Lt, Lz, Ls, i64_w, i32_w]
                rfl
               refine pure_ (i := 11) (N := some 67) (v := ?_) (a' := ?_) #[T_, T_, T_, F_, T_, T_, F_, T_, T_, F_, T_, T_, F_, F_, F_, F_] rfl rfl (any_of HT_.out (by kernel_rfl)) (fun _ _ _ h => h) (Or.inl ⟨by rfl, ?_⟩) ?_ ?_
               rotate_left
               ·intro w'
                go_simp
                with_reducible rfl
               rotate_left
               ·simp only [Act.put, Lt, Lz, Ls, i64_w, i32_w]
                rfl
               refine take_ (i := 3) (N := some 59) (v := ?_) (a' := ?_) #[T_, T_, T_, T_, T_, T_, F_, T_, T_, F_, T_, T_, F_, F_, F_, F_] rfl rfl (take_ofW HT_.out HW_.out (by kernel_rfl)) (fun _ _ _ h => h) (Or.inl ⟨by rfl, ?_⟩) hHeld ?_ ?_
               rotate_left
               ·rintro w' ⟨s0, s1, s2, s3⟩
                go_simp
                with_reducible rfl
               rotate_left
               ·simp only [Act.put, Lt, Lz, Ls, i64_w, i32_w]
                rfl
               refine take_ (i := 6) (N := some 62) (v := ?_) (a' := ?_) #[T_, T_, T_, T_, T_, T_, T_, T_, T_, F_, T_, T_, F_, F_, F_, F_] rfl rfl (take_ofW HT_.out HW_.out (by kernel_rfl)) (fun _ _ _ h => h) (Or.inl ⟨by rfl, ?_⟩) hHeld ?_ ?_
               rotate_left
               ·rintro w' ⟨s0, s1, s2, s3⟩
                go_simp
                with_reducible rfl
               rotate_left
               ·simp only [Act.put, Lt, Lz, Ls, i64_w, i32_w]
                rfl
               refine take_ (i := 9) (N := some 65) (v := ?_) (a' := ?_) #[T_, T_, T_, T_, T_, T_, T_, T_, T_, T_, T_, T_, F_, F_, F_, F_] rfl rfl (take_ofW HT_.out HW_.out (by kernel_rfl)) (fun _ _ _ h => h) (Or.inl ⟨by rfl, ?_⟩) hHeld ?_ ?_
               rotate_left
               ·rintro w' ⟨s0, s1, s2, s3⟩
                go_simp
                with_reducible rfl
               rotate_left
               ·simp only [Act.put, Lt, Lz, Ls, i64_w, i32_w]
                rfl
               refine take_ (i := 12) (N := some 68) (v := ?_) (a' := ?_) #[T_, T_, T_, T_, T_, T_, T_, T_, T_, T_, T_, T_, T_, F_, F_, F_] rfl rfl (take_ofW HT_.out HW_.out (by kernel_rfl)) (fun _ _ _ h => h) (Or.inl ⟨by rfl, ?_⟩) hHeld ?_ ?_
               rotate_left
               ·rintro w' ⟨s0, s1, s2, s3⟩
                go_simp
                with_reducible rfl
               rotate_left
               ·simp only [Act.put, Lt, Lz, Ls, i64_w, i32_w]
                rfl
               refine pure_ (i := 13) (N := some 69) (v := ?_) (a' := ?_) #[T_, T_, T_, T_, T_, T_, T_, T_, T_, T_, T_, T_, T_, T_, F_, F_] rfl rfl (any_of HT_.out (by kernel_rfl)) (fun _ _ _ h => h) (Or.inl ⟨by rfl, ?_⟩) ?_ ?_
               rotate_left
               ·intro w'
                go_simp
                with_reducible rfl
               rotate_left
               ·simp only [Act.put, Lt, Lz, Ls, i64_w, i32_w]
                rfl
               refine one_ (i := 14) (N := some 11) #[T_, T_, T_, T_, T_, T_, T_, T_, T_, T_, T_, T_, T_, T_, T_, F_] rfl rfl (one_of HT_.out (by kernel_rfl)) (by decide) (fun K hK => ?_)
               refine box_step ?hg (N := 11) ?hd (cs := #[.int .i64 0, .int .i64 0, .int .i64 0, .int .i64 0, .int .i64 0]) (t := 25) ?hr ?_; (case hd | hg => rfl); (case hr => go_simp <;> rfl)
               intro gb415 hg w41 hbox hb
               have HS0_ := (hb.cell (bl_ _ _ (hHeld.1))).trans (hHeld.1)
               have HS1_ := (hb.cell (bl_ _ _ (hHeld.2.1))).trans (hHeld.2.1)
               have HS2_ := (hb.cell (bl_ _ _ (hHeld.2.2.1))).trans (hHeld.2.2.1)
               have HS3_ := (hb.cell (bl_ _ _ (hHeld.2.2.2))).trans (hHeld.2.2.2)
               have n0_ := Am (Rb (by (with_reducible repeat (first | apply Ra | apply Rn | apply Rd)); exact HO_8.out) hb)
               have n1_ := Am (Kb (g := gb395) (o := .cells #[.int .i64 x396000_2, .int .i64 x396001_2, .int .i64 x396002_2, .int .i64 x396003_2, .int .i64 x396004_2] 25 (0, 0)) (by (with_reducible repeat (first | refine Kn ?_ _ | refine Ke ?_ | refine Ka ?_ _)); exact BK395.out) hb)
               have n2_ := Am (Bt (by repeat (first | (with_reducible first | exact HB.out | apply Ba | apply Bn | apply Bd | refine Bs ?_ GE395.out) | exact HB.out)) hb)
               have n3_ := Am (hbox)
               have n4_ := Am ((by rw [hg]; exact (Bz (by repeat (first | (with_reducible first | exact HB.out | apply Ba | apply Bn | apply Bd | refine Bs ?_ GE395.out) | exact HB.out))) : w.heap.size ≤ gb415))
               have n5_ := Am ((by rw [hg]; exact (Bz (by repeat (first | (with_reducible first | exact HB.out | apply Ba | apply Bn | apply Bd | refine Bs ?_ GE395.out) | exact HB.out))) : w.heap.size ≤ gb415))
               have n6_ := Am ((by rw [hg]; exact Nat.ne_of_lt (Kl (g := gb395) (o := .cells #[.int .i64 x396000_2, .int .i64 x396001_2, .int .i64 x396002_2, .int .i64 x396003_2, .int .i64 x396004_2] 25 (0, 0)) (by (with_reducible repeat (first | refine Kn ?_ _ | refine Ke ?_ | refine Ka ?_ _)); exact BK395.out)) : gb395 ≠ gb415))
               have n7_ := Am ((by rw [hg]; exact Nat.ne_of_gt (Kl (g := gb395) (o := .cells #[.int .i64 x396000_2, .int .i64 x396001_2, .int .i64 x396002_2, .int .i64 x396003_2, .int .i64 x396004_2] 25 (0, 0)) (by (with_reducible repeat (first | refine Kn ?_ _ | refine Ke ?_ | refine Ka ?_ _)); exact BK395.out)) : gb415 ≠ gb395))
               clear HO_8
               clear BK395
               clear HB
               have HO_8 := n0_
               have BK395 := n1_
               have HB := n2_
               have BK415 := n3_
               have GW415 := n4_
               have GE415 := n5_
               have NB395_415 := n6_
               have NB415_395 := n7_
               clear n0_ n1_ n2_ n3_ n4_ n5_ n6_ n7_
               clear hb hbox hg
               refine hK.out _ _ ⟨HS0_, HS1_, HS2_, HS3_⟩ (fun hHeld => ?_)
               clear hK K
               refine norm_ (a' := ?_) ?_ ?_
               rotate_left
               ·show Act.put _ (some 11) _ = _
                simp only [Act.put, Lt, Lz, Ls, i64_w, i32_w]
                rfl
               refine one_ (i := 15) (N := none) #[T_, T_, T_, T_, T_, T_, T_, T_, T_, T_, T_, T_, T_, T_, T_, T_] rfl rfl (one_of HT_.out (by kernel_rfl)) (by decide) (fun K hK => ?_)
               have hs42 : w41.cell? ⟨gb415, 0, none⟩ = some (.int .i64 0) := (Kc BK415.out 0).trans rfl
               have hfs42 := Kz BK415.out 0
               have hns42_0 := NB395_415.out
               have hms42_0 := NB415_395.out
               have hs43 : w41.cell? ⟨gb415, 1, none⟩ = some (.int .i64 0) := (Kc BK415.out 1).trans rfl
               have hfs43 := Kz BK415.out 1
               have hns43_0 := NB395_415.out
               have hms43_0 := NB415_395.out
               have hs44 : w41.cell? ⟨gb415, 2, none⟩ = some (.int .i64 0) := (Kc BK415.out 2).trans rfl
               have hfs44 := Kz BK415.out 2
               have hns44_0 := NB395_415.out
               have hms44_0 := NB415_395.out
               have hs45 : w41.cell? ⟨gb415, 3, none⟩ = some (.int .i64 0) := (Kc BK415.out 3).trans rfl
               have hfs45 := Kz BK415.out 3
               have hns45_0 := NB395_415.out
               have hms45_0 := NB415_395.out
               have hs46 : w41.cell? ⟨gb415, 4, none⟩ = some (.int .i64 0) := (Kc BK415.out 4).trans rfl
               have hfs46 := Kz BK415.out 4
               have hns46_0 := NB395_415.out
               have hms46_0 := NB415_395.out
               refine skip_ (w1 := ?_) (by rfl) rfl ?_ ?_
               rotate_left
               ·go_simp
                rfl
               have hne_ : ad411.block ≠ gb415 := Kd.own_blk (Kd.R_ne HO_8.out BK415.out (by decide))
               refine hK.out _ _ ⟨(cell_far (a := ad411) hne_ _).trans ((cell_far (a := ad411) hne_ _).trans ((cell_far (a := ad411) hne_ _).trans ((cell_far (a := ad411) hne_ _).trans ((cell_far (a := ad411) hne_ _).trans (hHeld.1))))), (cell_far (a := ⟨ad411.block, ad411.off + 1, none⟩) hne_ _).trans ((cell_far (a := ⟨ad411.block, ad411.off + 1, none⟩) hne_ _).trans ((cell_far (a := ⟨ad411.block, ad411.off + 1, none⟩) hne_ _).trans ((cell_far (a := ⟨ad411.block, ad411.off + 1, none⟩) hne_ _).trans ((cell_far (a := ⟨ad411.block, ad411.off + 1, none⟩) hne_ _).trans (hHeld.2.1))))), (cell_far (a := ⟨ad411.block, ad411.off + 2, none⟩) hne_ _).trans ((cell_far (a := ⟨ad411.block, ad411.off + 2, none⟩) hne_ _).trans ((cell_far (a := ⟨ad411.block, ad411.off + 2, none⟩) hne_ _).trans ((cell_far (a := ⟨ad411.block, ad411.off + 2, none⟩) hne_ _).trans ((cell_far (a := ⟨ad411.block, ad411.off + 2, none⟩) hne_ _).trans (hHeld.2.2.1))))), (cell_far (a := ⟨ad411.block, ad411.off + 3, none⟩) hne_ _).trans ((cell_far (a := ⟨ad411.block, ad411.off + 3, none⟩) hne_ _).trans ((cell_far (a := ⟨ad411.block, ad411.off + 3, none⟩) hne_ _).trans ((cell_far (a := ⟨ad411.block, ad411.off + 3, none⟩) hne_ _).trans ((cell_far (a := ⟨ad411.block, ad411.off + 3, none⟩) hne_ _).trans (hHeld.2.2.2)))))⟩ (fun hHeld => ?_)
               clear hne_
               clear hK K
               refine done_ (done_of HT_.out (by kernel_rfl)) ?_
               have hnb47 := NB415_395.out
               have hnc47 := NB395_415.out
               have hcz48_0 : w41.cell? ⟨gb415, 0, none⟩ = some (.int .i64 0) := (Kc BK415.out 0).trans rfl
               have hcz48_1 : w41.cell? ⟨gb415, 1, none⟩ = some (.int .i64 0) := (Kc BK415.out 1).trans rfl
               have hcz48_2 : w41.cell? ⟨gb415, 2, none⟩ = some (.int .i64 0) := (Kc BK415.out 2).trans rfl
               have hcz48_3 : w41.cell? ⟨gb415, 3, none⟩ = some (.int .i64 0) := (Kc BK415.out 3).trans rfl
               have hcz48_4 : w41.cell? ⟨gb415, 4, none⟩ = some (.int .i64 0) := (Kc BK415.out 4).trans rfl
               have hfz48_0 := Kz BK415.out 0
               have hfz48_1 := Kz BK415.out 1
               have hfz48_2 := Kz BK415.out 2
               have hfz48_3 := Kz BK415.out 3
               have hfz48_4 := Kz BK415.out 4
               have hcz49_0 : w41.cell? ⟨gb395, 0, none⟩ = some (.int .i64 x396000_2) := (Kc BK395.out 0).trans rfl
               have hcz49_1 : w41.cell? ⟨gb395, 1, none⟩ = some (.int .i64 x396001_2) := (Kc BK395.out 1).trans rfl
               have hcz49_2 : w41.cell? ⟨gb395, 2, none⟩ = some (.int .i64 x396002_2) := (Kc BK395.out 2).trans rfl
               have hcz49_3 : w41.cell? ⟨gb395, 3, none⟩ = some (.int .i64 x396003_2) := (Kc BK395.out 3).trans rfl
               have hcz49_4 : w41.cell? ⟨gb395, 4, none⟩ = some (.int .i64 x396004_2) := (Kc BK395.out 4).trans rfl
               have hfz49_0 := Kz BK395.out 0
               have hfz49_1 := Kz BK395.out 1
               have hfz49_2 := Kz BK395.out 2
               have hfz49_3 := Kz BK395.out 3
               have hfz49_4 := Kz BK395.out 4
               try go_wp2
               refine bodyPost_ret (results_ctt rfl _ _ gb395 25 #[.int .i64 x7_3, .int .i64 (rd x8_2 0), .int .i64 (rd x8_2 1), .int .i64 (rd x8_2 2), .int .i64 (rd x8_2 3)] (0, 0) _ rfl (by (with_reducible repeat (first | refine Kn ?_ _ | refine Ke ?_ | refine Ka ?_ _)); refine blk_put (cs := #[.int .i64 x7_3, .int .i64 (rd x8_2 0), .int .i64 (rd x8_2 1), .int .i64 (rd x8_2 2), .int .i64 x396004_2]) ?_ 4 _ rfl; (with_reducible repeat (first | refine Kn ?_ _ | refine Ke ?_ | refine Ka ?_ _)); refine blk_put (cs := #[.int .i64 x7_3, .int .i64 (rd x8_2 0), .int .i64 (rd x8_2 1), .int .i64 x396003_2, .int .i64 x396004_2]) ?_ 3 _ rfl; (with_reducible repeat (first | refine Kn ?_ _ | refine Ke ?_ | refine Ka ?_ _)); refine blk_put (cs := #[.int .i64 x7_3, .int .i64 (rd x8_2 0), .int .i64 x396002_2, .int .i64 x396003_2, .int .i64 x396004_2]) ?_ 2 _ rfl; (with_reducible repeat (first | refine Kn ?_ _ | refine Ke ?_ | refine Ka ?_ _)); refine blk_put (cs := #[.int .i64 x7_3, .int .i64 x396001_2, .int .i64 x396002_2, .int .i64 x396003_2, .int .i64 x396004_2]) ?_ 1 _ rfl; (with_reducible repeat (first | refine Kn ?_ _ | refine Ke ?_ | refine Ka ?_ _)); refine blk_put (cs := #[.int .i64 x396000_2, .int .i64 x396001_2, .int .i64 x396002_2, .int .i64 x396003_2, .int .i64 x396004_2]) ?_ 0 _ rfl; (with_reducible repeat (first | refine Kn ?_ _ | refine Ke ?_ | refine Ka ?_ _)); refine Kf ?_ NB395_415.out _; (with_reducible repeat (first | refine Kn ?_ _ | refine Ke ?_ | refine Ka ?_ _)); refine Kf ?_ NB395_415.out _; (with_reducible repeat (first | refine Kn ?_ _ | refine Ke ?_ | refine Ka ?_ _)); refine Kf ?_ NB395_415.out _; (with_reducible repeat (first | refine Kn ?_ _ | refine Ke ?_ | refine Ka ?_ _)); refine Kf ?_ NB395_415.out _; (with_reducible repeat (first | refine Kn ?_ _ | refine Ke ?_ | refine Ka ?_ _)); refine Kf ?_ NB395_415.out _; (with_reducible repeat (first | refine Kn ?_ _ | refine Ke ?_ | refine Ka ?_ _)); exact BK395.out) Tryd.underlying25 rfl (by kernel_rfl)) rfl ?_
               exact ⟨by first | rfl | (simp [*, errW_none, errW_some] <;> rfl), by repeat (first | (with_reducible first | exact HB.out | apply Ba | apply Bn | apply Bd | refine Bs ?_ GE395.out | refine Bs ?_ GE415.out) | exact HB.out)⟩
              ·rw [if_neg c38] at H
               have c38b0 : (x7_3 == 0) = false := beq_eq_false_iff_ne.mpr c38
               have c38b1 : (x7_3 != 0) = true := bne_iff_ne.mpr c38
               replace H := Option.bind_eq_some_iff.mp H
               obtain ⟨t416, A500, H⟩ := H
               replace H : (if t416 > 0 then (some (0, 0, 0, 0, 0, t416, false)) else (some (x7_3, rd x8_2 0, rd x8_2 1, rd x8_2 2, rd x8_2 3, 0, true))) = some (r1, r2, r3, r4, r5, r6, r7) := H
               have A50 := Am A500
               clear A500
               by_cases c51 : t416 > 0
               ·rw [if_pos c51] at H
                have c51b0 : decide (0 < t416) = true := Od c51
                clear c51
                simp only [Option.some.injEq, Prod.mk.injEq] at H
                obtain ⟨rfl, rfl, rfl, rfl, rfl, rfl, rfl⟩ := H
                try go_wp2
                have n0_ := Am (Rd HO_8.out)
                have n1_ := Am (Ke BK395.out)
                have n2_ := Am (Bd HB.out)
                clear HO_8
                clear BK395
                clear HB
                have HO_8 := n0_
                have BK395 := n1_
                have HB := n2_
                clear n0_ n1_ n2_
                obtain ⟨Ao53, co53, eo53⟩ := Kd.R_slice HO_8.out
                (first | subst eo53 | (injection eo53 with f1_ f2_ f3_; have f4_ := f1_.symm; have f5_ := f3_.symm; clear f1_ f2_ f3_; subst f4_; subst f5_))
                have p411 : 0 ≤ (0 : Int) := (by omega)
                have q411 : 0 < (x8_2.length : Int) := Oq (by assumption)
                obtain ⟨ad411, e411, hx411_0⟩ := Kd.at_int (Rr HO_8.out).2.2 0 p411 q411
                cases e411
                have qi411 : (0 < x8_2.length) = True := eq_true (by omega)
                (try rw [show ((0 : Int)).toNat = 0 from rfl] at hx411_0)
                (try rw [Addr.add_zero'] at hx411_0)
                replace p411 := eq_true p411
                replace q411 := eq_true q411
                have p412 : 0 ≤ (1 : Int) := (by omega)
                have q412 : 1 < (x8_2.length : Int) := Oq (by assumption)
                obtain ⟨ad412, e412, hx412_0⟩ := Kd.at_int (Rr HO_8.out).2.2 1 p412 q412
                obtain rfl : ad411 = ad412 := (by injection e412)
                (try simp only [show (1 : Int).toNat = 1 from rfl, Nat.reduceMul, Nat.reduceEqDiff, Go.Addr.add, ↓reduceIte] at hx412_0)
                have qi412 : (1 < x8_2.length) = True := eq_true (by omega)
                (try rw [show ((1 : Int)).toNat = 1 from rfl] at hx412_0)
                replace p412 := eq_true p412
                replace q412 := eq_true q412
                have p413 : 0 ≤ (2 : Int) := (by omega)
                have q413 : 2 < (x8_2.length : Int) := Oq (by assumption)
                obtain ⟨ad413, e413, hx413_0⟩ := Kd.at_int (Rr HO_8.out).2.2 2 p413 q413
                obtain rfl : ad411 = ad413 := (by injection e413)
                (try simp only [show (2 : Int).toNat = 2 from rfl, Nat.reduceMul, Nat.reduceEqDiff, Go.Addr.add, ↓reduceIte] at hx413_0)
                have qi413 : (2 < x8_2.length) = True := eq_true (by omega)
                (try rw [show ((2 : Int)).toNat = 2 from rfl] at hx413_0)
                replace p413 := eq_true p413
                replace q413 := eq_true q413
                have p414 : 0 ≤ (3 : Int) := (by omega)
                have q414 : 3 < (x8_2.length : Int) := Oq (by assumption)
                obtain ⟨ad414, e414, hx414_0⟩ := Kd.at_int (Rr HO_8.out).2.2 3 p414 q414
                obtain rfl : ad411 = ad414 := (by injection e414)
                (try simp only [show (3 : Int).toNat = 3 from rfl, Nat.reduceMul, Nat.reduceEqDiff, Go.Addr.add, ↓reduceIte] at hx414_0)
                have qi414 : (3 < x8_2.length) = True := eq_true (by omega)
                (try rw [show ((3 : Int)).toNat = 3 from rfl] at hx414_0)
                replace p414 := eq_true p414
                replace q414 := eq_true q414
                refine start_ (n := 16) (S := fun w' => w'.cell? ad411 = some (.int .i64 (rd x8_2 0)) ∧ w'.cell? ⟨ad411.block, ad411.off + 1, none⟩ = some (.int .i64 (rd x8_2 1)) ∧ w'.cell? ⟨ad411.block, ad411.off + 2, none⟩ = some (.int .i64 (rd x8_2 2)) ∧ w'.cell? ⟨ad411.block, ad411.off + 3, none⟩ = some (.int .i64 (rd x8_2 3))) (ds := []) #[F_, F_, F_, F_, F_, F_, F_, F_, F_, F_, F_, F_, F_, F_, F_, F_] (by kernel_rfl) rfl rfl ⟨hx411_0, hx412_0, hx413_0, hx414_0⟩ (fun hHeld => ?_); refine with_tabW spec_ReadCmd.tab23 spec_ReadCmd.bits23 (fun HT_ HW_ => ?_)
                generalize wr.drew = w52 at HO_8 BK395 HB hx411_0 hx412_0 hx413_0 hx414_0 hHeld ⊢
                refine pure_ (i := 0) (N := some 56) (v := ?_) (a' := ?_) #[T_, F_, F_, F_, F_, F_, F_, F_, F_, F_, F_, F_, F_, F_, F_, F_] rfl rfl (any_of HT_.out (by kernel_rfl)) (fun _ _ _ h => h) (Or.inl ⟨by rfl, ?_⟩) ?_ ?_
                rotate_left
                ·intro w'
                 go_simp
                 with_reducible rfl
                rotate_left
                ·simp only [Act.put, Lt, Lz, Ls, i64_w, i32_w]
                 rfl
                refine pure_ (i := 1) (N := some 57) (v := ?_) (a' := ?_) #[T_, T_, F_, F_, F_, F_, F_, F_, F_, F_, F_, F_, F_, F_, F_, F_] rfl rfl (any_of HT_.out (by kernel_rfl)) (fun _ _ _ h => h) (Or.inl ⟨by rfl, ?_⟩) ?_ ?_
                rotate_left
                ·intro w'
                 go_simp
                 with_reducible rfl
                rotate_left
                ·simp only [Act.put, Lt, Lz, Ls, i64_w, i32_w]
                 rfl
                refine pure_ (i := 2) (N := some 58) (v := ?_) (a' := ?_) #[T_, T_, T_, F_, F_, F_, F_, F_, F_, F_, F_, F_, F_, F_, F_, F_] rfl rfl (any_of HT_.out (by kernel_rfl)) (fun _ _ _ h => h) (Or.inl ⟨by rfl, ?_⟩) ?_ ?_
                rotate_left
                ·intro w'
                 go_simp
                 with_reducible rfl
                rotate_left
                ·simp only [Act.put, Lt, Lz, Ls, i64_w, i32_w]
                 rfl
                refine pure_ (i := 4) (N := some 60) (v := ?_) (a' := ?_) #[T_, T_, T_, F_, T_, F_, F_, F_, F_, F_, F_, F_, F_, F_, F_, F_] rfl rfl (any_of HT_.out (by kernel_rfl)) (fun _ _ _ h => h) (Or.inl ⟨by rfl, ?_⟩) ?_ ?_
                rotate_left
                ·intro w'
                 go_simp
                 with_reducible rfl
                rotate_left
                ·simp only [Act.put, Lt, Lz, Ls, i64_w, i32_w]
                 rfl
                refine pure_ (i := 5) (N := some 61) (v := ?_) (a' := ?_) #[T_, T_, T_, F_, T_, T_, F_, F_, F_, F_, F_, F_, F_, F_, F_, F_] rfl rfl (any_of HT_.out (by kernel_rfl)) (fun _ _ _ h => h) (Or.inl ⟨by rfl, ?_⟩) ?_ ?_
                rotate_left
                ·intro w'
                 go_simp
                 with_reducible rfl
                rotate_left
                ·simp only [Act.put, Lt, Lz, Ls, i64_w, i32_w]
                 rfl
                refine pure_ (i := 7) (N := some 63) (v := ?_) (a' := ?_) #[T_, T_, T_, F_, T_, T_, F_, T_, F_, F_, F_, F_, F_, F_, F_, F_] rfl rfl (any_of HT_.out (by kernel_rfl)) (fun _ _ _ h => h) (Or.inl ⟨by rfl, ?_⟩) ?_ ?_
                rotate_left
                ·intro w'
                 go_simp
                 with_reducible rfl
                rotate_left
                ·simp only [Act.put, Lt, Lz, Ls, i64_w, i32_w]
                 rfl
                refine pure_ (i := 8) (N := some 64) (v := ?_) (a' := ?_) #[T_, T_, T_, F_, T_, T_, F_, T_, T_, F_, F_, F_, F_, F_, F_, F_] rfl rfl (any_of HT_.out (by kernel_rfl)) (fun _ _ _ h => h) (Or.inl ⟨by rfl, ?_⟩) ?_ ?_
                rotate_left
                ·intro w'
                 go_simp
                 with_reducible rfl
                rotate_left
                ·simp only [Act.put, Lt, Lz, Ls, i64_w, i32_w]
                 rfl
                refine pure_ (i := 10) (N := some 66) (v := ?_) (a' := ?_) #[T_, T_, T_, F_, T_, T_, F_, T_, T_, F_, T_, F_, F_, F_, F_, F_] rfl rfl (any_of HT_.out (by kernel_rfl)) (fun _ _ _ h => h) (Or.inl ⟨by rfl, ?_⟩) ?_ ?_
                rotate_left
                ·intro w'
                 go_simp
                 with_reducible rfl
                rotate_left
                ·simp only [Act.put, Lt, Lz, Ls, i64_w, i32_w]
                 rfl
                refine pure_ (i := 11) (N := some 67) (v := ?_) (a' := ?_) #[T_, T_, T_, F_, T_, T_, F_, T_, T_, F_, T_, T_, F_, F_, F_, F_] rfl rfl (any_of HT_.out (by kernel_rfl)) (fun _ _ _ h => h) (Or.inl ⟨by rfl, ?_⟩) ?_ ?_
                rotate_left
                ·intro w'
                 go_simp
                 with_reducible rfl
                rotate_left
                ·simp only [Act.put, Lt, Lz, Ls, i64_w, i32_w]
                 rfl
                refine take_ (i := 3) (N := some 59) (v := ?_) (a' := ?_) #[T_, T_, T_, T_, T_, T_, F_, T_, T_, F_, T_, T_, F_, F_, F_, F_] rfl rfl (take_ofW HT_.out HW_.out (by kernel_rfl)) (fun _ _ _ h => h) (Or.inl ⟨by rfl, ?_⟩) hHeld ?_ ?_
                rotate_left
                ·rintro w' ⟨s0, s1, s2, s3⟩
                 go_simp
                 with_reducible rfl
                rotate_left
                ·simp only [Act.put, Lt, Lz, Ls, i64_w, i32_w]
                 rfl
                refine take_ (i := 6) (N := some 62) (v := ?_) (a' := ?_) #[T_, T_, T_, T_, T_, T_, T_, T_, T_, F_, T_, T_, F_, F_, F_, F_] rfl rfl (take_ofW HT_.out HW_.out (by kernel_rfl)) (fun _ _ _ h => h) (Or.inl ⟨by rfl, ?_⟩) hHeld ?_ ?_
                rotate_left
                ·rintro w' ⟨s0, s1, s2, s3⟩
                 go_simp
                 with_reducible rfl
                rotate_left
                ·simp only [Act.put, Lt, Lz, Ls, i64_w, i32_w]
                 rfl
                refine take_ (i := 9) (N := some 65) (v := ?_) (a' := ?_) #[T_, T_, T_, T_, T_, T_, T_, T_, T_, T_, T_, T_, F_, F_, F_, F_] rfl rfl (take_ofW HT_.out HW_.out (by kernel_rfl)) (fun _ _ _ h => h) (Or.inl ⟨by rfl, ?_⟩) hHeld ?_ ?_
                rotate_left
                ·rintro w' ⟨s0, s1, s2, s3⟩
                 go_simp
                 with_reducible rfl
                rotate_left
                ·simp only [Act.put, Lt, Lz, Ls, i64_w, i32_w]
                 rfl
                refine take_ (i := 12) (N := some 68) (v := ?_) (a' := ?_) #[T_, T_, T_, T_, T_, T_, T_, T_, T_, T_, T_, T_, T_, F_, F_, F_] rfl rfl (take_ofW HT_.out HW_.out (by kernel_rfl)) (fun _ _ _ h => h) (Or.inl ⟨by rfl, ?_⟩) hHeld ?_ ?_
                rotate_left
                ·rintro w' ⟨s0, s1, s2, s3⟩
                 go_simp
                 with_reducible rfl
                rotate_left
                ·simp only [Act.put, Lt, Lz, Ls, i64_w, i32_w]
                 rfl
                refine pure_ (i := 13) (N := some 69) (v := ?_) (a' := ?_) #[T_, T_, T_, T_, T_, T_, T_, T_, T_, T_, T_, T_, T_, T_, F_, F_] rfl rfl (any_of HT_.out (by kernel_rfl)) (fun _ _ _ h => h) (Or.inl ⟨by rfl, ?_⟩) ?_ ?_
                rotate_left
                ·intro w'
                 go_simp
                 with_reducible rfl
                rotate_left
                ·simp only [Act.put, Lt, Lz, Ls, i64_w, i32_w]
                 rfl
                refine one_ (i := 14) (N := some 11) #[T_, T_, T_, T_, T_, T_, T_, T_, T_, T_, T_, T_, T_, T_, T_, F_] rfl rfl (one_of HT_.out (by kernel_rfl)) (by decide) (fun K hK => ?_)
                refine box_step ?hg (N := 11) ?hd (cs := #[.int .i64 0, .int .i64 0, .int .i64 0, .int .i64 0, .int .i64 0]) (t := 25) ?hr ?_; (case hd | hg => rfl); (case hr => go_simp <;> rfl)
                intro gb415 hg w54 hbox hb
                have HS0_ := (hb.cell (bl_ _ _ (hHeld.1))).trans (hHeld.1)
                have HS1_ := (hb.cell (bl_ _ _ (hHeld.2.1))).trans (hHeld.2.1)
                have HS2_ := (hb.cell (bl_ _ _ (hHeld.2.2.1))).trans (hHeld.2.2.1)
                have HS3_ := (hb.cell (bl_ _ _ (hHeld.2.2.2))).trans (hHeld.2.2.2)
                have n0_ := Am (Rb (by (with_reducible repeat (first | apply Ra | apply Rn | apply Rd)); exact HO_8.out) hb)
                have n1_ := Am (Kb (g := gb395) (o := .cells #[.int .i64 x396000_2, .int .i64 x396001_2, .int .i64 x396002_2, .int .i64 x396003_2, .int .i64 x396004_2] 25 (0, 0)) (by (with_reducible repeat (first | refine Kn ?_ _ | refine Ke ?_ | refine Ka ?_ _)); exact BK395.out) hb)
                have n2_ := Am (Bt (by repeat (first | (with_reducible first | exact HB.out | apply Ba | apply Bn | apply Bd | refine Bs ?_ GE395.out) | exact HB.out)) hb)
                have n3_ := Am (hbox)
                have n4_ := Am ((by rw [hg]; exact (Bz (by repeat (first | (with_reducible first | exact HB.out | apply Ba | apply Bn | apply Bd | refine Bs ?_ GE395.out) | exact HB.out))) : w.heap.size ≤ gb415))
                have n5_ := Am ((by rw [hg]; exact (Bz (by repeat (first | (with_reducible first | exact HB.out | apply Ba | apply Bn | apply Bd | refine Bs ?_ GE395.out) | exact HB.out))) : w.heap.size ≤ gb415))
                have n6_ := Am ((by rw [hg]; exact Nat.ne_of_lt (Kl (g := gb395) (o := .cells #[.int .i64 x396000_2, .int .i64 x396001_2, .int .i64 x396002_2, .int .i64 x396003_2, .int .i64 x396004_2] 25 (0, 0)) (by (with_reducible repeat (first | refine Kn ?_ _ | refine Ke ?_ | refine Ka ?_ _)); exact BK395.out)) : gb395 ≠ gb415))
                have n7_ := Am ((by rw [hg]; exact Nat.ne_of_gt (Kl (g := gb395) (o := .cells #[.int .i64 x396000_2, .int .i64 x396001_2, .int .i64 x396002_2, .int .i64 x396003_2, .int .i64 x396004_2] 25 (0, 0)) (by (with_reducible repeat (first | refine Kn ?_ _ | refine Ke ?_ | refine Ka ?_ _)); exact BK395.out)) : gb415 ≠ gb395))
                clear HO_8
                clear BK395
                clear HB
                have HO_8 := n0_
                have BK395 := n1_
                have HB := n2_
                have BK415 := n3_
                have GW415 := n4_
                have GE415 := n5_
                have NB395_415 := n6_
                have NB415_395 := n7_
                clear n0_ n1_ n2_ n3_ n4_ n5_ n6_ n7_
                clear hb hbox hg
                refine hK.out _ _ ⟨HS0_, HS1_, HS2_, HS3_⟩ (fun hHeld => ?_)
                clear hK K
                refine norm_ (a' := ?_) ?_ ?_
                rotate_left
                ·show Act.put _ (some 11) _ = _
                 simp only [Act.put, Lt, Lz, Ls, i64_w, i32_w]
                 rfl
                refine one_ (i := 15) (N := none) #[T_, T_, T_, T_, T_, T_, T_, T_, T_, T_, T_, T_, T_, T_, T_, T_] rfl rfl (one_of HT_.out (by kernel_rfl)) (by decide) (fun K hK => ?_)
                have hs55 : w54.cell? ⟨gb415, 0, none⟩ = some (.int .i64 0) := (Kc BK415.out 0).trans rfl
                have hfs55 := Kz BK415.out 0
                have hns55_0 := NB395_415.out
                have hms55_0 := NB415_395.out
                have hs56 : w54.cell? ⟨gb415, 1, none⟩ = some (.int .i64 0) := (Kc BK415.out 1).trans rfl
                have hfs56 := Kz BK415.out 1
                have hns56_0 := NB395_415.out
                have hms56_0 := NB415_395.out
                have hs57 : w54.cell? ⟨gb415, 2, none⟩ = some (.int .i64 0) := (Kc BK415.out 2).trans rfl
                have hfs57 := Kz BK415.out 2
                have hns57_0 := NB395_415.out
                have hms57_0 := NB415_395.out
                have hs58 : w54.cell? ⟨gb415, 3, none⟩ = some (.int .i64 0) := (Kc BK415.out 3).trans rfl
                have hfs58 := Kz BK415.out 3
                have hns58_0 := NB395_415.out
                have hms58_0 := NB415_395.out
                have hs59 : w54.cell? ⟨gb415, 4, none⟩ = some (.int .i64 0) := (Kc BK415.out 4).trans rfl
                have hfs59 := Kz BK415.out 4
                have hns59_0 := NB395_415.out
                have hms59_0 := NB415_395.out
                refine skip_ (w1 := ?_) (by rfl) rfl ?_ ?_
                rotate_left
                ·go_simp
                 rfl
                have hne_ : ad411.block ≠ gb415 := Kd.own_blk (Kd.R_ne HO_8.out BK415.out (by decide))
                refine hK.out _ _ ⟨(cell_far (a := ad411) hne_ _).trans ((cell_far (a := ad411) hne_ _).trans ((cell_far (a := ad411) hne_ _).trans ((cell_far (a := ad411) hne_ _).trans ((cell_far (a := ad411) hne_ _).trans (hHeld.1))))), (cell_far (a := ⟨ad411.block, ad411.off + 1, none⟩) hne_ _).trans ((cell_far (a := ⟨ad411.block, ad411.off + 1, none⟩) hne_ _).trans ((cell_far (a := ⟨ad411.block, ad411.off + 1, none⟩) hne_ _).trans ((cell_far (a := ⟨ad411.block, ad411.off + 1, none⟩) hne_ _).trans ((cell_far (a := ⟨ad411.block, ad411.off + 1, none⟩) hne_ _).trans (hHeld.2.1))))), (cell_far (a := ⟨ad411.block, ad411.off + 2, none⟩) hne_ _).trans ((cell_far (a := ⟨ad411.block, ad411.off + 2, none⟩) hne_ _).trans ((cell_far (a := ⟨ad411.block, ad411.off + 2, none⟩) hne_ _).trans ((cell_far (a := ⟨ad411.block, ad411.off + 2, none⟩) hne_ _).trans ((cell_far (a := ⟨ad411.block, ad411.off + 2, none⟩) hne_ _).trans (hHeld.2.2.1))))), (cell_far (a := ⟨ad411.block, ad411.off + 3, none⟩) hne_ _).trans ((cell_far (a := ⟨ad411.block, ad411.off + 3, none⟩) hne_ _).trans ((cell_far (a := ⟨ad411.block, ad411.off + 3, none⟩) hne_ _).trans ((cell_far (a := ⟨ad411.block, ad411.off + 3, none⟩) hne_ _).trans ((cell_far (a := ⟨ad411.block, ad411.off + 3, none⟩) hne_ _).trans (hHeld.2.2.2)))))⟩ (fun hHeld => ?_)
                clear hne_
                clear hK K
                refine done_ (done_of HT_.out (by kernel_rfl)) ?_
                have hnb60 := NB415_395.out
                have hnc60 := NB395_415.out
                have hcz61_0 : w54.cell? ⟨gb415, 0, none⟩ = some (.int .i64 0) := (Kc BK415.out 0).trans rfl
                have hcz61_1 : w54.cell? ⟨gb415, 1, none⟩ = some (.int .i64 0) := (Kc BK415.out 1).trans rfl
                have hcz61_2 : w54.cell? ⟨gb415, 2, none⟩ = some (.int .i64 0) := (Kc BK415.out 2).trans rfl
                have hcz61_3 : w54.cell? ⟨gb415, 3, none⟩ = some (.int .i64 0) := (Kc BK415.out 3).trans rfl
                have hcz61_4 : w54.cell? ⟨gb415, 4, none⟩ = some (.int .i64 0) := (Kc BK415.out 4).trans rfl
                have hfz61_0 := Kz BK415.out 0
                have hfz61_1 := Kz BK415.out 1
                have hfz61_2 := Kz BK415.out 2
                have hfz61_3 := Kz BK415.out 3
                have hfz61_4 := Kz BK415.out 4
                try go_wp2_with (first | ((refine Gc (f := 40) rfl ?_); refine goesL_ (some 74) rfl rfl Tryd.func40 (by kernel_rfl) rfl #[.agg #[.int .i64 x7_3, .int .i64 (rd x8_2 0), .int .i64 (rd x8_2 1), .int .i64 (rd x8_2 2), .int .i64 (rd x8_2 3)]] rfl (by first | rfl | simp only [Lm, Lc, Ln] <;> rfl) ?_; (with_reducible refine (spec_l2Code.calls x7_3 (rd x8_2 0) (rd x8_2 1) (rd x8_2 2) (rd x8_2 3) t416 _ A50.out).mono ?_); rintro e w62 ⟨rfl, hb⟩; refine ⟨_, rfl, ?_⟩; have n0_ := Am (Rb (by (with_reducible repeat (first | apply Ra | apply Rn | apply Rd)); exact (Rm (Kd.R_far (p := ⟨gb415, 4, none⟩) (Kd.R_far (p := ⟨gb415, 3, none⟩) (Kd.R_far (p := ⟨gb415, 2, none⟩) (Kd.R_far (p := ⟨gb415, 1, none⟩) (Kd.R_far (p := ⟨gb415, 0, none⟩) (Kd.R_types HO_8.out BK415.out (by decide)) (fun _ hk => hk.2) (.int .i64 x7_3)) (fun _ hk => hk.2) (.int .i64 (rd x8_2 0))) (fun _ hk => hk.2) (.int .i64 (rd x8_2 1))) (fun _ hk => hk.2) (.int .i64 (rd x8_2 2))) (fun _ hk => hk.2) (.int .i64 (rd x8_2 3))) (fun _ h_ => h_.1))) hb); have n1_ := Am (Kb (g := gb395) (o := .cells #[.int .i64 x396000_2, .int .i64 x396001_2, .int .i64 x396002_2, .int .i64 x396003_2, .int .i64 x396004_2] 25 (0, 0)) (by (with_reducible repeat (first | refine Kn ?_ _ | refine Ke ?_ | refine Ka ?_ _)); refine Kf ?_ NB395_415.out _; (with_reducible repeat (first | refine Kn ?_ _ | refine Ke ?_ | refine Ka ?_ _)); refine Kf ?_ NB395_415.out _; (with_reducible repeat (first | refine Kn ?_ _ | refine Ke ?_ | refine Ka ?_ _)); refine Kf ?_ NB395_415.out _; (with_reducible repeat (first | refine Kn ?_ _ | refine Ke ?_ | refine Ka ?_ _)); refine Kf ?_ NB395_415.out _; (with_reducible repeat (first | refine Kn ?_ _ | refine Ke ?_ | refine Ka ?_ _)); refine Kf ?_ NB395_415.out _; (with_reducible repeat (first | refine Kn ?_ _ | refine Ke ?_ | refine Ka ?_ _)); exact BK395.out) hb); have n2_ := Am (Kb (g := gb415) (o := .cells #[.int .i64 x7_3, .int .i64 (rd x8_2 0), .int .i64 (rd x8_2 1), .int .i64 (rd x8_2 2), .int .i64 (rd x8_2 3)] 25 (0, 0)) (by (with_reducible repeat (first | refine Kn ?_ _ | refine Ke ?_ | refine Ka ?_ _)); refine blk_put (cs := #[.int .i64 x7_3, .int .i64 (rd x8_2 0), .int .i64 (rd x8_2 1), .int .i64 (rd x8_2 2), .int .i64 0]) ?_ 4 _ rfl; (with_reducible repeat (first | refine Kn ?_ _ | refine Ke ?_ | refine Ka ?_ _)); refine blk_put (cs := #[.int .i64 x7_3, .int .i64 (rd x8_2 0), .int .i64 (rd x8_2 1), .int .i64 0, .int .i64 0]) ?_ 3 _ rfl; (with_reducible repeat (first | refine Kn ?_ _ | refine Ke ?_ | refine Ka ?_ _)); refine blk_put (cs := #[.int .i64 x7_3, .int .i64 (rd x8_2 0), .int .i64 0, .int .i64 0, .int .i64 0]) ?_ 2 _ rfl; (with_reducible repeat (first | refine Kn ?_ _ | refine Ke ?_ | refine Ka ?_ _)); refine blk_put (cs := #[.int .i64 x7_3, .int .i64 0, .int .i64 0, .int .i64 0, .int .i64 0]) ?_ 1 _ rfl; (with_reducible repeat (first | refine Kn ?_ _ | refine Ke ?_ | refine Ka ?_ _)); refine blk_put (cs := #[.int .i64 0, .int .i64 0, .int .i64 0, .int .i64 0, .int .i64 0]) ?_ 0 _ rfl; (with_reducible repeat (first | refine Kn ?_ _ | refine Ke ?_ | refine Ka ?_ _)); exact BK415.out) hb); have n3_ := Am (Bt (by repeat (first | (with_reducible first | exact HB.out | apply Ba | apply Bn | apply Bd | refine Bs ?_ GE395.out | refine Bs ?_ GE415.out) | exact HB.out)) hb); clear HO_8; clear BK395; clear BK415; clear HB; have HO_8 := n0_; have BK395 := n1_; have BK415 := n2_; have HB := n3_; clear n0_ n1_ n2_ n3_; (try clear hb); (try clear hb2); (try clear hk); (try clear hi); have hcz63_0 : w62.cell? ⟨gb395, 0, none⟩ = some (.int .i64 x396000_2) := (Kc BK395.out 0).trans rfl; have hcz63_1 : w62.cell? ⟨gb395, 1, none⟩ = some (.int .i64 x396001_2) := (Kc BK395.out 1).trans rfl; have hcz63_2 : w62.cell? ⟨gb395, 2, none⟩ = some (.int .i64 x396002_2) := (Kc BK395.out 2).trans rfl; have hcz63_3 : w62.cell? ⟨gb395, 3, none⟩ = some (.int .i64 x396003_2) := (Kc BK395.out 3).trans rfl; have hcz63_4 : w62.cell? ⟨gb395, 4, none⟩ = some (.int .i64 x396004_2) := (Kc BK395.out 4).trans rfl; have hfz63_0 := Kz BK395.out 0; have hfz63_1 := Kz BK395.out 1; have hfz63_2 := Kz BK395.out 2; have hfz63_3 := Kz BK395.out 3; have hfz63_4 := Kz BK395.out 4))
                refine bodyPost_ret (results_ctt rfl _ _ gb395 25 #[.int .i64 0, .int .i64 0, .int .i64 0, .int .i64 0, .int .i64 0] (0, 0) _ rfl (by (with_reducible repeat (first | refine Kn ?_ _ | refine Ke ?_ | refine Ka ?_ _)); refine blk_put (cs := #[.int .i64 0, .int .i64 0, .int .i64 0, .int .i64 0, .int .i64 x396004_2]) ?_ 4 _ rfl; (with_reducible repeat (first | refine Kn ?_ _ | refine Ke ?_ | refine Ka ?_ _)); refine blk_put (cs := #[.int .i64 0, .int .i64 0, .int .i64 0, .int .i64 x396003_2, .int .i64 x396004_2]) ?_ 3 _ rfl; (with_reducible repeat (first | refine Kn ?_ _ | refine Ke ?_ | refine Ka ?_ _)); refine blk_put (cs := #[.int .i64 0, .int .i64 0, .int .i64 x396002_2, .int .i64 x396003_2, .int .i64 x396004_2]) ?_ 2 _ rfl; (with_reducible repeat (first | refine Kn ?_ _ | refine Ke ?_ | refine Ka ?_ _)); refine blk_put (cs := #[.int .i64 0, .int .i64 x396001_2, .int .i64 x396002_2, .int .i64 x396003_2, .int .i64 x396004_2]) ?_ 1 _ rfl; (with_reducible repeat (first | refine Kn ?_ _ | refine Ke ?_ | refine Ka ?_ _)); refine blk_put (cs := #[.int .i64 x396000_2, .int .i64 x396001_2, .int .i64 x396002_2, .int .i64 x396003_2, .int .i64 x396004_2]) ?_ 0 _ rfl; (with_reducible repeat (first | refine Kn ?_ _ | refine Ke ?_ | refine Ka ?_ _)); exact BK395.out) Tryd.underlying25 rfl (by kernel_rfl)) rfl ?_
                exact ⟨by first | rfl | (simp [*, errW_none, errW_some] <;> rfl), by repeat (first | (with_reducible first | exact HB.out | apply Ba | apply Bn | apply Bd | refine Bs ?_ GE395.out | refine Bs ?_ GE415.out) | exact HB.out)⟩
               ·rw [if_neg c51] at H
                have c51b0 : decide (0 < t416) = false := decide_eq_false c51
                clear c51
                simp only [Option.some.injEq, Prod.mk.injEq] at H
                obtain ⟨rfl, rfl, rfl, rfl, rfl, rfl, rfl⟩ := H
                try go_wp2
                have n0_ := Am (Rd HO_8.out)
                have n1_ := Am (Ke BK395.out)
                have n2_ := Am (Bd HB.out)
                clear HO_8
                clear BK395
                clear HB
                have HO_8 := n0_
                have BK395 := n1_
                have HB := n2_
                clear n0_ n1_ n2_
                obtain ⟨Ao65, co65, eo65⟩ := Kd.R_slice HO_8.out
                (first | subst eo65 | (injection eo65 with f1_ f2_ f3_; have f4_ := f1_.symm; have f5_ := f3_.symm; clear f1_ f2_ f3_; subst f4_; subst f5_))
                have p411 : 0 ≤ (0 : Int) := (by omega)
                have q411 : 0 < (x8_2.length : Int) := Oq (by assumption)
                obtain ⟨ad411, e411, hx411_0⟩ := Kd.at_int (Rr HO_8.out).2.2 0 p411 q411
                cases e411
                have qi411 : (0 < x8_2.length) = True := eq_true (by omega)
                (try rw [show ((0 : Int)).toNat = 0 from rfl] at hx411_0)
                (try rw [Addr.add_zero'] at hx411_0)
                replace p411 := eq_true p411
                replace q411 := eq_true q411
                have p412 : 0 ≤ (1 : Int) := (by omega)
                have q412 : 1 < (x8_2.length : Int) := Oq (by assumption)
                obtain ⟨ad412, e412, hx412_0⟩ := Kd.at_int (Rr HO_8.out).2.2 1 p412 q412
                obtain rfl : ad411 = ad412 := (by injection e412)
                (try simp only [show (1 : Int).toNat = 1 from rfl, Nat.reduceMul, Nat.reduceEqDiff, Go.Addr.add, ↓reduceIte] at hx412_0)
                have qi412 : (1 < x8_2.length) = True := eq_true (by omega)
                (try rw [show ((1 : Int)).toNat = 1 from rfl] at hx412_0)
                replace p412 := eq_true p412
                replace q412 := eq_true q412
                have p413 : 0 ≤ (2 : Int) := (by omega)
                have q413 : 2 < (x8_2.length : Int) := Oq (by assumption)
                obtain ⟨ad413, e413, hx413_0⟩ := Kd.at_int (Rr HO_8.out).2.2 2 p413 q413
                obtain rfl : ad411 = ad413 := (by injection e413)
                (try simp only [show (2 : Int).toNat = 2 from rfl, Nat.reduceMul, Nat.reduceEqDiff, Go.Addr.add, ↓reduceIte] at hx413_0)
                have qi413 : (2 < x8_2.length) = True := eq_true (by omega)
                (try rw [show ((2 : Int)).toNat = 2 from rfl] at hx413_0)
                replace p413 := eq_true p413
                replace q413 := eq_true q413
                have p414 : 0 ≤ (3 : Int) := (by omega)
                have q414 : 3 < (x8_2.length : Int) := Oq (by assumption)
                obtain ⟨ad414, e414, hx414_0⟩ := Kd.at_int (Rr HO_8.out).2.2 3 p414 q414
                obtain rfl : ad411 = ad414 := (by injection e414)
                (try simp only [show (3 : Int).toNat = 3 from rfl, Nat.reduceMul, Nat.reduceEqDiff, Go.Addr.add, ↓reduceIte] at hx414_0)
                have qi414 : (3 < x8_2.length) = True := eq_true (by omega)
                (try rw [show ((3 : Int)).toNat = 3 from rfl] at hx414_0)
                replace p414 := eq_true p414
                replace q414 := eq_true q414
                refine start_ (n := 16) (S := fun w' => w'.cell? ad411 = some (.int .i64 (rd x8_2 0)) ∧ w'.cell? ⟨ad411.block, ad411.off + 1, none⟩ = some (.int .i64 (rd x8_2 1)) ∧ w'.cell? ⟨ad411.block, ad411.off + 2, none⟩ = some (.int .i64 (rd x8_2 2)) ∧ w'.cell? ⟨ad411.block, ad411.off + 3, none⟩ = some (.int .i64 (rd x8_2 3))) (ds := []) #[F_, F_, F_, F_, F_, F_, F_, F_, F_, F_, F_, F_, F_, F_, F_, F_] (by kernel_rfl) rfl rfl ⟨hx411_0, hx412_0, hx413_0, hx414_0⟩ (fun hHeld => ?_); refine with_tabW spec_ReadCmd.tab23 spec_ReadCmd.bits23 (fun HT_ HW_ => ?_)
                generalize wr.drew = w64 at HO_8 BK395 HB hx411_0 hx412_0 hx413_0 hx414_0 hHeld ⊢
                refine pure_ (i := 0) (N := some 56) (v := ?_) (a' := ?_) #[T_, F_, F_, F_, F_, F_, F_, F_, F_, F_, F_, F_, F_, F_, F_, F_] rfl rfl (any_of HT_.out (by kernel_rfl)) (fun _ _ _ h => h) (Or.inl ⟨by rfl, ?_⟩) ?_ ?_
                rotate_left
                ·intro w'
                 go_simp
                 with_reducible rfl
                rotate_left
                ·simp only [Act.put, Lt, Lz, Ls, i64_w, i32_w]
                 rfl
                refine pure_ (i := 1) (N := some 57) (v := ?_) (a' := ?_) #[T_, T_, F_, F_, F_, F_, F_, F_, F_, F_, F_, F_, F_, F_, F_, F_] rfl rfl (any_of HT_.out (by kernel_rfl)) (fun _ _ _ h => h) (Or.inl ⟨by rfl, ?_⟩) ?_ ?_
                rotate_left
                ·intro w'
                 go_simp
                 with_reducible rfl
                rotate_left
                ·simp only [Act.put, Lt, Lz, Ls, i64_w, i32_w]
                 rfl
                refine pure_ (i := 2) (N := some 58) (v := ?_) (a' := ?_) #[T_, T_, T_, F_, F_, F_, F_, F_, F_, F_, F_, F_, F_, F_, F_, F_] rfl rfl (any_of HT_.out (by kernel_rfl)) (fun _ _ _ h => h) (Or.inl ⟨by rfl, ?_⟩) ?_ ?_
                rotate_left
                ·intro w'
                 go_simp
                 with_reducible rfl
                rotate_left
                ·simp only [Act.put, Lt, Lz, Ls, i64_w, i32_w]
                 rfl
                refine pure_ (i := 4) (N := some 60) (v := ?_) (a' := ?_) #[T_, T_, T_, F_, T_, F_, F_, F_, F_, F_, F_, F_, F_, F_, F_, F_] rfl rfl (any_of HT_.out (by kernel_rfl)) (fun _ _ _ h => h) (Or.inl ⟨by rfl, ?_⟩) ?_ ?_
                rotate_left
                ·intro w'
                 go_simp
                 with_reducible rfl
                rotate_left
                ·simp only [Act.put, Lt, Lz, Ls, i64_w, i32_w]
                 rfl
                refine pure_ (i := 5) (N := some 61) (v := ?_) (a' := ?_) #[T_, T_, T_, F_, T_, T_, F_, F_, F_, F_, F_, F_, F_, F_, F_, F_] rfl rfl (any_of HT_.out (by kernel_rfl)) (fun _ _ _ h => h) (Or.inl ⟨by rfl, ?_⟩) ?_ ?_
                rotate_left
                ·intro w'
                 go_simp
                 with_reducible rfl
                rotate_left
                ·simp only [Act.put, Lt, Lz, Ls, i64_w, i32_w]
                 rfl
                refine pure_ (i := 7) (N := some 63) (v := ?_) (a' := ?_) #[T_, T_, T_, F_, T_, T_, F_, T_, F_, F_, F_, F_, F_, F_, F_, F_] rfl rfl (any_of HT_.out (by kernel_rfl)) (fun _ _ _ h => h) (Or.inl ⟨by rfl, ?_⟩) ?_ ?_
                rotate_left
                ·intro w'
                 go_simp
                 with_reducible rfl
                rotate_left
                ·simp only [Act.put, Lt, Lz, Ls, i64_w, i32_w]
                 rfl
                refine pure_ (i := 8) (N := some 64) (v := ?_) (a' := ?_) #[T_, T_, T_, F_, T_, T_, F_, T_, T_, F_, F_, F_, F_, F_, F_, F_] rfl rfl (any_of HT_.out (by kernel_rfl)) (fun _ _ _ h => h) (Or.inl ⟨by rfl, ?_⟩) ?_ ?_
                rotate_left
                ·intro w'
                 go_simp
                 with_reducible rfl
                rotate_left
                ·simp only [Act.put, Lt, Lz, Ls, i64_w, i32_w]
                 rfl
                refine pure_ (i := 10) (N := some 66) (v := ?_) (a' := ?_) #[T_, T_, T_, F_, T_, T_, F_, T_, T_, F_, T_, F_, F_, F_, F_, F_] rfl rfl (any_of HT_.out (by kernel_rfl)) (fun _ _ _ h => h) (Or.inl ⟨by rfl, ?_⟩) ?_ ?_
                rotate_left
                ·intro w'
                 go_simp
                 with_reducible rfl
                rotate_left
                ·simp only [Act.put, Lt, Lz, Ls, i64_w, i32_w]
                 rfl
                refine pure_ (i := 11) (N := some 67) (v := ?_) (a' := ?_) #[T_, T_, T_, F_, T_, T_, F_, T_, T_, F_, T_, T_, F_, F_, F_, F_] rfl rfl (any_of HT_.out (by kernel_rfl)) (fun _ _ _ h => h) (Or.inl ⟨by rfl, ?_⟩) ?_ ?_
                rotate_left
                ·intro w'
                 go_simp
                 with_reducible rfl
                rotate_left
                ·simp only [Act.put, Lt, Lz, Ls, i64_w, i32_w]
                 rfl
                refine take_ (i := 3) (N := some 59) (v := ?_) (a' := ?_) #[T_, T_, T_, T_, T_, T_, F_, T_, T_, F_, T_, T_, F_, F_, F_, F_] rfl rfl (take_ofW HT_.out HW_.out (by kernel_rfl)) (fun _ _ _ h => h) (Or.inl ⟨by rfl, ?_⟩) hHeld ?_ ?_
                rotate_left
                ·rintro w' ⟨s0, s1, s2, s3⟩
                 go_simp
                 with_reducible rfl
                rotate_left
                ·simp only [Act.put, Lt, Lz, Ls, i64_w, i32_w]
                 rfl
                refine take_ (i := 6) (N := some 62) (v := ?_) (a' := ?_) #[T_, T_, T_, T_, T_, T_, T_, T_, T_, F_, T_, T_, F_, F_, F_, F_] rfl rfl (take_ofW HT_.out HW_.out (by kernel_rfl)) (fun _ _ _ h => h) (Or.inl ⟨by rfl, ?_⟩) hHeld ?_ ?_
                rotate_left
                ·rintro w' ⟨s0, s1, s2, s3⟩
                 go_simp
                 with_reducible rfl
                rotate_left
                ·simp only [Act.put, Lt, Lz, Ls, i64_w, i32_w]
                 rfl
                refine take_ (i := 9) (N := some 65) (v := ?_) (a' := ?_) #[T_, T_, T_, T_, T_, T_, T_, T_, T_, T_, T_, T_, F_, F_, F_, F_] rfl rfl (take_ofW HT_.out HW_.out (by kernel_rfl)) (fun _ _ _ h => h) (Or.inl ⟨by rfl, ?_⟩) hHeld ?_ ?_
                rotate_left
                ·rintro w' ⟨s0, s1, s2, s3⟩
                 go_simp
                 with_reducible rfl
                rotate_left
                ·simp only [Act.put, Lt, Lz, Ls, i64_w, i32_w]
                 rfl
                refine take_ (i := 12) (N := some 68) (v := ?_) (a' := ?_) #[T_, T_, T_, T_, T_, T_, T_, T_, T_, T_, T_, T_, T_, F_, F_, F_] rfl rfl (take_ofW HT_.out HW_.out (by kernel_rfl)) (fun _ _ _ h => h) (Or.inl ⟨by rfl, ?_⟩) hHeld ?_ ?_
                rotate_left
                ·rintro w' ⟨s0, s1, s2, s3⟩
                 go_simp
                 with_reducible rfl
                rotate_left
                ·simp only [Act.put, Lt, Lz, Ls, i64_w, i32_w]
                 rfl
                refine pure_ (i := 13) (N := some 69) (v := ?_) (a' := ?_) #[T_, T_, T_, T_, T_, T_, T_, T_, T_, T_, T_, T_, T_, T_, F_, F_] rfl rfl (any_of HT_.out (by kernel_rfl)) (fun _ _ _ h => h) (Or.inl ⟨by rfl, ?_⟩) ?_ ?_
                rotate_left
                ·intro w'
                 go_simp
                 with_reducible rfl
                rotate_left
                ·simp only [Act.put, Lt, Lz, Ls, i64_w, i32_w]
                 rfl
                refine one_ (i := 14) (N := some 11) #[T_, T_, T_, T_, T_, T_, T_, T_, T_, T_, T_, T_, T_, T_, T_, F_] rfl rfl (one_of HT_.out (by kernel_rfl)) (by decide) (fun K hK => ?_)
                refine box_step ?hg (N := 11) ?hd (cs := #[.int .i64 0, .int .i64 0, .int .i64 0, .int .i64 0, .int .i64 0]) (t := 25) ?hr ?_; (case hd | hg => rfl); (case hr => go_simp <;> rfl)
                intro gb415 hg w66 hbox hb
                have HS0_ := (hb.cell (bl_ _ _ (hHeld.1))).trans (hHeld.1)
                have HS1_ := (hb.cell (bl_ _ _ (hHeld.2.1))).trans (hHeld.2.1)
                have HS2_ := (hb.cell (bl_ _ _ (hHeld.2.2.1))).trans (hHeld.2.2.1)
                have HS3_ := (hb.cell (bl_ _ _ (hHeld.2.2.2))).trans (hHeld.2.2.2)
                have n0_ := Am (Rb (by (with_reducible repeat (first | apply Ra | apply Rn | apply Rd)); exact HO_8.out) hb)
                have n1_ := Am (Kb (g := gb395) (o := .cells #[.int .i64 x396000_2, .int .i64 x396001_2, .int .i64 x396002_2, .int .i64 x396003_2, .int .i64 x396004_2] 25 (0, 0)) (by (with_reducible repeat (first | refine Kn ?_ _ | refine Ke ?_ | refine Ka ?_ _)); exact BK395.out) hb)
                have n2_ := Am (Bt (by repeat (first | (with_reducible first | exact HB.out | apply Ba | apply Bn | apply Bd | refine Bs ?_ GE395.out) | exact HB.out)) hb)
                have n3_ := Am (hbox)
                have n4_ := Am ((by rw [hg]; exact (Bz (by repeat (first | (with_reducible first | exact HB.out | apply Ba | apply Bn | apply Bd | refine Bs ?_ GE395.out) | exact HB.out))) : w.heap.size ≤ gb415))
                have n5_ := Am ((by rw [hg]; exact (Bz (by repeat (first | (with_reducible first | exact HB.out | apply Ba | apply Bn | apply Bd | refine Bs ?_ GE395.out) | exact HB.out))) : w.heap.size ≤ gb415))
                have n6_ := Am ((by rw [hg]; exact Nat.ne_of_lt (Kl (g := gb395) (o := .cells #[.int .i64 x396000_2, .int .i64 x396001_2, .int .i64 x396002_2, .int .i64 x396003_2, .int .i64 x396004_2] 25 (0, 0)) (by (with_reducible repeat (first | refine Kn ?_ _ | refine Ke ?_ | refine Ka ?_ _)); exact BK395.out)) : gb395 ≠ gb415))
                have n7_ := Am ((by rw [hg]; exact Nat.ne_of_gt (Kl (g := gb395) (o := .cells #[.int .i64 x396000_2, .int .i64 x396001_2, .int .i64 x396002_2, .int .i64 x396003_2, .int .i64 x396004_2] 25 (0, 0)) (by (with_reducible repeat (first | refine Kn ?_ _ | refine Ke ?_ | refine Ka ?_ _)); exact BK395.out)) : gb415 ≠ gb395))
                clear HO_8
                clear BK395
                clear HB
                have HO_8 := n0_
                have BK395 := n1_
                have HB := n2_
                have BK415 := n3_
                have GW415 := n4_
                have GE415 := n5_
                have NB395_415 := n6_
                have NB415_395 := n7_
                clear n0_ n1_ n2_ n3_ n4_ n5_ n6_ n7_
                clear hb hbox hg
                refine hK.out _ _ ⟨HS0_, HS1_, HS2_, HS3_⟩ (fun hHeld => ?_)
                clear hK K
                refine norm_ (a' := ?_) ?_ ?_
                rotate_left
                ·show Act.put _ (some 11) _ = _
                 simp only [Act.put, Lt, Lz, Ls, i64_w, i32_w]
                 rfl
                refine one_ (i := 15) (N := none) #[T_, T_, T_, T_, T_, T_, T_, T_, T_, T_, T_, T_, T_, T_, T_, T_] rfl rfl (one_of HT_.out (by kernel_rfl)) (by decide) (fun K hK => ?_)
                have hs67 : w66.cell? ⟨gb415, 0, none⟩ = some (.int .i64 0) := (Kc BK415.out 0).trans rfl
                have hfs67 := Kz BK415.out 0
                have hns67_0 := NB395_415.out
                have hms67_0 := NB415_395.out
                have hs68 : w66.cell? ⟨gb415, 1, none⟩ = some (.int .i64 0) := (Kc BK415.out 1).trans rfl
                have hfs68 := Kz BK415.out 1
                have hns68_0 := NB395_415.out
                have hms68_0 := NB415_395.out
                have hs69 : w66.cell? ⟨gb415, 2, none⟩ = some (.int .i64 0) := (Kc BK415.out 2).trans rfl
                have hfs69 := Kz BK415.out 2
                have hns69_0 := NB395_415.out
                have hms69_0 := NB415_395.out
                have hs70 : w66.cell? ⟨gb415, 3, none⟩ = some (.int .i64 0) := (Kc BK415.out 3).trans rfl
                have hfs70 := Kz BK415.out 3
                have hns70_0 := NB395_415.out
                have hms70_0 := NB415_395.out
                have hs71 : w66.cell? ⟨gb415, 4, none⟩ = some (.int .i64 0) := (Kc BK415.out 4).trans rfl
                have hfs71 := Kz BK415.out 4
                have hns71_0 := NB395_415.out
                have hms71_0 := NB415_395.out
                refine skip_ (w1 := ?_) (by rfl) rfl ?_ ?_
                rotate_left
                ·go_simp
                 rfl
                have hne_ : ad411.block ≠ gb415 := Kd.own_blk (Kd.R_ne HO_8.out BK415.out (by decide))
                refine hK.out _ _ ⟨(cell_far (a := ad411) hne_ _).trans ((cell_far (a := ad411) hne_ _).trans ((cell_far (a := ad411) hne_ _).trans ((cell_far (a := ad411) hne_ _).trans ((cell_far (a := ad411) hne_ _).trans (hHeld.1))))), (cell_far (a := ⟨ad411.block, ad411.off + 1, none⟩) hne_ _).trans ((cell_far (a := ⟨ad411.block, ad411.off + 1, none⟩) hne_ _).trans ((cell_far (a := ⟨ad411.block, ad411.off + 1, none⟩) hne_ _).trans ((cell_far (a := ⟨ad411.block, ad411.off + 1, none⟩) hne_ _).trans ((cell_far (a := ⟨ad411.block, ad411.off + 1, none⟩) hne_ _).trans (hHeld.2.1))))), (cell_far (a := ⟨ad411.block, ad411.off + 2, none⟩) hne_ _).trans ((cell_far (a := ⟨ad411.block, ad411.off + 2, none⟩) hne_ _).trans ((cell_far (a := ⟨ad411.block, ad411.off + 2, none⟩) hne_ _).trans ((cell_far (a := ⟨ad411.block, ad411.off + 2, none⟩) hne_ _).trans ((cell_far (a := ⟨ad411.block, ad411.off + 2, none⟩) hne_ _).trans (hHeld.2.2.1))))), (cell_far (a := ⟨ad411.block, ad411.off + 3, none⟩) hne_ _).trans ((cell_far (a := ⟨ad411.block, ad411.off + 3, none⟩) hne_ _).trans ((cell_far (a := ⟨ad411.block, ad411.off + 3, none⟩) hne_ _).trans ((cell_far (a := ⟨ad411.block, ad411.off + 3, none⟩) hne_ _).trans ((cell_far (a := ⟨ad411.block, ad411.off + 3, none⟩) hne_ _).trans (hHeld.2.2.2)))))⟩ (fun hHeld => ?_)
                clear hne_
                clear hK K
                refine done_ (done_of HT_.out (by kernel_rfl)) ?_
                have hnb72 := NB415_395.out
                have hnc72 := NB395_415.out
                have hcz73_0 : w66.cell? ⟨gb415, 0, none⟩ = some (.int .i64 0) := (Kc BK415.out 0).trans rfl
                have hcz73_1 : w66.cell? ⟨gb415, 1, none⟩ = some (.int .i64 0) := (Kc BK415.out 1).trans rfl
                have hcz73_2 : w66.cell? ⟨gb415, 2, none⟩ = some (.int .i64 0) := (Kc BK415.out 2).trans rfl
                have hcz73_3 : w66.cell? ⟨gb415, 3, none⟩ = some (.int .i64 0) := (Kc BK415.out 3).trans rfl
                have hcz73_4 : w66.cell? ⟨gb415, 4, none⟩ = some (.int .i64 0) := (Kc BK415.out 4).trans rfl
                have hfz73_0 := Kz BK415.out 0
                have hfz73_1 := Kz BK415.out 1
                have hfz73_2 := Kz BK415.out 2
                have hfz73_3 := Kz BK415.out 3
                have hfz73_4 := Kz BK415.out 4
                try go_wp2_with (first | ((refine Gc (f := 40) rfl ?_); refine goesL_ (some 74) rfl rfl Tryd.func40 (by kernel_rfl) rfl #[.agg #[.int .i64 x7_3, .int .i64 (rd x8_2 0), .int .i64 (rd x8_2 1), .int .i64 (rd x8_2 2), .int .i64 (rd x8_2 3)]] rfl (by first | rfl | simp only [Lm, Lc, Ln] <;> rfl) ?_; (with_reducible refine (spec_l2Code.calls x7_3 (rd x8_2 0) (rd x8_2 1) (rd x8_2 2) (rd x8_2 3) t416 _ A50.out).mono ?_); rintro e w74 ⟨rfl, hb⟩; refine ⟨_, rfl, ?_⟩; have n0_ := Am (Rb (by (with_reducible repeat (first | apply Ra | apply Rn | apply Rd)); exact (Rm (Kd.R_far (p := ⟨gb415, 4, none⟩) (Kd.R_far (p := ⟨gb415, 3, none⟩) (Kd.R_far (p := ⟨gb415, 2, none⟩) (Kd.R_far (p := ⟨gb415, 1, none⟩) (Kd.R_far (p := ⟨gb415, 0, none⟩) (Kd.R_types HO_8.out BK415.out (by decide)) (fun _ hk => hk.2) (.int .i64 x7_3)) (fun _ hk => hk.2) (.int .i64 (rd x8_2 0))) (fun _ hk => hk.2) (.int .i64 (rd x8_2 1))) (fun _ hk => hk.2) (.int .i64 (rd x8_2 2))) (fun _ hk => hk.2) (.int .i64 (rd x8_2 3))) (fun _ h_ => h_.1))) hb); have n1_ := Am (Kb (g := gb395) (o := .cells #[.int .i64 x396000_2, .int .i64 x396001_2, .int .i64 x396002_2, .int .i64 x396003_2, .int .i64 x396004_2] 25 (0, 0)) (by (with_reducible repeat (first | refine Kn ?_ _ | refine Ke ?_ | refine Ka ?_ _)); refine Kf ?_ NB395_415.out _; (with_reducible repeat (first | refine Kn ?_ _ | refine Ke ?_ | refine Ka ?_ _)); refine Kf ?_ NB395_415.out _; (with_reducible repeat (first | refine Kn ?_ _ | refine Ke ?_ | refine Ka ?_ _)); refine Kf ?_ NB395_415.out _; (with_reducible repeat (first | refine Kn ?_ _ | refine Ke ?_ | refine Ka ?_ _)); refine Kf ?_ NB395_415.out _; (with_reducible repeat (first | refine Kn ?_ _ | refine Ke ?_ | refine Ka ?_ _)); refine Kf ?_ NB395_415.out _; (with_reducible repeat (first | refine Kn ?_ _ | refine Ke ?_ | refine Ka ?_ _)); exact BK395.out) hb); have n2_ := Am (Kb (g := gb415) (o := .cells #[.int .i64 x7_3, .int .i64 (rd x8_2 0), .int .i64 (rd x8_2 1), .int .i64 (rd x8_2 2), .int .i64 (rd x8_2 3)] 25 (0, 0)) (by (with_reducible repeat (first | refine Kn ?_ _ | refine Ke ?_ | refine Ka ?_ _)); refine blk_put (cs := #[.int .i64 x7_3, .int .i64 (rd x8_2 0), .int .i64 (rd x8_2 1), .int .i64 (rd x8_2 2), .int .i64 0]) ?_ 4 _ rfl; (with_reducible repeat (first | refine Kn ?_ _ | refine Ke ?_ | refine Ka ?_ _)); refine blk_put (cs := #[.int .i64 x7_3, .int .i64 (rd x8_2 0), .int .i64 (rd x8_2 1), .int .i64 0, .int .i64 0]) ?_ 3 _ rfl; (with_reducible repeat (first | refine Kn ?_ _ | refine Ke ?_ | refine Ka ?_ _)); refine blk_put (cs := #[.int .i64 x7_3, .int .i64 (rd x8_2 0), .int .i64 0, .int .i64 0, .int .i64 0]) ?_ 2 _ rfl; (with_reducible repeat (first | refine Kn ?_ _ | refine Ke ?_ | refine Ka ?_ _)); refine blk_put (cs := #[.int .i64 x7_3, .int .i64 0, .int .i64 0, .int .i64 0, .int .i64 0]) ?_ 1 _ rfl; (with_reducible repeat (first | refine Kn ?_ _ | refine Ke ?_ | refine Ka ?_ _)); refine blk_put (cs := #[.int .i64 0, .int .i64 0, .int .i64 0, .int .i64 0, .int .i64 0]) ?_ 0 _ rfl; (with_reducible repeat (first | refine Kn ?_ _ | refine Ke ?_ | refine Ka ?_ _)); exact BK415.out) hb); have n3_ := Am (Bt (by repeat (first | (with_reducible first | exact HB.out | apply Ba | apply Bn | apply Bd | refine Bs ?_ GE395.out | refine Bs ?_ GE415.out) | exact HB.out)) hb); clear HO_8; clear BK395; clear BK415; clear HB; have HO_8 := n0_; have BK395 := n1_; have BK415 := n2_; have HB := n3_; clear n0_ n1_ n2_ n3_; (try clear hb); (try clear hb2); (try clear hk); (try clear hi); have hcz75_0 : w74.cell? ⟨gb415, 0, none⟩ = some (.int .i64 x7_3) := (Kc BK415.out 0).trans rfl; have hcz75_1 : w74.cell? ⟨gb415, 1, none⟩ = some (.int .i64 (rd x8_2 0)) := (Kc BK415.out 1).trans rfl; have hcz75_2 : w74.cell? ⟨gb415, 2, none⟩ = some (.int .i64 (rd x8_2 1)) := (Kc BK415.out 2).trans rfl; have hcz75_3 : w74.cell? ⟨gb415, 3, none⟩ = some (.int .i64 (rd x8_2 2)) := (Kc BK415.out 3).trans rfl; have hcz75_4 : w74.cell? ⟨gb415, 4, none⟩ = some (.int .i64 (rd x8_2 3)) := (Kc BK415.out 4).trans rfl; have hfz75_0 := Kz BK415.out 0; have hfz75_1 := Kz BK415.out 1; have hfz75_2 := Kz BK415.out 2; have hfz75_3 := Kz BK415.out 3; have hfz75_4 := Kz BK415.out 4; have hcz76_0 : w74.cell? ⟨gb395, 0, none⟩ = some (.int .i64 x396000_2) := (Kc BK395.out 0).trans rfl; have hcz76_1 : w74.cell? ⟨gb395, 1, none⟩ = some (.int .i64 x396001_2) := (Kc BK395.out 1).trans rfl; have hcz76_2 : w74.cell? ⟨gb395, 2, none⟩ = some (.int .i64 x396002_2) := (Kc BK395.out 2).trans rfl; have hcz76_3 : w74.cell? ⟨gb395, 3, none⟩ = some (.int .i64 x396003_2) := (Kc BK395.out 3).trans rfl; have hcz76_4 : w74.cell? ⟨gb395, 4, none⟩ = some (.int .i64 x396004_2) := (Kc BK395.out 4).trans rfl; have hfz76_0 := Kz BK395.out 0; have hfz76_1 := Kz BK395.out 1; have hfz76_2 := Kz BK395.out 2; have hfz76_3 := Kz BK395.out 3; have hfz76_4 := Kz BK395.out 4))
                refine bodyPost_ret (results_ctt rfl _ _ gb395 25 #[.int .i64 x7_3, .int .i64 (rd x8_2 0), .int .i64 (rd x8_2 1), .int .i64 (rd x8_2 2), .int .i64 (rd x8_2 3)] (0, 0) _ rfl (by (with_reducible repeat (first | refine Kn ?_ _ | refine Ke ?_ | refine Ka ?_ _)); refine blk_put (cs := #[.int .i64 x7_3, .int .i64 (rd x8_2 0), .int .i64 (rd x8_2 1), .int .i64 (rd x8_2 2), .int .i64 x396004_2]) ?_ 4 _ rfl; (with_reducible repeat (first | refine Kn ?_ _ | refine Ke ?_ | refine Ka ?_ _)); refine blk_put (cs := #[.int .i64 x7_3, .int .i64 (rd x8_2 0), .int .i64 (rd x8_2 1), .int .i64 x396003_2, .int .i64 x396004_2]) ?_ 3 _ rfl; (with_reducible repeat (first | refine Kn ?_ _ | refine Ke ?_ | refine Ka ?_ _)); refine blk_put (cs := #[.int .i64 x7_3, .int .i64 (rd x8_2 0), .int .i64 x396002_2, .int .i64 x396003_2, .int .i64 x396004_2]) ?_ 2 _ rfl; (with_reducible repeat (first | refine Kn ?_ _ | refine Ke ?_ | refine Ka ?_ _)); refine blk_put (cs := #[.int .i64 x7_3, .int .i64 x396001_2, .int .i64 x396002_2, .int .i64 x396003_2, .int .i64 x396004_2]) ?_ 1 _ rfl; (with_reducible repeat (first | refine Kn ?_ _ | refine Ke ?_ | refine Ka ?_ _)); refine blk_put (cs := #[.int .i64 x396000_2, .int .i64 x396001_2, .int .i64 x396002_2, .int .i64 x396003_2, .int .i64 x396004_2]) ?_ 0 _ rfl; (with_reducible repeat (first | refine Kn ?_ _ | refine Ke ?_ | refine Ka ?_ _)); exact BK395.out) Tryd.underlying25 rfl (by kernel_rfl)) rfl ?_
                exact ⟨by first | rfl | (simp [*, errW_none, errW_some] <;> rfl), by repeat (first | (with_reducible first | exact HB.out | apply Ba | apply Bn | apply Bd | refine Bs ?_ GE395.out | refine Bs ?_ GE415.out) | exact HB.out)⟩
             ·rw [if_neg c37] at H
              exact absurd H (by simp)
            ·rw [if_neg c36] at H
             exact absurd H (by simp)
           ·rw [if_neg c35] at H
            exact absurd H (by simp)
          ·rw [if_neg c34] at H
           exact absurd H (by simp)
      ·rw [if_neg c14] at H
       exact absurd H (by simp)
     ·rw [if_neg c13] at H
      exact absurd H (by simp)
    ·rw [if_neg c12] at H
     have c12b0 : ((t396.length : Int) == x6_3) = false := beq_eq_false_iff_ne.mpr c12
     have c12b1 : ((t396.length : Int) != x6_3) = true := bne_iff_ne.mpr c12
     simp only [Option.some.injEq, Prod.mk.injEq] at H
     obtain ⟨rfl, rfl, rfl, rfl, rfl, rfl, rfl⟩ := H
     have hcz77_0 : wc.cell? ⟨gb395, 0, none⟩ = some (.int .i64 x396000_3) := (Kc BK395.out 0).trans rfl
     have hcz77_1 : wc.cell? ⟨gb395, 1, none⟩ = some (.int .i64 x396001_3) := (Kc BK395.out 1).trans rfl
     have hcz77_2 : wc.cell? ⟨gb395, 2, none⟩ = some (.int .i64 x396002_3) := (Kc BK395.out 2).trans rfl
     have hcz77_3 : wc.cell? ⟨gb395, 3, none⟩ = some (.int .i64 x396003_3) := (Kc BK395.out 3).trans rfl
     have hcz77_4 : wc.cell? ⟨gb395, 4, none⟩ = some (.int .i64 x396004_3) := (Kc BK395.out 4).trans rfl
     have hfz77_0 := Kz BK395.out 0
     have hfz77_1 := Kz BK395.out 1
     have hfz77_2 := Kz BK395.out 2
     have hfz77_3 := Kz BK395.out 3
     have hfz77_4 := Kz BK395.out 4
     go_wp2
     refine bodyPost_ret (results_ctt rfl _ _ gb395 25 #[.int .i64 0, .int .i64 0, .int .i64 0, .int .i64 0, .int .i64 0] (0, 0) _ rfl (by (with_reducible repeat (first | refine Kn ?_ _ | refine Ke ?_ | refine Ka ?_ _)); refine blk_put (cs := #[.int .i64 0, .int .i64 0, .int .i64 0, .int .i64 0, .int .i64 x396004_3]) ?_ 4 _ rfl; (with_reducible repeat (first | refine Kn ?_ _ | refine Ke ?_ | refine Ka ?_ _)); refine blk_put (cs := #[.int .i64 0, .int .i64 0, .int .i64 0, .int .i64 x396003_3, .int .i64 x396004_3]) ?_ 3 _ rfl; (with_reducible repeat (first | refine Kn ?_ _ | refine Ke ?_ | refine Ka ?_ _)); refine blk_put (cs := #[.int .i64 0, .int .i64 0, .int .i64 x396002_3, .int .i64 x396003_3, .int .i64 x396004_3]) ?_ 2 _ rfl; (with_reducible repeat (first | refine Kn ?_ _ | refine Ke ?_ | refine Ka ?_ _)); refine blk_put (cs := #[.int .i64 0, .int .i64 x396001_3, .int .i64 x396002_3, .int .i64 x396003_3, .int .i64 x396004_3]) ?_ 1 _ rfl; (with_reducible repeat (first | refine Kn ?_ _ | refine Ke ?_ | refine Ka ?_ _)); refine blk_put (cs := #[.int .i64 x396000_3, .int .i64 x396001_3, .int .i64 x396002_3, .int .i64 x396003_3, .int .i64 x396004_3]) ?_ 0 _ rfl; (with_reducible repeat (first | refine Kn ?_ _ | refine Ke ?_ | refine Ka ?_ _)); exact BK395.out) Tryd.underlying25 rfl (by kernel_rfl)) rfl ?_
     exact ⟨by first | rfl | (simp [*, errW_none, errW_some] <;> rfl), by repeat (first | (with_reducible first | exact HB.out | apply Ba | apply Bn | apply Bd | refine Bs ?_ GE395.out) | exact HB.out)⟩
 ·rw [if_neg c3] at H
  exact absurd H (by simp)
end Go.Proofs.YtmknjfnhfcljcaaDoor.QFnCmds
