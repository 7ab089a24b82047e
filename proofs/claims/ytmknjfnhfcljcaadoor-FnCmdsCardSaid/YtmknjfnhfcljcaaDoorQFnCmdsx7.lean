-- Written by a program of this session (wip/mk.py) over the kit's print: Lean checks it.
import Derived.Test.YtmknjfnhfcljcaaDoorQFnCmdsx0
import Derived.Test.YtmknjfnhfcljcaaDoorQFnCmdsx3
import Derived.Test.YtmknjfnhfcljcaaDoorQFnCmdsx5
import Derived.Test.YtmknjfnhfcljcaaDoorQFnCmdsx6
namespace Go.Proofs.YtmknjfnhfcljcaaDoor.QFnCmds
set_option maxHeartbeats 8000000
set_option maxRecDepth 100000
open Bool renaming true → T_, false → F_
open List renaming map_toArray → Lm, map_cons → Lc, map_nil → Ln
open Go.Proofs.YtmknjfnhfcljcaaDoorW.PrintWords.Kd renaming R_alloc → Ra, R_drewN → Rn, R_drew → Rd
open Go.Proofs.YtmknjfnhfcljcaaDoorW.PrintWords renaming below_alloc → Ba, pw_below_drewN → Bn, below_drew1 → Bd, below_set → Bs, below_size → Bz, below_step → Bt, gate_dst → Gd, gate_callee → Gc, box_event → Be, blk_alloc → Ka, blk_drewN → Kn, blk_drew → Ke, blk_below → Kb, blk_cell → Kc, blk_far → Kf, blk_frozen → Kz
open List renaming setIfInBounds_toArray → Lt, set_cons_zero → Lz, set_cons_succ → Ls
open Go.Proofs.YtmknjfnhfcljcaaDoorW.PrintWords.Aside0 renaming mk → Am
open Go.Proofs.YtmknjfnhfcljcaaDoorW.PrintWords renaming Aside0 → Ad
open Go.RowKit Go.Proofs.YtmknjfnhfcljcaaDoorW.PrintWords Go.Proofs.YtmknjfnhfcljcaaDoorW.PrintLast Go.Proofs.YtmknjfnhfcljcaaDoorW.PrintMore
attribute [local go_sem] max2_int min2_int max_two min_two max_three min_three max_four min_four   -- for this text's walks alone
open Go.Proofs.YtmknjfnhfcljcaaDoorW.PrintWords.Kd renaming R_below → Rb, R_mono → Rm, R_reads' → Rr, R_slice → Rs
set_option linter.unusedVariables false
set_option linter.unusedSimpArgs false
mutual
def impl_ReadCmd.j0 : Nat → Int → Int → Int → Int → Int → Int → Option (Int × Int × Int × Int × Int × Int × Bool)
 | 0, _, _, _, _, _, _ => none
 | k + 1, x6, x259000, x259001, x259002, x259003, x259004 => (impl_isAccount.f x259002).bind fun t265 => (if t265 = true then ((impl_isAccount.f x259003).bind fun t266 => (impl_ReadCmd.j1 k x6 (!t266) x259000 x259001 x259002 x259003 x259004)) else (impl_ReadCmd.j1 k x6 true x259000 x259001 x259002 x259003 x259004))
def impl_ReadCmd.j1 : Nat → Int → Bool → Int → Int → Int → Int → Int → Option (Int × Int × Int × Int × Int × Int × Bool)
 | 0, _, _, _, _, _, _, _ => none
 | k + 1, x6, x68, x259000, x259001, x259002, x259003, x259004 => if x68 = true then (some (0, 0, 0, 0, 0, 4, false)) else (if x6 = 1 then (impl_ReadCmd.j2 k (x259002 == x259003) x259000 x259001 x259002 x259003 x259004) else (impl_ReadCmd.j2 k false x259000 x259001 x259002 x259003 x259004))
def impl_ReadCmd.j2 : Nat → Bool → Int → Int → Int → Int → Int → Option (Int × Int × Int × Int × Int × Int × Bool)
 | 0, _, _, _, _, _, _ => none
 | k + 1, x80, x259000, x259001, x259002, x259003, x259004 => if x80 = true then (some (0, 0, 0, 0, 0, 5, false)) else ((impl_GoodCmd.f x259000 x259001 x259002 x259003 x259004).bind fun t267 => (if t267 = true then (some (x259000, x259001, x259002, x259003, x259004, 0, true)) else (some (0, 0, 0, 0, 0, 6, false))))
end
def impl_ReadCmd.f (k : Nat) (a0 : ByteArray) : Option (Int × Int × Int × Int × Int × Int × Bool) := (strings_Split.f a0 (⟨#[32]⟩ : ByteArray)).bind fun t238 => (if 0 < (t238.length : Int) then ((slices_Index_string_string.f k (([(⟨#[45]⟩ : ByteArray), (⟨#[109, 111, 118, 101]⟩ : ByteArray), (⟨#[114, 101, 97, 100]⟩ : ByteArray)] : List ByteArray)) (rdOf ByteArray.empty t238 0)).bind fun t245 => (if t245 < 0 then (some (0, 0, 0, 0, 0, 1, false)) else ((some (([1, 5, 3] : List Int) : List Int)).bind fun y246 => (if 0 ≤ t245 then (if t245 < (y246.length : Int) then (if (t238.length : Int) = (rd y246 t245) then (if 1 ≤ (t238.length : Int) then ((impl_numbers.f k (t238.drop 1) 4).bind fun bt254 => (if bt254.2 = true then (if t245 = 1 then (if 0 < (bt254.1.length : Int) then (if 1 < (bt254.1.length : Int) then (if 2 < (bt254.1.length : Int) then (if 3 < (bt254.1.length : Int) then (impl_ReadCmd.j0 k t245 t245 (rd bt254.1 0) (rd bt254.1 1) (rd bt254.1 2) (rd bt254.1 3)) else (none)) else (none)) else (none)) else (none)) else (if t245 = 2 then (if 0 < (bt254.1.length : Int) then (if 1 < (bt254.1.length : Int) then (impl_ReadCmd.j0 k t245 t245 (rd bt254.1 0) (rd bt254.1 1) 0 0) else (none)) else (none)) else (impl_ReadCmd.j0 k t245 t245 0 0 0 0))) else (some (0, 0, 0, 0, 0, 3, false)))) else (none)) else (some (0, 0, 0, 0, 0, 2, false))) else (none)) else (none))))) else (none))
theorem impl_ReadCmd.mono_l : ∀ k, (∀ y0 y1 y2 y3 y4 y5, LeO (impl_ReadCmd.j0 k y0 y1 y2 y3 y4 y5) (impl_ReadCmd.j0 (k + 1) y0 y1 y2 y3 y4 y5)) ∧ (∀ y0 y1 y2 y3 y4 y5 y6, LeO (impl_ReadCmd.j1 k y0 y1 y2 y3 y4 y5 y6) (impl_ReadCmd.j1 (k + 1) y0 y1 y2 y3 y4 y5 y6)) ∧ (∀ y0 y1 y2 y3 y4 y5, LeO (impl_ReadCmd.j2 k y0 y1 y2 y3 y4 y5) (impl_ReadCmd.j2 (k + 1) y0 y1 y2 y3 y4 y5))
 | 0 => ⟨fun _ _ _ _ _ _ r h => by simp [impl_ReadCmd.j0] at h, fun _ _ _ _ _ _ _ r h => by simp [impl_ReadCmd.j1] at h, fun _ _ _ _ _ _ r h => by simp [impl_ReadCmd.j2] at h⟩
 | k + 1 => by
  obtain ⟨ih0, ih1, ih2⟩ := impl_ReadCmd.mono_l k
  refine ⟨?_, ?_, ?_⟩
  ·intro y0 y1 y2 y3 y4 y5
   unfold impl_ReadCmd.j0
   repeat' first
   | (with_reducible exact ih0 _ _ _ _ _ _)
   | (with_reducible exact ih1 _ _ _ _ _ _ _)
   | (with_reducible exact ih2 _ _ _ _ _ _)
   | (with_reducible exact impl_numbers.mono _ _ _)
   | (with_reducible exact slices_Index_string_string.mono _ _ _)
   | (with_reducible exact LeO.refl _)
   | (with_reducible exact LeO.none _)
   | (with_reducible refine LeO.ite ?_ ?_)
   | (with_reducible refine LeO.bind ?_ (fun _ => ?_))
   | exact ih0 _ _ _ _ _ _
   | exact ih1 _ _ _ _ _ _ _
   | exact ih2 _ _ _ _ _ _
   | exact impl_numbers.mono _ _ _
   | exact slices_Index_string_string.mono _ _ _
   | exact LeO.none _
   | refine LeO.ite ?_ ?_
   | refine LeO.bind ?_ (fun _ => ?_)
  ·intro y0 y1 y2 y3 y4 y5 y6
   unfold impl_ReadCmd.j1
   repeat' first
   | (with_reducible exact ih0 _ _ _ _ _ _)
   | (with_reducible exact ih1 _ _ _ _ _ _ _)
   | (with_reducible exact ih2 _ _ _ _ _ _)
   | (with_reducible exact impl_numbers.mono _ _ _)
   | (with_reducible exact slices_Index_string_string.mono _ _ _)
   | (with_reducible exact LeO.refl _)
   | (with_reducible exact LeO.none _)
   | (with_reducible refine LeO.ite ?_ ?_)
   | (with_reducible refine LeO.bind ?_ (fun _ => ?_))
   | exact ih0 _ _ _ _ _ _
   | exact ih1 _ _ _ _ _ _ _
   | exact ih2 _ _ _ _ _ _
   | exact impl_numbers.mono _ _ _
   | exact slices_Index_string_string.mono _ _ _
   | exact LeO.none _
   | refine LeO.ite ?_ ?_
   | refine LeO.bind ?_ (fun _ => ?_)
  ·intro y0 y1 y2 y3 y4 y5
   unfold impl_ReadCmd.j2
   repeat' first
   | (with_reducible exact ih0 _ _ _ _ _ _)
   | (with_reducible exact ih1 _ _ _ _ _ _ _)
   | (with_reducible exact ih2 _ _ _ _ _ _)
   | (with_reducible exact impl_numbers.mono _ _ _)
   | (with_reducible exact slices_Index_string_string.mono _ _ _)
   | (with_reducible exact LeO.refl _)
   | (with_reducible exact LeO.none _)
   | (with_reducible refine LeO.ite ?_ ?_)
   | (with_reducible refine LeO.bind ?_ (fun _ => ?_))
   | exact ih0 _ _ _ _ _ _
   | exact ih1 _ _ _ _ _ _ _
   | exact ih2 _ _ _ _ _ _
   | exact impl_numbers.mono _ _ _
   | exact slices_Index_string_string.mono _ _ _
   | exact LeO.none _
   | refine LeO.ite ?_ ?_
   | refine LeO.bind ?_ (fun _ => ?_)
theorem impl_ReadCmd.mono : ∀ a0 k, LeO (impl_ReadCmd.f k a0) (impl_ReadCmd.f (k + 1) a0) := by
 intro a0 k
 obtain ⟨ih0, ih1, ih2⟩ := impl_ReadCmd.mono_l k
 unfold impl_ReadCmd.f
 repeat' first
   | (with_reducible exact ih0 _ _ _ _ _ _)
   | (with_reducible exact ih1 _ _ _ _ _ _ _)
   | (with_reducible exact ih2 _ _ _ _ _ _)
   | (with_reducible exact impl_numbers.mono _ _ _)
   | (with_reducible exact slices_Index_string_string.mono _ _ _)
   | (with_reducible exact LeO.refl _)
   | (with_reducible exact LeO.none _)
   | (with_reducible refine LeO.ite ?_ ?_)
   | (with_reducible refine LeO.bind ?_ (fun _ => ?_))
   | exact ih0 _ _ _ _ _ _
   | exact ih1 _ _ _ _ _ _ _
   | exact ih2 _ _ _ _ _ _
   | exact impl_numbers.mono _ _ _
   | exact slices_Index_string_string.mono _ _ _
   | exact LeO.none _
   | refine LeO.ite ?_ ?_
   | refine LeO.bind ?_ (fun _ => ?_)
def impl_ReadCmd.T13 : Bool × List (List Nat × List Nat) := (true, [([], []), ([0], [0]), ([1], [1]), ([], []), ([3], [3]), ([4], [4]), ([], []), ([6], [6]), ([7], [7]), ([], []), ([9], [9]), ([10], [10]), ([0, 1, 2], []), ([12, 2, 0, 1, 2], [2, 12]), ([0, 1, 2, 3, 4, 5, 12, 13], []), ([14, 5, 13, 0, 1, 2, 3, 4, 5, 12, 13], [5, 14]), ([0, 1, 2, 3, 4, 5, 6, 7, 8, 12, 13, 14, 15], []), ([16, 8, 15, 0, 1, 2, 3, 4, 5, 6, 7, 8, 12, 13, 14, 15], [8, 16]), ([0, 1, 2, 3, 4, 5, 6, 7, 8, 9, 10, 11, 12, 13, 14, 15, 16, 17], []), ([18, 11, 17, 0, 1, 2, 3, 4, 5, 6, 7, 8, 9, 10, 11, 12, 13, 14, 15, 16, 17], [11, 18])])
def impl_ReadCmd.B13 : List Nat := [0, 1, 3, 0, 8, 24, 0, 64, 192, 0, 512, 1536, 7, 4103, 12351, 28735, 61951, 127487, 262143, 524287]
theorem impl_ReadCmd.tab13 : rtab .any (opsOf Tryd.f14 13) = impl_ReadCmd.T13 := by kernel_rfl
theorem impl_ReadCmd.bits13 : waitsOk impl_ReadCmd.T13.2 impl_ReadCmd.B13 = true := by kernel_rfl
def impl_ReadCmd.T15 : Bool × List (List Nat × List Nat) := (true, [([], []), ([0], [0]), ([1], [1]), ([], []), ([3], [3]), ([4], [4]), ([0, 1, 2], []), ([6, 2, 0, 1, 2], [2, 6]), ([0, 1, 2, 3, 4, 5, 6, 7], []), ([8, 5, 7, 0, 1, 2, 3, 4, 5, 6, 7], [5, 8])])
def impl_ReadCmd.B15 : List Nat := [0, 1, 3, 0, 8, 24, 7, 71, 255, 511]
theorem impl_ReadCmd.tab15 : rtab .any (opsOf Tryd.f14 15) = impl_ReadCmd.T15 := by kernel_rfl
theorem impl_ReadCmd.bits15 : waitsOk impl_ReadCmd.T15.2 impl_ReadCmd.B15 = true := by kernel_rfl
theorem impl_ReadCmd.calls (k : Nat) (a0 : ByteArray) (r1 : Int) (r2 : Int) (r3 : Int) (r4 : Int) (r5 : Int) (r6 : Int) (r7 : Bool) (w : World) (h : impl_ReadCmd.f k a0 = some (r1, r2, r3, r4, r5, r6, r7)) (hM : EnvM 0 w) :
  Calls Tryd.prog 14 #[.string a0] w fun e w' => e = .returned (.tuple #[.agg #[.int .i64 r1, .int .i64 r2, .int .i64 r3, .int .i64 r4, .int .i64 r5], .int .i64 r6, .bool r7]) ∧ Below w.heap.size w w' := by
 have HMw := Am hM
 clear hM
 have hu25 := Tryd.underlying25
 have HB := Am (Below.refl w.heap.size w)
 have H : ((strings_Split.f a0 (⟨#[32]⟩ : ByteArray)).bind fun t238 => (if 0 < (t238.length : Int) then ((slices_Index_string_string.f k (([(⟨#[45]⟩ : ByteArray), (⟨#[109, 111, 118, 101]⟩ : ByteArray), (⟨#[114, 101, 97, 100]⟩ : ByteArray)] : List ByteArray)) (rdOf ByteArray.empty t238 0)).bind fun t245 => (if t245 < 0 then (some (0, 0, 0, 0, 0, 1, false)) else ((some (([1, 5, 3] : List Int) : List Int)).bind fun y246 => (if 0 ≤ t245 then (if t245 < (y246.length : Int) then (if (t238.length : Int) = (rd y246 t245) then (if 1 ≤ (t238.length : Int) then ((impl_numbers.f k (t238.drop 1) 4).bind fun bt254 => (if bt254.2 = true then (if t245 = 1 then (if 0 < (bt254.1.length : Int) then (if 1 < (bt254.1.length : Int) then (if 2 < (bt254.1.length : Int) then (if 3 < (bt254.1.length : Int) then (impl_ReadCmd.j0 k t245 t245 (rd bt254.1 0) (rd bt254.1 1) (rd bt254.1 2) (rd bt254.1 3)) else (none)) else (none)) else (none)) else (none)) else (if t245 = 2 then (if 0 < (bt254.1.length : Int) then (if 1 < (bt254.1.length : Int) then (impl_ReadCmd.j0 k t245 t245 (rd bt254.1 0) (rd bt254.1 1) 0 0) else (none)) else (none)) else (impl_ReadCmd.j0 k t245 t245 0 0 0 0))) else (some (0, 0, 0, 0, 0, 3, false)))) else (none)) else (some (0, 0, 0, 0, 0, 2, false))) else (none)) else (none))))) else (none))) = some (r1, r2, r3, r4, r5, r6, r7) := h
 clear h
 replace H := Option.bind_eq_some_iff.mp H
 obtain ⟨t238, A20, H⟩ := H
 replace H : (if 0 < (t238.length : Int) then ((slices_Index_string_string.f k (([(⟨#[45]⟩ : ByteArray), (⟨#[109, 111, 118, 101]⟩ : ByteArray), (⟨#[114, 101, 97, 100]⟩ : ByteArray)] : List ByteArray)) (rdOf ByteArray.empty t238 0)).bind fun t245 => (if t245 < 0 then (some (0, 0, 0, 0, 0, 1, false)) else ((some (([1, 5, 3] : List Int) : List Int)).bind fun y246 => (if 0 ≤ t245 then (if t245 < (y246.length : Int) then (if (t238.length : Int) = (rd y246 t245) then (if 1 ≤ (t238.length : Int) then ((impl_numbers.f k (t238.drop 1) 4).bind fun bt254 => (if bt254.2 = true then (if t245 = 1 then (if 0 < (bt254.1.length : Int) then (if 1 < (bt254.1.length : Int) then (if 2 < (bt254.1.length : Int) then (if 3 < (bt254.1.length : Int) then (impl_ReadCmd.j0 k t245 t245 (rd bt254.1 0) (rd bt254.1 1) (rd bt254.1 2) (rd bt254.1 3)) else (none)) else (none)) else (none)) else (none)) else (if t245 = 2 then (if 0 < (bt254.1.length : Int) then (if 1 < (bt254.1.length : Int) then (impl_ReadCmd.j0 k t245 t245 (rd bt254.1 0) (rd bt254.1 1) 0 0) else (none)) else (none)) else (impl_ReadCmd.j0 k t245 t245 0 0 0 0))) else (some (0, 0, 0, 0, 0, 3, false)))) else (none)) else (some (0, 0, 0, 0, 0, 2, false))) else (none)) else (none))))) else (none)) = some (r1, r2, r3, r4, r5, r6, r7) := H
 have A2 := Am A20
 clear A20
 obtain ⟨y241, hy241⟩ : ∃ y_ : List ByteArray, y_ = (([(⟨#[45]⟩ : ByteArray), (⟨#[109, 111, 118, 101]⟩ : ByteArray), (⟨#[114, 101, 97, 100]⟩ : ByteArray)] : List ByteArray)) := ⟨_, rfl⟩
 replace H : (if 0 < (t238.length : Int) then ((slices_Index_string_string.f k y241 (rdOf ByteArray.empty t238 0)).bind fun t245 => (if t245 < 0 then (some (0, 0, 0, 0, 0, 1, false)) else ((some (([1, 5, 3] : List Int) : List Int)).bind fun y246 => (if 0 ≤ t245 then (if t245 < (y246.length : Int) then (if (t238.length : Int) = (rd y246 t245) then (if 1 ≤ (t238.length : Int) then ((impl_numbers.f k (t238.drop 1) 4).bind fun bt254 => (if bt254.2 = true then (if t245 = 1 then (if 0 < (bt254.1.length : Int) then (if 1 < (bt254.1.length : Int) then (if 2 < (bt254.1.length : Int) then (if 3 < (bt254.1.length : Int) then (impl_ReadCmd.j0 k t245 t245 (rd bt254.1 0) (rd bt254.1 1) (rd bt254.1 2) (rd bt254.1 3)) else (none)) else (none)) else (none)) else (none)) else (if t245 = 2 then (if 0 < (bt254.1.length : Int) then (if 1 < (bt254.1.length : Int) then (impl_ReadCmd.j0 k t245 t245 (rd bt254.1 0) (rd bt254.1 1) 0 0) else (none)) else (none)) else (impl_ReadCmd.j0 k t245 t245 0 0 0 0))) else (some (0, 0, 0, 0, 0, 3, false)))) else (none)) else (some (0, 0, 0, 0, 0, 2, false))) else (none)) else (none))))) else (none)) = some (r1, r2, r3, r4, r5, r6, r7) := by first | (rw [hy241]; with_reducible exact H) | (have H2_ := (Option.bind_some _ _).symm.trans H; rw [hy241]; with_reducible exact H2_) | (have H2_ := (Option.bind_some _ _).symm.trans H; with_reducible exact H2_) | with_reducible exact H | (rw [hy241]; exact H) | exact H
 have Ny241 := Am hy241
 clear hy241
 by_cases c3 : 0 < (t238.length : Int)
 ·rw [if_pos c3] at H
  have c3b0 : decide (0 < (t238.length : Int)) = true := Od c3
  have c3b1 : decide (0 < t238.length) = true := Od (by omega)
  clear c3
  replace H := Option.bind_eq_some_iff.mp H
  obtain ⟨t245, A40, H⟩ := H
  replace H : (if t245 < 0 then (some (0, 0, 0, 0, 0, 1, false)) else ((some (([1, 5, 3] : List Int) : List Int)).bind fun y246 => (if 0 ≤ t245 then (if t245 < (y246.length : Int) then (if (t238.length : Int) = (rd y246 t245) then (if 1 ≤ (t238.length : Int) then ((impl_numbers.f k (t238.drop 1) 4).bind fun bt254 => (if bt254.2 = true then (if t245 = 1 then (if 0 < (bt254.1.length : Int) then (if 1 < (bt254.1.length : Int) then (if 2 < (bt254.1.length : Int) then (if 3 < (bt254.1.length : Int) then (impl_ReadCmd.j0 k t245 t245 (rd bt254.1 0) (rd bt254.1 1) (rd bt254.1 2) (rd bt254.1 3)) else (none)) else (none)) else (none)) else (none)) else (if t245 = 2 then (if 0 < (bt254.1.length : Int) then (if 1 < (bt254.1.length : Int) then (impl_ReadCmd.j0 k t245 t245 (rd bt254.1 0) (rd bt254.1 1) 0 0) else (none)) else (none)) else (impl_ReadCmd.j0 k t245 t245 0 0 0 0))) else (some (0, 0, 0, 0, 0, 3, false)))) else (none)) else (some (0, 0, 0, 0, 0, 2, false))) else (none)) else (none)))) = some (r1, r2, r3, r4, r5, r6, r7) := H
  have A4 := Am A40
  clear A40
  by_cases c5 : t245 < 0
  ·rw [if_pos c5] at H
   have c5b0 : decide (t245 < 0) = true := Od c5
   clear c5
   simp only [Option.some.injEq, Prod.mk.injEq] at H
   obtain ⟨rfl, rfl, rfl, rfl, rfl, rfl, rfl⟩ := H
   go_enter Tryd.func14, Tryd.ntmps14
   go_wp2_with (first | ((refine Gd (N := 2) rfl ?_); refine Be ?hg (N := 2) ?hd (cs := #[.int .i64 0, .int .i64 0, .int .i64 0, .int .i64 0, .int .i64 0]) (t := 25) ?hr ?_; (case hd | hg => rfl); (case hr => go_simp <;> rfl); intro gb237 hg w6 hbox hb; have n0_ := Am (Bt (by repeat (first | exact HB.out | apply Ba | apply Bn | apply Bd)) hb); have n1_ := Am (hbox); have n2_ := Am ((by rw [hg]; exact (Bz (by repeat (first | exact HB.out | apply Ba | apply Bn | apply Bd))) : w.heap.size ≤ gb237)); have n3_ := Am ((by rw [hg]; exact (Bz (by repeat (first | exact HB.out | apply Ba | apply Bn | apply Bd))) : w.heap.size ≤ gb237)); clear HB; have HB := n0_; have BK237 := n1_; have GW237 := n2_; have GE237 := n3_; clear n0_ n1_ n2_ n3_; clear hb hbox hg) | ((refine Gc (f := 41) rfl ?_); refine goesL_ (some 11) rfl rfl Tryd.func41 (by kernel_rfl) rfl #[.string a0, .string (⟨#[32]⟩ : ByteArray)] rfl (by first | rfl | simp only [Lm, Lc, Ln] <;> rfl) ?_; (with_reducible refine (strings_Split.calls a0 (⟨#[32]⟩ : ByteArray) t238 _ A2.out (EnvM.below HMw.out (by repeat (first | (with_reducible first | exact HB.out | apply Ba | apply Bn | apply Bd | refine Bs ?_ GE237.out) | exact HB.out)))).mono ?_); rintro e w7 ⟨v239, rfl, ho0, hb⟩; refine ⟨_, rfl, ?_⟩; have n0_ := Am (Kd.R_lower ho0 (Bz (by repeat (first | (with_reducible first | exact HB.out | apply Ba | apply Bn | apply Bd | refine Bs ?_ GE237.out) | exact HB.out)))); have n1_ := Am (Kb (g := gb237) (o := .cells #[.int .i64 0, .int .i64 0, .int .i64 0, .int .i64 0, .int .i64 0] 25 (0, 0)) (by (with_reducible repeat (first | refine Kn ?_ _ | refine Ke ?_ | refine Ka ?_ _)); exact BK237.out) hb); have n2_ := Am (Bt (by repeat (first | (with_reducible first | exact HB.out | apply Ba | apply Bn | apply Bd | refine Bs ?_ GE237.out) | exact HB.out)) hb); clear BK237; clear HB; have HO240 := n0_; have BK237 := n1_; have HB := n2_; clear n0_ n1_ n2_; (try clear hb); (try clear hb2); (try clear hk); (try clear hi); (try clear ho0)) | ((refine Gd (N := 12) rfl ?_); refine Kd.R_lit Kd.string _ 9 ?hg (N := 12) ?hd (xs := ([(⟨#[45]⟩ : ByteArray), (⟨#[109, 111, 118, 101]⟩ : ByteArray), (⟨#[114, 101, 97, 100]⟩ : ByteArray)] : List ByteArray)) (inner := [.string (⟨#[45]⟩ : ByteArray), .string (⟨#[109, 111, 118, 101]⟩ : ByteArray), .string (⟨#[114, 101, 97, 100]⟩ : ByteArray)]) (ok := fun _ => True) (okp := fun _ => True) ?hr ?hp (fun _ hk => hk) trivial (Below.refl _ _) (Nat.le_refl _) (by simp) ?_; (case hd | hg => rfl); (case hr => go_simp <;> rfl); (case hp => exact (Reps.one (show Kd.M Kd.string _ _ _ (⟨#[45]⟩ : ByteArray) [.string (⟨#[45]⟩ : ByteArray)] from rfl) (Reps.one (show Kd.M Kd.string _ _ _ (⟨#[109, 111, 118, 101]⟩ : ByteArray) [.string (⟨#[109, 111, 118, 101]⟩ : ByteArray)] from rfl) (Reps.one (show Kd.M Kd.string _ _ _ (⟨#[114, 101, 97, 100]⟩ : ByteArray) [.string (⟨#[114, 101, 97, 100]⟩ : ByteArray)] from rfl) (Reps.none _ _))))); intro v242 w8 ho9 hb hg_ hnew_; clear hg_ hnew_; (first | rw [← Ny241.out] at ho9 | (simp only [Int.reduceToNat] at ho9; rw [← Ny241.out] at ho9)); have n0_ := Am (Kd.R_elder' (by (with_reducible repeat (first | apply Ra | apply Rn | apply Rd)); exact HO240.out) (Kd.R_base ho9) hb); have n1_ := Am (Kd.R_lower (Kd.R_new' ho9 (Kd.R_lt (by (with_reducible repeat (first | apply Ra | apply Rn | apply Rd)); exact HO240.out))) (Bz (by repeat (first | (with_reducible first | exact HB.out | apply Ba | apply Bn | apply Bd | refine Bs ?_ GE237.out) | exact HB.out)))); have n2_ := Am (Kb (g := gb237) (o := .cells #[.int .i64 0, .int .i64 0, .int .i64 0, .int .i64 0, .int .i64 0] 25 (0, 0)) (by (with_reducible repeat (first | refine Kn ?_ _ | refine Ke ?_ | refine Ka ?_ _)); exact BK237.out) hb); have n3_ := Am (Bt (by repeat (first | (with_reducible first | exact HB.out | apply Ba | apply Bn | apply Bd | refine Bs ?_ GE237.out) | exact HB.out)) hb); clear HO240; clear BK237; clear HB; have HO240 := n0_; have HO243 := n1_; have BK237 := n2_; have HB := n3_; clear n0_ n1_ n2_ n3_; clear hb ho9; obtain ⟨Ao10, co10, eo10⟩ := Rs HO240.out; subst eo10; have p244 : 0 ≤ (0 : Int) := (by omega); have q244 : 0 < (t238.length : Int) := Oq (by assumption); obtain ⟨ad244, e244, hx244_0⟩ := Kd.at_string (Rr HO240.out).2.2 0 p244 q244; cases e244; have qi244 : (0 < t238.length) = True := eq_true (by omega); (try rw [show ((0 : Int)).toNat = 0 from rfl] at hx244_0); (try rw [Addr.add_zero'] at hx244_0); replace p244 := eq_true p244; replace q244 := eq_true q244; obtain ⟨Ao11, co11, eo11⟩ := Rs HO243.out; subst eo11) | ((refine Gc (f := 42) rfl ?_); refine goesL_ (some 16) rfl rfl Tryd.func42 (by kernel_rfl) rfl #[.slice Ao11 y241.length co11, .string (rdOf ByteArray.empty t238 0)] rfl (by first | rfl | simp only [Lm, Lc, Ln] <;> rfl) ?_; (with_reducible refine (slices_Index_string_string.calls k _ _ y241 (rdOf ByteArray.empty t238 0) t245 _ ?side1 ?side2 A4.out).mono ?_); (case side1 => repeat (first | exact (Rr HO243.out).2.2 | (with_reducible refine Kd.C_alloc ?_ _) | (with_reducible refine Kd.C_drewN ?_ _) | (with_reducible refine Kd.C_drew ?_))); (case side2 => exact (Rr HO243.out).2.1); rintro e w' ⟨rfl, ⟨nd, rfl⟩⟩; refine ⟨_, rfl, ?_⟩; (try (rw [drewN_self w8]; generalize hq_ : World.drewN w8 _ = w8; have n0_ : Ad (Kd.R Kd.string 9 w8 w.heap.size (fun k_ => some k_ ≠ (.slice Ao11 y241.length co11 : Value).ownBlock) (.slice (some ad244) t238.length co10) t238) := ⟨by rw [← hq_]; exact (by (with_reducible repeat (first | apply Ra | apply Rn | apply Rd)); exact Rm HO240.out (fun _ hk => hk.2))⟩; have n1_ : Ad (Kd.R Kd.string 9 w8 w.heap.size (fun k_ => some k_ ≠ (.slice (some ad244) t238.length co10 : Value).ownBlock) (.slice Ao11 y241.length co11) y241) := ⟨by rw [← hq_]; exact (by (with_reducible repeat (first | apply Ra | apply Rn | apply Rd)); exact Rm HO243.out (fun _ hk => hk.2))⟩; have n2_ : Ad (w8.heap[gb237]? = some (.cells #[.int .i64 0, .int .i64 0, .int .i64 0, .int .i64 0, .int .i64 0] 25 (0, 0))) := ⟨by rw [← hq_]; exact (by (with_reducible repeat (first | refine Kn ?_ _ | refine Ke ?_ | refine Ka ?_ _)); exact BK237.out)⟩; have n3_ : Ad (Below w.heap.size w w8) := ⟨by rw [← hq_]; exact (by repeat (first | (with_reducible first | exact HB.out | apply Ba | apply Bn | apply Bd | refine Bs ?_ GE237.out) | exact HB.out))⟩; clear HO240 HO243 BK237 HB hq_; have HO240 := n0_; have HO243 := n1_; have BK237 := n2_; have HB := n3_; clear n0_ n1_ n2_ n3_)); have hcz12_0 : w8.cell? ⟨gb237, 0, none⟩ = some (.int .i64 0) := (Kc BK237.out 0).trans rfl; have hcz12_1 : w8.cell? ⟨gb237, 1, none⟩ = some (.int .i64 0) := (Kc BK237.out 1).trans rfl; have hcz12_2 : w8.cell? ⟨gb237, 2, none⟩ = some (.int .i64 0) := (Kc BK237.out 2).trans rfl; have hcz12_3 : w8.cell? ⟨gb237, 3, none⟩ = some (.int .i64 0) := (Kc BK237.out 3).trans rfl; have hcz12_4 : w8.cell? ⟨gb237, 4, none⟩ = some (.int .i64 0) := (Kc BK237.out 4).trans rfl; have hfz12_0 := Kz BK237.out 0; have hfz12_1 := Kz BK237.out 1; have hfz12_2 := Kz BK237.out 2; have hfz12_3 := Kz BK237.out 3; have hfz12_4 := Kz BK237.out 4))
   refine bodyPost_ret (results_ctt rfl _ _ gb237 25 #[.int .i64 0, .int .i64 0, .int .i64 0, .int .i64 0, .int .i64 0] (0, 0) _ rfl (by (with_reducible repeat (first | refine Kn ?_ _ | refine Ke ?_ | refine Ka ?_ _)); refine blk_put (cs := #[.int .i64 0, .int .i64 0, .int .i64 0, .int .i64 0, .int .i64 0]) ?_ 4 _ rfl; (with_reducible repeat (first | refine Kn ?_ _ | refine Ke ?_ | refine Ka ?_ _)); refine blk_put (cs := #[.int .i64 0, .int .i64 0, .int .i64 0, .int .i64 0, .int .i64 0]) ?_ 3 _ rfl; (with_reducible repeat (first | refine Kn ?_ _ | refine Ke ?_ | refine Ka ?_ _)); refine blk_put (cs := #[.int .i64 0, .int .i64 0, .int .i64 0, .int .i64 0, .int .i64 0]) ?_ 2 _ rfl; (with_reducible repeat (first | refine Kn ?_ _ | refine Ke ?_ | refine Ka ?_ _)); refine blk_put (cs := #[.int .i64 0, .int .i64 0, .int .i64 0, .int .i64 0, .int .i64 0]) ?_ 1 _ rfl; (with_reducible repeat (first | refine Kn ?_ _ | refine Ke ?_ | refine Ka ?_ _)); refine blk_put (cs := #[.int .i64 0, .int .i64 0, .int .i64 0, .int .i64 0, .int .i64 0]) ?_ 0 _ rfl; (with_reducible repeat (first | refine Kn ?_ _ | refine Ke ?_ | refine Ka ?_ _)); exact BK237.out) Tryd.underlying25 rfl (by kernel_rfl)) rfl ?_
   exact ⟨by first | rfl | (simp [*, errW_none, errW_some] <;> rfl), by repeat (first | (with_reducible first | exact HB.out | apply Ba | apply Bn | apply Bd | refine Bs ?_ GE237.out) | exact HB.out)⟩
  ·rw [if_neg c5] at H
   have c5b0 : decide (t245 < 0) = false := decide_eq_false c5
   clear c5
   obtain ⟨y246, hy246⟩ : ∃ y_ : List Int, y_ = (([1, 5, 3] : List Int)) := ⟨_, rfl⟩
   replace H : (if 0 ≤ t245 then (if t245 < (y246.length : Int) then (if (t238.length : Int) = (rd y246 t245) then (if 1 ≤ (t238.length : Int) then ((impl_numbers.f k (t238.drop 1) 4).bind fun bt254 => (if bt254.2 = true then (if t245 = 1 then (if 0 < (bt254.1.length : Int) then (if 1 < (bt254.1.length : Int) then (if 2 < (bt254.1.length : Int) then (if 3 < (bt254.1.length : Int) then (impl_ReadCmd.j0 k t245 t245 (rd bt254.1 0) (rd bt254.1 1) (rd bt254.1 2) (rd bt254.1 3)) else (none)) else (none)) else (none)) else (none)) else (if t245 = 2 then (if 0 < (bt254.1.length : Int) then (if 1 < (bt254.1.length : Int) then (impl_ReadCmd.j0 k t245 t245 (rd bt254.1 0) (rd bt254.1 1) 0 0) else (none)) else (none)) else (impl_ReadCmd.j0 k t245 t245 0 0 0 0))) else (some (0, 0, 0, 0, 0, 3, false)))) else (none)) else (some (0, 0, 0, 0, 0, 2, false))) else (none)) else (none)) = some (r1, r2, r3, r4, r5, r6, r7) := by first | (rw [hy246]; with_reducible exact H) | (have H2_ := (Option.bind_some _ _).symm.trans H; rw [hy246]; with_reducible exact H2_) | (have H2_ := (Option.bind_some _ _).symm.trans H; with_reducible exact H2_) | with_reducible exact H | (rw [hy246]; exact H) | exact H
   have Ny246 := Am hy246
   clear hy246
   by_cases c13 : 0 ≤ t245
   ·rw [if_pos c13] at H
    have c13b0 : decide (0 ≤ t245) = true := Od c13
    clear c13
    by_cases c14 : t245 < (y246.length : Int)
    ·rw [if_pos c14] at H
     have c14b0 : decide (t245 < (y246.length : Int)) = true := Od c14
     clear c14
     by_cases c15 : (t238.length : Int) = (rd y246 t245)
     ·rw [if_pos c15] at H
      have c15b0 : ((t238.length : Int) == (rd y246 t245)) = true := beq_iff_eq.mpr c15
      have c15b1 : ((t238.length : Int) != (rd y246 t245)) = false := bne_eq_false_iff_eq.mpr c15
      clear c15
      by_cases c16 : 1 ≤ (t238.length : Int)
      ·rw [if_pos c16] at H
       have c16b0 := eq_true c16
       have c16b1 : decide (1 ≤ (t238.length : Int)) = true := Od c16
       clear c16
       obtain ⟨y250, hy250⟩ : ∃ y_ : List ByteArray, y_ = (t238.drop 1) := ⟨_, rfl⟩
       replace H : ((impl_numbers.f k y250 4).bind fun bt254 => (if bt254.2 = true then (if t245 = 1 then (if 0 < (bt254.1.length : Int) then (if 1 < (bt254.1.length : Int) then (if 2 < (bt254.1.length : Int) then (if 3 < (bt254.1.length : Int) then (impl_ReadCmd.j0 k t245 t245 (rd bt254.1 0) (rd bt254.1 1) (rd bt254.1 2) (rd bt254.1 3)) else (none)) else (none)) else (none)) else (none)) else (if t245 = 2 then (if 0 < (bt254.1.length : Int) then (if 1 < (bt254.1.length : Int) then (impl_ReadCmd.j0 k t245 t245 (rd bt254.1 0) (rd bt254.1 1) 0 0) else (none)) else (none)) else (impl_ReadCmd.j0 k t245 t245 0 0 0 0))) else (some (0, 0, 0, 0, 0, 3, false)))) = some (r1, r2, r3, r4, r5, r6, r7) := by first | (rw [hy250]; with_reducible exact H) | (have H2_ := (Option.bind_some _ _).symm.trans H; rw [hy250]; with_reducible exact H2_) | (have H2_ := (Option.bind_some _ _).symm.trans H; with_reducible exact H2_) | with_reducible exact H | (rw [hy250]; exact H) | exact H
       have Ny250 := Am hy250
       clear hy250
       replace H := Option.bind_eq_some_iff.mp H
       obtain ⟨⟨t254, t255⟩, A170, H⟩ := H
       replace H : (if t255 = true then (if t245 = 1 then (if 0 < (t254.length : Int) then (if 1 < (t254.length : Int) then (if 2 < (t254.length : Int) then (if 3 < (t254.length : Int) then (impl_ReadCmd.j0 k t245 t245 (rd t254 0) (rd t254 1) (rd t254 2) (rd t254 3)) else (none)) else (none)) else (none)) else (none)) else (if t245 = 2 then (if 0 < (t254.length : Int) then (if 1 < (t254.length : Int) then (impl_ReadCmd.j0 k t245 t245 (rd t254 0) (rd t254 1) 0 0) else (none)) else (none)) else (impl_ReadCmd.j0 k t245 t245 0 0 0 0))) else (some (0, 0, 0, 0, 0, 3, false))) = some (r1, r2, r3, r4, r5, r6, r7) := H
       have A17 := Am A170
       clear A170
       by_cases c18 : t255 = true
       ·subst c18
        have H1 : (if t245 = 1 then (if 0 < (t254.length : Int) then (if 1 < (t254.length : Int) then (if 2 < (t254.length : Int) then (if 3 < (t254.length : Int) then (impl_ReadCmd.j0 k t245 t245 (rd t254 0) (rd t254 1) (rd t254 2) (rd t254 3)) else (none)) else (none)) else (none)) else (none)) else (if t245 = 2 then (if 0 < (t254.length : Int) then (if 1 < (t254.length : Int) then (impl_ReadCmd.j0 k t245 t245 (rd t254 0) (rd t254 1) 0 0) else (none)) else (none)) else (impl_ReadCmd.j0 k t245 t245 0 0 0 0))) = some (r1, r2, r3, r4, r5, r6, r7) := by rw [if_pos rfl] at H; exact H
        clear H
        have H := H1
        clear H1
        have HC19 := Am H
        clear H
        go_enter Tryd.func14, Tryd.ntmps14
        go_upto_block 0 with (first | ((refine Gd (N := 2) rfl ?_); refine Be ?hg (N := 2) ?hd (cs := #[.int .i64 0, .int .i64 0, .int .i64 0, .int .i64 0, .int .i64 0]) (t := 25) ?hr ?_; (case hd | hg => rfl); (case hr => go_simp <;> rfl); intro gb237 hg w20 hbox hb; have n0_ := Am (Bt (by repeat (first | exact HB.out | apply Ba | apply Bn | apply Bd)) hb); have n1_ := Am (hbox); have n2_ := Am ((by rw [hg]; exact (Bz (by repeat (first | exact HB.out | apply Ba | apply Bn | apply Bd))) : w.heap.size ≤ gb237)); have n3_ := Am ((by rw [hg]; exact (Bz (by repeat (first | exact HB.out | apply Ba | apply Bn | apply Bd))) : w.heap.size ≤ gb237)); clear HB; have HB := n0_; have BK237 := n1_; have GW237 := n2_; have GE237 := n3_; clear n0_ n1_ n2_ n3_; clear hb hbox hg) | ((refine Gc (f := 41) rfl ?_); refine goesL_ (some 11) rfl rfl Tryd.func41 (by kernel_rfl) rfl #[.string a0, .string (⟨#[32]⟩ : ByteArray)] rfl (by first | rfl | simp only [Lm, Lc, Ln] <;> rfl) ?_; (with_reducible refine (strings_Split.calls a0 (⟨#[32]⟩ : ByteArray) t238 _ A2.out (EnvM.below HMw.out (by repeat (first | (with_reducible first | exact HB.out | apply Ba | apply Bn | apply Bd | refine Bs ?_ GE237.out) | exact HB.out)))).mono ?_); rintro e w21 ⟨v239, rfl, ho0, hb⟩; refine ⟨_, rfl, ?_⟩; have n0_ := Am (Kd.R_lower ho0 (Bz (by repeat (first | (with_reducible first | exact HB.out | apply Ba | apply Bn | apply Bd | refine Bs ?_ GE237.out) | exact HB.out)))); have n1_ := Am (Kb (g := gb237) (o := .cells #[.int .i64 0, .int .i64 0, .int .i64 0, .int .i64 0, .int .i64 0] 25 (0, 0)) (by (with_reducible repeat (first | refine Kn ?_ _ | refine Ke ?_ | refine Ka ?_ _)); exact BK237.out) hb); have n2_ := Am (Bt (by repeat (first | (with_reducible first | exact HB.out | apply Ba | apply Bn | apply Bd | refine Bs ?_ GE237.out) | exact HB.out)) hb); clear BK237; clear HB; have HO240 := n0_; have BK237 := n1_; have HB := n2_; clear n0_ n1_ n2_; (try clear hb); (try clear hb2); (try clear hk); (try clear hi); (try clear ho0)) | ((refine Gd (N := 12) rfl ?_); refine Kd.R_lit Kd.string _ 9 ?hg (N := 12) ?hd (xs := ([(⟨#[45]⟩ : ByteArray), (⟨#[109, 111, 118, 101]⟩ : ByteArray), (⟨#[114, 101, 97, 100]⟩ : ByteArray)] : List ByteArray)) (inner := [.string (⟨#[45]⟩ : ByteArray), .string (⟨#[109, 111, 118, 101]⟩ : ByteArray), .string (⟨#[114, 101, 97, 100]⟩ : ByteArray)]) (ok := fun _ => True) (okp := fun _ => True) ?hr ?hp (fun _ hk => hk) trivial (Below.refl _ _) (Nat.le_refl _) (by simp) ?_; (case hd | hg => rfl); (case hr => go_simp <;> rfl); (case hp => exact (Reps.one (show Kd.M Kd.string _ _ _ (⟨#[45]⟩ : ByteArray) [.string (⟨#[45]⟩ : ByteArray)] from rfl) (Reps.one (show Kd.M Kd.string _ _ _ (⟨#[109, 111, 118, 101]⟩ : ByteArray) [.string (⟨#[109, 111, 118, 101]⟩ : ByteArray)] from rfl) (Reps.one (show Kd.M Kd.string _ _ _ (⟨#[114, 101, 97, 100]⟩ : ByteArray) [.string (⟨#[114, 101, 97, 100]⟩ : ByteArray)] from rfl) (Reps.none _ _))))); intro v242 w22 ho23 hb hg_ hnew_; clear hg_ hnew_; (first | rw [← Ny241.out] at ho23 | (simp only [Int.reduceToNat] at ho23; rw [← Ny241.out] at ho23)); have n0_ := Am (Kd.R_elder' (by (with_reducible repeat (first | apply Ra | apply Rn | apply Rd)); exact HO240.out) (Kd.R_base ho23) hb); have n1_ := Am (Kd.R_lower (Kd.R_new' ho23 (Kd.R_lt (by (with_reducible repeat (first | apply Ra | apply Rn | apply Rd)); exact HO240.out))) (Bz (by repeat (first | (with_reducible first | exact HB.out | apply Ba | apply Bn | apply Bd | refine Bs ?_ GE237.out) | exact HB.out)))); have n2_ := Am (Kb (g := gb237) (o := .cells #[.int .i64 0, .int .i64 0, .int .i64 0, .int .i64 0, .int .i64 0] 25 (0, 0)) (by (with_reducible repeat (first | refine Kn ?_ _ | refine Ke ?_ | refine Ka ?_ _)); exact BK237.out) hb); have n3_ := Am (Bt (by repeat (first | (with_reducible first | exact HB.out | apply Ba | apply Bn | apply Bd | refine Bs ?_ GE237.out) | exact HB.out)) hb); clear HO240; clear BK237; clear HB; have HO240 := n0_; have HO243 := n1_; have BK237 := n2_; have HB := n3_; clear n0_ n1_ n2_ n3_; clear hb ho23; obtain ⟨Ao24, co24, eo24⟩ := Rs HO240.out; subst eo24; have p244 : 0 ≤ (0 : Int) := (by omega); have q244 : 0 < (t238.length : Int) := Oq (by assumption); obtain ⟨ad244, e244, hx244_0⟩ := Kd.at_string (Rr HO240.out).2.2 0 p244 q244; cases e244; have qi244 : (0 < t238.length) = True := eq_true (by omega); (try rw [show ((0 : Int)).toNat = 0 from rfl] at hx244_0); (try rw [Addr.add_zero'] at hx244_0); replace p244 := eq_true p244; replace q244 := eq_true q244; obtain ⟨Ao25, co25, eo25⟩ := Rs HO243.out; subst eo25) | ((refine Gc (f := 42) rfl ?_); refine goesL_ (some 16) rfl rfl Tryd.func42 (by kernel_rfl) rfl #[.slice Ao25 y241.length co25, .string (rdOf ByteArray.empty t238 0)] rfl (by first | rfl | simp only [Lm, Lc, Ln] <;> rfl) ?_; (with_reducible refine (slices_Index_string_string.calls k _ _ y241 (rdOf ByteArray.empty t238 0) t245 _ ?side1 ?side2 A4.out).mono ?_); (case side1 => repeat (first | exact (Rr HO243.out).2.2 | (with_reducible refine Kd.C_alloc ?_ _) | (with_reducible refine Kd.C_drewN ?_ _) | (with_reducible refine Kd.C_drew ?_))); (case side2 => exact (Rr HO243.out).2.1); rintro e w' ⟨rfl, ⟨nd, rfl⟩⟩; refine ⟨_, rfl, ?_⟩; (try (rw [drewN_self w22]; generalize hq_ : World.drewN w22 _ = w22; have n0_ : Ad (Kd.R Kd.string 9 w22 w.heap.size (fun k_ => some k_ ≠ (.slice Ao25 y241.length co25 : Value).ownBlock) (.slice (some ad244) t238.length co24) t238) := ⟨by rw [← hq_]; exact (by (with_reducible repeat (first | apply Ra | apply Rn | apply Rd)); exact Rm HO240.out (fun _ hk => hk.2))⟩; have n1_ : Ad (Kd.R Kd.string 9 w22 w.heap.size (fun k_ => some k_ ≠ (.slice (some ad244) t238.length co24 : Value).ownBlock) (.slice Ao25 y241.length co25) y241) := ⟨by rw [← hq_]; exact (by (with_reducible repeat (first | apply Ra | apply Rn | apply Rd)); exact Rm HO243.out (fun _ hk => hk.2))⟩; have n2_ : Ad (w22.heap[gb237]? = some (.cells #[.int .i64 0, .int .i64 0, .int .i64 0, .int .i64 0, .int .i64 0] 25 (0, 0))) := ⟨by rw [← hq_]; exact (by (with_reducible repeat (first | refine Kn ?_ _ | refine Ke ?_ | refine Ka ?_ _)); exact BK237.out)⟩; have n3_ : Ad (Below w.heap.size w w22) := ⟨by rw [← hq_]; exact (by repeat (first | (with_reducible first | exact HB.out | apply Ba | apply Bn | apply Bd | refine Bs ?_ GE237.out) | exact HB.out))⟩; clear HO240 HO243 BK237 HB hq_; have HO240 := n0_; have HO243 := n1_; have BK237 := n2_; have HB := n3_; clear n0_ n1_ n2_ n3_))) | ((refine Gd (N := 22) rfl ?_); refine Kd.R_lit (Kd.int .i64) _ 3 ?hg (N := 22) ?hd (xs := ([1, 5, 3] : List Int)) (inner := [.int .i64 1, .int .i64 5, .int .i64 3]) (ok := fun _ => True) (okp := fun _ => True) ?hr ?hp (fun _ hk => hk) trivial (Below.refl _ _) (Nat.le_refl _) (by simp) ?_; (case hd | hg => rfl); (case hr => go_simp <;> rfl); (case hp => exact (Reps.one (show Kd.M (Kd.int .i64) _ _ _ 1 [.int .i64 1] from rfl) (Reps.one (show Kd.M (Kd.int .i64) _ _ _ 5 [.int .i64 5] from rfl) (Reps.one (show Kd.M (Kd.int .i64) _ _ _ 3 [.int .i64 3] from rfl) (Reps.none _ _))))); intro v247 w26 ho27 hb hg_ hnew_; clear hg_ hnew_; (first | rw [← Ny246.out] at ho27 | (simp only [Int.reduceToNat] at ho27; rw [← Ny246.out] at ho27)); have n0_ := Am (Rb (by (with_reducible repeat (first | apply Ra | apply Rn | apply Rd)); exact HO240.out) hb); have n1_ := Am (Rb (by (with_reducible repeat (first | apply Ra | apply Rn | apply Rd)); exact HO243.out) hb); have n2_ := Am (Kd.R_lower ho27 (Bz (by repeat (first | (with_reducible first | exact HB.out | apply Ba | apply Bn | apply Bd | refine Bs ?_ GE237.out) | exact HB.out)))); have n3_ := Am (Kb (g := gb237) (o := .cells #[.int .i64 0, .int .i64 0, .int .i64 0, .int .i64 0, .int .i64 0] 25 (0, 0)) (by (with_reducible repeat (first | refine Kn ?_ _ | refine Ke ?_ | refine Ka ?_ _)); exact BK237.out) hb); have n4_ := Am (Bt (by repeat (first | (with_reducible first | exact HB.out | apply Ba | apply Bn | apply Bd | refine Bs ?_ GE237.out) | exact HB.out)) hb); clear HO240; clear HO243; clear BK237; clear HB; have HO240 := n0_; have HO243 := n1_; have HO248 := n2_; have BK237 := n3_; have HB := n4_; clear n0_ n1_ n2_ n3_ n4_; clear hb ho27; obtain ⟨Ao28, co28, eo28⟩ := Rs HO248.out; subst eo28; have p249 : 0 ≤ (t245 : Int) := Oq (by assumption); have q249 : t245 < (y246.length : Int) := Oq (by assumption); obtain ⟨ad249, e249, hx249_0⟩ := Kd.at_int (Rr HO248.out).2.2 t245 p249 q249; cases e249; replace p249 := eq_true p249; replace q249 := eq_true q249; have q29 : (1 : Int) ≤ ((t238.length : Int) : Int) := Oq (by assumption); obtain ⟨i029, hi029, _, hsz29, _⟩ := info_parts info9; have hroom29 : t238.length ≤ co24 := (Rr HO240.out).2.1; have hC29 : Kd.C Kd.string _ (some ad244) t238.length t238 := (Rr HO240.out).2.2; have hcut29 := cut_from (P := Tryd.prog) 62 9 .i64 Tryd.underlying62 hi029 1 hsz29 (some ad244) t238.length co24 1 (by omega) q29; have hr29 := Kd.C_drop (m := (1 : Int).toNat) (c := co24) hC29 (by omega) hroom29; obtain ⟨A29, hA29⟩ : ∃ A1, A1 = (if co24 = (1 : Int).toNat then (some ad244) else ((some ad244) : Option Addr).map (·.add ((1 : Int).toNat * 1))) := ⟨_, rfl⟩; obtain ⟨c29, hc29⟩ : ∃ c1, c1 = co24 - (1 : Int).toNat := ⟨_, rfl⟩; have hy29 : y250.length = t238.length - (1 : Int).toNat := (by rw [Ny250.out, List.length_drop] <;> omega); rw [show (t238).drop (1 : Int).toNat = y250 from Ny250.out.symm] at hr29; replace hr29 : Kd.C Kd.string _ A29 y250.length y250 := (by rw [hA29]; exact hr29); rw [← hy29, ← hA29, ← hc29] at hcut29; have HR253 := Am hr29; have HC253 := Am (show y250.length ≤ c29 from by rw [hy29, hc29]; exact Nat.sub_le_sub_right hroom29 _); clear hr29 hC29 hroom29 hi029 hsz29 hc29; have KY29 := Am hy29; have KA29 := Am hA29; clear hy29 hA29; have KL29 := Am (show 1 ≤ t238.length from by omega); replace q29 := eq_true q29) | ((refine Gc (f := 43) rfl ?_); refine goesL_ (some 31) rfl rfl Tryd.func43 (by kernel_rfl) rfl #[.slice A29 y250.length c29, .int .i64 4] rfl (by first | rfl | simp only [Lm, Lc, Ln] <;> rfl) ?_; (with_reducible refine (impl_numbers.calls k _ _ y250 4 t254 true _ ?side1 ?side2 A17.out).mono ?_); (case side1 => repeat (first | exact (by repeat (first | (with_reducible exact HR253.out) | (with_reducible refine Kd.C_alloc ?_ _) | (with_reducible refine Kd.C_drewN ?_ _) | (with_reducible refine Kd.C_drew ?_) | exact HR253.out)) | (with_reducible refine Kd.C_alloc ?_ _) | (with_reducible refine Kd.C_drewN ?_ _) | (with_reducible refine Kd.C_drew ?_))); (case side2 => exact HC253.out); rintro e w30 ⟨v256, rfl, ho0, hb⟩; refine ⟨_, rfl, ?_⟩; have n0_ := Am (Rb (by (with_reducible repeat (first | apply Ra | apply Rn | apply Rd)); exact HO240.out) hb); have n1_ := Am (Rb (by (with_reducible repeat (first | apply Ra | apply Rn | apply Rd)); exact HO243.out) hb); have n2_ := Am (Kd.R_elder' (by (with_reducible repeat (first | apply Ra | apply Rn | apply Rd)); exact HO248.out) (Kd.R_base ho0) hb); have n3_ := Am (Kd.R_lower (Kd.R_new' ho0 (Kd.R_lt (by (with_reducible repeat (first | apply Ra | apply Rn | apply Rd)); exact HO248.out))) (Bz (by repeat (first | (with_reducible first | exact HB.out | apply Ba | apply Bn | apply Bd | refine Bs ?_ GE237.out) | exact HB.out)))); have n4_ := Am (Kb (g := gb237) (o := .cells #[.int .i64 0, .int .i64 0, .int .i64 0, .int .i64 0, .int .i64 0] 25 (0, 0)) (by (with_reducible repeat (first | refine Kn ?_ _ | refine Ke ?_ | refine Ka ?_ _)); exact BK237.out) hb); have n5_ := Am (Kd.C_below (by repeat (first | (with_reducible exact HR253.out) | (with_reducible refine Kd.C_alloc ?_ _) | (with_reducible refine Kd.C_drewN ?_ _) | (with_reducible refine Kd.C_drew ?_) | exact HR253.out)) hb); have n6_ := Am (Bt (by repeat (first | (with_reducible first | exact HB.out | apply Ba | apply Bn | apply Bd | refine Bs ?_ GE237.out) | exact HB.out)) hb); clear HO240; clear HO243; clear HO248; clear BK237; clear HR253; clear HB; have HO240 := n0_; have HO243 := n1_; have HO248 := n2_; have HO257 := n3_; have BK237 := n4_; have HR253 := n5_; have HB := n6_; clear n0_ n1_ n2_ n3_ n4_ n5_ n6_; (try clear hb); (try clear hb2); (try clear hk); (try clear hi); (try clear ho0)) | ((refine Gd (N := 9) rfl ?_); refine Be ?hg (N := 9) ?hd (cs := #[.int .i64 0, .int .i64 0, .int .i64 0, .int .i64 0, .int .i64 0]) (t := 25) ?hr ?_; (case hd | hg => rfl); (case hr => go_simp <;> rfl); intro gb258 hg w31 hbox hb; have n0_ := Am (Rb (by (with_reducible repeat (first | apply Ra | apply Rn | apply Rd)); exact HO240.out) hb); have n1_ := Am (Rb (by (with_reducible repeat (first | apply Ra | apply Rn | apply Rd)); exact HO243.out) hb); have n2_ := Am (Rb (by (with_reducible repeat (first | apply Ra | apply Rn | apply Rd)); exact HO248.out) hb); have n3_ := Am (Rb (by (with_reducible repeat (first | apply Ra | apply Rn | apply Rd)); exact HO257.out) hb); have n4_ := Am (Kb (g := gb237) (o := .cells #[.int .i64 0, .int .i64 0, .int .i64 0, .int .i64 0, .int .i64 0] 25 (0, 0)) (by (with_reducible repeat (first | refine Kn ?_ _ | refine Ke ?_ | refine Ka ?_ _)); exact BK237.out) hb); have n5_ := Am (Kd.C_below (by repeat (first | (with_reducible exact HR253.out) | (with_reducible refine Kd.C_alloc ?_ _) | (with_reducible refine Kd.C_drewN ?_ _) | (with_reducible refine Kd.C_drew ?_) | exact HR253.out)) hb); have n6_ := Am (Bt (by repeat (first | (with_reducible first | exact HB.out | apply Ba | apply Bn | apply Bd | refine Bs ?_ GE237.out) | exact HB.out)) hb); have n7_ := Am (hbox); have n8_ := Am ((by rw [hg]; exact (Bz (by repeat (first | (with_reducible first | exact HB.out | apply Ba | apply Bn | apply Bd | refine Bs ?_ GE237.out) | exact HB.out))) : w.heap.size ≤ gb258)); have n9_ := Am ((by rw [hg]; exact (Bz (by repeat (first | (with_reducible first | exact HB.out | apply Ba | apply Bn | apply Bd | refine Bs ?_ GE237.out) | exact HB.out))) : w.heap.size ≤ gb258)); have n10_ := Am ((by rw [hg]; exact Nat.ne_of_lt (blk_lt (g := gb237) (o := .cells #[.int .i64 0, .int .i64 0, .int .i64 0, .int .i64 0, .int .i64 0] 25 (0, 0)) (by (with_reducible repeat (first | refine Kn ?_ _ | refine Ke ?_ | refine Ka ?_ _)); exact BK237.out)) : gb237 ≠ gb258)); have n11_ := Am ((by rw [hg]; exact Nat.ne_of_gt (blk_lt (g := gb237) (o := .cells #[.int .i64 0, .int .i64 0, .int .i64 0, .int .i64 0, .int .i64 0] 25 (0, 0)) (by (with_reducible repeat (first | refine Kn ?_ _ | refine Ke ?_ | refine Ka ?_ _)); exact BK237.out)) : gb258 ≠ gb237)); clear HO240; clear HO243; clear HO248; clear HO257; clear BK237; clear HR253; clear HB; have HO240 := n0_; have HO243 := n1_; have HO248 := n2_; have HO257 := n3_; have BK237 := n4_; have HR253 := n5_; have HB := n6_; have BK258 := n7_; have GW258 := n8_; have GE258 := n9_; have NB237_258 := n10_; have NB258_237 := n11_; clear n0_ n1_ n2_ n3_ n4_ n5_ n6_ n7_ n8_ n9_ n10_ n11_; clear hb hbox hg; have hnb32 := NB258_237.out; have hnc32 := NB237_258.out; have hcz33_0 : w31.cell? ⟨gb258, 0, none⟩ = some (.int .i64 0) := (Kc BK258.out 0).trans rfl; have hcz33_1 : w31.cell? ⟨gb258, 1, none⟩ = some (.int .i64 0) := (Kc BK258.out 1).trans rfl; have hcz33_2 : w31.cell? ⟨gb258, 2, none⟩ = some (.int .i64 0) := (Kc BK258.out 2).trans rfl; have hcz33_3 : w31.cell? ⟨gb258, 3, none⟩ = some (.int .i64 0) := (Kc BK258.out 3).trans rfl; have hcz33_4 : w31.cell? ⟨gb258, 4, none⟩ = some (.int .i64 0) := (Kc BK258.out 4).trans rfl; have hfz33_0 := Kz BK258.out 0; have hfz33_1 := Kz BK258.out 1; have hfz33_2 := Kz BK258.out 2; have hfz33_3 := Kz BK258.out 3; have hfz33_4 := Kz BK258.out 4))
        (try simp only [Act.put, Lt, Lz, Ls])
        go_cut [] (fun wc => ∃ (kq : Nat) (x259001_18 : Int) (x259002_18 : Int) (x259003_18 : Int) (x259004_18 : Int), Ad (impl_ReadCmd.j0 kq t245 t245 x259001_18 x259002_18 x259003_18 x259004_18 = some (r1, r2, r3, r4, r5, r6, r7)) ∧ Ad (kq ≤ k) ∧ Ad (wc.heap[gb237]? = some (.cells #[.int .i64 0, .int .i64 0, .int .i64 0, .int .i64 0, .int .i64 0] 25 (0, 0))) ∧ Ad (wc.heap[gb258]? = some (.cells #[.int .i64 t245, .int .i64 x259001_18, .int .i64 x259002_18, .int .i64 x259003_18, .int .i64 x259004_18] 25 (0, 0))) ∧ Ad (Below w.heap.size w wc))
        case first =>
         have H := HC19.out
         clear HC19
         by_cases c34 : t245 = 1
         ·rw [if_pos c34] at H
          have c34b0 : (t245 == 1) = true := beq_iff_eq.mpr c34
          have c34b1 : (t245 != 1) = false := bne_eq_false_iff_eq.mpr c34
          clear c34
          (first | rw [c34b0] | (simp only [i64_w, i32_w]; rw [c34b0]) | skip)
          by_cases c35 : 0 < (t254.length : Int)
          ·rw [if_pos c35] at H
           have c35b0 : decide (0 < (t254.length : Int)) = true := Od c35
           have c35b1 : decide (0 < t254.length) = true := Od (by omega)
           clear c35
           by_cases c36 : 1 < (t254.length : Int)
           ·rw [if_pos c36] at H
            have c36b0 : decide (1 < (t254.length : Int)) = true := Od c36
            have c36b1 : decide (1 < t254.length) = true := Od (by omega)
            clear c36
            by_cases c37 : 2 < (t254.length : Int)
            ·rw [if_pos c37] at H
             have c37b0 : decide (2 < (t254.length : Int)) = true := Od c37
             have c37b1 : decide (2 < t254.length) = true := Od (by omega)
             clear c37
             by_cases c38 : 3 < (t254.length : Int)
             ·rw [if_pos c38] at H
              have c38b0 : decide (3 < (t254.length : Int)) = true := Od c38
              have c38b1 : decide (3 < t254.length) = true := Od (by omega)
              clear c38
              have H' := Am H
              clear H
              try go_wp2
              have n0_ : Ad (Kd.R Kd.string 9 (((((w31.setCell ⟨gb258, 0, none⟩ (.int .i64 t245)).setCell ⟨gb258, 1, none⟩ (.int .i64 0)).setCell ⟨gb258, 2, none⟩ (.int .i64 0)).setCell ⟨gb258, 3, none⟩ (.int .i64 0)).setCell ⟨gb258, 4, none⟩ (.int .i64 0)) w.heap.size (fun k_ => some k_ ≠ (.slice Ao25 y241.length co25 : Value).ownBlock) (.slice (some ad244) t238.length co24) t238) := ⟨by (with_reducible repeat (first | apply Ra | apply Rn | apply Rd)); exact Rm (Kd.R_far (p := ⟨gb258, 4, none⟩) (Kd.R_far (p := ⟨gb258, 3, none⟩) (Kd.R_far (p := ⟨gb258, 2, none⟩) (Kd.R_far (p := ⟨gb258, 1, none⟩) (Kd.R_far (p := ⟨gb258, 0, none⟩) (Kd.R_types HO240.out BK258.out (by decide)) (fun _ hk => hk.2) (.int .i64 t245)) (fun _ hk => hk.2) (.int .i64 0)) (fun _ hk => hk.2) (.int .i64 0)) (fun _ hk => hk.2) (.int .i64 0)) (fun _ hk => hk.2) (.int .i64 0)) (fun _ hk => by first | exact hk.1.2 | exact hk.1)⟩
              have n1_ : Ad (Kd.R Kd.string 9 (((((w31.setCell ⟨gb258, 0, none⟩ (.int .i64 t245)).setCell ⟨gb258, 1, none⟩ (.int .i64 0)).setCell ⟨gb258, 2, none⟩ (.int .i64 0)).setCell ⟨gb258, 3, none⟩ (.int .i64 0)).setCell ⟨gb258, 4, none⟩ (.int .i64 0)) w.heap.size (fun k_ => some k_ ≠ (.slice (some ad244) t238.length co24 : Value).ownBlock) (.slice Ao25 y241.length co25) y241) := ⟨by (with_reducible repeat (first | apply Ra | apply Rn | apply Rd)); exact Rm (Kd.R_far (p := ⟨gb258, 4, none⟩) (Kd.R_far (p := ⟨gb258, 3, none⟩) (Kd.R_far (p := ⟨gb258, 2, none⟩) (Kd.R_far (p := ⟨gb258, 1, none⟩) (Kd.R_far (p := ⟨gb258, 0, none⟩) (Kd.R_types HO243.out BK258.out (by decide)) (fun _ hk => hk.2) (.int .i64 t245)) (fun _ hk => hk.2) (.int .i64 0)) (fun _ hk => hk.2) (.int .i64 0)) (fun _ hk => hk.2) (.int .i64 0)) (fun _ hk => hk.2) (.int .i64 0)) (fun _ hk => by first | exact hk.1.2 | exact hk.1)⟩
              have n2_ : Ad (Kd.R (Kd.int .i64) 3 (((((w31.setCell ⟨gb258, 0, none⟩ (.int .i64 t245)).setCell ⟨gb258, 1, none⟩ (.int .i64 0)).setCell ⟨gb258, 2, none⟩ (.int .i64 0)).setCell ⟨gb258, 3, none⟩ (.int .i64 0)).setCell ⟨gb258, 4, none⟩ (.int .i64 0)) w.heap.size (fun k_ => some k_ ≠ (v256 : Value).ownBlock) (.slice (some ad249) y246.length co28) y246) := ⟨by (with_reducible repeat (first | apply Ra | apply Rn | apply Rd)); exact Rm (Kd.R_far (p := ⟨gb258, 4, none⟩) (Kd.R_far (p := ⟨gb258, 3, none⟩) (Kd.R_far (p := ⟨gb258, 2, none⟩) (Kd.R_far (p := ⟨gb258, 1, none⟩) (Kd.R_far (p := ⟨gb258, 0, none⟩) (Kd.R_types HO248.out BK258.out (by decide)) (fun _ hk => hk.2) (.int .i64 t245)) (fun _ hk => hk.2) (.int .i64 0)) (fun _ hk => hk.2) (.int .i64 0)) (fun _ hk => hk.2) (.int .i64 0)) (fun _ hk => hk.2) (.int .i64 0)) (fun _ hk => by first | exact hk.1.2 | exact hk.1)⟩
              have n3_ : Ad (Kd.R (Kd.int .i64) 3 (((((w31.setCell ⟨gb258, 0, none⟩ (.int .i64 t245)).setCell ⟨gb258, 1, none⟩ (.int .i64 0)).setCell ⟨gb258, 2, none⟩ (.int .i64 0)).setCell ⟨gb258, 3, none⟩ (.int .i64 0)).setCell ⟨gb258, 4, none⟩ (.int .i64 0)) w.heap.size (fun k_ => some k_ ≠ (.slice (some ad249) y246.length co28 : Value).ownBlock) v256 t254) := ⟨by (with_reducible repeat (first | apply Ra | apply Rn | apply Rd)); exact Rm (Kd.R_far (p := ⟨gb258, 4, none⟩) (Kd.R_far (p := ⟨gb258, 3, none⟩) (Kd.R_far (p := ⟨gb258, 2, none⟩) (Kd.R_far (p := ⟨gb258, 1, none⟩) (Kd.R_far (p := ⟨gb258, 0, none⟩) (Kd.R_types HO257.out BK258.out (by decide)) (fun _ hk => hk.2) (.int .i64 t245)) (fun _ hk => hk.2) (.int .i64 0)) (fun _ hk => hk.2) (.int .i64 0)) (fun _ hk => hk.2) (.int .i64 0)) (fun _ hk => hk.2) (.int .i64 0)) (fun _ hk => by first | exact hk.1.2 | exact hk.1)⟩
              have n4_ : Ad ((((((w31.setCell ⟨gb258, 0, none⟩ (.int .i64 t245)).setCell ⟨gb258, 1, none⟩ (.int .i64 0)).setCell ⟨gb258, 2, none⟩ (.int .i64 0)).setCell ⟨gb258, 3, none⟩ (.int .i64 0)).setCell ⟨gb258, 4, none⟩ (.int .i64 0)).heap[gb237]? = some (.cells #[.int .i64 0, .int .i64 0, .int .i64 0, .int .i64 0, .int .i64 0] 25 (0, 0))) := ⟨by (with_reducible repeat (first | refine Kn ?_ _ | refine Ke ?_ | refine Ka ?_ _)); refine Kf ?_ NB237_258.out _; (with_reducible repeat (first | refine Kn ?_ _ | refine Ke ?_ | refine Ka ?_ _)); refine Kf ?_ NB237_258.out _; (with_reducible repeat (first | refine Kn ?_ _ | refine Ke ?_ | refine Ka ?_ _)); refine Kf ?_ NB237_258.out _; (with_reducible repeat (first | refine Kn ?_ _ | refine Ke ?_ | refine Ka ?_ _)); refine Kf ?_ NB237_258.out _; (with_reducible repeat (first | refine Kn ?_ _ | refine Ke ?_ | refine Ka ?_ _)); refine Kf ?_ NB237_258.out _; (with_reducible repeat (first | refine Kn ?_ _ | refine Ke ?_ | refine Ka ?_ _)); exact BK237.out⟩
              have n5_ : Ad ((((((w31.setCell ⟨gb258, 0, none⟩ (.int .i64 t245)).setCell ⟨gb258, 1, none⟩ (.int .i64 0)).setCell ⟨gb258, 2, none⟩ (.int .i64 0)).setCell ⟨gb258, 3, none⟩ (.int .i64 0)).setCell ⟨gb258, 4, none⟩ (.int .i64 0)).heap[gb258]? = some (.cells #[.int .i64 t245, .int .i64 0, .int .i64 0, .int .i64 0, .int .i64 0] 25 (0, 0))) := ⟨by (with_reducible repeat (first | refine Kn ?_ _ | refine Ke ?_ | refine Ka ?_ _)); refine blk_put (cs := #[.int .i64 t245, .int .i64 0, .int .i64 0, .int .i64 0, .int .i64 0]) ?_ 4 _ rfl; (with_reducible repeat (first | refine Kn ?_ _ | refine Ke ?_ | refine Ka ?_ _)); refine blk_put (cs := #[.int .i64 t245, .int .i64 0, .int .i64 0, .int .i64 0, .int .i64 0]) ?_ 3 _ rfl; (with_reducible repeat (first | refine Kn ?_ _ | refine Ke ?_ | refine Ka ?_ _)); refine blk_put (cs := #[.int .i64 t245, .int .i64 0, .int .i64 0, .int .i64 0, .int .i64 0]) ?_ 2 _ rfl; (with_reducible repeat (first | refine Kn ?_ _ | refine Ke ?_ | refine Ka ?_ _)); refine blk_put (cs := #[.int .i64 t245, .int .i64 0, .int .i64 0, .int .i64 0, .int .i64 0]) ?_ 1 _ rfl; (with_reducible repeat (first | refine Kn ?_ _ | refine Ke ?_ | refine Ka ?_ _)); refine blk_put (cs := #[.int .i64 0, .int .i64 0, .int .i64 0, .int .i64 0, .int .i64 0]) ?_ 0 _ rfl; (with_reducible repeat (first | refine Kn ?_ _ | refine Ke ?_ | refine Ka ?_ _)); exact BK258.out⟩
              have n6_ : Ad (Below w.heap.size w (((((w31.setCell ⟨gb258, 0, none⟩ (.int .i64 t245)).setCell ⟨gb258, 1, none⟩ (.int .i64 0)).setCell ⟨gb258, 2, none⟩ (.int .i64 0)).setCell ⟨gb258, 3, none⟩ (.int .i64 0)).setCell ⟨gb258, 4, none⟩ (.int .i64 0))) := ⟨by repeat (first | (with_reducible first | exact HB.out | apply Ba | apply Bn | apply Bd | refine Bs ?_ GE237.out | refine Bs ?_ GE258.out) | exact HB.out)⟩
              (try clear HO240)
              (try clear HO243)
              (try clear HO248)
              (try clear HO257)
              (try clear BK237)
              (try clear BK258)
              (try clear HB)
              generalize (((((w31.setCell ⟨gb258, 0, none⟩ (.int .i64 t245)).setCell ⟨gb258, 1, none⟩ (.int .i64 0)).setCell ⟨gb258, 2, none⟩ (.int .i64 0)).setCell ⟨gb258, 3, none⟩ (.int .i64 0)).setCell ⟨gb258, 4, none⟩ (.int .i64 0)) = w39 at n0_ n1_ n2_ n3_ n4_ n5_ n6_ ⊢
              have HO240 := n0_
              have HO243 := n1_
              have HO248 := n2_
              have HO257 := n3_
              have BK237 := n4_
              have BK258 := n5_
              have HB := n6_
              clear n0_ n1_ n2_ n3_ n4_ n5_ n6_
              have n0_ := Am (Rd HO240.out)
              have n1_ := Am (Rd HO243.out)
              have n2_ := Am (Rd HO248.out)
              have n3_ := Am (Rd HO257.out)
              have n4_ := Am (Ke BK237.out)
              have n5_ := Am (Ke BK258.out)
              have n6_ := Am (Bd HB.out)
              clear HO240
              clear HO243
              clear HO248
              clear HO257
              clear BK237
              clear BK258
              clear HB
              have HO240 := n0_
              have HO243 := n1_
              have HO248 := n2_
              have HO257 := n3_
              have BK237 := n4_
              have BK258 := n5_
              have HB := n6_
              clear n0_ n1_ n2_ n3_ n4_ n5_ n6_
              obtain ⟨Ao41, co41, eo41⟩ := Rs HO257.out
              (first | subst eo41 | (injection eo41 with f1_ f2_ f3_; have f4_ := f1_.symm; have f5_ := f3_.symm; clear f1_ f2_ f3_; subst f4_; subst f5_))
              have p259 : 0 ≤ (0 : Int) := (by omega)
              have q259 : 0 < (t254.length : Int) := Oq (by assumption)
              obtain ⟨ad259, e259, hx259_0⟩ := Kd.at_int (Rr HO257.out).2.2 0 p259 q259
              cases e259
              have qi259 : (0 < t254.length) = True := eq_true (by omega)
              (try rw [show ((0 : Int)).toNat = 0 from rfl] at hx259_0)
              (try rw [Addr.add_zero'] at hx259_0)
              replace p259 := eq_true p259
              replace q259 := eq_true q259
              have p260 : 0 ≤ (1 : Int) := (by omega)
              have q260 : 1 < (t254.length : Int) := Oq (by assumption)
              obtain ⟨ad260, e260, hx260_0⟩ := Kd.at_int (Rr HO257.out).2.2 1 p260 q260
              obtain rfl : ad259 = ad260 := (by injection e260)
              (try simp only [show (1 : Int).toNat = 1 from rfl, Nat.reduceMul, Nat.reduceEqDiff, Go.Addr.add, ↓reduceIte] at hx260_0)
              have qi260 : (1 < t254.length) = True := eq_true (by omega)
              (try rw [show ((1 : Int)).toNat = 1 from rfl] at hx260_0)
              replace p260 := eq_true p260
              replace q260 := eq_true q260
              have p261 : 0 ≤ (2 : Int) := (by omega)
              have q261 : 2 < (t254.length : Int) := Oq (by assumption)
              obtain ⟨ad261, e261, hx261_0⟩ := Kd.at_int (Rr HO257.out).2.2 2 p261 q261
              obtain rfl : ad259 = ad261 := (by injection e261)
              (try simp only [show (2 : Int).toNat = 2 from rfl, Nat.reduceMul, Nat.reduceEqDiff, Go.Addr.add, ↓reduceIte] at hx261_0)
              have qi261 : (2 < t254.length) = True := eq_true (by omega)
              (try rw [show ((2 : Int)).toNat = 2 from rfl] at hx261_0)
              replace p261 := eq_true p261
              replace q261 := eq_true q261
              have p262 : 0 ≤ (3 : Int) := (by omega)
              have q262 : 3 < (t254.length : Int) := Oq (by assumption)
              obtain ⟨ad262, e262, hx262_0⟩ := Kd.at_int (Rr HO257.out).2.2 3 p262 q262
              obtain rfl : ad259 = ad262 := (by injection e262)
              (try simp only [show (3 : Int).toNat = 3 from rfl, Nat.reduceMul, Nat.reduceEqDiff, Go.Addr.add, ↓reduceIte] at hx262_0)
              have qi262 : (3 < t254.length) = True := eq_true (by omega)
              (try rw [show ((3 : Int)).toNat = 3 from rfl] at hx262_0)
              replace p262 := eq_true p262
              replace q262 := eq_true q262
              refine start_ (n := 20) (S := fun w' => w'.cell? ad259 = some (.int .i64 (rd t254 0)) ∧ w'.cell? ⟨ad259.block, ad259.off + 1, none⟩ = some (.int .i64 (rd t254 1)) ∧ w'.cell? ⟨ad259.block, ad259.off + 2, none⟩ = some (.int .i64 (rd t254 2)) ∧ w'.cell? ⟨ad259.block, ad259.off + 3, none⟩ = some (.int .i64 (rd t254 3))) (ds := []) #[F_, F_, F_, F_, F_, F_, F_, F_, F_, F_, F_, F_, F_, F_, F_, F_, F_, F_, F_, F_] (by kernel_rfl) rfl rfl ⟨hx259_0, hx260_0, hx261_0, hx262_0⟩ (fun hHeld => ?_); refine with_tabW impl_ReadCmd.tab13 impl_ReadCmd.bits13 (fun HT_ HW_ => ?_)
              generalize w39.drew = w40 at HO240 HO243 HO248 HO257 BK237 BK258 HB hx259_0 hx260_0 hx261_0 hx262_0 hHeld ⊢
              refine pure_ (i := 0) (N := some 42) (v := ?_) (a' := ?_) #[T_, F_, F_, F_, F_, F_, F_, F_, F_, F_, F_, F_, F_, F_, F_, F_, F_, F_, F_, F_] rfl rfl (any_of HT_.out (by kernel_rfl)) (fun _ _ _ h => h) (Or.inl ⟨by rfl, ?_⟩) ?_ ?_
              rotate_left
              ·intro w'
               go_simp
               with_reducible rfl
              rotate_left
              ·simp only [Act.put, Lt, Lz, Ls, i64_w, i32_w]
               rfl
              refine pure_ (i := 1) (N := some 43) (v := ?_) (a' := ?_) #[T_, T_, F_, F_, F_, F_, F_, F_, F_, F_, F_, F_, F_, F_, F_, F_, F_, F_, F_, F_] rfl rfl (any_of HT_.out (by kernel_rfl)) (fun _ _ _ h => h) (Or.inl ⟨by rfl, ?_⟩) ?_ ?_
              rotate_left
              ·intro w'
               go_simp
               with_reducible rfl
              rotate_left
              ·simp only [Act.put, Lt, Lz, Ls, i64_w, i32_w]
               rfl
              refine pure_ (i := 3) (N := some 45) (v := ?_) (a' := ?_) #[T_, T_, F_, T_, F_, F_, F_, F_, F_, F_, F_, F_, F_, F_, F_, F_, F_, F_, F_, F_] rfl rfl (any_of HT_.out (by kernel_rfl)) (fun _ _ _ h => h) (Or.inl ⟨by rfl, ?_⟩) ?_ ?_
              rotate_left
              ·intro w'
               go_simp
               with_reducible rfl
              rotate_left
              ·simp only [Act.put, Lt, Lz, Ls, i64_w, i32_w]
               rfl
              refine pure_ (i := 4) (N := some 46) (v := ?_) (a' := ?_) #[T_, T_, F_, T_, T_, F_, F_, F_, F_, F_, F_, F_, F_, F_, F_, F_, F_, F_, F_, F_] rfl rfl (any_of HT_.out (by kernel_rfl)) (fun _ _ _ h => h) (Or.inl ⟨by rfl, ?_⟩) ?_ ?_
              rotate_left
              ·intro w'
               go_simp
               with_reducible rfl
              rotate_left
              ·simp only [Act.put, Lt, Lz, Ls, i64_w, i32_w]
               rfl
              refine pure_ (i := 6) (N := some 48) (v := ?_) (a' := ?_) #[T_, T_, F_, T_, T_, F_, T_, F_, F_, F_, F_, F_, F_, F_, F_, F_, F_, F_, F_, F_] rfl rfl (any_of HT_.out (by kernel_rfl)) (fun _ _ _ h => h) (Or.inl ⟨by rfl, ?_⟩) ?_ ?_
              rotate_left
              ·intro w'
               go_simp
               with_reducible rfl
              rotate_left
              ·simp only [Act.put, Lt, Lz, Ls, i64_w, i32_w]
               rfl
              refine pure_ (i := 7) (N := some 49) (v := ?_) (a' := ?_) #[T_, T_, F_, T_, T_, F_, T_, T_, F_, F_, F_, F_, F_, F_, F_, F_, F_, F_, F_, F_] rfl rfl (any_of HT_.out (by kernel_rfl)) (fun _ _ _ h => h) (Or.inl ⟨by rfl, ?_⟩) ?_ ?_
              rotate_left
              ·intro w'
               go_simp
               with_reducible rfl
              rotate_left
              ·simp only [Act.put, Lt, Lz, Ls, i64_w, i32_w]
               rfl
              refine pure_ (i := 9) (N := some 51) (v := ?_) (a' := ?_) #[T_, T_, F_, T_, T_, F_, T_, T_, F_, T_, F_, F_, F_, F_, F_, F_, F_, F_, F_, F_] rfl rfl (any_of HT_.out (by kernel_rfl)) (fun _ _ _ h => h) (Or.inl ⟨by rfl, ?_⟩) ?_ ?_
              rotate_left
              ·intro w'
               go_simp
               with_reducible rfl
              rotate_left
              ·simp only [Act.put, Lt, Lz, Ls, i64_w, i32_w]
               rfl
              refine pure_ (i := 10) (N := some 52) (v := ?_) (a' := ?_) #[T_, T_, F_, T_, T_, F_, T_, T_, F_, T_, T_, F_, F_, F_, F_, F_, F_, F_, F_, F_] rfl rfl (any_of HT_.out (by kernel_rfl)) (fun _ _ _ h => h) (Or.inl ⟨by rfl, ?_⟩) ?_ ?_
              rotate_left
              ·intro w'
               go_simp
               with_reducible rfl
              rotate_left
              ·simp only [Act.put, Lt, Lz, Ls, i64_w, i32_w]
               rfl
              refine take_ (i := 2) (N := some 44) (v := ?_) (a' := ?_) #[T_, T_, T_, T_, T_, F_, T_, T_, F_, T_, T_, F_, F_, F_, F_, F_, F_, F_, F_, F_] rfl rfl (take_ofW HT_.out HW_.out (by kernel_rfl)) (fun _ _ _ h => h) (Or.inl ⟨by rfl, ?_⟩) hHeld ?_ ?_
              rotate_left
              ·rintro w' ⟨s0, s1, s2, s3⟩
               go_simp
               with_reducible rfl
              rotate_left
              ·simp only [Act.put, Lt, Lz, Ls, i64_w, i32_w]
               rfl
              refine pure_ (i := 12) (N := some 54) (v := ?_) (a' := ?_) #[T_, T_, T_, T_, T_, F_, T_, T_, F_, T_, T_, F_, T_, F_, F_, F_, F_, F_, F_, F_] rfl rfl (any_of HT_.out (by kernel_rfl)) (fun _ _ _ h => h) (Or.inl ⟨by rfl, ?_⟩) ?_ ?_
              rotate_left
              ·intro w'
               go_simp
               with_reducible rfl
              rotate_left
              ·simp only [Act.put, Lt, Lz, Ls, i64_w, i32_w]
               rfl
              refine take_ (i := 5) (N := some 47) (v := ?_) (a' := ?_) #[T_, T_, T_, T_, T_, T_, T_, T_, F_, T_, T_, F_, T_, F_, F_, F_, F_, F_, F_, F_] rfl rfl (take_ofW HT_.out HW_.out (by kernel_rfl)) (fun _ _ _ h => h) (Or.inl ⟨by rfl, ?_⟩) hHeld ?_ ?_
              rotate_left
              ·rintro w' ⟨s0, s1, s2, s3⟩
               go_simp
               with_reducible rfl
              rotate_left
              ·simp only [Act.put, Lt, Lz, Ls, i64_w, i32_w]
               rfl
              refine take_ (i := 8) (N := some 50) (v := ?_) (a' := ?_) #[T_, T_, T_, T_, T_, T_, T_, T_, T_, T_, T_, F_, T_, F_, F_, F_, F_, F_, F_, F_] rfl rfl (take_ofW HT_.out HW_.out (by kernel_rfl)) (fun _ _ _ h => h) (Or.inl ⟨by rfl, ?_⟩) hHeld ?_ ?_
              rotate_left
              ·rintro w' ⟨s0, s1, s2, s3⟩
               go_simp
               with_reducible rfl
              rotate_left
              ·simp only [Act.put, Lt, Lz, Ls, i64_w, i32_w]
               rfl
              refine take_ (i := 11) (N := some 53) (v := ?_) (a' := ?_) #[T_, T_, T_, T_, T_, T_, T_, T_, T_, T_, T_, T_, T_, F_, F_, F_, F_, F_, F_, F_] rfl rfl (take_ofW HT_.out HW_.out (by kernel_rfl)) (fun _ _ _ h => h) (Or.inl ⟨by rfl, ?_⟩) hHeld ?_ ?_
              rotate_left
              ·rintro w' ⟨s0, s1, s2, s3⟩
               go_simp
               with_reducible rfl
              rotate_left
              ·simp only [Act.put, Lt, Lz, Ls, i64_w, i32_w]
               rfl
              refine one_ (i := 13) (N := none) #[T_, T_, T_, T_, T_, T_, T_, T_, T_, T_, T_, T_, T_, T_, F_, F_, F_, F_, F_, F_] rfl rfl (one_of HT_.out (by kernel_rfl)) (by decide) (fun K hK => ?_)
              have hs42 : w40.cell? ⟨gb258, 1, none⟩ = some (.int .i64 0) := (Kc BK258.out 1).trans rfl
              have hfs42 := Kz BK258.out 1
              have hns42_0 := NB237_258.out
              have hms42_0 := NB258_237.out
              refine skip_ (w1 := ?_) (by rfl) rfl ?_ ?_
              rotate_left
              ·go_simp
               rfl
              have hne_ : ad259.block ≠ gb258 := Kd.own_blk (Kd.R_ne HO257.out BK258.out (by decide))
              refine hK.out _ _ ⟨(cell_far (a := ad259) hne_ _).trans (hHeld.1), (cell_far (a := ⟨ad259.block, ad259.off + 1, none⟩) hne_ _).trans (hHeld.2.1), (cell_far (a := ⟨ad259.block, ad259.off + 2, none⟩) hne_ _).trans (hHeld.2.2.1), (cell_far (a := ⟨ad259.block, ad259.off + 3, none⟩) hne_ _).trans (hHeld.2.2.2)⟩ (fun hHeld => ?_)
              clear hne_
              clear hK K
              refine pure_ (i := 14) (N := some 55) (v := ?_) (a' := ?_) #[T_, T_, T_, T_, T_, T_, T_, T_, T_, T_, T_, T_, T_, T_, T_, F_, F_, F_, F_, F_] rfl rfl (any_of HT_.out (by kernel_rfl)) (fun _ _ _ h => h) (Or.inl ⟨by rfl, ?_⟩) ?_ ?_
              rotate_left
              ·intro w'
               go_simp
               with_reducible rfl
              rotate_left
              ·simp only [Act.put, Lt, Lz, Ls, i64_w, i32_w]
               rfl
              refine one_ (i := 15) (N := none) #[T_, T_, T_, T_, T_, T_, T_, T_, T_, T_, T_, T_, T_, T_, T_, T_, F_, F_, F_, F_] rfl rfl (one_of HT_.out (by kernel_rfl)) (by decide) (fun K hK => ?_)
              have hs43 : w40.cell? ⟨gb258, 2, none⟩ = some (.int .i64 0) := (Kc BK258.out 2).trans rfl
              have hfs43 := Kz BK258.out 2
              have hns43_0 := NB237_258.out
              have hms43_0 := NB258_237.out
              refine skip_ (w1 := ?_) (by rfl) rfl ?_ ?_
              rotate_left
              ·go_simp
               rfl
              have hne_ : ad259.block ≠ gb258 := Kd.own_blk (Kd.R_ne HO257.out BK258.out (by decide))
              refine hK.out _ _ ⟨(cell_far (a := ad259) hne_ _).trans (hHeld.1), (cell_far (a := ⟨ad259.block, ad259.off + 1, none⟩) hne_ _).trans (hHeld.2.1), (cell_far (a := ⟨ad259.block, ad259.off + 2, none⟩) hne_ _).trans (hHeld.2.2.1), (cell_far (a := ⟨ad259.block, ad259.off + 3, none⟩) hne_ _).trans (hHeld.2.2.2)⟩ (fun hHeld => ?_)
              clear hne_
              clear hK K
              refine pure_ (i := 16) (N := some 56) (v := ?_) (a' := ?_) #[T_, T_, T_, T_, T_, T_, T_, T_, T_, T_, T_, T_, T_, T_, T_, T_, T_, F_, F_, F_] rfl rfl (any_of HT_.out (by kernel_rfl)) (fun _ _ _ h => h) (Or.inl ⟨by rfl, ?_⟩) ?_ ?_
              rotate_left
              ·intro w'
               go_simp
               with_reducible rfl
              rotate_left
              ·simp only [Act.put, Lt, Lz, Ls, i64_w, i32_w]
               rfl
              refine one_ (i := 17) (N := none) #[T_, T_, T_, T_, T_, T_, T_, T_, T_, T_, T_, T_, T_, T_, T_, T_, T_, T_, F_, F_] rfl rfl (one_of HT_.out (by kernel_rfl)) (by decide) (fun K hK => ?_)
              have hs44 : w40.cell? ⟨gb258, 3, none⟩ = some (.int .i64 0) := (Kc BK258.out 3).trans rfl
              have hfs44 := Kz BK258.out 3
              have hns44_0 := NB237_258.out
              have hms44_0 := NB258_237.out
              refine skip_ (w1 := ?_) (by rfl) rfl ?_ ?_
              rotate_left
              ·go_simp
               rfl
              have hne_ : ad259.block ≠ gb258 := Kd.own_blk (Kd.R_ne HO257.out BK258.out (by decide))
              refine hK.out _ _ ⟨(cell_far (a := ad259) hne_ _).trans (hHeld.1), (cell_far (a := ⟨ad259.block, ad259.off + 1, none⟩) hne_ _).trans (hHeld.2.1), (cell_far (a := ⟨ad259.block, ad259.off + 2, none⟩) hne_ _).trans (hHeld.2.2.1), (cell_far (a := ⟨ad259.block, ad259.off + 3, none⟩) hne_ _).trans (hHeld.2.2.2)⟩ (fun hHeld => ?_)
              clear hne_
              clear hK K
              refine pure_ (i := 18) (N := some 57) (v := ?_) (a' := ?_) #[T_, T_, T_, T_, T_, T_, T_, T_, T_, T_, T_, T_, T_, T_, T_, T_, T_, T_, T_, F_] rfl rfl (any_of HT_.out (by kernel_rfl)) (fun _ _ _ h => h) (Or.inl ⟨by rfl, ?_⟩) ?_ ?_
              rotate_left
              ·intro w'
               go_simp
               with_reducible rfl
              rotate_left
              ·simp only [Act.put, Lt, Lz, Ls, i64_w, i32_w]
               rfl
              refine one_ (i := 19) (N := none) #[T_, T_, T_, T_, T_, T_, T_, T_, T_, T_, T_, T_, T_, T_, T_, T_, T_, T_, T_, T_] rfl rfl (one_of HT_.out (by kernel_rfl)) (by decide) (fun K hK => ?_)
              have hs45 : w40.cell? ⟨gb258, 4, none⟩ = some (.int .i64 0) := (Kc BK258.out 4).trans rfl
              have hfs45 := Kz BK258.out 4
              have hns45_0 := NB237_258.out
              have hms45_0 := NB258_237.out
              refine skip_ (w1 := ?_) (by rfl) rfl ?_ ?_
              rotate_left
              ·go_simp
               rfl
              have hne_ : ad259.block ≠ gb258 := Kd.own_blk (Kd.R_ne HO257.out BK258.out (by decide))
              refine hK.out _ _ ⟨(cell_far (a := ad259) hne_ _).trans (hHeld.1), (cell_far (a := ⟨ad259.block, ad259.off + 1, none⟩) hne_ _).trans (hHeld.2.1), (cell_far (a := ⟨ad259.block, ad259.off + 2, none⟩) hne_ _).trans (hHeld.2.2.1), (cell_far (a := ⟨ad259.block, ad259.off + 3, none⟩) hne_ _).trans (hHeld.2.2.2)⟩ (fun hHeld => ?_)
              clear hne_
              clear hK K
              refine done_ (done_of HT_.out (by kernel_rfl)) ?_
              try go_wp2
              go_meet
              case rel => exact ⟨_, (rd t254 0), (rd t254 1), (rd t254 2), (rd t254 3), H', ⟨by first | omega | exact Nat.le_refl _⟩, ⟨by (with_reducible repeat (first | refine Kn ?_ _ | refine Ke ?_ | refine Ka ?_ _)); refine Kf ?_ NB237_258.out _; (with_reducible repeat (first | refine Kn ?_ _ | refine Ke ?_ | refine Ka ?_ _)); refine Kf ?_ NB237_258.out _; (with_reducible repeat (first | refine Kn ?_ _ | refine Ke ?_ | refine Ka ?_ _)); refine Kf ?_ NB237_258.out _; (with_reducible repeat (first | refine Kn ?_ _ | refine Ke ?_ | refine Ka ?_ _)); refine Kf ?_ NB237_258.out _; (with_reducible repeat (first | refine Kn ?_ _ | refine Ke ?_ | refine Ka ?_ _)); exact BK237.out⟩, ⟨by (with_reducible repeat (first | refine Kn ?_ _ | refine Ke ?_ | refine Ka ?_ _)); refine blk_put (cs := #[.int .i64 t245, .int .i64 (rd t254 0), .int .i64 (rd t254 1), .int .i64 (rd t254 2), .int .i64 0]) ?_ 4 _ rfl; (with_reducible repeat (first | refine Kn ?_ _ | refine Ke ?_ | refine Ka ?_ _)); refine blk_put (cs := #[.int .i64 t245, .int .i64 (rd t254 0), .int .i64 (rd t254 1), .int .i64 0, .int .i64 0]) ?_ 3 _ rfl; (with_reducible repeat (first | refine Kn ?_ _ | refine Ke ?_ | refine Ka ?_ _)); refine blk_put (cs := #[.int .i64 t245, .int .i64 (rd t254 0), .int .i64 0, .int .i64 0, .int .i64 0]) ?_ 2 _ rfl; (with_reducible repeat (first | refine Kn ?_ _ | refine Ke ?_ | refine Ka ?_ _)); refine blk_put (cs := #[.int .i64 t245, .int .i64 0, .int .i64 0, .int .i64 0, .int .i64 0]) ?_ 1 _ rfl; (with_reducible repeat (first | refine Kn ?_ _ | refine Ke ?_ | refine Ka ?_ _)); exact BK258.out⟩, ⟨by repeat (first | (with_reducible first | exact HB.out | apply Ba | apply Bn | apply Bd | refine Bs ?_ GE237.out | refine Bs ?_ GE258.out) | exact HB.out)⟩⟩
             ·rw [if_neg c38] at H
              exact absurd H (by simp)
            ·rw [if_neg c37] at H
             exact absurd H (by simp)
           ·rw [if_neg c36] at H
            exact absurd H (by simp)
          ·rw [if_neg c35] at H
           exact absurd H (by simp)
         ·rw [if_neg c34] at H
          have c34b0 : (t245 == 1) = false := beq_eq_false_iff_ne.mpr c34
          have c34b1 : (t245 != 1) = true := bne_iff_ne.mpr c34
          (first | rw [c34b0] | (simp only [i64_w, i32_w]; rw [c34b0]) | skip)
          by_cases c46 : t245 = 2
          ·rw [if_pos c46] at H
           have c46b0 : (t245 == 2) = true := beq_iff_eq.mpr c46
           have c46b1 : (t245 != 2) = false := bne_eq_false_iff_eq.mpr c46
           clear c46
           by_cases c47 : 0 < (t254.length : Int)
           ·rw [if_pos c47] at H
            have c47b0 : decide (0 < (t254.length : Int)) = true := Od c47
            have c47b1 : decide (0 < t254.length) = true := Od (by omega)
            clear c47
            by_cases c48 : 1 < (t254.length : Int)
            ·rw [if_pos c48] at H
             have c48b0 : decide (1 < (t254.length : Int)) = true := Od c48
             have c48b1 : decide (1 < t254.length) = true := Od (by omega)
             clear c48
             have H' := Am H
             clear H
             try go_wp2
             have n0_ : Ad (Kd.R Kd.string 9 (((((w31.setCell ⟨gb258, 0, none⟩ (.int .i64 t245)).setCell ⟨gb258, 1, none⟩ (.int .i64 0)).setCell ⟨gb258, 2, none⟩ (.int .i64 0)).setCell ⟨gb258, 3, none⟩ (.int .i64 0)).setCell ⟨gb258, 4, none⟩ (.int .i64 0)) w.heap.size (fun k_ => some k_ ≠ (.slice Ao25 y241.length co25 : Value).ownBlock) (.slice (some ad244) t238.length co24) t238) := ⟨by (with_reducible repeat (first | apply Ra | apply Rn | apply Rd)); exact Rm (Kd.R_far (p := ⟨gb258, 4, none⟩) (Kd.R_far (p := ⟨gb258, 3, none⟩) (Kd.R_far (p := ⟨gb258, 2, none⟩) (Kd.R_far (p := ⟨gb258, 1, none⟩) (Kd.R_far (p := ⟨gb258, 0, none⟩) (Kd.R_types HO240.out BK258.out (by decide)) (fun _ hk => hk.2) (.int .i64 t245)) (fun _ hk => hk.2) (.int .i64 0)) (fun _ hk => hk.2) (.int .i64 0)) (fun _ hk => hk.2) (.int .i64 0)) (fun _ hk => hk.2) (.int .i64 0)) (fun _ hk => by first | exact hk.1.2 | exact hk.1)⟩
             have n1_ : Ad (Kd.R Kd.string 9 (((((w31.setCell ⟨gb258, 0, none⟩ (.int .i64 t245)).setCell ⟨gb258, 1, none⟩ (.int .i64 0)).setCell ⟨gb258, 2, none⟩ (.int .i64 0)).setCell ⟨gb258, 3, none⟩ (.int .i64 0)).setCell ⟨gb258, 4, none⟩ (.int .i64 0)) w.heap.size (fun k_ => some k_ ≠ (.slice (some ad244) t238.length co24 : Value).ownBlock) (.slice Ao25 y241.length co25) y241) := ⟨by (with_reducible repeat (first | apply Ra | apply Rn | apply Rd)); exact Rm (Kd.R_far (p := ⟨gb258, 4, none⟩) (Kd.R_far (p := ⟨gb258, 3, none⟩) (Kd.R_far (p := ⟨gb258, 2, none⟩) (Kd.R_far (p := ⟨gb258, 1, none⟩) (Kd.R_far (p := ⟨gb258, 0, none⟩) (Kd.R_types HO243.out BK258.out (by decide)) (fun _ hk => hk.2) (.int .i64 t245)) (fun _ hk => hk.2) (.int .i64 0)) (fun _ hk => hk.2) (.int .i64 0)) (fun _ hk => hk.2) (.int .i64 0)) (fun _ hk => hk.2) (.int .i64 0)) (fun _ hk => by first | exact hk.1.2 | exact hk.1)⟩
             have n2_ : Ad (Kd.R (Kd.int .i64) 3 (((((w31.setCell ⟨gb258, 0, none⟩ (.int .i64 t245)).setCell ⟨gb258, 1, none⟩ (.int .i64 0)).setCell ⟨gb258, 2, none⟩ (.int .i64 0)).setCell ⟨gb258, 3, none⟩ (.int .i64 0)).setCell ⟨gb258, 4, none⟩ (.int .i64 0)) w.heap.size (fun k_ => some k_ ≠ (v256 : Value).ownBlock) (.slice (some ad249) y246.length co28) y246) := ⟨by (with_reducible repeat (first | apply Ra | apply Rn | apply Rd)); exact Rm (Kd.R_far (p := ⟨gb258, 4, none⟩) (Kd.R_far (p := ⟨gb258, 3, none⟩) (Kd.R_far (p := ⟨gb258, 2, none⟩) (Kd.R_far (p := ⟨gb258, 1, none⟩) (Kd.R_far (p := ⟨gb258, 0, none⟩) (Kd.R_types HO248.out BK258.out (by decide)) (fun _ hk => hk.2) (.int .i64 t245)) (fun _ hk => hk.2) (.int .i64 0)) (fun _ hk => hk.2) (.int .i64 0)) (fun _ hk => hk.2) (.int .i64 0)) (fun _ hk => hk.2) (.int .i64 0)) (fun _ hk => by first | exact hk.1.2 | exact hk.1)⟩
             have n3_ : Ad (Kd.R (Kd.int .i64) 3 (((((w31.setCell ⟨gb258, 0, none⟩ (.int .i64 t245)).setCell ⟨gb258, 1, none⟩ (.int .i64 0)).setCell ⟨gb258, 2, none⟩ (.int .i64 0)).setCell ⟨gb258, 3, none⟩ (.int .i64 0)).setCell ⟨gb258, 4, none⟩ (.int .i64 0)) w.heap.size (fun k_ => some k_ ≠ (.slice (some ad249) y246.length co28 : Value).ownBlock) v256 t254) := ⟨by (with_reducible repeat (first | apply Ra | apply Rn | apply Rd)); exact Rm (Kd.R_far (p := ⟨gb258, 4, none⟩) (Kd.R_far (p := ⟨gb258, 3, none⟩) (Kd.R_far (p := ⟨gb258, 2, none⟩) (Kd.R_far (p := ⟨gb258, 1, none⟩) (Kd.R_far (p := ⟨gb258, 0, none⟩) (Kd.R_types HO257.out BK258.out (by decide)) (fun _ hk => hk.2) (.int .i64 t245)) (fun _ hk => hk.2) (.int .i64 0)) (fun _ hk => hk.2) (.int .i64 0)) (fun _ hk => hk.2) (.int .i64 0)) (fun _ hk => hk.2) (.int .i64 0)) (fun _ hk => by first | exact hk.1.2 | exact hk.1)⟩
             have n4_ : Ad ((((((w31.setCell ⟨gb258, 0, none⟩ (.int .i64 t245)).setCell ⟨gb258, 1, none⟩ (.int .i64 0)).setCell ⟨gb258, 2, none⟩ (.int .i64 0)).setCell ⟨gb258, 3, none⟩ (.int .i64 0)).setCell ⟨gb258, 4, none⟩ (.int .i64 0)).heap[gb237]? = some (.cells #[.int .i64 0, .int .i64 0, .int .i64 0, .int .i64 0, .int .i64 0] 25 (0, 0))) := ⟨by (with_reducible repeat (first | refine Kn ?_ _ | refine Ke ?_ | refine Ka ?_ _)); refine Kf ?_ NB237_258.out _; (with_reducible repeat (first | refine Kn ?_ _ | refine Ke ?_ | refine Ka ?_ _)); refine Kf ?_ NB237_258.out _; (with_reducible repeat (first | refine Kn ?_ _ | refine Ke ?_ | refine Ka ?_ _)); refine Kf ?_ NB237_258.out _; (with_reducible repeat (first | refine Kn ?_ _ | refine Ke ?_ | refine Ka ?_ _)); refine Kf ?_ NB237_258.out _; (with_reducible repeat (first | refine Kn ?_ _ | refine Ke ?_ | refine Ka ?_ _)); refine Kf ?_ NB237_258.out _; (with_reducible repeat (first | refine Kn ?_ _ | refine Ke ?_ | refine Ka ?_ _)); exact BK237.out⟩
             have n5_ : Ad ((((((w31.setCell ⟨gb258, 0, none⟩ (.int .i64 t245)).setCell ⟨gb258, 1, none⟩ (.int .i64 0)).setCell ⟨gb258, 2, none⟩ (.int .i64 0)).setCell ⟨gb258, 3, none⟩ (.int .i64 0)).setCell ⟨gb258, 4, none⟩ (.int .i64 0)).heap[gb258]? = some (.cells #[.int .i64 t245, .int .i64 0, .int .i64 0, .int .i64 0, .int .i64 0] 25 (0, 0))) := ⟨by (with_reducible repeat (first | refine Kn ?_ _ | refine Ke ?_ | refine Ka ?_ _)); refine blk_put (cs := #[.int .i64 t245, .int .i64 0, .int .i64 0, .int .i64 0, .int .i64 0]) ?_ 4 _ rfl; (with_reducible repeat (first | refine Kn ?_ _ | refine Ke ?_ | refine Ka ?_ _)); refine blk_put (cs := #[.int .i64 t245, .int .i64 0, .int .i64 0, .int .i64 0, .int .i64 0]) ?_ 3 _ rfl; (with_reducible repeat (first | refine Kn ?_ _ | refine Ke ?_ | refine Ka ?_ _)); refine blk_put (cs := #[.int .i64 t245, .int .i64 0, .int .i64 0, .int .i64 0, .int .i64 0]) ?_ 2 _ rfl; (with_reducible repeat (first | refine Kn ?_ _ | refine Ke ?_ | refine Ka ?_ _)); refine blk_put (cs := #[.int .i64 t245, .int .i64 0, .int .i64 0, .int .i64 0, .int .i64 0]) ?_ 1 _ rfl; (with_reducible repeat (first | refine Kn ?_ _ | refine Ke ?_ | refine Ka ?_ _)); refine blk_put (cs := #[.int .i64 0, .int .i64 0, .int .i64 0, .int .i64 0, .int .i64 0]) ?_ 0 _ rfl; (with_reducible repeat (first | refine Kn ?_ _ | refine Ke ?_ | refine Ka ?_ _)); exact BK258.out⟩
             have n6_ : Ad (Below w.heap.size w (((((w31.setCell ⟨gb258, 0, none⟩ (.int .i64 t245)).setCell ⟨gb258, 1, none⟩ (.int .i64 0)).setCell ⟨gb258, 2, none⟩ (.int .i64 0)).setCell ⟨gb258, 3, none⟩ (.int .i64 0)).setCell ⟨gb258, 4, none⟩ (.int .i64 0))) := ⟨by repeat (first | (with_reducible first | exact HB.out | apply Ba | apply Bn | apply Bd | refine Bs ?_ GE237.out | refine Bs ?_ GE258.out) | exact HB.out)⟩
             (try clear HO240)
             (try clear HO243)
             (try clear HO248)
             (try clear HO257)
             (try clear BK237)
             (try clear BK258)
             (try clear HB)
             generalize (((((w31.setCell ⟨gb258, 0, none⟩ (.int .i64 t245)).setCell ⟨gb258, 1, none⟩ (.int .i64 0)).setCell ⟨gb258, 2, none⟩ (.int .i64 0)).setCell ⟨gb258, 3, none⟩ (.int .i64 0)).setCell ⟨gb258, 4, none⟩ (.int .i64 0)) = w49 at n0_ n1_ n2_ n3_ n4_ n5_ n6_ ⊢
             have HO240 := n0_
             have HO243 := n1_
             have HO248 := n2_
             have HO257 := n3_
             have BK237 := n4_
             have BK258 := n5_
             have HB := n6_
             clear n0_ n1_ n2_ n3_ n4_ n5_ n6_
             have n0_ := Am (Rd HO240.out)
             have n1_ := Am (Rd HO243.out)
             have n2_ := Am (Rd HO248.out)
             have n3_ := Am (Rd HO257.out)
             have n4_ := Am (Ke BK237.out)
             have n5_ := Am (Ke BK258.out)
             have n6_ := Am (Bd HB.out)
             clear HO240
             clear HO243
             clear HO248
             clear HO257
             clear BK237
             clear BK258
             clear HB
             have HO240 := n0_
             have HO243 := n1_
             have HO248 := n2_
             have HO257 := n3_
             have BK237 := n4_
             have BK258 := n5_
             have HB := n6_
             clear n0_ n1_ n2_ n3_ n4_ n5_ n6_
             obtain ⟨Ao51, co51, eo51⟩ := Rs HO257.out
             (first | subst eo51 | (injection eo51 with f1_ f2_ f3_; have f4_ := f1_.symm; have f5_ := f3_.symm; clear f1_ f2_ f3_; subst f4_; subst f5_))
             have p263 : 0 ≤ (0 : Int) := (by omega)
             have q263 : 0 < (t254.length : Int) := Oq (by assumption)
             obtain ⟨ad263, e263, hx263_0⟩ := Kd.at_int (Rr HO257.out).2.2 0 p263 q263
             cases e263
             have qi263 : (0 < t254.length) = True := eq_true (by omega)
             (try rw [show ((0 : Int)).toNat = 0 from rfl] at hx263_0)
             (try rw [Addr.add_zero'] at hx263_0)
             replace p263 := eq_true p263
             replace q263 := eq_true q263
             have p264 : 0 ≤ (1 : Int) := (by omega)
             have q264 : 1 < (t254.length : Int) := Oq (by assumption)
             obtain ⟨ad264, e264, hx264_0⟩ := Kd.at_int (Rr HO257.out).2.2 1 p264 q264
             obtain rfl : ad263 = ad264 := (by injection e264)
             (try simp only [show (1 : Int).toNat = 1 from rfl, Nat.reduceMul, Nat.reduceEqDiff, Go.Addr.add, ↓reduceIte] at hx264_0)
             have qi264 : (1 < t254.length) = True := eq_true (by omega)
             (try rw [show ((1 : Int)).toNat = 1 from rfl] at hx264_0)
             replace p264 := eq_true p264
             replace q264 := eq_true q264
             refine start_ (n := 10) (S := fun w' => w'.cell? ad263 = some (.int .i64 (rd t254 0)) ∧ w'.cell? ⟨ad263.block, ad263.off + 1, none⟩ = some (.int .i64 (rd t254 1))) (ds := []) #[F_, F_, F_, F_, F_, F_, F_, F_, F_, F_] (by kernel_rfl) rfl rfl ⟨hx263_0, hx264_0⟩ (fun hHeld => ?_); refine with_tabW impl_ReadCmd.tab15 impl_ReadCmd.bits15 (fun HT_ HW_ => ?_)
             generalize w49.drew = w50 at HO240 HO243 HO248 HO257 BK237 BK258 HB hx263_0 hx264_0 hHeld ⊢
             refine pure_ (i := 0) (N := some 60) (v := ?_) (a' := ?_) #[T_, F_, F_, F_, F_, F_, F_, F_, F_, F_] rfl rfl (any_of HT_.out (by kernel_rfl)) (fun _ _ _ h => h) (Or.inl ⟨by rfl, ?_⟩) ?_ ?_
             rotate_left
             ·intro w'
              go_simp
              with_reducible rfl
             rotate_left
             ·simp only [Act.put, Lt, Lz, Ls, i64_w, i32_w]
              rfl
             refine pure_ (i := 1) (N := some 61) (v := ?_) (a' := ?_) #[T_, T_, F_, F_, F_, F_, F_, F_, F_, F_] rfl rfl (any_of HT_.out (by kernel_rfl)) (fun _ _ _ h => h) (Or.inl ⟨by rfl, ?_⟩) ?_ ?_
             rotate_left
             ·intro w'
              go_simp
              with_reducible rfl
             rotate_left
             ·simp only [Act.put, Lt, Lz, Ls, i64_w, i32_w]
              rfl
             refine pure_ (i := 3) (N := some 63) (v := ?_) (a' := ?_) #[T_, T_, F_, T_, F_, F_, F_, F_, F_, F_] rfl rfl (any_of HT_.out (by kernel_rfl)) (fun _ _ _ h => h) (Or.inl ⟨by rfl, ?_⟩) ?_ ?_
             rotate_left
             ·intro w'
              go_simp
              with_reducible rfl
             rotate_left
             ·simp only [Act.put, Lt, Lz, Ls, i64_w, i32_w]
              rfl
             refine pure_ (i := 4) (N := some 64) (v := ?_) (a' := ?_) #[T_, T_, F_, T_, T_, F_, F_, F_, F_, F_] rfl rfl (any_of HT_.out (by kernel_rfl)) (fun _ _ _ h => h) (Or.inl ⟨by rfl, ?_⟩) ?_ ?_
             rotate_left
             ·intro w'
              go_simp
              with_reducible rfl
             rotate_left
             ·simp only [Act.put, Lt, Lz, Ls, i64_w, i32_w]
              rfl
             refine take_ (i := 2) (N := some 62) (v := ?_) (a' := ?_) #[T_, T_, T_, T_, T_, F_, F_, F_, F_, F_] rfl rfl (take_ofW HT_.out HW_.out (by kernel_rfl)) (fun _ _ _ h => h) (Or.inl ⟨by rfl, ?_⟩) hHeld ?_ ?_
             rotate_left
             ·rintro w' ⟨s0, s1⟩
              go_simp
              with_reducible rfl
             rotate_left
             ·simp only [Act.put, Lt, Lz, Ls, i64_w, i32_w]
              rfl
             refine pure_ (i := 6) (N := some 66) (v := ?_) (a' := ?_) #[T_, T_, T_, T_, T_, F_, T_, F_, F_, F_] rfl rfl (any_of HT_.out (by kernel_rfl)) (fun _ _ _ h => h) (Or.inl ⟨by rfl, ?_⟩) ?_ ?_
             rotate_left
             ·intro w'
              go_simp
              with_reducible rfl
             rotate_left
             ·simp only [Act.put, Lt, Lz, Ls, i64_w, i32_w]
              rfl
             refine take_ (i := 5) (N := some 65) (v := ?_) (a' := ?_) #[T_, T_, T_, T_, T_, T_, T_, F_, F_, F_] rfl rfl (take_ofW HT_.out HW_.out (by kernel_rfl)) (fun _ _ _ h => h) (Or.inl ⟨by rfl, ?_⟩) hHeld ?_ ?_
             rotate_left
             ·rintro w' ⟨s0, s1⟩
              go_simp
              with_reducible rfl
             rotate_left
             ·simp only [Act.put, Lt, Lz, Ls, i64_w, i32_w]
              rfl
             refine one_ (i := 7) (N := none) #[T_, T_, T_, T_, T_, T_, T_, T_, F_, F_] rfl rfl (one_of HT_.out (by kernel_rfl)) (by decide) (fun K hK => ?_)
             have hs52 : w50.cell? ⟨gb258, 1, none⟩ = some (.int .i64 0) := (Kc BK258.out 1).trans rfl
             have hfs52 := Kz BK258.out 1
             have hns52_0 := NB237_258.out
             have hms52_0 := NB258_237.out
             refine skip_ (w1 := ?_) (by rfl) rfl ?_ ?_
             rotate_left
             ·go_simp
              rfl
             have hne_ : ad263.block ≠ gb258 := Kd.own_blk (Kd.R_ne HO257.out BK258.out (by decide))
             refine hK.out _ _ ⟨(cell_far (a := ad263) hne_ _).trans (hHeld.1), (cell_far (a := ⟨ad263.block, ad263.off + 1, none⟩) hne_ _).trans (hHeld.2)⟩ (fun hHeld => ?_)
             clear hne_
             clear hK K
             refine pure_ (i := 8) (N := some 67) (v := ?_) (a' := ?_) #[T_, T_, T_, T_, T_, T_, T_, T_, T_, F_] rfl rfl (any_of HT_.out (by kernel_rfl)) (fun _ _ _ h => h) (Or.inl ⟨by rfl, ?_⟩) ?_ ?_
             rotate_left
             ·intro w'
              go_simp
              with_reducible rfl
             rotate_left
             ·simp only [Act.put, Lt, Lz, Ls, i64_w, i32_w]
              rfl
             refine one_ (i := 9) (N := none) #[T_, T_, T_, T_, T_, T_, T_, T_, T_, T_] rfl rfl (one_of HT_.out (by kernel_rfl)) (by decide) (fun K hK => ?_)
             have hs53 : w50.cell? ⟨gb258, 2, none⟩ = some (.int .i64 0) := (Kc BK258.out 2).trans rfl
             have hfs53 := Kz BK258.out 2
             have hns53_0 := NB237_258.out
             have hms53_0 := NB258_237.out
             refine skip_ (w1 := ?_) (by rfl) rfl ?_ ?_
             rotate_left
             ·go_simp
              rfl
             have hne_ : ad263.block ≠ gb258 := Kd.own_blk (Kd.R_ne HO257.out BK258.out (by decide))
             refine hK.out _ _ ⟨(cell_far (a := ad263) hne_ _).trans (hHeld.1), (cell_far (a := ⟨ad263.block, ad263.off + 1, none⟩) hne_ _).trans (hHeld.2)⟩ (fun hHeld => ?_)
             clear hne_
             clear hK K
             refine done_ (done_of HT_.out (by kernel_rfl)) ?_
             try go_wp2
             go_meet
             case rel => exact ⟨_, (rd t254 0), (rd t254 1), (0), (0), H', ⟨by first | omega | exact Nat.le_refl _⟩, ⟨by (with_reducible repeat (first | refine Kn ?_ _ | refine Ke ?_ | refine Ka ?_ _)); refine Kf ?_ NB237_258.out _; (with_reducible repeat (first | refine Kn ?_ _ | refine Ke ?_ | refine Ka ?_ _)); refine Kf ?_ NB237_258.out _; (with_reducible repeat (first | refine Kn ?_ _ | refine Ke ?_ | refine Ka ?_ _)); exact BK237.out⟩, ⟨by (with_reducible repeat (first | refine Kn ?_ _ | refine Ke ?_ | refine Ka ?_ _)); refine blk_put (cs := #[.int .i64 t245, .int .i64 (rd t254 0), .int .i64 0, .int .i64 0, .int .i64 0]) ?_ 2 _ rfl; (with_reducible repeat (first | refine Kn ?_ _ | refine Ke ?_ | refine Ka ?_ _)); refine blk_put (cs := #[.int .i64 t245, .int .i64 0, .int .i64 0, .int .i64 0, .int .i64 0]) ?_ 1 _ rfl; (with_reducible repeat (first | refine Kn ?_ _ | refine Ke ?_ | refine Ka ?_ _)); exact BK258.out⟩, ⟨by repeat (first | (with_reducible first | exact HB.out | apply Ba | apply Bn | apply Bd | refine Bs ?_ GE237.out | refine Bs ?_ GE258.out) | exact HB.out)⟩⟩
            ·rw [if_neg c48] at H
             exact absurd H (by simp)
           ·rw [if_neg c47] at H
            exact absurd H (by simp)
          ·rw [if_neg c46] at H
           have c46b0 : (t245 == 2) = false := beq_eq_false_iff_ne.mpr c46
           have c46b1 : (t245 != 2) = true := bne_iff_ne.mpr c46
           have H' := Am H
           clear H
           go_wp2
           go_meet
           case rel => exact ⟨_, (0), (0), (0), (0), H', ⟨by first | omega | exact Nat.le_refl _⟩, ⟨by (with_reducible repeat (first | refine Kn ?_ _ | refine Ke ?_ | refine Ka ?_ _)); refine Kf ?_ NB237_258.out _; (with_reducible repeat (first | refine Kn ?_ _ | refine Ke ?_ | refine Ka ?_ _)); refine Kf ?_ NB237_258.out _; (with_reducible repeat (first | refine Kn ?_ _ | refine Ke ?_ | refine Ka ?_ _)); refine Kf ?_ NB237_258.out _; (with_reducible repeat (first | refine Kn ?_ _ | refine Ke ?_ | refine Ka ?_ _)); refine Kf ?_ NB237_258.out _; (with_reducible repeat (first | refine Kn ?_ _ | refine Ke ?_ | refine Ka ?_ _)); refine Kf ?_ NB237_258.out _; (with_reducible repeat (first | refine Kn ?_ _ | refine Ke ?_ | refine Ka ?_ _)); exact BK237.out⟩, ⟨by (with_reducible repeat (first | refine Kn ?_ _ | refine Ke ?_ | refine Ka ?_ _)); refine blk_put (cs := #[.int .i64 t245, .int .i64 0, .int .i64 0, .int .i64 0, .int .i64 0]) ?_ 4 _ rfl; (with_reducible repeat (first | refine Kn ?_ _ | refine Ke ?_ | refine Ka ?_ _)); refine blk_put (cs := #[.int .i64 t245, .int .i64 0, .int .i64 0, .int .i64 0, .int .i64 0]) ?_ 3 _ rfl; (with_reducible repeat (first | refine Kn ?_ _ | refine Ke ?_ | refine Ka ?_ _)); refine blk_put (cs := #[.int .i64 t245, .int .i64 0, .int .i64 0, .int .i64 0, .int .i64 0]) ?_ 2 _ rfl; (with_reducible repeat (first | refine Kn ?_ _ | refine Ke ?_ | refine Ka ?_ _)); refine blk_put (cs := #[.int .i64 t245, .int .i64 0, .int .i64 0, .int .i64 0, .int .i64 0]) ?_ 1 _ rfl; (with_reducible repeat (first | refine Kn ?_ _ | refine Ke ?_ | refine Ka ?_ _)); refine blk_put (cs := #[.int .i64 0, .int .i64 0, .int .i64 0, .int .i64 0, .int .i64 0]) ?_ 0 _ rfl; (with_reducible repeat (first | refine Kn ?_ _ | refine Ke ?_ | refine Ka ?_ _)); exact BK258.out⟩, ⟨by repeat (first | (with_reducible first | exact HB.out | apply Ba | apply Bn | apply Bd | refine Bs ?_ GE237.out | refine Bs ?_ GE258.out) | exact HB.out)⟩⟩
        case rest =>
         clear HC19
         try clear c1
         try clear c2
         try clear p2
         try clear q2
         try clear hx2
         try clear qi2
         try clear c3
         try clear c3b0
         try clear c3b1
         try clear c4
         try clear c5
         try clear c5b0
         try clear c13
         try clear c13b0
         try clear c14
         try clear c14b0
         try clear c15
         try clear c15b0
         try clear c15b1
         try clear c16
         try clear c16b0
         try clear c16b1
         try clear c18
         try clear p24
         try clear q24
         try clear hx24
         try clear qi24
         try clear p25
         try clear q25
         try clear hx25
         try clear qi25
         try clear p26
         try clear q26
         try clear hx26
         try clear qi26
         try clear c29
         try clear q29
         try clear c32
         try clear c34
         try clear c34b0
         try clear c34b1
         try clear c35
         try clear c35b0
         try clear c35b1
         try clear c36
         try clear c36b0
         try clear c36b1
         try clear c37
         try clear c37b0
         try clear c37b1
         try clear c38
         try clear c38b0
         try clear c38b1
         try clear c41
         try clear c42
         try clear c43
         try clear c46
         try clear c46b0
         try clear c46b1
         try clear c47
         try clear c47b0
         try clear c47b1
         try clear c48
         try clear c48b0
         try clear c48b1
         try clear hcz12_0
         try clear hcz12_1
         try clear hcz12_2
         try clear hcz12_3
         try clear hcz12_4
         try clear hcz33_0
         try clear hcz33_1
         try clear hcz33_2
         try clear hcz33_3
         try clear hcz33_4
         try clear hfz12_0
         try clear hfz12_1
         try clear hfz12_2
         try clear hfz12_3
         try clear hfz12_4
         try clear hfz33_0
         try clear hfz33_1
         try clear hfz33_2
         try clear hfz33_3
         try clear hfz33_4
         try clear hx244_0
         try clear hx249_0
         try clear hx259_0
         try clear hx260_0
         try clear hx261_0
         try clear hx262_0
         try clear hx263_0
         try clear hx264_0
         try clear p244
         try clear p249
         try clear p259
         try clear p260
         try clear p261
         try clear p262
         try clear p263
         try clear p264
         try clear q244
         try clear q249
         try clear q259
         try clear q260
         try clear q261
         try clear q262
         try clear q263
         try clear q264
         try clear q29
         obtain ⟨kq, x259001_18, x259002_18, x259003_18, x259004_18, HA, HJ18, BK237, BK258, HB⟩ := hcut
         cases kq with
         | zero => exact absurd HA.out (by simp [impl_ReadCmd.j0])
         | succ kj18 =>
          have H := HA.out
          clear HA
          simp only [impl_ReadCmd.j0] at H
          have HC54 := Am H
          clear H
          go_upto_region 16 with (fail)
          go_cut [68] (fun v68 wc => ∃ (kq : Nat) (x68_53 : Bool), v68 = .bool x68_53 ∧ Ad (impl_ReadCmd.j1 kq t245 x68_53 t245 x259001_18 x259002_18 x259003_18 x259004_18 = some (r1, r2, r3, r4, r5, r6, r7)) ∧ Ad (kq ≤ kj18) ∧ Ad (wc.heap[gb237]? = some (.cells #[.int .i64 0, .int .i64 0, .int .i64 0, .int .i64 0, .int .i64 0] 25 (0, 0))) ∧ Ad (wc.heap[gb258]? = some (.cells #[.int .i64 t245, .int .i64 x259001_18, .int .i64 x259002_18, .int .i64 x259003_18, .int .i64 x259004_18] 25 (0, 0))) ∧ Ad (Below w.heap.size w wc))
          case first =>
           have H := HC54.out
           clear HC54
           replace H := Option.bind_eq_some_iff.mp H
           obtain ⟨t265, A550, H⟩ := H
           replace H : (if t265 = true then ((impl_isAccount.f x259003_18).bind fun t266 => (impl_ReadCmd.j1 kj18 t245 (!t266) t245 x259001_18 x259002_18 x259003_18 x259004_18)) else (impl_ReadCmd.j1 kj18 t245 true t245 x259001_18 x259002_18 x259003_18 x259004_18)) = some (r1, r2, r3, r4, r5, r6, r7) := H
           have A55 := Am A550
           clear A550
           by_cases c56 : t265 = true
           ·subst c56
            have H1 : ((impl_isAccount.f x259003_18).bind fun t266 => (impl_ReadCmd.j1 kj18 t245 (!t266) t245 x259001_18 x259002_18 x259003_18 x259004_18)) = some (r1, r2, r3, r4, r5, r6, r7) := by rw [if_pos rfl] at H; exact H
            clear H
            have H := H1
            clear H1
            replace H := Option.bind_eq_some_iff.mp H
            obtain ⟨t266, A570, H⟩ := H
            replace H : (impl_ReadCmd.j1 kj18 t245 (!t266) t245 x259001_18 x259002_18 x259003_18 x259004_18) = some (r1, r2, r3, r4, r5, r6, r7) := H
            have A57 := Am A570
            clear A570
            have H' := Am H
            clear H
            have hnb58 := NB258_237.out
            have hnc58 := NB237_258.out
            have hcz59_0 : wc.cell? ⟨gb258, 0, none⟩ = some (.int .i64 t245) := (Kc BK258.out 0).trans rfl
            have hcz59_1 : wc.cell? ⟨gb258, 1, none⟩ = some (.int .i64 x259001_18) := (Kc BK258.out 1).trans rfl
            have hcz59_2 : wc.cell? ⟨gb258, 2, none⟩ = some (.int .i64 x259002_18) := (Kc BK258.out 2).trans rfl
            have hcz59_3 : wc.cell? ⟨gb258, 3, none⟩ = some (.int .i64 x259003_18) := (Kc BK258.out 3).trans rfl
            have hcz59_4 : wc.cell? ⟨gb258, 4, none⟩ = some (.int .i64 x259004_18) := (Kc BK258.out 4).trans rfl
            have hfz59_0 := Kz BK258.out 0
            have hfz59_1 := Kz BK258.out 1
            have hfz59_2 := Kz BK258.out 2
            have hfz59_3 := Kz BK258.out 3
            have hfz59_4 := Kz BK258.out 4
            go_wp2_with (first | ((refine Gc (f := 39) rfl ?_); refine goesL_ (some 71) rfl rfl Tryd.func39 (by kernel_rfl) rfl #[.int .i64 x259002_18] rfl (by first | rfl | simp only [Lm, Lc, Ln] <;> rfl) ?_; (with_reducible refine (impl_isAccount.calls x259002_18 true _ A55.out).mono ?_); rintro e w' ⟨rfl, ⟨nd, rfl⟩⟩; refine ⟨_, rfl, ?_⟩) | (go_at_call 39; (with_reducible refine (impl_isAccount.calls x259003_18 t266 _ A57.out).mono ?_); rintro e w' ⟨rfl, ⟨nd, rfl⟩⟩))
            go_meet
            case rel => exact ⟨_, (!t266), (by first | rfl | (simp; done) | (simp [*]; done)), H', ⟨by have := HJ18.out; first | omega | exact Nat.le_refl _⟩, ⟨by (with_reducible repeat (first | refine Kn ?_ _ | refine Ke ?_ | refine Ka ?_ _)); exact BK237.out⟩, ⟨by (with_reducible repeat (first | refine Kn ?_ _ | refine Ke ?_ | refine Ka ?_ _)); exact BK258.out⟩, ⟨by repeat (first | (with_reducible first | exact HB.out | apply Ba | apply Bn | apply Bd | refine Bs ?_ GE237.out | refine Bs ?_ GE258.out) | exact HB.out)⟩⟩
           ·replace c56 := Bool.eq_false_iff.mpr c56
            subst c56
            have H1 : (impl_ReadCmd.j1 kj18 t245 true t245 x259001_18 x259002_18 x259003_18 x259004_18) = some (r1, r2, r3, r4, r5, r6, r7) := by rw [if_neg (show ¬ (false = true) by decide)] at H; exact H
            clear H
            have H := H1
            clear H1
            have H' := Am H
            clear H
            have hnb60 := NB258_237.out
            have hnc60 := NB237_258.out
            have hcz61_0 : wc.cell? ⟨gb258, 0, none⟩ = some (.int .i64 t245) := (Kc BK258.out 0).trans rfl
            have hcz61_1 : wc.cell? ⟨gb258, 1, none⟩ = some (.int .i64 x259001_18) := (Kc BK258.out 1).trans rfl
            have hcz61_2 : wc.cell? ⟨gb258, 2, none⟩ = some (.int .i64 x259002_18) := (Kc BK258.out 2).trans rfl
            have hcz61_3 : wc.cell? ⟨gb258, 3, none⟩ = some (.int .i64 x259003_18) := (Kc BK258.out 3).trans rfl
            have hcz61_4 : wc.cell? ⟨gb258, 4, none⟩ = some (.int .i64 x259004_18) := (Kc BK258.out 4).trans rfl
            have hfz61_0 := Kz BK258.out 0
            have hfz61_1 := Kz BK258.out 1
            have hfz61_2 := Kz BK258.out 2
            have hfz61_3 := Kz BK258.out 3
            have hfz61_4 := Kz BK258.out 4
            go_wp2_with (first | ((refine Gc (f := 39) rfl ?_); refine goesL_ (some 71) rfl rfl Tryd.func39 (by kernel_rfl) rfl #[.int .i64 x259002_18] rfl (by first | rfl | simp only [Lm, Lc, Ln] <;> rfl) ?_; (with_reducible refine (impl_isAccount.calls x259002_18 false _ A55.out).mono ?_); rintro e w' ⟨rfl, ⟨nd, rfl⟩⟩; refine ⟨_, rfl, ?_⟩))
            go_meet
            case rel => exact ⟨_, (true), (by first | rfl | (simp; done) | (simp [*]; done)), H', ⟨by have := HJ18.out; first | omega | exact Nat.le_refl _⟩, ⟨by (with_reducible repeat (first | refine Kn ?_ _ | refine Ke ?_ | refine Ka ?_ _)); exact BK237.out⟩, ⟨by (with_reducible repeat (first | refine Kn ?_ _ | refine Ke ?_ | refine Ka ?_ _)); exact BK258.out⟩, ⟨by repeat (first | (with_reducible first | exact HB.out | apply Ba | apply Bn | apply Bd | refine Bs ?_ GE237.out | refine Bs ?_ GE258.out) | exact HB.out)⟩⟩
          case rest =>
           clear HC54
           try clear c1
           try clear c2
           try clear p2
           try clear q2
           try clear hx2
           try clear qi2
           try clear c3
           try clear c3b0
           try clear c3b1
           try clear c4
           try clear c5
           try clear c5b0
           try clear c6
           try clear c13
           try clear c13b0
           try clear c14
           try clear c14b0
           try clear c15
           try clear c15b0
           try clear c15b1
           try clear c16
           try clear c16b0
           try clear c16b1
           try clear c18
           try clear p24
           try clear q24
           try clear hx24
           try clear qi24
           try clear p25
           try clear q25
           try clear hx25
           try clear qi25
           try clear p26
           try clear q26
           try clear hx26
           try clear qi26
           try clear c29
           try clear q29
           try clear c32
           try clear c34
           try clear c34b0
           try clear c34b1
           try clear c35
           try clear c35b0
           try clear c35b1
           try clear c36
           try clear c36b0
           try clear c36b1
           try clear c37
           try clear c37b0
           try clear c37b1
           try clear c38
           try clear c38b0
           try clear c38b1
           try clear c39
           try clear c41
           try clear c42
           try clear c43
           try clear c46
           try clear c46b0
           try clear c46b1
           try clear c47
           try clear c47b0
           try clear c47b1
           try clear c48
           try clear c48b0
           try clear c48b1
           try clear c56
           try clear c58
           try clear c60
           try clear hcz12_0
           try clear hcz12_1
           try clear hcz12_2
           try clear hcz12_3
           try clear hcz12_4
           try clear hcz33_0
           try clear hcz33_1
           try clear hcz33_2
           try clear hcz33_3
           try clear hcz33_4
           try clear hcz59_0
           try clear hcz59_1
           try clear hcz59_2
           try clear hcz59_3
           try clear hcz59_4
           try clear hcz61_0
           try clear hcz61_1
           try clear hcz61_2
           try clear hcz61_3
           try clear hcz61_4
           try clear hfz12_0
           try clear hfz12_1
           try clear hfz12_2
           try clear hfz12_3
           try clear hfz12_4
           try clear hfz33_0
           try clear hfz33_1
           try clear hfz33_2
           try clear hfz33_3
           try clear hfz33_4
           try clear hfz59_0
           try clear hfz59_1
           try clear hfz59_2
           try clear hfz59_3
           try clear hfz59_4
           try clear hfz61_0
           try clear hfz61_1
           try clear hfz61_2
           try clear hfz61_3
           try clear hfz61_4
           try clear hx244_0
           try clear hx249_0
           try clear hx259_0
           try clear hx260_0
           try clear hx261_0
           try clear hx262_0
           try clear hx263_0
           try clear hx264_0
           try clear p2
           try clear p24
           try clear p244
           try clear p249
           try clear p25
           try clear p259
           try clear p26
           try clear p260
           try clear p261
           try clear p262
           try clear p263
           try clear p264
           try clear q2
           try clear q24
           try clear q244
           try clear q249
           try clear q25
           try clear q259
           try clear q26
           try clear q260
           try clear q261
           try clear q262
           try clear q263
           try clear q264
           try clear q29
           obtain ⟨kq, x68_53, rfl, HA, HJ53, BK237, BK258, HB⟩ := hcut
           cases kq with
           | zero => exact absurd HA.out (by simp [impl_ReadCmd.j1])
           | succ kj53 =>
            have H := HA.out
            clear HA
            simp only [impl_ReadCmd.j1] at H
            by_cases c62 : x68_53 = true
            ·subst c62
             have H1 : (some (0, 0, 0, 0, 0, 4, false)) = some (r1, r2, r3, r4, r5, r6, r7) := by rw [if_pos rfl] at H; exact H
             clear H
             have H := H1
             clear H1
             simp only [Option.some.injEq, Prod.mk.injEq] at H
             obtain ⟨rfl, rfl, rfl, rfl, rfl, rfl, rfl⟩ := H
             have hnb63 := NB237_258.out
             have hnc63 := NB258_237.out
             have hcz64_0 : wc.cell? ⟨gb237, 0, none⟩ = some (.int .i64 0) := (Kc BK237.out 0).trans rfl
             have hcz64_1 : wc.cell? ⟨gb237, 1, none⟩ = some (.int .i64 0) := (Kc BK237.out 1).trans rfl
             have hcz64_2 : wc.cell? ⟨gb237, 2, none⟩ = some (.int .i64 0) := (Kc BK237.out 2).trans rfl
             have hcz64_3 : wc.cell? ⟨gb237, 3, none⟩ = some (.int .i64 0) := (Kc BK237.out 3).trans rfl
             have hcz64_4 : wc.cell? ⟨gb237, 4, none⟩ = some (.int .i64 0) := (Kc BK237.out 4).trans rfl
             have hfz64_0 := Kz BK237.out 0
             have hfz64_1 := Kz BK237.out 1
             have hfz64_2 := Kz BK237.out 2
             have hfz64_3 := Kz BK237.out 3
             have hfz64_4 := Kz BK237.out 4
             go_wp2
             refine bodyPost_ret (results_ctt rfl _ _ gb237 25 #[.int .i64 0, .int .i64 0, .int .i64 0, .int .i64 0, .int .i64 0] (0, 0) _ rfl (by (with_reducible repeat (first | refine Kn ?_ _ | refine Ke ?_ | refine Ka ?_ _)); refine blk_put (cs := #[.int .i64 0, .int .i64 0, .int .i64 0, .int .i64 0, .int .i64 0]) ?_ 4 _ rfl; (with_reducible repeat (first | refine Kn ?_ _ | refine Ke ?_ | refine Ka ?_ _)); refine blk_put (cs := #[.int .i64 0, .int .i64 0, .int .i64 0, .int .i64 0, .int .i64 0]) ?_ 3 _ rfl; (with_reducible repeat (first | refine Kn ?_ _ | refine Ke ?_ | refine Ka ?_ _)); refine blk_put (cs := #[.int .i64 0, .int .i64 0, .int .i64 0, .int .i64 0, .int .i64 0]) ?_ 2 _ rfl; (with_reducible repeat (first | refine Kn ?_ _ | refine Ke ?_ | refine Ka ?_ _)); refine blk_put (cs := #[.int .i64 0, .int .i64 0, .int .i64 0, .int .i64 0, .int .i64 0]) ?_ 1 _ rfl; (with_reducible repeat (first | refine Kn ?_ _ | refine Ke ?_ | refine Ka ?_ _)); refine blk_put (cs := #[.int .i64 0, .int .i64 0, .int .i64 0, .int .i64 0, .int .i64 0]) ?_ 0 _ rfl; (with_reducible repeat (first | refine Kn ?_ _ | refine Ke ?_ | refine Ka ?_ _)); exact BK237.out) Tryd.underlying25 rfl (by kernel_rfl)) rfl ?_
             exact ⟨by first | rfl | (simp [*, errW_none, errW_some] <;> rfl), by repeat (first | (with_reducible first | exact HB.out | apply Ba | apply Bn | apply Bd | refine Bs ?_ GE237.out | refine Bs ?_ GE258.out) | exact HB.out)⟩
            ·replace c62 := Bool.eq_false_iff.mpr c62
             subst c62
             have H1 : (if t245 = 1 then (impl_ReadCmd.j2 kj53 (x259002_18 == x259003_18) t245 x259001_18 x259002_18 x259003_18 x259004_18) else (impl_ReadCmd.j2 kj53 false t245 x259001_18 x259002_18 x259003_18 x259004_18)) = some (r1, r2, r3, r4, r5, r6, r7) := by rw [if_neg (show ¬ (false = true) by decide)] at H; exact H
             clear H
             have H := H1
             clear H1
             have HC65 := Am H
             clear H
             go_upto_region 18 with (fail)
             go_cut [80] (fun v80 wc => ∃ (kq : Nat) (x80_64 : Bool), v80 = .bool x80_64 ∧ Ad (impl_ReadCmd.j2 kq x80_64 t245 x259001_18 x259002_18 x259003_18 x259004_18 = some (r1, r2, r3, r4, r5, r6, r7)) ∧ Ad (kq ≤ kj53) ∧ Ad (wc.heap[gb237]? = some (.cells #[.int .i64 0, .int .i64 0, .int .i64 0, .int .i64 0, .int .i64 0] 25 (0, 0))) ∧ Ad (wc.heap[gb258]? = some (.cells #[.int .i64 t245, .int .i64 x259001_18, .int .i64 x259002_18, .int .i64 x259003_18, .int .i64 x259004_18] 25 (0, 0))) ∧ Ad (Below w.heap.size w wc))
             case first =>
              have H := HC65.out
              clear HC65
              by_cases c66 : t245 = 1
              ·rw [if_pos c66] at H
               have c66b0 : (t245 == 1) = true := beq_iff_eq.mpr c66
               have c66b1 : (t245 != 1) = false := bne_eq_false_iff_eq.mpr c66
               clear c66
               (first | rw [c66b0] | (simp only [i64_w, i32_w]; rw [c66b0]) | skip)
               have H' := Am H
               clear H
               have hnb67 := NB258_237.out
               have hnc67 := NB237_258.out
               have hcz68_0 : wc.cell? ⟨gb258, 0, none⟩ = some (.int .i64 t245) := (Kc BK258.out 0).trans rfl
               have hcz68_1 : wc.cell? ⟨gb258, 1, none⟩ = some (.int .i64 x259001_18) := (Kc BK258.out 1).trans rfl
               have hcz68_2 : wc.cell? ⟨gb258, 2, none⟩ = some (.int .i64 x259002_18) := (Kc BK258.out 2).trans rfl
               have hcz68_3 : wc.cell? ⟨gb258, 3, none⟩ = some (.int .i64 x259003_18) := (Kc BK258.out 3).trans rfl
               have hcz68_4 : wc.cell? ⟨gb258, 4, none⟩ = some (.int .i64 x259004_18) := (Kc BK258.out 4).trans rfl
               have hfz68_0 := Kz BK258.out 0
               have hfz68_1 := Kz BK258.out 1
               have hfz68_2 := Kz BK258.out 2
               have hfz68_3 := Kz BK258.out 3
               have hfz68_4 := Kz BK258.out 4
               go_wp2
               go_meet
               case rel => exact ⟨_, ((x259002_18 == x259003_18)), (by first | rfl | (simp; done) | (simp [*]; done)), H', ⟨by have := HJ18.out; have := HJ53.out; first | omega | exact Nat.le_refl _⟩, ⟨by (with_reducible repeat (first | refine Kn ?_ _ | refine Ke ?_ | refine Ka ?_ _)); exact BK237.out⟩, ⟨by (with_reducible repeat (first | refine Kn ?_ _ | refine Ke ?_ | refine Ka ?_ _)); exact BK258.out⟩, ⟨by repeat (first | (with_reducible first | exact HB.out | apply Ba | apply Bn | apply Bd | refine Bs ?_ GE237.out | refine Bs ?_ GE258.out) | exact HB.out)⟩⟩
              ·rw [if_neg c66] at H
               have c66b0 : (t245 == 1) = false := beq_eq_false_iff_ne.mpr c66
               have c66b1 : (t245 != 1) = true := bne_iff_ne.mpr c66
               (first | rw [c66b0] | (simp only [i64_w, i32_w]; rw [c66b0]) | skip)
               have H' := Am H
               clear H
               go_wp2
               go_meet
               case rel => exact ⟨_, (false), (by first | rfl | (simp; done) | (simp [*]; done)), H', ⟨by have := HJ18.out; have := HJ53.out; first | omega | exact Nat.le_refl _⟩, ⟨by (with_reducible repeat (first | refine Kn ?_ _ | refine Ke ?_ | refine Ka ?_ _)); exact BK237.out⟩, ⟨by (with_reducible repeat (first | refine Kn ?_ _ | refine Ke ?_ | refine Ka ?_ _)); exact BK258.out⟩, ⟨by repeat (first | (with_reducible first | exact HB.out | apply Ba | apply Bn | apply Bd | refine Bs ?_ GE237.out | refine Bs ?_ GE258.out) | exact HB.out)⟩⟩
             case rest =>
              clear HC65
              try clear c1
              try clear c2
              try clear p2
              try clear q2
              try clear hx2
              try clear qi2
              try clear c3
              try clear c3b0
              try clear c3b1
              try clear c4
              try clear c5
              try clear c5b0
              try clear c6
              try clear c13
              try clear c13b0
              try clear c14
              try clear c14b0
              try clear c15
              try clear c15b0
              try clear c15b1
              try clear c16
              try clear c16b0
              try clear c16b1
              try clear c18
              try clear p24
              try clear q24
              try clear hx24
              try clear qi24
              try clear p25
              try clear q25
              try clear hx25
              try clear qi25
              try clear p26
              try clear q26
              try clear hx26
              try clear qi26
              try clear c29
              try clear q29
              try clear c32
              try clear c34
              try clear c34b0
              try clear c34b1
              try clear c35
              try clear c35b0
              try clear c35b1
              try clear c36
              try clear c36b0
              try clear c36b1
              try clear c37
              try clear c37b0
              try clear c37b1
              try clear c38
              try clear c38b0
              try clear c38b1
              try clear c39
              try clear c41
              try clear c42
              try clear c43
              try clear c46
              try clear c46b0
              try clear c46b1
              try clear c47
              try clear c47b0
              try clear c47b1
              try clear c48
              try clear c48b0
              try clear c48b1
              try clear c56
              try clear c58
              try clear c60
              try clear c62
              try clear c63
              try clear c66
              try clear c66b0
              try clear c66b1
              try clear c67
              try clear hcz12_0
              try clear hcz12_1
              try clear hcz12_2
              try clear hcz12_3
              try clear hcz12_4
              try clear hcz33_0
              try clear hcz33_1
              try clear hcz33_2
              try clear hcz33_3
              try clear hcz33_4
              try clear hcz59_0
              try clear hcz59_1
              try clear hcz59_2
              try clear hcz59_3
              try clear hcz59_4
              try clear hcz61_0
              try clear hcz61_1
              try clear hcz61_2
              try clear hcz61_3
              try clear hcz61_4
              try clear hcz64_0
              try clear hcz64_1
              try clear hcz64_2
              try clear hcz64_3
              try clear hcz64_4
              try clear hcz68_0
              try clear hcz68_1
              try clear hcz68_2
              try clear hcz68_3
              try clear hcz68_4
              try clear hfz12_0
              try clear hfz12_1
              try clear hfz12_2
              try clear hfz12_3
              try clear hfz12_4
              try clear hfz33_0
              try clear hfz33_1
              try clear hfz33_2
              try clear hfz33_3
              try clear hfz33_4
              try clear hfz59_0
              try clear hfz59_1
              try clear hfz59_2
              try clear hfz59_3
              try clear hfz59_4
              try clear hfz61_0
              try clear hfz61_1
              try clear hfz61_2
              try clear hfz61_3
              try clear hfz61_4
              try clear hfz64_0
              try clear hfz64_1
              try clear hfz64_2
              try clear hfz64_3
              try clear hfz64_4
              try clear hfz68_0
              try clear hfz68_1
              try clear hfz68_2
              try clear hfz68_3
              try clear hfz68_4
              try clear hx244_0
              try clear hx249_0
              try clear hx259_0
              try clear hx260_0
              try clear hx261_0
              try clear hx262_0
              try clear hx263_0
              try clear hx264_0
              try clear p2
              try clear p24
              try clear p244
              try clear p249
              try clear p25
              try clear p259
              try clear p26
              try clear p260
              try clear p261
              try clear p262
              try clear p263
              try clear p264
              try clear q2
              try clear q24
              try clear q244
              try clear q249
              try clear q25
              try clear q259
              try clear q26
              try clear q260
              try clear q261
              try clear q262
              try clear q263
              try clear q264
              try clear q29
              obtain ⟨kq, x80_64, rfl, HA, HJ64, BK237, BK258, HB⟩ := hcut
              cases kq with
              | zero => exact absurd HA.out (by simp [impl_ReadCmd.j2])
              | succ kj64 =>
               have H := HA.out
               clear HA
               simp only [impl_ReadCmd.j2] at H
               by_cases c69 : x80_64 = true
               ·subst c69
                have H1 : (some (0, 0, 0, 0, 0, 5, false)) = some (r1, r2, r3, r4, r5, r6, r7) := by rw [if_pos rfl] at H; exact H
                clear H
                have H := H1
                clear H1
                simp only [Option.some.injEq, Prod.mk.injEq] at H
                obtain ⟨rfl, rfl, rfl, rfl, rfl, rfl, rfl⟩ := H
                have hnb70 := NB237_258.out
                have hnc70 := NB258_237.out
                have hcz71_0 : wc.cell? ⟨gb237, 0, none⟩ = some (.int .i64 0) := (Kc BK237.out 0).trans rfl
                have hcz71_1 : wc.cell? ⟨gb237, 1, none⟩ = some (.int .i64 0) := (Kc BK237.out 1).trans rfl
                have hcz71_2 : wc.cell? ⟨gb237, 2, none⟩ = some (.int .i64 0) := (Kc BK237.out 2).trans rfl
                have hcz71_3 : wc.cell? ⟨gb237, 3, none⟩ = some (.int .i64 0) := (Kc BK237.out 3).trans rfl
                have hcz71_4 : wc.cell? ⟨gb237, 4, none⟩ = some (.int .i64 0) := (Kc BK237.out 4).trans rfl
                have hfz71_0 := Kz BK237.out 0
                have hfz71_1 := Kz BK237.out 1
                have hfz71_2 := Kz BK237.out 2
                have hfz71_3 := Kz BK237.out 3
                have hfz71_4 := Kz BK237.out 4
                go_wp2
                refine bodyPost_ret (results_ctt rfl _ _ gb237 25 #[.int .i64 0, .int .i64 0, .int .i64 0, .int .i64 0, .int .i64 0] (0, 0) _ rfl (by (with_reducible repeat (first | refine Kn ?_ _ | refine Ke ?_ | refine Ka ?_ _)); refine blk_put (cs := #[.int .i64 0, .int .i64 0, .int .i64 0, .int .i64 0, .int .i64 0]) ?_ 4 _ rfl; (with_reducible repeat (first | refine Kn ?_ _ | refine Ke ?_ | refine Ka ?_ _)); refine blk_put (cs := #[.int .i64 0, .int .i64 0, .int .i64 0, .int .i64 0, .int .i64 0]) ?_ 3 _ rfl; (with_reducible repeat (first | refine Kn ?_ _ | refine Ke ?_ | refine Ka ?_ _)); refine blk_put (cs := #[.int .i64 0, .int .i64 0, .int .i64 0, .int .i64 0, .int .i64 0]) ?_ 2 _ rfl; (with_reducible repeat (first | refine Kn ?_ _ | refine Ke ?_ | refine Ka ?_ _)); refine blk_put (cs := #[.int .i64 0, .int .i64 0, .int .i64 0, .int .i64 0, .int .i64 0]) ?_ 1 _ rfl; (with_reducible repeat (first | refine Kn ?_ _ | refine Ke ?_ | refine Ka ?_ _)); refine blk_put (cs := #[.int .i64 0, .int .i64 0, .int .i64 0, .int .i64 0, .int .i64 0]) ?_ 0 _ rfl; (with_reducible repeat (first | refine Kn ?_ _ | refine Ke ?_ | refine Ka ?_ _)); exact BK237.out) Tryd.underlying25 rfl (by kernel_rfl)) rfl ?_
                exact ⟨by first | rfl | (simp [*, errW_none, errW_some] <;> rfl), by repeat (first | (with_reducible first | exact HB.out | apply Ba | apply Bn | apply Bd | refine Bs ?_ GE237.out | refine Bs ?_ GE258.out) | exact HB.out)⟩
               ·replace c69 := Bool.eq_false_iff.mpr c69
                subst c69
                have H1 : ((impl_GoodCmd.f t245 x259001_18 x259002_18 x259003_18 x259004_18).bind fun t267 => (if t267 = true then (some (t245, x259001_18, x259002_18, x259003_18, x259004_18, 0, true)) else (some (0, 0, 0, 0, 0, 6, false)))) = some (r1, r2, r3, r4, r5, r6, r7) := by rw [if_neg (show ¬ (false = true) by decide)] at H; exact H
                clear H
                have H := H1
                clear H1
                replace H := Option.bind_eq_some_iff.mp H
                obtain ⟨t267, A720, H⟩ := H
                replace H : (if t267 = true then (some (t245, x259001_18, x259002_18, x259003_18, x259004_18, 0, true)) else (some (0, 0, 0, 0, 0, 6, false))) = some (r1, r2, r3, r4, r5, r6, r7) := H
                have A72 := Am A720
                clear A720
                by_cases c73 : t267 = true
                ·subst c73
                 have H1 : (some (t245, x259001_18, x259002_18, x259003_18, x259004_18, 0, true)) = some (r1, r2, r3, r4, r5, r6, r7) := by rw [if_pos rfl] at H; exact H
                 clear H
                 have H := H1
                 clear H1
                 simp only [Option.some.injEq, Prod.mk.injEq] at H
                 obtain ⟨rfl, rfl, rfl, rfl, rfl, rfl, rfl⟩ := H
                 have hnb74 := NB258_237.out
                 have hnc74 := NB237_258.out
                 have hcz75_0 : wc.cell? ⟨gb258, 0, none⟩ = some (.int .i64 t245) := (Kc BK258.out 0).trans rfl
                 have hcz75_1 : wc.cell? ⟨gb258, 1, none⟩ = some (.int .i64 x259001_18) := (Kc BK258.out 1).trans rfl
                 have hcz75_2 : wc.cell? ⟨gb258, 2, none⟩ = some (.int .i64 x259002_18) := (Kc BK258.out 2).trans rfl
                 have hcz75_3 : wc.cell? ⟨gb258, 3, none⟩ = some (.int .i64 x259003_18) := (Kc BK258.out 3).trans rfl
                 have hcz75_4 : wc.cell? ⟨gb258, 4, none⟩ = some (.int .i64 x259004_18) := (Kc BK258.out 4).trans rfl
                 have hfz75_0 := Kz BK258.out 0
                 have hfz75_1 := Kz BK258.out 1
                 have hfz75_2 := Kz BK258.out 2
                 have hfz75_3 := Kz BK258.out 3
                 have hfz75_4 := Kz BK258.out 4
                 go_wp2_with (first | ((refine Gc (f := 12) rfl ?_); refine goesL_ (some 93) rfl rfl Tryd.func12 (by kernel_rfl) rfl #[.agg #[.int .i64 t245, .int .i64 x259001_18, .int .i64 x259002_18, .int .i64 x259003_18, .int .i64 x259004_18]] rfl (by first | rfl | simp only [Lm, Lc, Ln] <;> rfl) ?_; (with_reducible refine (impl_GoodCmd.calls t245 x259001_18 x259002_18 x259003_18 x259004_18 true _ A72.out).mono ?_); rintro e w76 ⟨rfl, hb⟩; refine ⟨_, rfl, ?_⟩; have n0_ := Am (Kb (g := gb237) (o := .cells #[.int .i64 0, .int .i64 0, .int .i64 0, .int .i64 0, .int .i64 0] 25 (0, 0)) (by (with_reducible repeat (first | refine Kn ?_ _ | refine Ke ?_ | refine Ka ?_ _)); exact BK237.out) hb); have n1_ := Am (Kb (g := gb258) (o := .cells #[.int .i64 t245, .int .i64 x259001_18, .int .i64 x259002_18, .int .i64 x259003_18, .int .i64 x259004_18] 25 (0, 0)) (by (with_reducible repeat (first | refine Kn ?_ _ | refine Ke ?_ | refine Ka ?_ _)); exact BK258.out) hb); have n2_ := Am (Bt (by repeat (first | (with_reducible first | exact HB.out | apply Ba | apply Bn | apply Bd | refine Bs ?_ GE237.out | refine Bs ?_ GE258.out) | exact HB.out)) hb); clear BK237; clear BK258; clear HB; have BK237 := n0_; have BK258 := n1_; have HB := n2_; clear n0_ n1_ n2_; (try clear hb); (try clear hb2); (try clear hk); (try clear hi); have hcz77_0 : w76.cell? ⟨gb258, 0, none⟩ = some (.int .i64 t245) := (Kc BK258.out 0).trans rfl; have hcz77_1 : w76.cell? ⟨gb258, 1, none⟩ = some (.int .i64 x259001_18) := (Kc BK258.out 1).trans rfl; have hcz77_2 : w76.cell? ⟨gb258, 2, none⟩ = some (.int .i64 x259002_18) := (Kc BK258.out 2).trans rfl; have hcz77_3 : w76.cell? ⟨gb258, 3, none⟩ = some (.int .i64 x259003_18) := (Kc BK258.out 3).trans rfl; have hcz77_4 : w76.cell? ⟨gb258, 4, none⟩ = some (.int .i64 x259004_18) := (Kc BK258.out 4).trans rfl; have hfz77_0 := Kz BK258.out 0; have hfz77_1 := Kz BK258.out 1; have hfz77_2 := Kz BK258.out 2; have hfz77_3 := Kz BK258.out 3; have hfz77_4 := Kz BK258.out 4; have hcz78_0 : w76.cell? ⟨gb237, 0, none⟩ = some (.int .i64 0) := (Kc BK237.out 0).trans rfl; have hcz78_1 : w76.cell? ⟨gb237, 1, none⟩ = some (.int .i64 0) := (Kc BK237.out 1).trans rfl; have hcz78_2 : w76.cell? ⟨gb237, 2, none⟩ = some (.int .i64 0) := (Kc BK237.out 2).trans rfl; have hcz78_3 : w76.cell? ⟨gb237, 3, none⟩ = some (.int .i64 0) := (Kc BK237.out 3).trans rfl; have hcz78_4 : w76.cell? ⟨gb237, 4, none⟩ = some (.int .i64 0) := (Kc BK237.out 4).trans rfl; have hfz78_0 := Kz BK237.out 0; have hfz78_1 := Kz BK237.out 1; have hfz78_2 := Kz BK237.out 2; have hfz78_3 := Kz BK237.out 3; have hfz78_4 := Kz BK237.out 4))
                 refine bodyPost_ret (results_ctt rfl _ _ gb237 25 #[.int .i64 t245, .int .i64 x259001_18, .int .i64 x259002_18, .int .i64 x259003_18, .int .i64 x259004_18] (0, 0) _ rfl (by (with_reducible repeat (first | refine Kn ?_ _ | refine Ke ?_ | refine Ka ?_ _)); refine blk_put (cs := #[.int .i64 t245, .int .i64 x259001_18, .int .i64 x259002_18, .int .i64 x259003_18, .int .i64 0]) ?_ 4 _ rfl; (with_reducible repeat (first | refine Kn ?_ _ | refine Ke ?_ | refine Ka ?_ _)); refine blk_put (cs := #[.int .i64 t245, .int .i64 x259001_18, .int .i64 x259002_18, .int .i64 0, .int .i64 0]) ?_ 3 _ rfl; (with_reducible repeat (first | refine Kn ?_ _ | refine Ke ?_ | refine Ka ?_ _)); refine blk_put (cs := #[.int .i64 t245, .int .i64 x259001_18, .int .i64 0, .int .i64 0, .int .i64 0]) ?_ 2 _ rfl; (with_reducible repeat (first | refine Kn ?_ _ | refine Ke ?_ | refine Ka ?_ _)); refine blk_put (cs := #[.int .i64 t245, .int .i64 0, .int .i64 0, .int .i64 0, .int .i64 0]) ?_ 1 _ rfl; (with_reducible repeat (first | refine Kn ?_ _ | refine Ke ?_ | refine Ka ?_ _)); refine blk_put (cs := #[.int .i64 0, .int .i64 0, .int .i64 0, .int .i64 0, .int .i64 0]) ?_ 0 _ rfl; (with_reducible repeat (first | refine Kn ?_ _ | refine Ke ?_ | refine Ka ?_ _)); exact BK237.out) Tryd.underlying25 rfl (by kernel_rfl)) rfl ?_
                 exact ⟨by first | rfl | (simp [*, errW_none, errW_some] <;> rfl), by repeat (first | (with_reducible first | exact HB.out | apply Ba | apply Bn | apply Bd | refine Bs ?_ GE237.out | refine Bs ?_ GE258.out) | exact HB.out)⟩
                ·replace c73 := Bool.eq_false_iff.mpr c73
                 subst c73
                 have H1 : (some (0, 0, 0, 0, 0, 6, false)) = some (r1, r2, r3, r4, r5, r6, r7) := by rw [if_neg (show ¬ (false = true) by decide)] at H; exact H
                 clear H
                 have H := H1
                 clear H1
                 simp only [Option.some.injEq, Prod.mk.injEq] at H
                 obtain ⟨rfl, rfl, rfl, rfl, rfl, rfl, rfl⟩ := H
                 have hnb79 := NB258_237.out
                 have hnc79 := NB237_258.out
                 have hcz80_0 : wc.cell? ⟨gb258, 0, none⟩ = some (.int .i64 t245) := (Kc BK258.out 0).trans rfl
                 have hcz80_1 : wc.cell? ⟨gb258, 1, none⟩ = some (.int .i64 x259001_18) := (Kc BK258.out 1).trans rfl
                 have hcz80_2 : wc.cell? ⟨gb258, 2, none⟩ = some (.int .i64 x259002_18) := (Kc BK258.out 2).trans rfl
                 have hcz80_3 : wc.cell? ⟨gb258, 3, none⟩ = some (.int .i64 x259003_18) := (Kc BK258.out 3).trans rfl
                 have hcz80_4 : wc.cell? ⟨gb258, 4, none⟩ = some (.int .i64 x259004_18) := (Kc BK258.out 4).trans rfl
                 have hfz80_0 := Kz BK258.out 0
                 have hfz80_1 := Kz BK258.out 1
                 have hfz80_2 := Kz BK258.out 2
                 have hfz80_3 := Kz BK258.out 3
                 have hfz80_4 := Kz BK258.out 4
                 go_wp2_with (first | ((refine Gc (f := 12) rfl ?_); refine goesL_ (some 93) rfl rfl Tryd.func12 (by kernel_rfl) rfl #[.agg #[.int .i64 t245, .int .i64 x259001_18, .int .i64 x259002_18, .int .i64 x259003_18, .int .i64 x259004_18]] rfl (by first | rfl | simp only [Lm, Lc, Ln] <;> rfl) ?_; (with_reducible refine (impl_GoodCmd.calls t245 x259001_18 x259002_18 x259003_18 x259004_18 false _ A72.out).mono ?_); rintro e w81 ⟨rfl, hb⟩; refine ⟨_, rfl, ?_⟩; have n0_ := Am (Kb (g := gb237) (o := .cells #[.int .i64 0, .int .i64 0, .int .i64 0, .int .i64 0, .int .i64 0] 25 (0, 0)) (by (with_reducible repeat (first | refine Kn ?_ _ | refine Ke ?_ | refine Ka ?_ _)); exact BK237.out) hb); have n1_ := Am (Kb (g := gb258) (o := .cells #[.int .i64 t245, .int .i64 x259001_18, .int .i64 x259002_18, .int .i64 x259003_18, .int .i64 x259004_18] 25 (0, 0)) (by (with_reducible repeat (first | refine Kn ?_ _ | refine Ke ?_ | refine Ka ?_ _)); exact BK258.out) hb); have n2_ := Am (Bt (by repeat (first | (with_reducible first | exact HB.out | apply Ba | apply Bn | apply Bd | refine Bs ?_ GE237.out | refine Bs ?_ GE258.out) | exact HB.out)) hb); clear BK237; clear BK258; clear HB; have BK237 := n0_; have BK258 := n1_; have HB := n2_; clear n0_ n1_ n2_; (try clear hb); (try clear hb2); (try clear hk); (try clear hi); have hcz82_0 : w81.cell? ⟨gb237, 0, none⟩ = some (.int .i64 0) := (Kc BK237.out 0).trans rfl; have hcz82_1 : w81.cell? ⟨gb237, 1, none⟩ = some (.int .i64 0) := (Kc BK237.out 1).trans rfl; have hcz82_2 : w81.cell? ⟨gb237, 2, none⟩ = some (.int .i64 0) := (Kc BK237.out 2).trans rfl; have hcz82_3 : w81.cell? ⟨gb237, 3, none⟩ = some (.int .i64 0) := (Kc BK237.out 3).trans rfl; have hcz82_4 : w81.cell? ⟨gb237, 4, none⟩ = some (.int .i64 0) := (Kc BK237.out 4).trans rfl; have hfz82_0 := Kz BK237.out 0; have hfz82_1 := Kz BK237.out 1; have hfz82_2 := Kz BK237.out 2; have hfz82_3 := Kz BK237.out 3; have hfz82_4 := Kz BK237.out 4))
                 refine bodyPost_ret (results_ctt rfl _ _ gb237 25 #[.int .i64 0, .int .i64 0, .int .i64 0, .int .i64 0, .int .i64 0] (0, 0) _ rfl (by (with_reducible repeat (first | refine Kn ?_ _ | refine Ke ?_ | refine Ka ?_ _)); refine blk_put (cs := #[.int .i64 0, .int .i64 0, .int .i64 0, .int .i64 0, .int .i64 0]) ?_ 4 _ rfl; (with_reducible repeat (first | refine Kn ?_ _ | refine Ke ?_ | refine Ka ?_ _)); refine blk_put (cs := #[.int .i64 0, .int .i64 0, .int .i64 0, .int .i64 0, .int .i64 0]) ?_ 3 _ rfl; (with_reducible repeat (first | refine Kn ?_ _ | refine Ke ?_ | refine Ka ?_ _)); refine blk_put (cs := #[.int .i64 0, .int .i64 0, .int .i64 0, .int .i64 0, .int .i64 0]) ?_ 2 _ rfl; (with_reducible repeat (first | refine Kn ?_ _ | refine Ke ?_ | refine Ka ?_ _)); refine blk_put (cs := #[.int .i64 0, .int .i64 0, .int .i64 0, .int .i64 0, .int .i64 0]) ?_ 1 _ rfl; (with_reducible repeat (first | refine Kn ?_ _ | refine Ke ?_ | refine Ka ?_ _)); refine blk_put (cs := #[.int .i64 0, .int .i64 0, .int .i64 0, .int .i64 0, .int .i64 0]) ?_ 0 _ rfl; (with_reducible repeat (first | refine Kn ?_ _ | refine Ke ?_ | refine Ka ?_ _)); exact BK237.out) Tryd.underlying25 rfl (by kernel_rfl)) rfl ?_
                 exact ⟨by first | rfl | (simp [*, errW_none, errW_some] <;> rfl), by repeat (first | (with_reducible first | exact HB.out | apply Ba | apply Bn | apply Bd | refine Bs ?_ GE237.out | refine Bs ?_ GE258.out) | exact HB.out)⟩
       ·replace c18 := Bool.eq_false_iff.mpr c18
        subst c18
        have H1 : (some (0, 0, 0, 0, 0, 3, false)) = some (r1, r2, r3, r4, r5, r6, r7) := by rw [if_neg (show ¬ (false = true) by decide)] at H; exact H
        clear H
        have H := H1
        clear H1
        simp only [Option.some.injEq, Prod.mk.injEq] at H
        obtain ⟨rfl, rfl, rfl, rfl, rfl, rfl, rfl⟩ := H
        go_enter Tryd.func14, Tryd.ntmps14
        go_wp2_with (first | ((refine Gd (N := 2) rfl ?_); refine Be ?hg (N := 2) ?hd (cs := #[.int .i64 0, .int .i64 0, .int .i64 0, .int .i64 0, .int .i64 0]) (t := 25) ?hr ?_; (case hd | hg => rfl); (case hr => go_simp <;> rfl); intro gb237 hg w83 hbox hb; have n0_ := Am (Bt (by repeat (first | exact HB.out | apply Ba | apply Bn | apply Bd)) hb); have n1_ := Am (hbox); have n2_ := Am ((by rw [hg]; exact (Bz (by repeat (first | exact HB.out | apply Ba | apply Bn | apply Bd))) : w.heap.size ≤ gb237)); have n3_ := Am ((by rw [hg]; exact (Bz (by repeat (first | exact HB.out | apply Ba | apply Bn | apply Bd))) : w.heap.size ≤ gb237)); clear HB; have HB := n0_; have BK237 := n1_; have GW237 := n2_; have GE237 := n3_; clear n0_ n1_ n2_ n3_; clear hb hbox hg) | ((refine Gc (f := 41) rfl ?_); refine goesL_ (some 11) rfl rfl Tryd.func41 (by kernel_rfl) rfl #[.string a0, .string (⟨#[32]⟩ : ByteArray)] rfl (by first | rfl | simp only [Lm, Lc, Ln] <;> rfl) ?_; (with_reducible refine (strings_Split.calls a0 (⟨#[32]⟩ : ByteArray) t238 _ A2.out (EnvM.below HMw.out (by repeat (first | (with_reducible first | exact HB.out | apply Ba | apply Bn | apply Bd | refine Bs ?_ GE237.out) | exact HB.out)))).mono ?_); rintro e w84 ⟨v239, rfl, ho0, hb⟩; refine ⟨_, rfl, ?_⟩; have n0_ := Am (Kd.R_lower ho0 (Bz (by repeat (first | (with_reducible first | exact HB.out | apply Ba | apply Bn | apply Bd | refine Bs ?_ GE237.out) | exact HB.out)))); have n1_ := Am (Kb (g := gb237) (o := .cells #[.int .i64 0, .int .i64 0, .int .i64 0, .int .i64 0, .int .i64 0] 25 (0, 0)) (by (with_reducible repeat (first | refine Kn ?_ _ | refine Ke ?_ | refine Ka ?_ _)); exact BK237.out) hb); have n2_ := Am (Bt (by repeat (first | (with_reducible first | exact HB.out | apply Ba | apply Bn | apply Bd | refine Bs ?_ GE237.out) | exact HB.out)) hb); clear BK237; clear HB; have HO240 := n0_; have BK237 := n1_; have HB := n2_; clear n0_ n1_ n2_; (try clear hb); (try clear hb2); (try clear hk); (try clear hi); (try clear ho0)) | ((refine Gd (N := 12) rfl ?_); refine Kd.R_lit Kd.string _ 9 ?hg (N := 12) ?hd (xs := ([(⟨#[45]⟩ : ByteArray), (⟨#[109, 111, 118, 101]⟩ : ByteArray), (⟨#[114, 101, 97, 100]⟩ : ByteArray)] : List ByteArray)) (inner := [.string (⟨#[45]⟩ : ByteArray), .string (⟨#[109, 111, 118, 101]⟩ : ByteArray), .string (⟨#[114, 101, 97, 100]⟩ : ByteArray)]) (ok := fun _ => True) (okp := fun _ => True) ?hr ?hp (fun _ hk => hk) trivial (Below.refl _ _) (Nat.le_refl _) (by simp) ?_; (case hd | hg => rfl); (case hr => go_simp <;> rfl); (case hp => exact (Reps.one (show Kd.M Kd.string _ _ _ (⟨#[45]⟩ : ByteArray) [.string (⟨#[45]⟩ : ByteArray)] from rfl) (Reps.one (show Kd.M Kd.string _ _ _ (⟨#[109, 111, 118, 101]⟩ : ByteArray) [.string (⟨#[109, 111, 118, 101]⟩ : ByteArray)] from rfl) (Reps.one (show Kd.M Kd.string _ _ _ (⟨#[114, 101, 97, 100]⟩ : ByteArray) [.string (⟨#[114, 101, 97, 100]⟩ : ByteArray)] from rfl) (Reps.none _ _))))); intro v242 w85 ho86 hb hg_ hnew_; clear hg_ hnew_; (first | rw [← Ny241.out] at ho86 | (simp only [Int.reduceToNat] at ho86; rw [← Ny241.out] at ho86)); have n0_ := Am (Kd.R_elder' (by (with_reducible repeat (first | apply Ra | apply Rn | apply Rd)); exact HO240.out) (Kd.R_base ho86) hb); have n1_ := Am (Kd.R_lower (Kd.R_new' ho86 (Kd.R_lt (by (with_reducible repeat (first | apply Ra | apply Rn | apply Rd)); exact HO240.out))) (Bz (by repeat (first | (with_reducible first | exact HB.out | apply Ba | apply Bn | apply Bd | refine Bs ?_ GE237.out) | exact HB.out)))); have n2_ := Am (Kb (g := gb237) (o := .cells #[.int .i64 0, .int .i64 0, .int .i64 0, .int .i64 0, .int .i64 0] 25 (0, 0)) (by (with_reducible repeat (first | refine Kn ?_ _ | refine Ke ?_ | refine Ka ?_ _)); exact BK237.out) hb); have n3_ := Am (Bt (by repeat (first | (with_reducible first | exact HB.out | apply Ba | apply Bn | apply Bd | refine Bs ?_ GE237.out) | exact HB.out)) hb); clear HO240; clear BK237; clear HB; have HO240 := n0_; have HO243 := n1_; have BK237 := n2_; have HB := n3_; clear n0_ n1_ n2_ n3_; clear hb ho86; obtain ⟨Ao87, co87, eo87⟩ := Rs HO240.out; subst eo87; have p244 : 0 ≤ (0 : Int) := (by omega); have q244 : 0 < (t238.length : Int) := Oq (by assumption); obtain ⟨ad244, e244, hx244_0⟩ := Kd.at_string (Rr HO240.out).2.2 0 p244 q244; cases e244; have qi244 : (0 < t238.length) = True := eq_true (by omega); (try rw [show ((0 : Int)).toNat = 0 from rfl] at hx244_0); (try rw [Addr.add_zero'] at hx244_0); replace p244 := eq_true p244; replace q244 := eq_true q244; obtain ⟨Ao88, co88, eo88⟩ := Rs HO243.out; subst eo88) | ((refine Gc (f := 42) rfl ?_); refine goesL_ (some 16) rfl rfl Tryd.func42 (by kernel_rfl) rfl #[.slice Ao88 y241.length co88, .string (rdOf ByteArray.empty t238 0)] rfl (by first | rfl | simp only [Lm, Lc, Ln] <;> rfl) ?_; (with_reducible refine (slices_Index_string_string.calls k _ _ y241 (rdOf ByteArray.empty t238 0) t245 _ ?side1 ?side2 A4.out).mono ?_); (case side1 => repeat (first | exact (Rr HO243.out).2.2 | (with_reducible refine Kd.C_alloc ?_ _) | (with_reducible refine Kd.C_drewN ?_ _) | (with_reducible refine Kd.C_drew ?_))); (case side2 => exact (Rr HO243.out).2.1); rintro e w' ⟨rfl, ⟨nd, rfl⟩⟩; refine ⟨_, rfl, ?_⟩; (try (rw [drewN_self w85]; generalize hq_ : World.drewN w85 _ = w85; have n0_ : Ad (Kd.R Kd.string 9 w85 w.heap.size (fun k_ => some k_ ≠ (.slice Ao88 y241.length co88 : Value).ownBlock) (.slice (some ad244) t238.length co87) t238) := ⟨by rw [← hq_]; exact (by (with_reducible repeat (first | apply Ra | apply Rn | apply Rd)); exact Rm HO240.out (fun _ hk => hk.2))⟩; have n1_ : Ad (Kd.R Kd.string 9 w85 w.heap.size (fun k_ => some k_ ≠ (.slice (some ad244) t238.length co87 : Value).ownBlock) (.slice Ao88 y241.length co88) y241) := ⟨by rw [← hq_]; exact (by (with_reducible repeat (first | apply Ra | apply Rn | apply Rd)); exact Rm HO243.out (fun _ hk => hk.2))⟩; have n2_ : Ad (w85.heap[gb237]? = some (.cells #[.int .i64 0, .int .i64 0, .int .i64 0, .int .i64 0, .int .i64 0] 25 (0, 0))) := ⟨by rw [← hq_]; exact (by (with_reducible repeat (first | refine Kn ?_ _ | refine Ke ?_ | refine Ka ?_ _)); exact BK237.out)⟩; have n3_ : Ad (Below w.heap.size w w85) := ⟨by rw [← hq_]; exact (by repeat (first | (with_reducible first | exact HB.out | apply Ba | apply Bn | apply Bd | refine Bs ?_ GE237.out) | exact HB.out))⟩; clear HO240 HO243 BK237 HB hq_; have HO240 := n0_; have HO243 := n1_; have BK237 := n2_; have HB := n3_; clear n0_ n1_ n2_ n3_))) | ((refine Gd (N := 22) rfl ?_); refine Kd.R_lit (Kd.int .i64) _ 3 ?hg (N := 22) ?hd (xs := ([1, 5, 3] : List Int)) (inner := [.int .i64 1, .int .i64 5, .int .i64 3]) (ok := fun _ => True) (okp := fun _ => True) ?hr ?hp (fun _ hk => hk) trivial (Below.refl _ _) (Nat.le_refl _) (by simp) ?_; (case hd | hg => rfl); (case hr => go_simp <;> rfl); (case hp => exact (Reps.one (show Kd.M (Kd.int .i64) _ _ _ 1 [.int .i64 1] from rfl) (Reps.one (show Kd.M (Kd.int .i64) _ _ _ 5 [.int .i64 5] from rfl) (Reps.one (show Kd.M (Kd.int .i64) _ _ _ 3 [.int .i64 3] from rfl) (Reps.none _ _))))); intro v247 w89 ho90 hb hg_ hnew_; clear hg_ hnew_; (first | rw [← Ny246.out] at ho90 | (simp only [Int.reduceToNat] at ho90; rw [← Ny246.out] at ho90)); have n0_ := Am (Rb (by (with_reducible repeat (first | apply Ra | apply Rn | apply Rd)); exact HO240.out) hb); have n1_ := Am (Rb (by (with_reducible repeat (first | apply Ra | apply Rn | apply Rd)); exact HO243.out) hb); have n2_ := Am (Kd.R_lower ho90 (Bz (by repeat (first | (with_reducible first | exact HB.out | apply Ba | apply Bn | apply Bd | refine Bs ?_ GE237.out) | exact HB.out)))); have n3_ := Am (Kb (g := gb237) (o := .cells #[.int .i64 0, .int .i64 0, .int .i64 0, .int .i64 0, .int .i64 0] 25 (0, 0)) (by (with_reducible repeat (first | refine Kn ?_ _ | refine Ke ?_ | refine Ka ?_ _)); exact BK237.out) hb); have n4_ := Am (Bt (by repeat (first | (with_reducible first | exact HB.out | apply Ba | apply Bn | apply Bd | refine Bs ?_ GE237.out) | exact HB.out)) hb); clear HO240; clear HO243; clear BK237; clear HB; have HO240 := n0_; have HO243 := n1_; have HO248 := n2_; have BK237 := n3_; have HB := n4_; clear n0_ n1_ n2_ n3_ n4_; clear hb ho90; obtain ⟨Ao91, co91, eo91⟩ := Rs HO248.out; subst eo91; have p249 : 0 ≤ (t245 : Int) := Oq (by assumption); have q249 : t245 < (y246.length : Int) := Oq (by assumption); obtain ⟨ad249, e249, hx249_0⟩ := Kd.at_int (Rr HO248.out).2.2 t245 p249 q249; cases e249; replace p249 := eq_true p249; replace q249 := eq_true q249; have q92 : (1 : Int) ≤ ((t238.length : Int) : Int) := Oq (by assumption); obtain ⟨i092, hi092, _, hsz92, _⟩ := info_parts info9; have hroom92 : t238.length ≤ co87 := (Rr HO240.out).2.1; have hC92 : Kd.C Kd.string _ (some ad244) t238.length t238 := (Rr HO240.out).2.2; have hcut92 := cut_from (P := Tryd.prog) 62 9 .i64 Tryd.underlying62 hi092 1 hsz92 (some ad244) t238.length co87 1 (by omega) q92; have hr92 := Kd.C_drop (m := (1 : Int).toNat) (c := co87) hC92 (by omega) hroom92; obtain ⟨A92, hA92⟩ : ∃ A1, A1 = (if co87 = (1 : Int).toNat then (some ad244) else ((some ad244) : Option Addr).map (·.add ((1 : Int).toNat * 1))) := ⟨_, rfl⟩; obtain ⟨c92, hc92⟩ : ∃ c1, c1 = co87 - (1 : Int).toNat := ⟨_, rfl⟩; have hy92 : y250.length = t238.length - (1 : Int).toNat := (by rw [Ny250.out, List.length_drop] <;> omega); rw [show (t238).drop (1 : Int).toNat = y250 from Ny250.out.symm] at hr92; replace hr92 : Kd.C Kd.string _ A92 y250.length y250 := (by rw [hA92]; exact hr92); rw [← hy92, ← hA92, ← hc92] at hcut92; have HR253 := Am hr92; have HC253 := Am (show y250.length ≤ c92 from by rw [hy92, hc92]; exact Nat.sub_le_sub_right hroom92 _); clear hr92 hC92 hroom92 hi092 hsz92 hc92; have KY92 := Am hy92; have KA92 := Am hA92; clear hy92 hA92; have KL92 := Am (show 1 ≤ t238.length from by omega); replace q92 := eq_true q92) | ((refine Gc (f := 43) rfl ?_); refine goesL_ (some 31) rfl rfl Tryd.func43 (by kernel_rfl) rfl #[.slice A92 y250.length c92, .int .i64 4] rfl (by first | rfl | simp only [Lm, Lc, Ln] <;> rfl) ?_; (with_reducible refine (impl_numbers.calls k _ _ y250 4 t254 false _ ?side1 ?side2 A17.out).mono ?_); (case side1 => repeat (first | exact (by repeat (first | (with_reducible exact HR253.out) | (with_reducible refine Kd.C_alloc ?_ _) | (with_reducible refine Kd.C_drewN ?_ _) | (with_reducible refine Kd.C_drew ?_) | exact HR253.out)) | (with_reducible refine Kd.C_alloc ?_ _) | (with_reducible refine Kd.C_drewN ?_ _) | (with_reducible refine Kd.C_drew ?_))); (case side2 => exact HC253.out); rintro e w93 ⟨v256, rfl, ho0, hb⟩; refine ⟨_, rfl, ?_⟩; have n0_ := Am (Rb (by (with_reducible repeat (first | apply Ra | apply Rn | apply Rd)); exact HO240.out) hb); have n1_ := Am (Rb (by (with_reducible repeat (first | apply Ra | apply Rn | apply Rd)); exact HO243.out) hb); have n2_ := Am (Kd.R_elder' (by (with_reducible repeat (first | apply Ra | apply Rn | apply Rd)); exact HO248.out) (Kd.R_base ho0) hb); have n3_ := Am (Kd.R_lower (Kd.R_new' ho0 (Kd.R_lt (by (with_reducible repeat (first | apply Ra | apply Rn | apply Rd)); exact HO248.out))) (Bz (by repeat (first | (with_reducible first | exact HB.out | apply Ba | apply Bn | apply Bd | refine Bs ?_ GE237.out) | exact HB.out)))); have n4_ := Am (Kb (g := gb237) (o := .cells #[.int .i64 0, .int .i64 0, .int .i64 0, .int .i64 0, .int .i64 0] 25 (0, 0)) (by (with_reducible repeat (first | refine Kn ?_ _ | refine Ke ?_ | refine Ka ?_ _)); exact BK237.out) hb); have n5_ := Am (Kd.C_below (by repeat (first | (with_reducible exact HR253.out) | (with_reducible refine Kd.C_alloc ?_ _) | (with_reducible refine Kd.C_drewN ?_ _) | (with_reducible refine Kd.C_drew ?_) | exact HR253.out)) hb); have n6_ := Am (Bt (by repeat (first | (with_reducible first | exact HB.out | apply Ba | apply Bn | apply Bd | refine Bs ?_ GE237.out) | exact HB.out)) hb); clear HO240; clear HO243; clear HO248; clear BK237; clear HR253; clear HB; have HO240 := n0_; have HO243 := n1_; have HO248 := n2_; have HO257 := n3_; have BK237 := n4_; have HR253 := n5_; have HB := n6_; clear n0_ n1_ n2_ n3_ n4_ n5_ n6_; (try clear hb); (try clear hb2); (try clear hk); (try clear hi); (try clear ho0); have hcz94_0 : w93.cell? ⟨gb237, 0, none⟩ = some (.int .i64 0) := (Kc BK237.out 0).trans rfl; have hcz94_1 : w93.cell? ⟨gb237, 1, none⟩ = some (.int .i64 0) := (Kc BK237.out 1).trans rfl; have hcz94_2 : w93.cell? ⟨gb237, 2, none⟩ = some (.int .i64 0) := (Kc BK237.out 2).trans rfl; have hcz94_3 : w93.cell? ⟨gb237, 3, none⟩ = some (.int .i64 0) := (Kc BK237.out 3).trans rfl; have hcz94_4 : w93.cell? ⟨gb237, 4, none⟩ = some (.int .i64 0) := (Kc BK237.out 4).trans rfl; have hfz94_0 := Kz BK237.out 0; have hfz94_1 := Kz BK237.out 1; have hfz94_2 := Kz BK237.out 2; have hfz94_3 := Kz BK237.out 3; have hfz94_4 := Kz BK237.out 4))
        refine bodyPost_ret (results_ctt rfl _ _ gb237 25 #[.int .i64 0, .int .i64 0, .int .i64 0, .int .i64 0, .int .i64 0] (0, 0) _ rfl (by (with_reducible repeat (first | refine Kn ?_ _ | refine Ke ?_ | refine Ka ?_ _)); refine blk_put (cs := #[.int .i64 0, .int .i64 0, .int .i64 0, .int .i64 0, .int .i64 0]) ?_ 4 _ rfl; (with_reducible repeat (first | refine Kn ?_ _ | refine Ke ?_ | refine Ka ?_ _)); refine blk_put (cs := #[.int .i64 0, .int .i64 0, .int .i64 0, .int .i64 0, .int .i64 0]) ?_ 3 _ rfl; (with_reducible repeat (first | refine Kn ?_ _ | refine Ke ?_ | refine Ka ?_ _)); refine blk_put (cs := #[.int .i64 0, .int .i64 0, .int .i64 0, .int .i64 0, .int .i64 0]) ?_ 2 _ rfl; (with_reducible repeat (first | refine Kn ?_ _ | refine Ke ?_ | refine Ka ?_ _)); refine blk_put (cs := #[.int .i64 0, .int .i64 0, .int .i64 0, .int .i64 0, .int .i64 0]) ?_ 1 _ rfl; (with_reducible repeat (first | refine Kn ?_ _ | refine Ke ?_ | refine Ka ?_ _)); refine blk_put (cs := #[.int .i64 0, .int .i64 0, .int .i64 0, .int .i64 0, .int .i64 0]) ?_ 0 _ rfl; (with_reducible repeat (first | refine Kn ?_ _ | refine Ke ?_ | refine Ka ?_ _)); exact BK237.out) Tryd.underlying25 rfl (by kernel_rfl)) rfl ?_
        exact ⟨by first | rfl | (simp [*, errW_none, errW_some] <;> rfl), by repeat (first | (with_reducible first | exact HB.out | apply Ba | apply Bn | apply Bd | refine Bs ?_ GE237.out) | exact HB.out)⟩
      ·rw [if_neg c16] at H
       exact absurd H (by simp)
     ·rw [if_neg c15] at H
      have c15b0 : ((t238.length : Int) == (rd y246 t245)) = false := beq_eq_false_iff_ne.mpr c15
      have c15b1 : ((t238.length : Int) != (rd y246 t245)) = true := bne_iff_ne.mpr c15
      simp only [Option.some.injEq, Prod.mk.injEq] at H
      obtain ⟨rfl, rfl, rfl, rfl, rfl, rfl, rfl⟩ := H
      go_enter Tryd.func14, Tryd.ntmps14
      go_wp2_with (first | ((refine Gd (N := 2) rfl ?_); refine Be ?hg (N := 2) ?hd (cs := #[.int .i64 0, .int .i64 0, .int .i64 0, .int .i64 0, .int .i64 0]) (t := 25) ?hr ?_; (case hd | hg => rfl); (case hr => go_simp <;> rfl); intro gb237 hg w95 hbox hb; have n0_ := Am (Bt (by repeat (first | exact HB.out | apply Ba | apply Bn | apply Bd)) hb); have n1_ := Am (hbox); have n2_ := Am ((by rw [hg]; exact (Bz (by repeat (first | exact HB.out | apply Ba | apply Bn | apply Bd))) : w.heap.size ≤ gb237)); have n3_ := Am ((by rw [hg]; exact (Bz (by repeat (first | exact HB.out | apply Ba | apply Bn | apply Bd))) : w.heap.size ≤ gb237)); clear HB; have HB := n0_; have BK237 := n1_; have GW237 := n2_; have GE237 := n3_; clear n0_ n1_ n2_ n3_; clear hb hbox hg) | ((refine Gc (f := 41) rfl ?_); refine goesL_ (some 11) rfl rfl Tryd.func41 (by kernel_rfl) rfl #[.string a0, .string (⟨#[32]⟩ : ByteArray)] rfl (by first | rfl | simp only [Lm, Lc, Ln] <;> rfl) ?_; (with_reducible refine (strings_Split.calls a0 (⟨#[32]⟩ : ByteArray) t238 _ A2.out (EnvM.below HMw.out (by repeat (first | (with_reducible first | exact HB.out | apply Ba | apply Bn | apply Bd | refine Bs ?_ GE237.out) | exact HB.out)))).mono ?_); rintro e w96 ⟨v239, rfl, ho0, hb⟩; refine ⟨_, rfl, ?_⟩; have n0_ := Am (Kd.R_lower ho0 (Bz (by repeat (first | (with_reducible first | exact HB.out | apply Ba | apply Bn | apply Bd | refine Bs ?_ GE237.out) | exact HB.out)))); have n1_ := Am (Kb (g := gb237) (o := .cells #[.int .i64 0, .int .i64 0, .int .i64 0, .int .i64 0, .int .i64 0] 25 (0, 0)) (by (with_reducible repeat (first | refine Kn ?_ _ | refine Ke ?_ | refine Ka ?_ _)); exact BK237.out) hb); have n2_ := Am (Bt (by repeat (first | (with_reducible first | exact HB.out | apply Ba | apply Bn | apply Bd | refine Bs ?_ GE237.out) | exact HB.out)) hb); clear BK237; clear HB; have HO240 := n0_; have BK237 := n1_; have HB := n2_; clear n0_ n1_ n2_; (try clear hb); (try clear hb2); (try clear hk); (try clear hi); (try clear ho0)) | ((refine Gd (N := 12) rfl ?_); refine Kd.R_lit Kd.string _ 9 ?hg (N := 12) ?hd (xs := ([(⟨#[45]⟩ : ByteArray), (⟨#[109, 111, 118, 101]⟩ : ByteArray), (⟨#[114, 101, 97, 100]⟩ : ByteArray)] : List ByteArray)) (inner := [.string (⟨#[45]⟩ : ByteArray), .string (⟨#[109, 111, 118, 101]⟩ : ByteArray), .string (⟨#[114, 101, 97, 100]⟩ : ByteArray)]) (ok := fun _ => True) (okp := fun _ => True) ?hr ?hp (fun _ hk => hk) trivial (Below.refl _ _) (Nat.le_refl _) (by simp) ?_; (case hd | hg => rfl); (case hr => go_simp <;> rfl); (case hp => exact (Reps.one (show Kd.M Kd.string _ _ _ (⟨#[45]⟩ : ByteArray) [.string (⟨#[45]⟩ : ByteArray)] from rfl) (Reps.one (show Kd.M Kd.string _ _ _ (⟨#[109, 111, 118, 101]⟩ : ByteArray) [.string (⟨#[109, 111, 118, 101]⟩ : ByteArray)] from rfl) (Reps.one (show Kd.M Kd.string _ _ _ (⟨#[114, 101, 97, 100]⟩ : ByteArray) [.string (⟨#[114, 101, 97, 100]⟩ : ByteArray)] from rfl) (Reps.none _ _))))); intro v242 w97 ho98 hb hg_ hnew_; clear hg_ hnew_; (first | rw [← Ny241.out] at ho98 | (simp only [Int.reduceToNat] at ho98; rw [← Ny241.out] at ho98)); have n0_ := Am (Kd.R_elder' (by (with_reducible repeat (first | apply Ra | apply Rn | apply Rd)); exact HO240.out) (Kd.R_base ho98) hb); have n1_ := Am (Kd.R_lower (Kd.R_new' ho98 (Kd.R_lt (by (with_reducible repeat (first | apply Ra | apply Rn | apply Rd)); exact HO240.out))) (Bz (by repeat (first | (with_reducible first | exact HB.out | apply Ba | apply Bn | apply Bd | refine Bs ?_ GE237.out) | exact HB.out)))); have n2_ := Am (Kb (g := gb237) (o := .cells #[.int .i64 0, .int .i64 0, .int .i64 0, .int .i64 0, .int .i64 0] 25 (0, 0)) (by (with_reducible repeat (first | refine Kn ?_ _ | refine Ke ?_ | refine Ka ?_ _)); exact BK237.out) hb); have n3_ := Am (Bt (by repeat (first | (with_reducible first | exact HB.out | apply Ba | apply Bn | apply Bd | refine Bs ?_ GE237.out) | exact HB.out)) hb); clear HO240; clear BK237; clear HB; have HO240 := n0_; have HO243 := n1_; have BK237 := n2_; have HB := n3_; clear n0_ n1_ n2_ n3_; clear hb ho98; obtain ⟨Ao99, co99, eo99⟩ := Rs HO240.out; subst eo99; have p244 : 0 ≤ (0 : Int) := (by omega); have q244 : 0 < (t238.length : Int) := Oq (by assumption); obtain ⟨ad244, e244, hx244_0⟩ := Kd.at_string (Rr HO240.out).2.2 0 p244 q244; cases e244; have qi244 : (0 < t238.length) = True := eq_true (by omega); (try rw [show ((0 : Int)).toNat = 0 from rfl] at hx244_0); (try rw [Addr.add_zero'] at hx244_0); replace p244 := eq_true p244; replace q244 := eq_true q244; obtain ⟨Ao100, co100, eo100⟩ := Rs HO243.out; subst eo100) | ((refine Gc (f := 42) rfl ?_); refine goesL_ (some 16) rfl rfl Tryd.func42 (by kernel_rfl) rfl #[.slice Ao100 y241.length co100, .string (rdOf ByteArray.empty t238 0)] rfl (by first | rfl | simp only [Lm, Lc, Ln] <;> rfl) ?_; (with_reducible refine (slices_Index_string_string.calls k _ _ y241 (rdOf ByteArray.empty t238 0) t245 _ ?side1 ?side2 A4.out).mono ?_); (case side1 => repeat (first | exact (Rr HO243.out).2.2 | (with_reducible refine Kd.C_alloc ?_ _) | (with_reducible refine Kd.C_drewN ?_ _) | (with_reducible refine Kd.C_drew ?_))); (case side2 => exact (Rr HO243.out).2.1); rintro e w' ⟨rfl, ⟨nd, rfl⟩⟩; refine ⟨_, rfl, ?_⟩; (try (rw [drewN_self w97]; generalize hq_ : World.drewN w97 _ = w97; have n0_ : Ad (Kd.R Kd.string 9 w97 w.heap.size (fun k_ => some k_ ≠ (.slice Ao100 y241.length co100 : Value).ownBlock) (.slice (some ad244) t238.length co99) t238) := ⟨by rw [← hq_]; exact (by (with_reducible repeat (first | apply Ra | apply Rn | apply Rd)); exact Rm HO240.out (fun _ hk => hk.2))⟩; have n1_ : Ad (Kd.R Kd.string 9 w97 w.heap.size (fun k_ => some k_ ≠ (.slice (some ad244) t238.length co99 : Value).ownBlock) (.slice Ao100 y241.length co100) y241) := ⟨by rw [← hq_]; exact (by (with_reducible repeat (first | apply Ra | apply Rn | apply Rd)); exact Rm HO243.out (fun _ hk => hk.2))⟩; have n2_ : Ad (w97.heap[gb237]? = some (.cells #[.int .i64 0, .int .i64 0, .int .i64 0, .int .i64 0, .int .i64 0] 25 (0, 0))) := ⟨by rw [← hq_]; exact (by (with_reducible repeat (first | refine Kn ?_ _ | refine Ke ?_ | refine Ka ?_ _)); exact BK237.out)⟩; have n3_ : Ad (Below w.heap.size w w97) := ⟨by rw [← hq_]; exact (by repeat (first | (with_reducible first | exact HB.out | apply Ba | apply Bn | apply Bd | refine Bs ?_ GE237.out) | exact HB.out))⟩; clear HO240 HO243 BK237 HB hq_; have HO240 := n0_; have HO243 := n1_; have BK237 := n2_; have HB := n3_; clear n0_ n1_ n2_ n3_))) | ((refine Gd (N := 22) rfl ?_); refine Kd.R_lit (Kd.int .i64) _ 3 ?hg (N := 22) ?hd (xs := ([1, 5, 3] : List Int)) (inner := [.int .i64 1, .int .i64 5, .int .i64 3]) (ok := fun _ => True) (okp := fun _ => True) ?hr ?hp (fun _ hk => hk) trivial (Below.refl _ _) (Nat.le_refl _) (by simp) ?_; (case hd | hg => rfl); (case hr => go_simp <;> rfl); (case hp => exact (Reps.one (show Kd.M (Kd.int .i64) _ _ _ 1 [.int .i64 1] from rfl) (Reps.one (show Kd.M (Kd.int .i64) _ _ _ 5 [.int .i64 5] from rfl) (Reps.one (show Kd.M (Kd.int .i64) _ _ _ 3 [.int .i64 3] from rfl) (Reps.none _ _))))); intro v247 w101 ho102 hb hg_ hnew_; clear hg_ hnew_; (first | rw [← Ny246.out] at ho102 | (simp only [Int.reduceToNat] at ho102; rw [← Ny246.out] at ho102)); have n0_ := Am (Rb (by (with_reducible repeat (first | apply Ra | apply Rn | apply Rd)); exact HO240.out) hb); have n1_ := Am (Rb (by (with_reducible repeat (first | apply Ra | apply Rn | apply Rd)); exact HO243.out) hb); have n2_ := Am (Kd.R_lower ho102 (Bz (by repeat (first | (with_reducible first | exact HB.out | apply Ba | apply Bn | apply Bd | refine Bs ?_ GE237.out) | exact HB.out)))); have n3_ := Am (Kb (g := gb237) (o := .cells #[.int .i64 0, .int .i64 0, .int .i64 0, .int .i64 0, .int .i64 0] 25 (0, 0)) (by (with_reducible repeat (first | refine Kn ?_ _ | refine Ke ?_ | refine Ka ?_ _)); exact BK237.out) hb); have n4_ := Am (Bt (by repeat (first | (with_reducible first | exact HB.out | apply Ba | apply Bn | apply Bd | refine Bs ?_ GE237.out) | exact HB.out)) hb); clear HO240; clear HO243; clear BK237; clear HB; have HO240 := n0_; have HO243 := n1_; have HO248 := n2_; have BK237 := n3_; have HB := n4_; clear n0_ n1_ n2_ n3_ n4_; clear hb ho102; obtain ⟨Ao103, co103, eo103⟩ := Rs HO248.out; subst eo103; have p249 : 0 ≤ (t245 : Int) := Oq (by assumption); have q249 : t245 < (y246.length : Int) := Oq (by assumption); obtain ⟨ad249, e249, hx249_0⟩ := Kd.at_int (Rr HO248.out).2.2 t245 p249 q249; cases e249; replace p249 := eq_true p249; replace q249 := eq_true q249; have hcz104_0 : w101.cell? ⟨gb237, 0, none⟩ = some (.int .i64 0) := (Kc BK237.out 0).trans rfl; have hcz104_1 : w101.cell? ⟨gb237, 1, none⟩ = some (.int .i64 0) := (Kc BK237.out 1).trans rfl; have hcz104_2 : w101.cell? ⟨gb237, 2, none⟩ = some (.int .i64 0) := (Kc BK237.out 2).trans rfl; have hcz104_3 : w101.cell? ⟨gb237, 3, none⟩ = some (.int .i64 0) := (Kc BK237.out 3).trans rfl; have hcz104_4 : w101.cell? ⟨gb237, 4, none⟩ = some (.int .i64 0) := (Kc BK237.out 4).trans rfl; have hfz104_0 := Kz BK237.out 0; have hfz104_1 := Kz BK237.out 1; have hfz104_2 := Kz BK237.out 2; have hfz104_3 := Kz BK237.out 3; have hfz104_4 := Kz BK237.out 4))
      refine bodyPost_ret (results_ctt rfl _ _ gb237 25 #[.int .i64 0, .int .i64 0, .int .i64 0, .int .i64 0, .int .i64 0] (0, 0) _ rfl (by (with_reducible repeat (first | refine Kn ?_ _ | refine Ke ?_ | refine Ka ?_ _)); refine blk_put (cs := #[.int .i64 0, .int .i64 0, .int .i64 0, .int .i64 0, .int .i64 0]) ?_ 4 _ rfl; (with_reducible repeat (first | refine Kn ?_ _ | refine Ke ?_ | refine Ka ?_ _)); refine blk_put (cs := #[.int .i64 0, .int .i64 0, .int .i64 0, .int .i64 0, .int .i64 0]) ?_ 3 _ rfl; (with_reducible repeat (first | refine Kn ?_ _ | refine Ke ?_ | refine Ka ?_ _)); refine blk_put (cs := #[.int .i64 0, .int .i64 0, .int .i64 0, .int .i64 0, .int .i64 0]) ?_ 2 _ rfl; (with_reducible repeat (first | refine Kn ?_ _ | refine Ke ?_ | refine Ka ?_ _)); refine blk_put (cs := #[.int .i64 0, .int .i64 0, .int .i64 0, .int .i64 0, .int .i64 0]) ?_ 1 _ rfl; (with_reducible repeat (first | refine Kn ?_ _ | refine Ke ?_ | refine Ka ?_ _)); refine blk_put (cs := #[.int .i64 0, .int .i64 0, .int .i64 0, .int .i64 0, .int .i64 0]) ?_ 0 _ rfl; (with_reducible repeat (first | refine Kn ?_ _ | refine Ke ?_ | refine Ka ?_ _)); exact BK237.out) Tryd.underlying25 rfl (by kernel_rfl)) rfl ?_
      exact ⟨by first | rfl | (simp [*, errW_none, errW_some] <;> rfl), by repeat (first | (with_reducible first | exact HB.out | apply Ba | apply Bn | apply Bd | refine Bs ?_ GE237.out) | exact HB.out)⟩
    ·rw [if_neg c14] at H
     exact absurd H (by simp)
   ·rw [if_neg c13] at H
    exact absurd H (by simp)
 ·rw [if_neg c3] at H
  exact absurd H (by simp)
end Go.Proofs.YtmknjfnhfcljcaaDoor.QFnCmds
