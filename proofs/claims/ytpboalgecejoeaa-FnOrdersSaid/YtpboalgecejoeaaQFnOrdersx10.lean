-- Written by a program of this session (wip/mk.py) over the kit's print: Lean checks it.
import Derived.Test.YtpboalgecejoeaaQFnOrdersx0
import Derived.Test.YtpboalgecejoeaaQFnOrdersx5
import Derived.Test.YtpboalgecejoeaaQFnOrdersx6
import Derived.Test.YtpboalgecejoeaaQFnOrdersx8
import Derived.Test.YtpboalgecejoeaaQFnOrdersx9
namespace Go.Proofs.Ytpboalgecejoeaa.QFnOrders
open Go.Proofs.YtpboalgecejoeaaW.PrintWords.Kd renaming R_alloc → Ra, R_drewN → Rn, R_drew → Rd
open Go.Proofs.YtpboalgecejoeaaW.PrintWords renaming below_alloc → Ba, pw_below_drewN → Bn, below_drew1 → Bd, below_set → Bs, below_size → Bz, below_step → Bt, gate_dst → Gd, gate_callee → Gc, gate_store → Gs, box_event → Be, blk_alloc → Ka, blk_drewN → Kn, blk_drew → Ke, blk_below → Kb, blk_cell → Kc, blk_frozen → Kz
open List renaming setIfInBounds_toArray → Lt, set_cons_zero → Lz, set_cons_succ → Ls
open Go.World renaming block_lt_of_cell? → bl_
open Go.Proofs.YtpboalgecejoeaaW.PrintWords.Aside0 renaming mk → Am
open Go.Proofs.YtpboalgecejoeaaW.PrintWords renaming Aside0 → Ad
open Go.RowKit Go.Proofs.YtpboalgecejoeaaW.PrintWords Go.Proofs.YtpboalgecejoeaaW.PrintLast Go.Proofs.YtpboalgecejoeaaW.PrintMore
attribute [local go_sem] max2_int min2_int max_two min_two max_three min_three max_four min_four   -- for this text's walks alone
set_option linter.unusedVariables false
set_option linter.unusedSimpArgs false
def impl_IsOrder_tail.in3 (at_ : List Int) (h : Int) : List Int → Nat → Bool
 | [], _ => true
 | p :: ps, i => decide (rd at_ p = wrap64 (h + (i : Int))) && impl_IsOrder_tail.in3 at_ h ps (i + 1)
def impl_IsOrder_tail.ck (key at_ c : List Int) : Bool := impl_IsOrder_tail.in3 at_ (rd at_ (rd (impl_order.srt key c) 0)) (impl_order.srt key c) 0
def impl_IsOrder_tail.f (k : Nat) (g : List (List Int)) (key at_ : List Int) : Option Bool := (impl_components.f k g).bind fun cs => if impl_order.ok cs key = true ∧ key.length = at_.length then some (cs.all (impl_IsOrder_tail.ck key at_)) else none
theorem impl_IsOrder_tail.mono : ∀ g key at_ k, LeO (impl_IsOrder_tail.f k g key at_) (impl_IsOrder_tail.f (k + 1) g key at_) := by
 intro g key at_ k
 unfold impl_IsOrder_tail.f
 exact LeO.bind (impl_components.mono _ _) (fun _ => LeO.refl _)
theorem impl_IsOrder_tail.cmp (l1 : List Int) (HV : ∀ v ∈ l1, 0 ≤ v ∧ v ≤ 999999) (x y : Int) (hx0 : 0 ≤ x) (hx1 : x < (l1.length : Int)) (hy0 : 0 ≤ y) (hy1 : y < (l1.length : Int)) : impl_IsOrder_1.f x y l1 = some (rd l1 x - rd l1 y) := by
 unfold impl_IsOrder_1.f
 have h1 := HV _ (Mine.getD_mem l1 0 x.toNat (by omega))
 have h2 := HV _ (Mine.getD_mem l1 0 y.toNat (by omega))
 rw [if_pos hx0, if_pos hx1, if_pos hy0, if_pos hy1]
 unfold rd
 generalize l1.getD x.toNat 0 = u at h1
 generalize l1.getD y.toNat 0 = v at h2
 have : wrap64 (u - v) = u - v := by unfold wrap64; omega
 rw [this]
theorem impl_IsOrder_tail.addz (g j : Nat) : Addr.add ⟨g, 0, none⟩ j = ⟨g, j, none⟩ := by
 unfold Addr.add
 split
 ·rename_i h; rw [h]
 ·simp
theorem impl_IsOrder_tail.rowsN {w : World} {base e : Nat} {ps : List (Hd × List Int)} (h : Kd.Rows (Kd.int .i64) e w base ps) (m : Nat) : Kd.Rows (Kd.int .i64) e (w.drewN m) base ps := ⟨fun p hp => Rn (h.row p hp) m, h.ne⟩
mutual
def impl_IsOrder.j0 : Nat → List (List Int) → List Int → Bool → List Int → Option (Bool × Bool)
 | 0, _, _, _, _ => none
 | k + 1, x0, x2, x40, x150000 => if x40 = true then (some (false, false)) else (if 0 ≤ (x0.length : Int) then (if ((x0.length : Int) : Int).toNat ≤ 35184372088832 then (impl_IsOrder.l0 k x0 (List.replicate ((x0.length : Int) : Int).toNat 0) x2 (x2.length : Int) 0 x150000) else (none)) else (none))
def impl_IsOrder.l0 : Nat → List (List Int) → List Int → List Int → Int → Int → List Int → Option (Bool × Bool)
 | 0, _, _, _, _, _, _ => none
 | k + 1, x0, x9, x44, x45, x46, x150000 => if x46 < x45 then (if 0 ≤ x46 then (if x46 < (x44.length : Int) then (if 0 ≤ (rd x44 x46) then (if (rd x44 x46) < (x9.length : Int) then (impl_IsOrder.l0 k x0 (x9.set ((rd x44 x46) : Int).toNat x46) x44 x45 (wrap64 (x46 + 1)) x150000) else (none)) else (none)) else (none)) else (none)) else (impl_IsOrder.l1 k x0 x9 x0 (x0.length : Int) 0 x150000)
def impl_IsOrder.l1 : Nat → List (List Int) → List Int → List (List Int) → Int → Int → List Int → Option (Bool × Bool)
 | 0, _, _, _, _, _, _ => none
 | k + 1, x0, x9, x56, x57, x58, x150000 => if x58 < x57 then (if 0 ≤ x58 then (if x58 < (x56.length : Int) then (impl_IsOrder.l2 k x0 x9 x58 x56 x57 x58 (rd_L1 x56 x58) ((rd_L1 x56 x58).length : Int) 0 x150000) else (none)) else (none)) else ((impl_IsOrder_tail.f k x0 x150000 x9).bind fun t160 => (some (t160, true)))
def impl_IsOrder.l2 : Nat → List (List Int) → List Int → Int → List (List Int) → Int → Int → List Int → Int → Int → List Int → Option (Bool × Bool)
 | 0, _, _, _, _, _, _, _, _, _, _ => none
 | k + 1, x0, x9, x12, x56, x57, x58, x63, x64, x65, x150000 => if x65 < x64 then (if 0 ≤ x65 then (if x65 < (x63.length : Int) then ((impl_reached.f k x0 (rd x63 x65)).bind fun t163 => ((slices_Contains_int_int.f k t163 x12).bind fun t166 => (if t166 = true then (impl_IsOrder.l2 k x0 x9 x12 x56 x57 x58 x63 x64 (wrap64 (x65 + 1)) x150000) else (if 0 ≤ x12 then (if x12 < (x9.length : Int) then (if 0 ≤ (rd x63 x65) then (if (rd x63 x65) < (x9.length : Int) then (if (rd x9 x12) < (rd x9 (rd x63 x65)) then (some (false, true)) else (impl_IsOrder.l2 k x0 x9 x12 x56 x57 x58 x63 x64 (wrap64 (x65 + 1)) x150000)) else (none)) else (none)) else (none)) else (none))))) else (none)) else (none)) else (impl_IsOrder.l1 k x0 x9 x56 x57 (wrap64 (x58 + 1)) x150000)
end
def impl_IsOrder.f (k : Nat) (l0 : List (List Int)) (l1 : List Int) (l2 : List Int) : Option (Bool × Bool) := (slices_Sorted_int.f l2).bind fun t150 => ((impl_areKeys.f k l0 l1).bind fun t153 => (if t153 = true then (if (l2.length : Int) = (l0.length : Int) then ((impl_areMembers.f (l0.length : Int) t150).bind fun t154 => (impl_IsOrder.j0 k l0 l2 (!t154) l1)) else (impl_IsOrder.j0 k l0 l2 true l1)) else (impl_IsOrder.j0 k l0 l2 true l1)))
theorem impl_IsOrder.mono_l : ∀ k, (∀ y0 y1 y2 y3, LeO (impl_IsOrder.j0 k y0 y1 y2 y3) (impl_IsOrder.j0 (k + 1) y0 y1 y2 y3)) ∧ (∀ y0 y1 y2 y3 y4 y5, LeO (impl_IsOrder.l0 k y0 y1 y2 y3 y4 y5) (impl_IsOrder.l0 (k + 1) y0 y1 y2 y3 y4 y5)) ∧ (∀ y0 y1 y2 y3 y4 y5, LeO (impl_IsOrder.l1 k y0 y1 y2 y3 y4 y5) (impl_IsOrder.l1 (k + 1) y0 y1 y2 y3 y4 y5)) ∧ (∀ y0 y1 y2 y3 y4 y5 y6 y7 y8 y9, LeO (impl_IsOrder.l2 k y0 y1 y2 y3 y4 y5 y6 y7 y8 y9) (impl_IsOrder.l2 (k + 1) y0 y1 y2 y3 y4 y5 y6 y7 y8 y9))
 | 0 => ⟨fun _ _ _ _ r h => by simp [impl_IsOrder.j0] at h, fun _ _ _ _ _ _ r h => by simp [impl_IsOrder.l0] at h, fun _ _ _ _ _ _ r h => by simp [impl_IsOrder.l1] at h, fun _ _ _ _ _ _ _ _ _ _ r h => by simp [impl_IsOrder.l2] at h⟩
 | k + 1 => by
  obtain ⟨ih0, ih1, ih2, ih3⟩ := impl_IsOrder.mono_l k
  refine ⟨?_, ?_, ?_, ?_⟩
  ·intro y0 y1 y2 y3
   unfold impl_IsOrder.j0
   repeat' first
   | (with_reducible exact ih0 _ _ _ _)
   | (with_reducible exact ih1 _ _ _ _ _ _)
   | (with_reducible exact ih2 _ _ _ _ _ _)
   | (with_reducible exact ih3 _ _ _ _ _ _ _ _ _ _)
   | (with_reducible exact impl_IsOrder_tail.mono _ _ _ _)
   | (with_reducible exact impl_areKeys.mono _ _ _)
   | (with_reducible exact impl_reached.mono _ _ _)
   | (with_reducible exact slices_Contains_int_int.mono _ _ _)
   | (with_reducible exact LeO.refl _)
   | (with_reducible exact LeO.none _)
   | (with_reducible refine LeO.ite ?_ ?_)
   | (with_reducible refine LeO.bind ?_ (fun _ => ?_))
   | exact ih0 _ _ _ _
   | exact ih1 _ _ _ _ _ _
   | exact ih2 _ _ _ _ _ _
   | exact ih3 _ _ _ _ _ _ _ _ _ _
   | exact impl_IsOrder_tail.mono _ _ _ _
   | exact impl_areKeys.mono _ _ _
   | exact impl_reached.mono _ _ _
   | exact slices_Contains_int_int.mono _ _ _
   | exact LeO.none _
   | refine LeO.ite ?_ ?_
   | refine LeO.bind ?_ (fun _ => ?_)
  ·intro y0 y1 y2 y3 y4 y5
   unfold impl_IsOrder.l0
   repeat' first
   | (with_reducible exact ih0 _ _ _ _)
   | (with_reducible exact ih1 _ _ _ _ _ _)
   | (with_reducible exact ih2 _ _ _ _ _ _)
   | (with_reducible exact ih3 _ _ _ _ _ _ _ _ _ _)
   | (with_reducible exact impl_IsOrder_tail.mono _ _ _ _)
   | (with_reducible exact impl_areKeys.mono _ _ _)
   | (with_reducible exact impl_reached.mono _ _ _)
   | (with_reducible exact slices_Contains_int_int.mono _ _ _)
   | (with_reducible exact LeO.refl _)
   | (with_reducible exact LeO.none _)
   | (with_reducible refine LeO.ite ?_ ?_)
   | (with_reducible refine LeO.bind ?_ (fun _ => ?_))
   | exact ih0 _ _ _ _
   | exact ih1 _ _ _ _ _ _
   | exact ih2 _ _ _ _ _ _
   | exact ih3 _ _ _ _ _ _ _ _ _ _
   | exact impl_IsOrder_tail.mono _ _ _ _
   | exact impl_areKeys.mono _ _ _
   | exact impl_reached.mono _ _ _
   | exact slices_Contains_int_int.mono _ _ _
   | exact LeO.none _
   | refine LeO.ite ?_ ?_
   | refine LeO.bind ?_ (fun _ => ?_)
  ·intro y0 y1 y2 y3 y4 y5
   unfold impl_IsOrder.l1
   repeat' first
   | (with_reducible exact ih0 _ _ _ _)
   | (with_reducible exact ih1 _ _ _ _ _ _)
   | (with_reducible exact ih2 _ _ _ _ _ _)
   | (with_reducible exact ih3 _ _ _ _ _ _ _ _ _ _)
   | (with_reducible exact impl_IsOrder_tail.mono _ _ _ _)
   | (with_reducible exact impl_areKeys.mono _ _ _)
   | (with_reducible exact impl_reached.mono _ _ _)
   | (with_reducible exact slices_Contains_int_int.mono _ _ _)
   | (with_reducible exact LeO.refl _)
   | (with_reducible exact LeO.none _)
   | (with_reducible refine LeO.ite ?_ ?_)
   | (with_reducible refine LeO.bind ?_ (fun _ => ?_))
   | exact ih0 _ _ _ _
   | exact ih1 _ _ _ _ _ _
   | exact ih2 _ _ _ _ _ _
   | exact ih3 _ _ _ _ _ _ _ _ _ _
   | exact impl_IsOrder_tail.mono _ _ _ _
   | exact impl_areKeys.mono _ _ _
   | exact impl_reached.mono _ _ _
   | exact slices_Contains_int_int.mono _ _ _
   | exact LeO.none _
   | refine LeO.ite ?_ ?_
   | refine LeO.bind ?_ (fun _ => ?_)
  ·intro y0 y1 y2 y3 y4 y5 y6 y7 y8 y9
   unfold impl_IsOrder.l2
   repeat' first
   | (with_reducible exact ih0 _ _ _ _)
   | (with_reducible exact ih1 _ _ _ _ _ _)
   | (with_reducible exact ih2 _ _ _ _ _ _)
   | (with_reducible exact ih3 _ _ _ _ _ _ _ _ _ _)
   | (with_reducible exact impl_IsOrder_tail.mono _ _ _ _)
   | (with_reducible exact impl_areKeys.mono _ _ _)
   | (with_reducible exact impl_reached.mono _ _ _)
   | (with_reducible exact slices_Contains_int_int.mono _ _ _)
   | (with_reducible exact LeO.refl _)
   | (with_reducible exact LeO.none _)
   | (with_reducible refine LeO.ite ?_ ?_)
   | (with_reducible refine LeO.bind ?_ (fun _ => ?_))
   | exact ih0 _ _ _ _
   | exact ih1 _ _ _ _ _ _
   | exact ih2 _ _ _ _ _ _
   | exact ih3 _ _ _ _ _ _ _ _ _ _
   | exact impl_IsOrder_tail.mono _ _ _ _
   | exact impl_areKeys.mono _ _ _
   | exact impl_reached.mono _ _ _
   | exact slices_Contains_int_int.mono _ _ _
   | exact LeO.none _
   | refine LeO.ite ?_ ?_
   | refine LeO.bind ?_ (fun _ => ?_)
theorem impl_IsOrder.mono : ∀ a0 a1 a2 k, LeO (impl_IsOrder.f k a0 a1 a2) (impl_IsOrder.f (k + 1) a0 a1 a2) := by
 intro a0 a1 a2 k
 obtain ⟨ih0, ih1, ih2, ih3⟩ := impl_IsOrder.mono_l k
 unfold impl_IsOrder.f
 repeat' first
   | (with_reducible exact ih0 _ _ _ _)
   | (with_reducible exact ih1 _ _ _ _ _ _)
   | (with_reducible exact ih2 _ _ _ _ _ _)
   | (with_reducible exact ih3 _ _ _ _ _ _ _ _ _ _)
   | (with_reducible exact impl_IsOrder_tail.mono _ _ _ _)
   | (with_reducible exact impl_areKeys.mono _ _ _)
   | (with_reducible exact impl_reached.mono _ _ _)
   | (with_reducible exact slices_Contains_int_int.mono _ _ _)
   | (with_reducible exact LeO.refl _)
   | (with_reducible exact LeO.none _)
   | (with_reducible refine LeO.ite ?_ ?_)
   | (with_reducible refine LeO.bind ?_ (fun _ => ?_))
   | exact ih0 _ _ _ _
   | exact ih1 _ _ _ _ _ _
   | exact ih2 _ _ _ _ _ _
   | exact ih3 _ _ _ _ _ _ _ _ _ _
   | exact impl_IsOrder_tail.mono _ _ _ _
   | exact impl_areKeys.mono _ _ _
   | exact impl_reached.mono _ _ _
   | exact slices_Contains_int_int.mono _ _ _
   | exact LeO.none _
   | refine LeO.ite ?_ ?_
   | refine LeO.bind ?_ (fun _ => ?_)
def impl_IsOrder.T16 : Bool × List (List Nat × List Nat) := (true, [([], []), ([], []), ([0, 1], [0, 1]), ([], []), ([2, 3, 2], [2, 3]), ([4], [4]), ([5, 4], [5]), ([6], [6]), ([6], [6]), ([7, 8, 6], [6, 7, 8]), ([9, 6], [6, 9]), ([6], [6]), ([6], [6]), ([11, 12, 6], [6, 11, 12]), ([13, 6], [6, 13]), ([10, 14, 6], [6, 10, 14]), ([6, 15], [6, 15])])
def impl_IsOrder.B16 : List Nat := [0, 0, 3, 0, 15, 31, 63, 127, 127, 511, 1023, 127, 127, 6271, 14463, 32767, 65535]
theorem impl_IsOrder.tab16 : rtab .any (opsOf Try.f12 16) = impl_IsOrder.T16 := by kernel_rfl
theorem impl_IsOrder.bits16 : waitsOk impl_IsOrder.T16.2 impl_IsOrder.B16 = true := by kernel_rfl
set_option maxHeartbeats 8000000 in
set_option maxRecDepth 100000 in
theorem impl_IsOrder.calls (k : Nat) (A0 : Option Addr) (c0 : Nat) (l0 : List (List Int)) (A1 : Option Addr) (c1 : Nat) (l1 : List Int) (A2 : Option Addr) (c2 : Nat) (l2 : List Int) (r1 : Bool) (r2 : Bool) (w : World) (hr0 : Kd.C (Kd.slice 3 (Kd.int .i64)) w A0 l0.length l0) (hc0 : l0.length ≤ c0) (hr1 : Kd.C (Kd.int .i64) w A1 l1.length l1) (hc1 : l1.length ≤ c1) (hr2 : Kd.C (Kd.int .i64) w A2 l2.length l2) (hc2 : l2.length ≤ c2) (h : impl_IsOrder.f k l0 l1 l2 = some (r1, r2)) :
  Calls Try.prog 12 #[.slice A0 l0.length c0, .slice A1 l1.length c1, .slice A2 l2.length c2] w fun e w' => e = .returned (.tuple #[.bool r1, .bool r2]) ∧ Below w.heap.size w w' := by
 have HR0 := Am hr0
 have HC0 := Am hc0
 clear hr0 hc0
 have HR1 := Am hr1
 have HC1 := Am hc1
 clear hr1 hc1
 have HR2 := Am hr2
 have HC2 := Am hc2
 clear hr2 hc2
 have HB := Am (Below.refl w.heap.size w)
 have H : ((slices_Sorted_int.f l2).bind fun t150 => ((impl_areKeys.f k l0 l1).bind fun t153 => (if t153 = true then (if (l2.length : Int) = (l0.length : Int) then ((impl_areMembers.f (l0.length : Int) t150).bind fun t154 => (impl_IsOrder.j0 k l0 l2 (!t154) l1)) else (impl_IsOrder.j0 k l0 l2 true l1)) else (impl_IsOrder.j0 k l0 l2 true l1)))) = some (r1, r2) := h
 clear h
 replace H := Option.bind_eq_some_iff.mp H
 obtain ⟨t150, A40, H⟩ := H
 replace H : ((impl_areKeys.f k l0 l1).bind fun t153 => (if t153 = true then (if (l2.length : Int) = (l0.length : Int) then ((impl_areMembers.f (l0.length : Int) t150).bind fun t154 => (impl_IsOrder.j0 k l0 l2 (!t154) l1)) else (impl_IsOrder.j0 k l0 l2 true l1)) else (impl_IsOrder.j0 k l0 l2 true l1))) = some (r1, r2) := H
 have A4 := Am A40
 clear A40
 have HC5 := Am H
 clear H
 go_enter Try.func12, Try.ntmps12
 go_upto_region 2 with (first | ((refine Gd (N := 4) rfl ?_); (try (refine gate_guard (by rfl) ?_; dsimp only)); refine Be ?hg (N := 4) ?hd (cs := #[.slice A1 l1.length c1]) (t := 23) ?hr ?_; (case hd | hg => rfl); (case hr => first | (go_simp; done) | (go_simp; rfl)); intro gb149 hg w6 hbox hb; have n0_ := Am (Bt (by repeat (first | exact HB.out | apply Ba | apply Bn | apply Bd)) hb); have n1_ := Am (hbox); have n2_ := Am ((by rw [hg]; exact (Bz (by repeat (first | exact HB.out | apply Ba | apply Bn | apply Bd))) : w.heap.size ≤ gb149)); have n3_ := Am ((by rw [hg]; exact (Bz (by repeat (first | exact HB.out | apply Ba | apply Bn | apply Bd))) : w.heap.size ≤ gb149)); clear HB; have HB := n0_; have BK149 := n1_; have GW149 := n2_; have GE149 := n3_; clear n0_ n1_ n2_ n3_; clear hb hbox hg) | ((refine Gc (f := 54) rfl ?_); refine goesL_ (some 21) rfl rfl Try.func54 (by kernel_rfl) rfl #[.slice A2 l2.length c2] rfl (by first | rfl | (simp only [List.map_toArray, List.map_cons, List.map_nil]; first | done | rfl)) ?_; (with_reducible refine (slices_Sorted_int.val A2 l2.length c2 w6).mono ?_); rintro e w9 ⟨rfl, rfl⟩; refine ⟨_, rfl, ?_⟩) | ((refine Gc (f := 53) rfl ?_); refine goesL_ (some 22) rfl rfl Try.func53 (by kernel_rfl) rfl #[.func (.func 107) #[] #[.pointer (some ⟨w6.heap.size, 0, none⟩)]] rfl (by first | rfl | (simp only [List.map_toArray, List.map_cons, List.map_nil]; first | done | rfl)) ?_; (with_reducible refine (slices_Sorted_int.calls _ _ l2 t150 _ ?side1 ?side2 A4.out).mono ?_); (case side1 => repeat (first | exact (Kd.C_below HR2.out HB.out) | (with_reducible refine Kd.C_alloc ?_ _) | (with_reducible refine Kd.C_drewN ?_ _) | (with_reducible refine Kd.C_drew ?_))); (case side2 => exact HC2.out); rintro e w7 ⟨v151, rfl, ho0, hb⟩; refine ⟨_, rfl, ?_⟩; have n0_ := Am (Kd.R_lower ho0 (Bz (by repeat (first | (with_reducible first | exact HB.out | apply Ba | apply Bn | apply Bd | refine Bs ?_ GE149.out) | exact HB.out)))); have n1_ := Am (Kb (g := gb149) (o := .cells #[.slice A1 l1.length c1] 23 (0, 0)) (by (with_reducible repeat (first | refine Kn ?_ _ | refine Ke ?_ | refine Ka ?_ _)); exact BK149.out) hb); have n2_ := Am (Bt (by repeat (first | (with_reducible first | exact HB.out | apply Ba | apply Bn | apply Bd | refine Bs ?_ GE149.out) | exact HB.out)) hb); clear BK149; clear HB; have HO152 := n0_; have BK149 := n1_; have HB := n2_; clear n0_ n1_ n2_; (try clear hb); (try clear hb2); (try clear hk); (try clear hi); (try clear ho0)))
 (try simp only [Act.put, Lt, Lz, Ls])
 go_cut [40] (fun v40 wc => ∃ (kq : Nat) (x40_4 : Bool), v40 = .bool x40_4 ∧ Ad (impl_IsOrder.j0 kq l0 l2 x40_4 l1 = some (r1, r2)) ∧ Ad (kq ≤ k) ∧ Ad (wc.heap[gb149]? = some (.cells #[(.slice A1 l1.length c1)] 23 (0, 0))) ∧ Ad (Below w.heap.size w wc))
 case first =>
  have H := HC5.out
  clear HC5
  replace H := Option.bind_eq_some_iff.mp H
  obtain ⟨t153, A80, H⟩ := H
  replace H : (if t153 = true then (if (l2.length : Int) = (l0.length : Int) then ((impl_areMembers.f (l0.length : Int) t150).bind fun t154 => (impl_IsOrder.j0 k l0 l2 (!t154) l1)) else (impl_IsOrder.j0 k l0 l2 true l1)) else (impl_IsOrder.j0 k l0 l2 true l1)) = some (r1, r2) := H
  have A8 := Am A80
  clear A80
  by_cases c9 : t153 = true
  ·subst c9
   have H1 : (if (l2.length : Int) = (l0.length : Int) then ((impl_areMembers.f (l0.length : Int) t150).bind fun t154 => (impl_IsOrder.j0 k l0 l2 (!t154) l1)) else (impl_IsOrder.j0 k l0 l2 true l1)) = some (r1, r2) := by rw [if_pos rfl] at H; exact H
   clear H
   have H := H1
   clear H1
   by_cases c10 : (l2.length : Int) = (l0.length : Int)
   ·rw [if_pos c10] at H
    have c10b0 : ((l2.length : Int) == (l0.length : Int)) = true := beq_iff_eq.mpr c10
    have c10b1 : ((l2.length : Int) != (l0.length : Int)) = false := bne_eq_false_iff_eq.mpr c10
    have c10b2 : (l2.length == l0.length) = true := by first | simpa using c10 | (simp at c10 ⊢; omega)
    clear c10
    (first | rw [c10b0] | (simp only [i64_w, i32_w]; rw [c10b0]) | skip)
    replace H := Option.bind_eq_some_iff.mp H
    obtain ⟨t154, A110, H⟩ := H
    replace H : (impl_IsOrder.j0 k l0 l2 (!t154) l1) = some (r1, r2) := H
    have A11 := Am A110
    clear A110
    have H' := Am H
    clear H
    have hcz12_0 : w7.cell? ⟨gb149, 0, none⟩ = some (.slice A1 l1.length c1) := (Kc BK149.out 0).trans rfl
    have hfz12_0 := Kz BK149.out 0
    go_wp2_with (first | ((refine Gc (f := 55) rfl ?_); refine goesL_ (some 25) rfl rfl Try.func55 (by kernel_rfl) rfl #[.slice A0 l0.length c0, .slice A1 l1.length c1] rfl (by first | rfl | (simp only [List.map_toArray, List.map_cons, List.map_nil]; first | done | rfl)) ?_; (with_reducible refine (impl_areKeys.calls k _ _ l0 _ _ l1 true _ ?side1 ?side2 ?side3 ?side4 A8.out).mono ?_); (case side1 => repeat (first | exact (Kd.C_below HR0.out HB.out) | (with_reducible refine Kd.C_alloc ?_ _) | (with_reducible refine Kd.C_drewN ?_ _) | (with_reducible refine Kd.C_drew ?_))); (case side2 => exact HC0.out); (case side3 => repeat (first | exact (Kd.C_below HR1.out HB.out) | (with_reducible refine Kd.C_alloc ?_ _) | (with_reducible refine Kd.C_drewN ?_ _) | (with_reducible refine Kd.C_drew ?_))); (case side4 => exact HC1.out); rintro e w13 ⟨rfl, hb⟩; refine ⟨_, rfl, ?_⟩; have n0_ := Am (Kd.R_below (by (with_reducible repeat (first | apply Ra | apply Rn | apply Rd)); exact HO152.out) hb); have n1_ := Am (Kb (g := gb149) (o := .cells #[.slice A1 l1.length c1] 23 (0, 0)) (by (with_reducible repeat (first | refine Kn ?_ _ | refine Ke ?_ | refine Ka ?_ _)); exact BK149.out) hb); have n2_ := Am (Bt (by repeat (first | (with_reducible first | exact HB.out | apply Ba | apply Bn | apply Bd | refine Bs ?_ GE149.out) | exact HB.out)) hb); clear HO152; clear BK149; clear HB; have HO152 := n0_; have BK149 := n1_; have HB := n2_; clear n0_ n1_ n2_; (try clear hb); (try clear hb2); (try clear hk); (try clear hi); obtain ⟨Ao14, co14, eo14⟩ := Kd.R_slice HO152.out; subst eo14) | (go_at_call 56; (with_reducible refine (impl_areMembers.calls (l0.length : Int) _ _ t150 t154 _ ?side1 ?side2 A11.out).mono ?_); (case side1 => repeat (first | exact (Kd.R_reads' HO152.out).2.2 | (with_reducible refine Kd.C_alloc ?_ _) | (with_reducible refine Kd.C_drewN ?_ _) | (with_reducible refine Kd.C_drew ?_))); (case side2 => exact (Kd.R_reads' HO152.out).2.1); rintro e w15 ⟨rfl, hb⟩; have n0_ := Am (Kd.R_below (by (with_reducible repeat (first | apply Ra | apply Rn | apply Rd)); exact HO152.out) hb); have n1_ := Am (Kb (g := gb149) (o := .cells #[.slice A1 l1.length c1] 23 (0, 0)) (by (with_reducible repeat (first | refine Kn ?_ _ | refine Ke ?_ | refine Ka ?_ _)); exact BK149.out) hb); have n2_ := Am (Bt (by repeat (first | (with_reducible first | exact HB.out | apply Ba | apply Bn | apply Bd | refine Bs ?_ GE149.out) | exact HB.out)) hb); clear HO152; clear BK149; clear HB; have HO152 := n0_; have BK149 := n1_; have HB := n2_; clear n0_ n1_ n2_; (try clear hb); (try clear hb2); (try clear hk); (try clear hi)))
    go_meet
    case rel => exact ⟨_, (!t154), (by first | rfl | (simp; done) | (simp [*]; done)), H', ⟨by first | omega | exact Nat.le_refl _⟩, ⟨by (with_reducible repeat (first | refine Kn ?_ _ | refine Ke ?_ | refine Ka ?_ _)); exact BK149.out⟩, ⟨by repeat (first | (with_reducible first | exact HB.out | apply Ba | apply Bn | apply Bd | refine Bs ?_ GE149.out) | exact HB.out)⟩⟩
   ·rw [if_neg c10] at H
    have c10b0 : ((l2.length : Int) == (l0.length : Int)) = false := beq_eq_false_iff_ne.mpr c10
    have c10b1 : ((l2.length : Int) != (l0.length : Int)) = true := bne_iff_ne.mpr c10
    have c10b2 : (l2.length == l0.length) = false := by first | simpa using c10 | (simp at c10 ⊢; omega)
    (first | rw [c10b0] | (simp only [i64_w, i32_w]; rw [c10b0]) | skip)
    have H' := Am H
    clear H
    have hcz16_0 : w7.cell? ⟨gb149, 0, none⟩ = some (.slice A1 l1.length c1) := (Kc BK149.out 0).trans rfl
    have hfz16_0 := Kz BK149.out 0
    go_wp2_with (first | ((refine Gc (f := 55) rfl ?_); refine goesL_ (some 25) rfl rfl Try.func55 (by kernel_rfl) rfl #[.slice A0 l0.length c0, .slice A1 l1.length c1] rfl (by first | rfl | (simp only [List.map_toArray, List.map_cons, List.map_nil]; first | done | rfl)) ?_; (with_reducible refine (impl_areKeys.calls k _ _ l0 _ _ l1 true _ ?side1 ?side2 ?side3 ?side4 A8.out).mono ?_); (case side1 => repeat (first | exact (Kd.C_below HR0.out HB.out) | (with_reducible refine Kd.C_alloc ?_ _) | (with_reducible refine Kd.C_drewN ?_ _) | (with_reducible refine Kd.C_drew ?_))); (case side2 => exact HC0.out); (case side3 => repeat (first | exact (Kd.C_below HR1.out HB.out) | (with_reducible refine Kd.C_alloc ?_ _) | (with_reducible refine Kd.C_drewN ?_ _) | (with_reducible refine Kd.C_drew ?_))); (case side4 => exact HC1.out); rintro e w17 ⟨rfl, hb⟩; refine ⟨_, rfl, ?_⟩; have n0_ := Am (Kd.R_below (by (with_reducible repeat (first | apply Ra | apply Rn | apply Rd)); exact HO152.out) hb); have n1_ := Am (Kb (g := gb149) (o := .cells #[.slice A1 l1.length c1] 23 (0, 0)) (by (with_reducible repeat (first | refine Kn ?_ _ | refine Ke ?_ | refine Ka ?_ _)); exact BK149.out) hb); have n2_ := Am (Bt (by repeat (first | (with_reducible first | exact HB.out | apply Ba | apply Bn | apply Bd | refine Bs ?_ GE149.out) | exact HB.out)) hb); clear HO152; clear BK149; clear HB; have HO152 := n0_; have BK149 := n1_; have HB := n2_; clear n0_ n1_ n2_; (try clear hb); (try clear hb2); (try clear hk); (try clear hi)))
    go_meet
    case rel => exact ⟨_, (true), (by first | rfl | (simp; done) | (simp [*]; done)), H', ⟨by first | omega | exact Nat.le_refl _⟩, ⟨by (with_reducible repeat (first | refine Kn ?_ _ | refine Ke ?_ | refine Ka ?_ _)); exact BK149.out⟩, ⟨by repeat (first | (with_reducible first | exact HB.out | apply Ba | apply Bn | apply Bd | refine Bs ?_ GE149.out) | exact HB.out)⟩⟩
  ·replace c9 := Bool.eq_false_iff.mpr c9
   subst c9
   have H1 : (impl_IsOrder.j0 k l0 l2 true l1) = some (r1, r2) := by rw [if_neg (show ¬ (false = true) by decide)] at H; exact H
   clear H
   have H := H1
   clear H1
   have H' := Am H
   clear H
   have hcz18_0 : w7.cell? ⟨gb149, 0, none⟩ = some (.slice A1 l1.length c1) := (Kc BK149.out 0).trans rfl
   have hfz18_0 := Kz BK149.out 0
   go_wp2_with (first | ((refine Gc (f := 55) rfl ?_); refine goesL_ (some 25) rfl rfl Try.func55 (by kernel_rfl) rfl #[.slice A0 l0.length c0, .slice A1 l1.length c1] rfl (by first | rfl | (simp only [List.map_toArray, List.map_cons, List.map_nil]; first | done | rfl)) ?_; (with_reducible refine (impl_areKeys.calls k _ _ l0 _ _ l1 false _ ?side1 ?side2 ?side3 ?side4 A8.out).mono ?_); (case side1 => repeat (first | exact (Kd.C_below HR0.out HB.out) | (with_reducible refine Kd.C_alloc ?_ _) | (with_reducible refine Kd.C_drewN ?_ _) | (with_reducible refine Kd.C_drew ?_))); (case side2 => exact HC0.out); (case side3 => repeat (first | exact (Kd.C_below HR1.out HB.out) | (with_reducible refine Kd.C_alloc ?_ _) | (with_reducible refine Kd.C_drewN ?_ _) | (with_reducible refine Kd.C_drew ?_))); (case side4 => exact HC1.out); rintro e w19 ⟨rfl, hb⟩; refine ⟨_, rfl, ?_⟩; have n0_ := Am (Kd.R_below (by (with_reducible repeat (first | apply Ra | apply Rn | apply Rd)); exact HO152.out) hb); have n1_ := Am (Kb (g := gb149) (o := .cells #[.slice A1 l1.length c1] 23 (0, 0)) (by (with_reducible repeat (first | refine Kn ?_ _ | refine Ke ?_ | refine Ka ?_ _)); exact BK149.out) hb); have n2_ := Am (Bt (by repeat (first | (with_reducible first | exact HB.out | apply Ba | apply Bn | apply Bd | refine Bs ?_ GE149.out) | exact HB.out)) hb); clear HO152; clear BK149; clear HB; have HO152 := n0_; have BK149 := n1_; have HB := n2_; clear n0_ n1_ n2_; (try clear hb); (try clear hb2); (try clear hk); (try clear hi)))
   go_meet
   case rel => exact ⟨_, (true), (by first | rfl | (simp; done) | (simp [*]; done)), H', ⟨by first | omega | exact Nat.le_refl _⟩, ⟨by (with_reducible repeat (first | refine Kn ?_ _ | refine Ke ?_ | refine Ka ?_ _)); exact BK149.out⟩, ⟨by repeat (first | (with_reducible first | exact HB.out | apply Ba | apply Bn | apply Bd | refine Bs ?_ GE149.out) | exact HB.out)⟩⟩
 case rest =>
  clear HC5
  try clear c1
  try clear c2
  try clear p2
  try clear c5
  try clear c9
  try clear c10
  try clear c10b0
  try clear c10b1
  try clear c10b2
  try clear c12
  try clear hcz12_0
  try clear hcz16_0
  try clear hcz18_0
  try clear hfz12_0
  try clear hfz16_0
  try clear hfz18_0
  obtain ⟨kq, x40_4, rfl, HA, HJ4, BK149, HB⟩ := hcut
  cases kq with
  | zero => exact absurd HA.out (by simp [impl_IsOrder.j0])
  | succ kj4 =>
   have H := HA.out
   clear HA
   simp only [impl_IsOrder.j0] at H
   by_cases c20 : x40_4 = true
   ·subst c20
    have H1 : (some (false, false)) = some (r1, r2) := by rw [if_pos rfl] at H; exact H
    clear H
    have H := H1
    clear H1
    simp only [Option.some.injEq, Prod.mk.injEq] at H
    obtain ⟨rfl, rfl⟩ := H
    go_wp2
    go_ret2
    exact ⟨by first | rfl | (simp [*, errW_none, errW_some] <;> rfl), by repeat (first | (with_reducible first | exact HB.out | apply Ba | apply Bn | apply Bd | refine Bs ?_ GE149.out) | exact HB.out)⟩
   ·replace c20 := Bool.eq_false_iff.mpr c20
    subst c20
    have H1 : (if 0 ≤ (l0.length : Int) then (if ((l0.length : Int) : Int).toNat ≤ 35184372088832 then (impl_IsOrder.l0 kj4 l0 (List.replicate ((l0.length : Int) : Int).toNat 0) l2 (l2.length : Int) 0 l1) else (none)) else (none)) = some (r1, r2) := by rw [if_neg (show ¬ (false = true) by decide)] at H; exact H
    clear H
    have H := H1
    clear H1
    by_cases c21 : 0 ≤ (l0.length : Int)
    ·rw [if_pos c21] at H
     have c21b0 := eq_true c21
     have c21b1 : decide (0 ≤ (l0.length : Int)) = true := decide_eq_true c21
     clear c21
     by_cases c22 : ((l0.length : Int) : Int).toNat ≤ 35184372088832
     ·rw [if_pos c22] at H
      have c22b0 := eq_true c22
      have c22b1 : decide (((l0.length : Int) : Int).toNat ≤ 35184372088832) = true := decide_eq_true c22
      clear c22
      obtain ⟨y155, hy155⟩ : ∃ y_ : List Int, y_ = (List.replicate ((l0.length : Int) : Int).toNat 0) := ⟨_, rfl⟩
      replace H : (impl_IsOrder.l0 kj4 l0 y155 l2 (l2.length : Int) 0 l1) = some (r1, r2) := by first | (rw [hy155]; with_reducible exact H) | (have H2_ := (Option.bind_some _ _).symm.trans H; rw [hy155]; with_reducible exact H2_) | (have H2_ := (Option.bind_some _ _).symm.trans H; with_reducible exact H2_) | with_reducible exact H | (rw [hy155]; exact H) | exact H
      have Ny155 := Am hy155
      clear hy155
      have H' := Am H
      clear H
      go_wp2_with (first | ((refine Gd (N := 43) rfl ?_); (try (refine gate_guard (by rfl) ?_; dsimp only)); refine Kd.R_make (Kd.int .i64) _ 3 rfl (N := 43) rfl 23 _ _ rfl (l0.length : Int) rfl rfl Try.underlying23 (.int .i64 0) 8 info3 rfl (by decide) (by omega) 0 (ok := fun _ => True) (okp := fun _ => True) rfl (fun _ hk => hk) trivial (of_decide_eq_true (by assumption)) (Nat.le_trans (Nat.mul_le_mul_right _ (of_decide_eq_true (by assumption) : (l0.length : Int).toNat ≤ 35184372088832)) (by omega)) (Below.refl _ _) (Nat.le_refl _) ?_; intro v156 w23 ho24 hb hg_ hnew_; clear hg_ hnew_; (first | rw [← Ny155.out] at ho24 | (simp only [Int.reduceToNat] at ho24; rw [← Ny155.out] at ho24)); have n0_ := Am (Kd.R_lower ho24 (Bz (by repeat (first | (with_reducible first | exact HB.out | apply Ba | apply Bn | apply Bd | refine Bs ?_ GE149.out) | exact HB.out)))); have n1_ := Am (Kb (g := gb149) (o := .cells #[.slice A1 l1.length c1] 23 (0, 0)) (by (with_reducible repeat (first | refine Kn ?_ _ | refine Ke ?_ | refine Ka ?_ _)); exact BK149.out) hb); have n2_ := Am (Bt (by repeat (first | (with_reducible first | exact HB.out | apply Ba | apply Bn | apply Bd | refine Bs ?_ GE149.out) | exact HB.out)) hb); clear BK149; clear HB; have HO157 := n0_; have BK149 := n1_; have HB := n2_; clear n0_ n1_ n2_; clear hb ho24))
      go_loopg [46] kj4 (fun kq v46 w' => ∃ (x9_2 : List Int) (x46_2 : Int), v46 = .int .i64 x46_2 ∧ Ad (impl_IsOrder.l0 kq l0 x9_2 l2 (l2.length : Int) x46_2 l1 = some (r1, r2)) ∧ Ad (kq ≤ kj4) ∧ Ad (Kd.R (Kd.int .i64) 3 w' w.heap.size (fun _ => True) v156 x9_2) ∧ Ad (w'.heap[gb149]? = some (.cells #[(.slice A1 l1.length c1)] 23 (0, 0))) ∧ Ad (Below w.heap.size w w'))
      case atStart => exact ⟨(y155), (0), (by first | rfl | (simp; done) | (simp [*]; done)), H', ⟨Nat.le_refl _⟩, ⟨by (with_reducible repeat (first | apply Ra | apply Rn | apply Rd)); exact HO157.out⟩, ⟨by (with_reducible repeat (first | refine Kn ?_ _ | refine Ke ?_ | refine Ka ?_ _)); exact BK149.out⟩, ⟨by repeat (first | (with_reducible first | exact HB.out | apply Ba | apply Bn | apply Bd | refine Bs ?_ GE149.out) | exact HB.out)⟩⟩
      case round =>
       clear H'
       try clear c1
       try clear c2
       try clear p2
       try clear c5
       try clear c9
       try clear c10
       try clear c10b0
       try clear c10b1
       try clear c10b2
       try clear c12
       try clear c20
       try clear c21
       try clear c21b0
       try clear c21b1
       try clear c22
       try clear c22b0
       try clear c22b1
       try clear hcz12_0
       try clear hcz16_0
       try clear hcz18_0
       try clear hfz12_0
       try clear hfz16_0
       try clear hfz18_0
       try clear p2
       obtain ⟨x9_2, x46_2, rfl, HA, HK2, HO_9, BK149, HB⟩ := hrel
       cases gk with
       | zero => exact absurd HA.out (by simp [impl_IsOrder.l0])
       | succ k2 =>
        have H := HA.out
        clear HA
        simp only [impl_IsOrder.l0] at H
        by_cases c25 : x46_2 < (l2.length : Int)
        ·rw [if_pos c25] at H
         have c25b0 : decide (x46_2 < (l2.length : Int)) = true := decide_eq_true c25
         clear c25
         by_cases c26 : 0 ≤ x46_2
         ·rw [if_pos c26] at H
          have c26b0 : decide (0 ≤ x46_2) = true := decide_eq_true c26
          clear c26
          by_cases c27 : x46_2 < (l2.length : Int)
          ·rw [if_pos c27] at H
           have c27b0 : decide (x46_2 < (l2.length : Int)) = true := decide_eq_true c27
           clear c27
           by_cases c28 : 0 ≤ (rd l2 x46_2)
           ·rw [if_pos c28] at H
            have c28b0 : decide (0 ≤ (rd l2 x46_2)) = true := decide_eq_true c28
            clear c28
            by_cases c29 : (rd l2 x46_2) < (x9_2.length : Int)
            ·rw [if_pos c29] at H
             have c29b0 : decide ((rd l2 x46_2) < (x9_2.length : Int)) = true := decide_eq_true c29
             clear c29
             obtain ⟨y159, hy159⟩ : ∃ y_ : List Int, y_ = (x9_2.set ((rd l2 x46_2) : Int).toNat x46_2) := ⟨_, rfl⟩
             replace H : (impl_IsOrder.l0 k2 l0 y159 l2 (l2.length : Int) (wrap64 (x46_2 + 1)) l1) = some (r1, r2) := by first | (rw [hy159]; with_reducible exact H) | (have H2_ := (Option.bind_some _ _).symm.trans H; rw [hy159]; with_reducible exact H2_) | (have H2_ := (Option.bind_some _ _).symm.trans H; with_reducible exact H2_) | with_reducible exact H | (rw [hy159]; exact H) | exact H
             have Ny159 := Am hy159
             clear hy159
             have H' := Am H
             clear H
             have p158 : 0 ≤ (x46_2 : Int) := of_decide_eq_true (by assumption)
             have q158 : x46_2 < (l2.length : Int) := of_decide_eq_true (by assumption)
             obtain ⟨ad158, e158, hx158_0⟩ := Kd.at_int HR2.out x46_2 p158 q158
             cases e158
             replace hx158_0 := (HB.out.cell (bl_ w _ hx158_0)).trans hx158_0
             replace p158 := eq_true p158
             replace q158 := eq_true q158
             have p30 : 0 ≤ ((rd l2 x46_2) : Int) := of_decide_eq_true (by assumption)
             have q30 : ((rd l2 x46_2) : Int) < ((x9_2.length : Int) : Int) := of_decide_eq_true (by assumption)
             obtain ⟨go30, co30, eo30, gb30, gl30, cl30, HG30⟩ := Kd.R_form HO_9.out (by omega)
             (first | cases eo30 | (injection eo30 with ea_ en_ ec_; (first | subst ea_ | (injection ea_ with ea_; subst ea_)); subst ec_; clear en_))
             have GB30 := Am gb30
             have GG30 := Am HG30
             clear gb30 gl30 HG30
             obtain ⟨hx30_0, hf30_0⟩ := Kd.R_celln 0 HO_9.out ((rd l2 x46_2) : Int) p30 q30
             replace p30 := eq_true p30
             replace q30 := eq_true q30
             have HP31 := Kd.R_putg HO_9.out ((rd l2 x46_2) : Int) x46_2
             go_wp2_with (first | ((refine Gs (t := 3) (p := 54) rfl ?_); refine store_event (t := 3) (p := 54) (v := ?vo_w32) (w1 := (wr.setCell ⟨go30, ((rd l2 x46_2) : Int).toNat, none⟩ (.int .i64 x46_2))) ?hg ?ho ?hn ?hr ?_; (case ho => rfl); (case hg => rfl); (case hn => rfl); (case hr => first | (go_simp; done) | (go_simp; rfl)); intro w32 hw; have hg : wr.grownBy w32 (some go30) := (by rw [hw]; exact HP31.2); have hp_ : Kd.R (Kd.int .i64) 3 w32 w.heap.size (fun _ => True) (.slice (some ⟨go30, 0, none⟩) x9_2.length co30) y159 := (by rw [hw, Ny159.out]; exact HP31.1); clear HP31; have n0_ := Am (hp_); have n1_ := Am (blk_grown (g := gb149) (o := .cells #[.slice A1 l1.length c1] 23 (0, 0)) (by (with_reducible repeat (first | refine Kn ?_ _ | refine Ke ?_ | refine Ka ?_ _)); exact BK149.out) hg (Kd.R_ne HO_9.out BK149.out (by decide))); have n2_ := Am ((by rw [hw]; exact Bs (HB.out) GB30.out : Below w.heap.size w w32)); clear HO_9; clear BK149; clear HB; have HO_9 := n0_; have BK149 := n1_; have HB := n2_; clear n0_ n1_ n2_; clear hg hw hp_))
             go_roundg k2
             case measure => have := HJ4.out; have := HK2.out; omega
             case rel => exact ⟨(y159), (wrap64 (x46_2 + 1)), (by first | rfl | (simp; done) | (simp [*]; done)), H', ⟨by have := HJ4.out; have := HK2.out; omega⟩, ⟨by (with_reducible repeat (first | apply Ra | apply Rn | apply Rd)); exact HO_9.out⟩, ⟨by (with_reducible repeat (first | refine Kn ?_ _ | refine Ke ?_ | refine Ka ?_ _)); exact BK149.out⟩, ⟨by repeat (first | (with_reducible first | exact HB.out | apply Ba | apply Bn | apply Bd | refine Bs ?_ GE149.out) | exact HB.out)⟩⟩
            ·rw [if_neg c29] at H
             exact absurd H (by simp)
           ·rw [if_neg c28] at H
            exact absurd H (by simp)
          ·rw [if_neg c27] at H
           exact absurd H (by simp)
         ·rw [if_neg c26] at H
          exact absurd H (by simp)
        ·rw [if_neg c25] at H
         have c25b0 : decide (x46_2 < (l2.length : Int)) = false := decide_eq_false c25
         clear c25
         have H' := Am H
         clear H
         go_wp2
         go_loopg [58] k2 (fun kq v58 w' => ∃ (x58_3 : Int), v58 = .int .i64 x58_3 ∧ Ad (impl_IsOrder.l1 kq l0 x9_2 l0 (l0.length : Int) x58_3 l1 = some (r1, r2)) ∧ Ad (kq ≤ k2) ∧ Ad (Kd.R (Kd.int .i64) 3 w' w.heap.size (fun _ => True) v156 x9_2) ∧ Ad (w'.heap[gb149]? = some (.cells #[(.slice A1 l1.length c1)] 23 (0, 0))) ∧ Ad (Below w.heap.size w w'))
         case atStart => exact ⟨(0), (by first | rfl | (simp; done) | (simp [*]; done)), H', ⟨Nat.le_refl _⟩, ⟨by (with_reducible repeat (first | apply Ra | apply Rn | apply Rd)); exact HO_9.out⟩, ⟨by (with_reducible repeat (first | refine Kn ?_ _ | refine Ke ?_ | refine Ka ?_ _)); exact BK149.out⟩, ⟨by repeat (first | (with_reducible first | exact HB.out | apply Ba | apply Bn | apply Bd | refine Bs ?_ GE149.out) | exact HB.out)⟩⟩
         case round =>
          clear H'
          try clear c1
          try clear p1
          try clear q1
          try clear hx1
          try clear c2
          try clear p2
          try clear p3
          try clear q3
          try clear hx3
          try clear hf3
          try clear c5
          try clear p6
          try clear c9
          try clear c10
          try clear c10b0
          try clear c10b1
          try clear c10b2
          try clear c12
          try clear p15
          try clear q15
          try clear hx15
          try clear c20
          try clear c21
          try clear c21b0
          try clear c21b1
          try clear c22
          try clear c22b0
          try clear c22b1
          try clear c25
          try clear c25b0
          try clear c26
          try clear c26b0
          try clear c27
          try clear c27b0
          try clear c28
          try clear c28b0
          try clear c29
          try clear c29b0
          try clear p30
          try clear q30
          try clear hx30
          try clear hf30
          try clear hcz12_0
          try clear hcz16_0
          try clear hcz18_0
          try clear hfz12_0
          try clear hfz16_0
          try clear hfz18_0
          try clear hx158_0
          try clear hx30_0
          try clear p158
          try clear p2
          try clear p30
          try clear q158
          try clear q30
          obtain ⟨x58_3, rfl, HA, HK3, HO_9, BK149, HB⟩ := hrel
          cases gk with
          | zero => exact absurd HA.out (by simp [impl_IsOrder.l1])
          | succ k3 =>
           have H := HA.out
           clear HA
           simp only [impl_IsOrder.l1] at H
           by_cases c33 : x58_3 < (l0.length : Int)
           ·rw [if_pos c33] at H
            have c33b0 : decide (x58_3 < (l0.length : Int)) = true := decide_eq_true c33
            clear c33
            by_cases c34 : 0 ≤ x58_3
            ·rw [if_pos c34] at H
             have c34b0 : decide (0 ≤ x58_3) = true := decide_eq_true c34
             clear c34
             by_cases c35 : x58_3 < (l0.length : Int)
             ·rw [if_pos c35] at H
              have c35b0 : decide (x58_3 < (l0.length : Int)) = true := decide_eq_true c35
              clear c35
              have H' := Am H
              clear H
              have p161 : 0 ≤ (x58_3 : Int) := of_decide_eq_true (by assumption)
              have q161 : x58_3 < (l0.length : Int) := of_decide_eq_true (by assumption)
              obtain ⟨ad161, A161_0, c161_0, e161, hx161_0, hl161_0, hi161_0⟩ := at_L1 HR0.out x58_3 p161 q161
              cases e161
              replace hx161_0 := (HB.out.cell (bl_ w _ hx161_0)).trans hx161_0
              have HR161_0 := Am hi161_0
              have HC161_0 := Am hl161_0
              clear hi161_0 hl161_0
              replace p161 := eq_true p161
              replace q161 := eq_true q161
              go_wp2
              go_loopg [65] k3 (fun kq v65 w' => ∃ (x65_4 : Int), v65 = .int .i64 x65_4 ∧ Ad (impl_IsOrder.l2 kq l0 x9_2 x58_3 l0 (l0.length : Int) x58_3 (rd_L1 l0 x58_3) ((rd_L1 l0 x58_3).length : Int) x65_4 l1 = some (r1, r2)) ∧ Ad (kq ≤ k3) ∧ Ad (Kd.R (Kd.int .i64) 3 w' w.heap.size (fun _ => True) v156 x9_2) ∧ Ad (w'.heap[gb149]? = some (.cells #[(.slice A1 l1.length c1)] 23 (0, 0))) ∧ Ad (Below w.heap.size w w'))
              case atStart => exact ⟨(0), (by first | rfl | (simp; done) | (simp [*]; done)), H', ⟨Nat.le_refl _⟩, ⟨by (with_reducible repeat (first | apply Ra | apply Rn | apply Rd)); exact HO_9.out⟩, ⟨by (with_reducible repeat (first | refine Kn ?_ _ | refine Ke ?_ | refine Ka ?_ _)); exact BK149.out⟩, ⟨by repeat (first | (with_reducible first | exact HB.out | apply Ba | apply Bn | apply Bd | refine Bs ?_ GE149.out) | exact HB.out)⟩⟩
              case round =>
               clear H'
               try clear c1
               try clear p1
               try clear q1
               try clear hx1
               try clear c2
               try clear p2
               try clear c3
               try clear p3
               try clear q3
               try clear hx3
               try clear hf3
               try clear c5
               try clear p6
               try clear c9
               try clear c10
               try clear c10b0
               try clear c10b1
               try clear c10b2
               try clear c12
               try clear p15
               try clear q15
               try clear hx15
               try clear c16
               try clear p16
               try clear q16
               try clear hx16
               try clear c20
               try clear c21
               try clear c21b0
               try clear c21b1
               try clear c22
               try clear c22b0
               try clear c22b1
               try clear c25
               try clear c25b0
               try clear c26
               try clear c26b0
               try clear c27
               try clear c27b0
               try clear c28
               try clear c28b0
               try clear c29
               try clear c29b0
               try clear p30
               try clear q30
               try clear hx30
               try clear hf30
               try clear c33
               try clear c33b0
               try clear c34
               try clear c34b0
               try clear c35
               try clear c35b0
               try clear hcz12_0
               try clear hcz16_0
               try clear hcz18_0
               try clear hfz12_0
               try clear hfz16_0
               try clear hfz18_0
               try clear hx158_0
               try clear hx161_0
               try clear hx30_0
               try clear p1
               try clear p15
               try clear p158
               try clear p161
               try clear p2
               try clear p3
               try clear p30
               try clear p6
               try clear q1
               try clear q15
               try clear q158
               try clear q161
               try clear q3
               try clear q30
               obtain ⟨x65_4, rfl, HA, HK4, HO_9, BK149, HB⟩ := hrel
               cases gk with
               | zero => exact absurd HA.out (by simp [impl_IsOrder.l2])
               | succ k4 =>
                have H := HA.out
                clear HA
                simp only [impl_IsOrder.l2] at H
                by_cases c36 : x65_4 < ((rd_L1 l0 x58_3).length : Int)
                ·rw [if_pos c36] at H
                 have c36b0 : decide (x65_4 < ((rd_L1 l0 x58_3).length : Int)) = true := decide_eq_true c36
                 clear c36
                 by_cases c37 : 0 ≤ x65_4
                 ·rw [if_pos c37] at H
                  have c37b0 : decide (0 ≤ x65_4) = true := decide_eq_true c37
                  clear c37
                  by_cases c38 : x65_4 < ((rd_L1 l0 x58_3).length : Int)
                  ·rw [if_pos c38] at H
                   have c38b0 : decide (x65_4 < ((rd_L1 l0 x58_3).length : Int)) = true := decide_eq_true c38
                   clear c38
                   replace H := Option.bind_eq_some_iff.mp H
                   obtain ⟨t163, A390, H⟩ := H
                   replace H : ((slices_Contains_int_int.f k4 t163 x58_3).bind fun t166 => (if t166 = true then (impl_IsOrder.l2 k4 l0 x9_2 x58_3 l0 (l0.length : Int) x58_3 (rd_L1 l0 x58_3) ((rd_L1 l0 x58_3).length : Int) (wrap64 (x65_4 + 1)) l1) else (if 0 ≤ x58_3 then (if x58_3 < (x9_2.length : Int) then (if 0 ≤ (rd (rd_L1 l0 x58_3) x65_4) then (if (rd (rd_L1 l0 x58_3) x65_4) < (x9_2.length : Int) then (if (rd x9_2 x58_3) < (rd x9_2 (rd (rd_L1 l0 x58_3) x65_4)) then (some (false, true)) else (impl_IsOrder.l2 k4 l0 x9_2 x58_3 l0 (l0.length : Int) x58_3 (rd_L1 l0 x58_3) ((rd_L1 l0 x58_3).length : Int) (wrap64 (x65_4 + 1)) l1)) else (none)) else (none)) else (none)) else (none)))) = some (r1, r2) := H
                   have A39 := Am A390
                   clear A390
                   replace H := Option.bind_eq_some_iff.mp H
                   obtain ⟨t166, A400, H⟩ := H
                   replace H : (if t166 = true then (impl_IsOrder.l2 k4 l0 x9_2 x58_3 l0 (l0.length : Int) x58_3 (rd_L1 l0 x58_3) ((rd_L1 l0 x58_3).length : Int) (wrap64 (x65_4 + 1)) l1) else (if 0 ≤ x58_3 then (if x58_3 < (x9_2.length : Int) then (if 0 ≤ (rd (rd_L1 l0 x58_3) x65_4) then (if (rd (rd_L1 l0 x58_3) x65_4) < (x9_2.length : Int) then (if (rd x9_2 x58_3) < (rd x9_2 (rd (rd_L1 l0 x58_3) x65_4)) then (some (false, true)) else (impl_IsOrder.l2 k4 l0 x9_2 x58_3 l0 (l0.length : Int) x58_3 (rd_L1 l0 x58_3) ((rd_L1 l0 x58_3).length : Int) (wrap64 (x65_4 + 1)) l1)) else (none)) else (none)) else (none)) else (none))) = some (r1, r2) := H
                   have A40 := Am A400
                   clear A400
                   by_cases c41 : t166 = true
                   ·subst c41
                    have H1 : (impl_IsOrder.l2 k4 l0 x9_2 x58_3 l0 (l0.length : Int) x58_3 (rd_L1 l0 x58_3) ((rd_L1 l0 x58_3).length : Int) (wrap64 (x65_4 + 1)) l1) = some (r1, r2) := by rw [if_pos rfl] at H; exact H
                    clear H
                    have H := H1
                    clear H1
                    have H' := Am H
                    clear H
                    have p162 : 0 ≤ (x65_4 : Int) := of_decide_eq_true (by assumption)
                    have q162 : x65_4 < ((rd_L1 l0 x58_3).length : Int) := of_decide_eq_true (by assumption)
                    obtain ⟨ad162, e162, hx162_0⟩ := Kd.at_int HR161_0.out x65_4 p162 q162
                    cases e162
                    replace hx162_0 := (HB.out.cell (bl_ w _ hx162_0)).trans hx162_0
                    replace p162 := eq_true p162
                    replace q162 := eq_true q162
                    try go_wp2
                    have n0_ := Am (Rd HO_9.out)
                    have n1_ := Am (Ke BK149.out)
                    have n2_ := Am (Bd HB.out)
                    clear HO_9
                    clear BK149
                    clear HB
                    have HO_9 := n0_
                    have BK149 := n1_
                    have HB := n2_
                    clear n0_ n1_ n2_
                    refine start_ (n := 17) (S := fun w' => True) (ds := []) #[false, false, false, false, false, false, false, false, false, false, false, false, false, false, false, false, false] (by kernel_rfl) rfl rfl trivial (fun hHeld => ?_); refine with_tabW impl_IsOrder.tab16 impl_IsOrder.bits16 (fun HT_ HW_ => ?_)
                    generalize wr.drew = w42 at HO_9 BK149 HB hHeld ⊢
                    refine pure_ (i := 0) (N := some 69) (v := ?_) (a' := ?_) #[true, false, false, false, false, false, false, false, false, false, false, false, false, false, false, false, false] rfl rfl (any_of HT_.out (by kernel_rfl)) (fun _ _ _ h => h) (Or.inl ⟨by rfl, ?_⟩) ?_ ?_
                    rotate_left
                    ·intro w'
                     go_simp
                     with_reducible rfl
                    rotate_left
                    ·simp only [Act.put, Lt, Lz, Ls, i64_w, i32_w]
                     rfl
                    refine pure_ (i := 1) (N := some 70) (v := ?_) (a' := ?_) #[true, true, false, false, false, false, false, false, false, false, false, false, false, false, false, false, false] rfl rfl (any_of HT_.out (by kernel_rfl)) (fun _ _ _ h => h) (Or.inl ⟨by rfl, ?_⟩) ?_ ?_
                    rotate_left
                    ·intro w'
                     go_simp
                     with_reducible rfl
                    rotate_left
                    ·simp only [Act.put, Lt, Lz, Ls, i64_w, i32_w]
                     rfl
                    refine pure_ (i := 3) (N := some 72) (v := ?_) (a' := ?_) #[true, true, false, true, false, false, false, false, false, false, false, false, false, false, false, false, false] rfl rfl (any_of HT_.out (by kernel_rfl)) (fun _ _ _ h => h) (Or.inl ⟨by rfl, ?_⟩) ?_ ?_
                    rotate_left
                    ·intro w'
                     go_simp
                     with_reducible rfl
                    rotate_left
                    ·simp only [Act.put, Lt, Lz, Ls, i64_w, i32_w]
                     rfl
                    refine one_ (i := 2) (N := some 71) #[true, true, true, true, false, false, false, false, false, false, false, false, false, false, false, false, false] rfl rfl (one_of HT_.out (by kernel_rfl)) (by decide) (fun K hK => ?_)
                    refine goes_ Try.func58 (by kernel_rfl) rfl #[.slice (some ad161) l0.length c0, .int .i64 (rd (rd_L1 l0 x58_3) x65_4)] (by rfl) rfl rfl (by first | rfl | (simp only [List.map_toArray, List.map_cons, List.map_nil]; first | done | rfl)) ?_
                    with_reducible refine (impl_reached.calls k4 _ _ l0 (rd (rd_L1 l0 x58_3) x65_4) t163 _ ?side1 ?side2 A39.out).mono ?_
                    (case side1 => repeat (first | exact (Kd.C_below HR0.out HB.out) | (with_reducible refine Kd.C_alloc ?_ _) | (with_reducible refine Kd.C_drewN ?_ _) | (with_reducible refine Kd.C_drew ?_)))
                    (case side2 => exact HC0.out)
                    rintro e w43 ⟨v164, rfl, ho0, hb⟩
                    refine ⟨_, rfl, ?_⟩
                    have n0_ := Am (Kd.R_elder' (by (with_reducible repeat (first | apply Ra | apply Rn | apply Rd)); exact HO_9.out) (Kd.R_base ho0) hb)
                    have n1_ := Am (Kd.R_lower (Kd.R_new' ho0 (Kd.R_lt (by (with_reducible repeat (first | apply Ra | apply Rn | apply Rd)); exact HO_9.out))) (Bz (by repeat (first | (with_reducible first | exact HB.out | apply Ba | apply Bn | apply Bd | refine Bs ?_ GE149.out) | exact HB.out))))
                    have n2_ := Am (Kb (g := gb149) (o := .cells #[.slice A1 l1.length c1] 23 (0, 0)) (by (with_reducible repeat (first | refine Kn ?_ _ | refine Ke ?_ | refine Ka ?_ _)); exact BK149.out) hb)
                    have n3_ := Am (Bt (by repeat (first | (with_reducible first | exact HB.out | apply Ba | apply Bn | apply Bd | refine Bs ?_ GE149.out) | exact HB.out)) hb)
                    clear HO_9
                    clear BK149
                    clear HB
                    have HO_9 := n0_
                    have HO165 := n1_
                    have BK149 := n2_
                    have HB := n3_
                    clear n0_ n1_ n2_ n3_
                    (try clear hb)
                    (try clear hb2)
                    (try clear hk)
                    (try clear hi)
                    (try clear ho0)
                    obtain ⟨Ao44, co44, eo44⟩ := Kd.R_slice HO165.out
                    (first | subst eo44 | (injection eo44 with f1_ f2_ f3_; have f4_ := f1_.symm; have f5_ := f3_.symm; clear f1_ f2_ f3_; subst f4_; subst f5_))
                    refine hK.out _ _ trivial (fun hHeld => ?_)
                    clear hK K
                    refine norm_ (a' := ?_) ?_ ?_
                    rotate_left
                    ·show Act.put _ (some 71) _ = _
                     simp only [Act.put, Lt, Lz, Ls, i64_w, i32_w]
                     rfl
                    refine one_ (i := 4) (N := some 73) #[true, true, true, true, true, false, false, false, false, false, false, false, false, false, false, false, false] rfl rfl (one_of HT_.out (by kernel_rfl)) (by decide) (fun K hK => ?_)
                    refine goes_ Try.func57 (by kernel_rfl) rfl #[.slice Ao44 t163.length co44, .int .i64 x58_3] (by rfl) rfl rfl (by first | rfl | (simp only [List.map_toArray, List.map_cons, List.map_nil]; first | done | rfl)) ?_
                    with_reducible refine (slices_Contains_int_int.calls k4 _ _ t163 x58_3 true _ ?side1 ?side2 A40.out).mono ?_
                    (case side1 => repeat (first | exact (Kd.R_reads' HO165.out).2.2 | (with_reducible refine Kd.C_alloc ?_ _) | (with_reducible refine Kd.C_drewN ?_ _) | (with_reducible refine Kd.C_drew ?_)))
                    (case side2 => exact (Kd.R_reads' HO165.out).2.1)
                    rintro e w' ⟨rfl, ⟨nd, rfl⟩⟩
                    refine ⟨_, rfl, ?_⟩
                    refine hK.out _ _ trivial (fun hHeld => ?_)
                    clear hK K
                    refine norm_ (a' := ?_) ?_ ?_
                    rotate_left
                    ·show Act.put _ (some 73) _ = _
                     simp only [Act.put, Lt, Lz, Ls, i64_w, i32_w]
                     rfl
                    refine pure_ (i := 5) (N := some 74) (v := ?_) (a' := ?_) #[true, true, true, true, true, true, false, false, false, false, false, false, false, false, false, false, false] rfl rfl (any_of HT_.out (by kernel_rfl)) (fun _ _ _ h => h) (Or.inl ⟨by rfl, ?_⟩) ?_ ?_
                    rotate_left
                    ·intro w'
                     go_simp
                     with_reducible rfl
                    rotate_left
                    ·simp only [Act.put, Lt, Lz, Ls, i64_w, i32_w]
                     rfl
                    refine pure_ (i := 6) (N := some 75) (v := ?_) (a' := ?_) #[true, true, true, true, true, true, true, false, false, false, false, false, false, false, false, false, false] rfl rfl (any_of HT_.out (by kernel_rfl)) (fun _ _ _ h => h) (Or.inl ⟨by rfl, ?_⟩) ?_ ?_
                    rotate_left
                    ·intro w'
                     go_simp
                     with_reducible rfl
                    rotate_left
                    ·simp only [Act.put, Lt, Lz, Ls, i64_w, i32_w]
                     rfl
                    refine pure_ (i := 7) (N := some 76) (v := undef) (a' := ?_) #[true, true, true, true, true, true, true, true, false, false, false, false, false, false, false, false, false] rfl rfl (any_of HT_.out (by kernel_rfl)) (fun _ _ _ h => h) (Or.inr ⟨by rfl, rfl⟩) ?_ ?_
                    rotate_left
                    ·simp only [Act.put, Lt, Lz, Ls, i64_w, i32_w]
                     rfl
                    refine pure_ (i := 8) (N := some 77) (v := undef) (a' := ?_) #[true, true, true, true, true, true, true, true, true, false, false, false, false, false, false, false, false] rfl rfl (any_of HT_.out (by kernel_rfl)) (fun _ _ _ h => h) (Or.inr ⟨by rfl, rfl⟩) ?_ ?_
                    rotate_left
                    ·simp only [Act.put, Lt, Lz, Ls, i64_w, i32_w]
                     rfl
                    refine pure_ (i := 9) (N := some 78) (v := undef) (a' := ?_) #[true, true, true, true, true, true, true, true, true, true, false, false, false, false, false, false, false] rfl rfl (any_of HT_.out (by kernel_rfl)) (fun _ _ _ h => h) (Or.inr ⟨by rfl, rfl⟩) ?_ ?_
                    rotate_left
                    ·simp only [Act.put, Lt, Lz, Ls, i64_w, i32_w]
                     rfl
                    refine pure_ (i := 10) (N := some 79) (v := undef) (a' := ?_) #[true, true, true, true, true, true, true, true, true, true, true, false, false, false, false, false, false] rfl rfl (any_of HT_.out (by kernel_rfl)) (fun _ _ _ h => h) (Or.inr ⟨by rfl, rfl⟩) ?_ ?_
                    rotate_left
                    ·simp only [Act.put, Lt, Lz, Ls, i64_w, i32_w]
                     rfl
                    refine pure_ (i := 11) (N := some 80) (v := undef) (a' := ?_) #[true, true, true, true, true, true, true, true, true, true, true, true, false, false, false, false, false] rfl rfl (any_of HT_.out (by kernel_rfl)) (fun _ _ _ h => h) (Or.inr ⟨by rfl, rfl⟩) ?_ ?_
                    rotate_left
                    ·simp only [Act.put, Lt, Lz, Ls, i64_w, i32_w]
                     rfl
                    refine pure_ (i := 12) (N := some 81) (v := undef) (a' := ?_) #[true, true, true, true, true, true, true, true, true, true, true, true, true, false, false, false, false] rfl rfl (any_of HT_.out (by kernel_rfl)) (fun _ _ _ h => h) (Or.inr ⟨by rfl, rfl⟩) ?_ ?_
                    rotate_left
                    ·simp only [Act.put, Lt, Lz, Ls, i64_w, i32_w]
                     rfl
                    refine pure_ (i := 13) (N := some 82) (v := undef) (a' := ?_) #[true, true, true, true, true, true, true, true, true, true, true, true, true, true, false, false, false] rfl rfl (any_of HT_.out (by kernel_rfl)) (fun _ _ _ h => h) (Or.inr ⟨by rfl, rfl⟩) ?_ ?_
                    rotate_left
                    ·simp only [Act.put, Lt, Lz, Ls, i64_w, i32_w]
                     rfl
                    refine pure_ (i := 14) (N := some 83) (v := undef) (a' := ?_) #[true, true, true, true, true, true, true, true, true, true, true, true, true, true, true, false, false] rfl rfl (any_of HT_.out (by kernel_rfl)) (fun _ _ _ h => h) (Or.inr ⟨by rfl, rfl⟩) ?_ ?_
                    rotate_left
                    ·simp only [Act.put, Lt, Lz, Ls, i64_w, i32_w]
                     rfl
                    refine pure_ (i := 15) (N := some 84) (v := undef) (a' := ?_) #[true, true, true, true, true, true, true, true, true, true, true, true, true, true, true, true, false] rfl rfl (any_of HT_.out (by kernel_rfl)) (fun _ _ _ h => h) (Or.inr ⟨by rfl, rfl⟩) ?_ ?_
                    rotate_left
                    ·simp only [Act.put, Lt, Lz, Ls, i64_w, i32_w]
                     rfl
                    refine pure_ (i := 16) (N := some 85) (v := ?_) (a' := ?_) #[true, true, true, true, true, true, true, true, true, true, true, true, true, true, true, true, true] rfl rfl (any_of HT_.out (by kernel_rfl)) (fun _ _ _ h => h) (Or.inl ⟨by rfl, ?_⟩) ?_ ?_
                    rotate_left
                    ·intro w'
                     go_simp
                     with_reducible rfl
                    rotate_left
                    ·simp only [Act.put, Lt, Lz, Ls, i64_w, i32_w]
                     rfl
                    refine done_ (done_of HT_.out (by kernel_rfl)) ?_
                    try go_wp2
                    go_roundg k4
                    case measure => have := HJ4.out; have := HK2.out; have := HK3.out; have := HK4.out; omega
                    case rel => exact ⟨(wrap64 (x65_4 + 1)), (by first | rfl | (simp; done) | (simp [*]; done)), H', ⟨by have := HJ4.out; have := HK2.out; have := HK3.out; have := HK4.out; omega⟩, ⟨by (with_reducible repeat (first | apply Ra | apply Rn | apply Rd)); exact Kd.R_mono HO_9.out (fun _ hk => trivial)⟩, ⟨by (with_reducible repeat (first | refine Kn ?_ _ | refine Ke ?_ | refine Ka ?_ _)); exact BK149.out⟩, ⟨by repeat (first | (with_reducible first | exact HB.out | apply Ba | apply Bn | apply Bd | refine Bs ?_ GE149.out) | exact HB.out)⟩⟩
                   ·replace c41 := Bool.eq_false_iff.mpr c41
                    subst c41
                    have H1 : (if 0 ≤ x58_3 then (if x58_3 < (x9_2.length : Int) then (if 0 ≤ (rd (rd_L1 l0 x58_3) x65_4) then (if (rd (rd_L1 l0 x58_3) x65_4) < (x9_2.length : Int) then (if (rd x9_2 x58_3) < (rd x9_2 (rd (rd_L1 l0 x58_3) x65_4)) then (some (false, true)) else (impl_IsOrder.l2 k4 l0 x9_2 x58_3 l0 (l0.length : Int) x58_3 (rd_L1 l0 x58_3) ((rd_L1 l0 x58_3).length : Int) (wrap64 (x65_4 + 1)) l1)) else (none)) else (none)) else (none)) else (none)) = some (r1, r2) := by rw [if_neg (show ¬ (false = true) by decide)] at H; exact H
                    clear H
                    have H := H1
                    clear H1
                    by_cases c45 : 0 ≤ x58_3
                    ·rw [if_pos c45] at H
                     have c45b0 : decide (0 ≤ x58_3) = true := decide_eq_true c45
                     clear c45
                     by_cases c46 : x58_3 < (x9_2.length : Int)
                     ·rw [if_pos c46] at H
                      have c46b0 : decide (x58_3 < (x9_2.length : Int)) = true := decide_eq_true c46
                      clear c46
                      by_cases c47 : 0 ≤ (rd (rd_L1 l0 x58_3) x65_4)
                      ·rw [if_pos c47] at H
                       have c47b0 : decide (0 ≤ (rd (rd_L1 l0 x58_3) x65_4)) = true := decide_eq_true c47
                       clear c47
                       by_cases c48 : (rd (rd_L1 l0 x58_3) x65_4) < (x9_2.length : Int)
                       ·rw [if_pos c48] at H
                        have c48b0 : decide ((rd (rd_L1 l0 x58_3) x65_4) < (x9_2.length : Int)) = true := decide_eq_true c48
                        clear c48
                        by_cases c49 : (rd x9_2 x58_3) < (rd x9_2 (rd (rd_L1 l0 x58_3) x65_4))
                        ·rw [if_pos c49] at H
                         have c49b0 : decide ((rd x9_2 x58_3) < (rd x9_2 (rd (rd_L1 l0 x58_3) x65_4))) = true := decide_eq_true c49
                         clear c49
                         simp only [Option.some.injEq, Prod.mk.injEq] at H
                         obtain ⟨rfl, rfl⟩ := H
                         have p162 : 0 ≤ (x65_4 : Int) := of_decide_eq_true (by assumption)
                         have q162 : x65_4 < ((rd_L1 l0 x58_3).length : Int) := of_decide_eq_true (by assumption)
                         obtain ⟨ad162, e162, hx162_0⟩ := Kd.at_int HR161_0.out x65_4 p162 q162
                         cases e162
                         replace hx162_0 := (HB.out.cell (bl_ w _ hx162_0)).trans hx162_0
                         replace p162 := eq_true p162
                         replace q162 := eq_true q162
                         try go_wp2
                         have n0_ := Am (Rd HO_9.out)
                         have n1_ := Am (Ke BK149.out)
                         have n2_ := Am (Bd HB.out)
                         clear HO_9
                         clear BK149
                         clear HB
                         have HO_9 := n0_
                         have BK149 := n1_
                         have HB := n2_
                         clear n0_ n1_ n2_
                         obtain ⟨Ao53, co53, eo53⟩ := Kd.R_slice HO_9.out
                         (first | subst eo53 | (injection eo53 with f1_ f2_ f3_; have f4_ := f1_.symm; have f5_ := f3_.symm; clear f1_ f2_ f3_; subst f4_; subst f5_))
                         have p167 : 0 ≤ (x58_3 : Int) := of_decide_eq_true (by assumption)
                         have q167 : x58_3 < (x9_2.length : Int) := of_decide_eq_true (by assumption)
                         obtain ⟨ad167, e167, hx167_0⟩ := Kd.at_int (Kd.R_reads' HO_9.out).2.2 x58_3 p167 q167
                         cases e167
                         replace p167 := eq_true p167
                         replace q167 := eq_true q167
                         have p168 : 0 ≤ ((rd (rd_L1 l0 x58_3) x65_4) : Int) := of_decide_eq_true (by assumption)
                         have q168 : (rd (rd_L1 l0 x58_3) x65_4) < (x9_2.length : Int) := of_decide_eq_true (by assumption)
                         obtain ⟨ad168, e168, hx168_0⟩ := Kd.at_int (Kd.R_reads' HO_9.out).2.2 (rd (rd_L1 l0 x58_3) x65_4) p168 q168
                         obtain rfl : ad167 = ad168 := (by injection e168)
                         replace p168 := eq_true p168
                         replace q168 := eq_true q168
                         refine start_ (n := 17) (S := fun w' => w'.cell? (ad167.add (x58_3).toNat) = some (.int .i64 (rd x9_2 x58_3)) ∧ w'.cell? (ad167.add ((rd (rd_L1 l0 x58_3) x65_4)).toNat) = some (.int .i64 (rd x9_2 (rd (rd_L1 l0 x58_3) x65_4)))) (ds := []) #[false, false, false, false, false, false, false, false, false, false, false, false, false, false, false, false, false] (by kernel_rfl) rfl rfl ⟨hx167_0, hx168_0⟩ (fun hHeld => ?_); refine with_tabW impl_IsOrder.tab16 impl_IsOrder.bits16 (fun HT_ HW_ => ?_)
                         generalize wr.drew = w50 at HO_9 BK149 HB hx167_0 hx168_0 hHeld ⊢
                         refine pure_ (i := 0) (N := some 69) (v := ?_) (a' := ?_) #[true, false, false, false, false, false, false, false, false, false, false, false, false, false, false, false, false] rfl rfl (any_of HT_.out (by kernel_rfl)) (fun _ _ _ h => h) (Or.inl ⟨by rfl, ?_⟩) ?_ ?_
                         rotate_left
                         ·intro w'
                          go_simp
                          with_reducible rfl
                         rotate_left
                         ·simp only [Act.put, Lt, Lz, Ls, i64_w, i32_w]
                          rfl
                         refine pure_ (i := 1) (N := some 70) (v := ?_) (a' := ?_) #[true, true, false, false, false, false, false, false, false, false, false, false, false, false, false, false, false] rfl rfl (any_of HT_.out (by kernel_rfl)) (fun _ _ _ h => h) (Or.inl ⟨by rfl, ?_⟩) ?_ ?_
                         rotate_left
                         ·intro w'
                          go_simp
                          with_reducible rfl
                         rotate_left
                         ·simp only [Act.put, Lt, Lz, Ls, i64_w, i32_w]
                          rfl
                         refine pure_ (i := 3) (N := some 72) (v := ?_) (a' := ?_) #[true, true, false, true, false, false, false, false, false, false, false, false, false, false, false, false, false] rfl rfl (any_of HT_.out (by kernel_rfl)) (fun _ _ _ h => h) (Or.inl ⟨by rfl, ?_⟩) ?_ ?_
                         rotate_left
                         ·intro w'
                          go_simp
                          with_reducible rfl
                         rotate_left
                         ·simp only [Act.put, Lt, Lz, Ls, i64_w, i32_w]
                          rfl
                         refine one_ (i := 2) (N := some 71) #[true, true, true, true, false, false, false, false, false, false, false, false, false, false, false, false, false] rfl rfl (one_of HT_.out (by kernel_rfl)) (by decide) (fun K hK => ?_)
                         refine goes_ Try.func58 (by kernel_rfl) rfl #[.slice (some ad161) l0.length c0, .int .i64 (rd (rd_L1 l0 x58_3) x65_4)] (by rfl) rfl rfl (by first | rfl | (simp only [List.map_toArray, List.map_cons, List.map_nil]; first | done | rfl)) ?_
                         with_reducible refine (impl_reached.calls k4 _ _ l0 (rd (rd_L1 l0 x58_3) x65_4) t163 _ ?side1 ?side2 A39.out).mono ?_
                         (case side1 => repeat (first | exact (Kd.C_below HR0.out HB.out) | (with_reducible refine Kd.C_alloc ?_ _) | (with_reducible refine Kd.C_drewN ?_ _) | (with_reducible refine Kd.C_drew ?_)))
                         (case side2 => exact HC0.out)
                         rintro e w51 ⟨v164, rfl, ho0, hb⟩
                         have HS0_ := (hb.cell (bl_ _ _ (hHeld.1))).trans (hHeld.1)
                         have HS1_ := (hb.cell (bl_ _ _ (hHeld.2))).trans (hHeld.2)
                         refine ⟨_, rfl, ?_⟩
                         have n0_ := Am (Kd.R_elder' (by (with_reducible repeat (first | apply Ra | apply Rn | apply Rd)); exact HO_9.out) (Kd.R_base ho0) hb)
                         have n1_ := Am (Kd.R_lower (Kd.R_new' ho0 (Kd.R_lt (by (with_reducible repeat (first | apply Ra | apply Rn | apply Rd)); exact HO_9.out))) (Bz (by repeat (first | (with_reducible first | exact HB.out | apply Ba | apply Bn | apply Bd | refine Bs ?_ GE149.out) | exact HB.out))))
                         have n2_ := Am (Kb (g := gb149) (o := .cells #[.slice A1 l1.length c1] 23 (0, 0)) (by (with_reducible repeat (first | refine Kn ?_ _ | refine Ke ?_ | refine Ka ?_ _)); exact BK149.out) hb)
                         have n3_ := Am (Bt (by repeat (first | (with_reducible first | exact HB.out | apply Ba | apply Bn | apply Bd | refine Bs ?_ GE149.out) | exact HB.out)) hb)
                         clear HO_9
                         clear BK149
                         clear HB
                         have HO_9 := n0_
                         have HO165 := n1_
                         have BK149 := n2_
                         have HB := n3_
                         clear n0_ n1_ n2_ n3_
                         (try clear hb)
                         (try clear hb2)
                         (try clear hk)
                         (try clear hi)
                         (try clear ho0)
                         obtain ⟨Ao52, co52, eo52⟩ := Kd.R_slice HO165.out
                         (first | subst eo52 | (injection eo52 with f1_ f2_ f3_; have f4_ := f1_.symm; have f5_ := f3_.symm; clear f1_ f2_ f3_; subst f4_; subst f5_))
                         refine hK.out _ _ ⟨HS0_, HS1_⟩ (fun hHeld => ?_)
                         clear hK K
                         refine norm_ (a' := ?_) ?_ ?_
                         rotate_left
                         ·show Act.put _ (some 71) _ = _
                          simp only [Act.put, Lt, Lz, Ls, i64_w, i32_w]
                          rfl
                         refine one_ (i := 4) (N := some 73) #[true, true, true, true, true, false, false, false, false, false, false, false, false, false, false, false, false] rfl rfl (one_of HT_.out (by kernel_rfl)) (by decide) (fun K hK => ?_)
                         refine goes_ Try.func57 (by kernel_rfl) rfl #[.slice Ao52 t163.length co52, .int .i64 x58_3] (by rfl) rfl rfl (by first | rfl | (simp only [List.map_toArray, List.map_cons, List.map_nil]; first | done | rfl)) ?_
                         with_reducible refine (slices_Contains_int_int.calls k4 _ _ t163 x58_3 false _ ?side1 ?side2 A40.out).mono ?_
                         (case side1 => repeat (first | exact (Kd.R_reads' HO165.out).2.2 | (with_reducible refine Kd.C_alloc ?_ _) | (with_reducible refine Kd.C_drewN ?_ _) | (with_reducible refine Kd.C_drew ?_)))
                         (case side2 => exact (Kd.R_reads' HO165.out).2.1)
                         rintro e w' ⟨rfl, ⟨nd, rfl⟩⟩
                         refine ⟨_, rfl, ?_⟩
                         refine hK.out _ _ ⟨hHeld.1, hHeld.2⟩ (fun hHeld => ?_)
                         clear hK K
                         refine norm_ (a' := ?_) ?_ ?_
                         rotate_left
                         ·show Act.put _ (some 73) _ = _
                          simp only [Act.put, Lt, Lz, Ls, i64_w, i32_w]
                          rfl
                         refine pure_ (i := 5) (N := some 74) (v := ?_) (a' := ?_) #[true, true, true, true, true, true, false, false, false, false, false, false, false, false, false, false, false] rfl rfl (any_of HT_.out (by kernel_rfl)) (fun _ _ _ h => h) (Or.inl ⟨by rfl, ?_⟩) ?_ ?_
                         rotate_left
                         ·intro w'
                          go_simp
                          with_reducible rfl
                         rotate_left
                         ·simp only [Act.put, Lt, Lz, Ls, i64_w, i32_w]
                          rfl
                         refine pure_ (i := 6) (N := some 75) (v := ?_) (a' := ?_) #[true, true, true, true, true, true, true, false, false, false, false, false, false, false, false, false, false] rfl rfl (any_of HT_.out (by kernel_rfl)) (fun _ _ _ h => h) (Or.inl ⟨by rfl, ?_⟩) ?_ ?_
                         rotate_left
                         ·intro w'
                          go_simp
                          with_reducible rfl
                         rotate_left
                         ·simp only [Act.put, Lt, Lz, Ls, i64_w, i32_w]
                          rfl
                         refine pure_ (i := 7) (N := some 76) (v := ?_) (a' := ?_) #[true, true, true, true, true, true, true, true, false, false, false, false, false, false, false, false, false] rfl rfl (any_of HT_.out (by kernel_rfl)) (fun _ _ _ h => h) (Or.inl ⟨by rfl, ?_⟩) ?_ ?_
                         rotate_left
                         ·intro w'
                          go_simp
                          with_reducible rfl
                         rotate_left
                         ·simp only [Act.put, Lt, Lz, Ls, i64_w, i32_w]
                          rfl
                         refine pure_ (i := 8) (N := some 77) (v := ?_) (a' := ?_) #[true, true, true, true, true, true, true, true, true, false, false, false, false, false, false, false, false] rfl rfl (any_of HT_.out (by kernel_rfl)) (fun _ _ _ h => h) (Or.inl ⟨by rfl, ?_⟩) ?_ ?_
                         rotate_left
                         ·intro w'
                          go_simp
                          with_reducible rfl
                         rotate_left
                         ·simp only [Act.put, Lt, Lz, Ls, i64_w, i32_w]
                          rfl
                         refine pure_ (i := 9) (N := some 78) (v := ?_) (a' := ?_) #[true, true, true, true, true, true, true, true, true, true, false, false, false, false, false, false, false] rfl rfl (any_of HT_.out (by kernel_rfl)) (fun _ _ _ h => h) (Or.inl ⟨by rfl, ?_⟩) ?_ ?_
                         rotate_left
                         ·intro w'
                          go_simp
                          with_reducible rfl
                         rotate_left
                         ·simp only [Act.put, Lt, Lz, Ls, i64_w, i32_w]
                          rfl
                         refine pure_ (i := 11) (N := some 80) (v := ?_) (a' := ?_) #[true, true, true, true, true, true, true, true, true, true, false, true, false, false, false, false, false] rfl rfl (any_of HT_.out (by kernel_rfl)) (fun _ _ _ h => h) (Or.inl ⟨by rfl, ?_⟩) ?_ ?_
                         rotate_left
                         ·intro w'
                          go_simp
                          with_reducible rfl
                         rotate_left
                         ·simp only [Act.put, Lt, Lz, Ls, i64_w, i32_w]
                          rfl
                         refine pure_ (i := 12) (N := some 81) (v := ?_) (a' := ?_) #[true, true, true, true, true, true, true, true, true, true, false, true, true, false, false, false, false] rfl rfl (any_of HT_.out (by kernel_rfl)) (fun _ _ _ h => h) (Or.inl ⟨by rfl, ?_⟩) ?_ ?_
                         rotate_left
                         ·intro w'
                          go_simp
                          with_reducible rfl
                         rotate_left
                         ·simp only [Act.put, Lt, Lz, Ls, i64_w, i32_w]
                          rfl
                         refine pure_ (i := 13) (N := some 82) (v := ?_) (a' := ?_) #[true, true, true, true, true, true, true, true, true, true, false, true, true, true, false, false, false] rfl rfl (any_of HT_.out (by kernel_rfl)) (fun _ _ _ h => h) (Or.inl ⟨by rfl, ?_⟩) ?_ ?_
                         rotate_left
                         ·intro w'
                          go_simp
                          with_reducible rfl
                         rotate_left
                         ·simp only [Act.put, Lt, Lz, Ls, i64_w, i32_w]
                          rfl
                         refine take_ (i := 10) (N := some 79) (v := ?_) (a' := ?_) #[true, true, true, true, true, true, true, true, true, true, true, true, true, true, false, false, false] rfl rfl (take_ofW HT_.out HW_.out (by kernel_rfl)) (fun _ _ _ h => h) (Or.inl ⟨by rfl, ?_⟩) hHeld ?_ ?_
                         rotate_left
                         ·rintro w' ⟨s0, s1⟩
                          go_simp
                          with_reducible rfl
                         rotate_left
                         ·simp only [Act.put, Lt, Lz, Ls, i64_w, i32_w]
                          rfl
                         refine take_ (i := 14) (N := some 83) (v := ?_) (a' := ?_) #[true, true, true, true, true, true, true, true, true, true, true, true, true, true, true, false, false] rfl rfl (take_ofW HT_.out HW_.out (by kernel_rfl)) (fun _ _ _ h => h) (Or.inl ⟨by rfl, ?_⟩) hHeld ?_ ?_
                         rotate_left
                         ·rintro w' ⟨s0, s1⟩
                          go_simp
                          with_reducible rfl
                         rotate_left
                         ·simp only [Act.put, Lt, Lz, Ls, i64_w, i32_w]
                          rfl
                         refine pure_ (i := 15) (N := some 84) (v := ?_) (a' := ?_) #[true, true, true, true, true, true, true, true, true, true, true, true, true, true, true, true, false] rfl rfl (any_of HT_.out (by kernel_rfl)) (fun _ _ _ h => h) (Or.inl ⟨by rfl, ?_⟩) ?_ ?_
                         rotate_left
                         ·intro w'
                          go_simp
                          with_reducible rfl
                         rotate_left
                         ·simp only [Act.put, Lt, Lz, Ls, i64_w, i32_w]
                          rfl
                         refine pure_ (i := 16) (N := some 85) (v := ?_) (a' := ?_) #[true, true, true, true, true, true, true, true, true, true, true, true, true, true, true, true, true] rfl rfl (any_of HT_.out (by kernel_rfl)) (fun _ _ _ h => h) (Or.inl ⟨by rfl, ?_⟩) ?_ ?_
                         rotate_left
                         ·intro w'
                          go_simp
                          with_reducible rfl
                         rotate_left
                         ·simp only [Act.put, Lt, Lz, Ls, i64_w, i32_w]
                          rfl
                         refine done_ (done_of HT_.out (by kernel_rfl)) ?_
                         try go_wp2
                         go_ret2
                         exact ⟨by first | rfl | (simp [*, errW_none, errW_some] <;> rfl), by repeat (first | (with_reducible first | exact HB.out | apply Ba | apply Bn | apply Bd | refine Bs ?_ GE149.out) | exact HB.out)⟩
                        ·rw [if_neg c49] at H
                         have c49b0 : decide ((rd x9_2 x58_3) < (rd x9_2 (rd (rd_L1 l0 x58_3) x65_4))) = false := decide_eq_false c49
                         clear c49
                         have H' := Am H
                         clear H
                         have p162 : 0 ≤ (x65_4 : Int) := of_decide_eq_true (by assumption)
                         have q162 : x65_4 < ((rd_L1 l0 x58_3).length : Int) := of_decide_eq_true (by assumption)
                         obtain ⟨ad162, e162, hx162_0⟩ := Kd.at_int HR161_0.out x65_4 p162 q162
                         cases e162
                         replace hx162_0 := (HB.out.cell (bl_ w _ hx162_0)).trans hx162_0
                         replace p162 := eq_true p162
                         replace q162 := eq_true q162
                         try go_wp2
                         have n0_ := Am (Rd HO_9.out)
                         have n1_ := Am (Ke BK149.out)
                         have n2_ := Am (Bd HB.out)
                         clear HO_9
                         clear BK149
                         clear HB
                         have HO_9 := n0_
                         have BK149 := n1_
                         have HB := n2_
                         clear n0_ n1_ n2_
                         obtain ⟨Ao57, co57, eo57⟩ := Kd.R_slice HO_9.out
                         (first | subst eo57 | (injection eo57 with f1_ f2_ f3_; have f4_ := f1_.symm; have f5_ := f3_.symm; clear f1_ f2_ f3_; subst f4_; subst f5_))
                         have p167 : 0 ≤ (x58_3 : Int) := of_decide_eq_true (by assumption)
                         have q167 : x58_3 < (x9_2.length : Int) := of_decide_eq_true (by assumption)
                         obtain ⟨ad167, e167, hx167_0⟩ := Kd.at_int (Kd.R_reads' HO_9.out).2.2 x58_3 p167 q167
                         cases e167
                         replace p167 := eq_true p167
                         replace q167 := eq_true q167
                         have p168 : 0 ≤ ((rd (rd_L1 l0 x58_3) x65_4) : Int) := of_decide_eq_true (by assumption)
                         have q168 : (rd (rd_L1 l0 x58_3) x65_4) < (x9_2.length : Int) := of_decide_eq_true (by assumption)
                         obtain ⟨ad168, e168, hx168_0⟩ := Kd.at_int (Kd.R_reads' HO_9.out).2.2 (rd (rd_L1 l0 x58_3) x65_4) p168 q168
                         obtain rfl : ad167 = ad168 := (by injection e168)
                         replace p168 := eq_true p168
                         replace q168 := eq_true q168
                         refine start_ (n := 17) (S := fun w' => w'.cell? (ad167.add (x58_3).toNat) = some (.int .i64 (rd x9_2 x58_3)) ∧ w'.cell? (ad167.add ((rd (rd_L1 l0 x58_3) x65_4)).toNat) = some (.int .i64 (rd x9_2 (rd (rd_L1 l0 x58_3) x65_4)))) (ds := []) #[false, false, false, false, false, false, false, false, false, false, false, false, false, false, false, false, false] (by kernel_rfl) rfl rfl ⟨hx167_0, hx168_0⟩ (fun hHeld => ?_); refine with_tabW impl_IsOrder.tab16 impl_IsOrder.bits16 (fun HT_ HW_ => ?_)
                         generalize wr.drew = w54 at HO_9 BK149 HB hx167_0 hx168_0 hHeld ⊢
                         refine pure_ (i := 0) (N := some 69) (v := ?_) (a' := ?_) #[true, false, false, false, false, false, false, false, false, false, false, false, false, false, false, false, false] rfl rfl (any_of HT_.out (by kernel_rfl)) (fun _ _ _ h => h) (Or.inl ⟨by rfl, ?_⟩) ?_ ?_
                         rotate_left
                         ·intro w'
                          go_simp
                          with_reducible rfl
                         rotate_left
                         ·simp only [Act.put, Lt, Lz, Ls, i64_w, i32_w]
                          rfl
                         refine pure_ (i := 1) (N := some 70) (v := ?_) (a' := ?_) #[true, true, false, false, false, false, false, false, false, false, false, false, false, false, false, false, false] rfl rfl (any_of HT_.out (by kernel_rfl)) (fun _ _ _ h => h) (Or.inl ⟨by rfl, ?_⟩) ?_ ?_
                         rotate_left
                         ·intro w'
                          go_simp
                          with_reducible rfl
                         rotate_left
                         ·simp only [Act.put, Lt, Lz, Ls, i64_w, i32_w]
                          rfl
                         refine pure_ (i := 3) (N := some 72) (v := ?_) (a' := ?_) #[true, true, false, true, false, false, false, false, false, false, false, false, false, false, false, false, false] rfl rfl (any_of HT_.out (by kernel_rfl)) (fun _ _ _ h => h) (Or.inl ⟨by rfl, ?_⟩) ?_ ?_
                         rotate_left
                         ·intro w'
                          go_simp
                          with_reducible rfl
                         rotate_left
                         ·simp only [Act.put, Lt, Lz, Ls, i64_w, i32_w]
                          rfl
                         refine one_ (i := 2) (N := some 71) #[true, true, true, true, false, false, false, false, false, false, false, false, false, false, false, false, false] rfl rfl (one_of HT_.out (by kernel_rfl)) (by decide) (fun K hK => ?_)
                         refine goes_ Try.func58 (by kernel_rfl) rfl #[.slice (some ad161) l0.length c0, .int .i64 (rd (rd_L1 l0 x58_3) x65_4)] (by rfl) rfl rfl (by first | rfl | (simp only [List.map_toArray, List.map_cons, List.map_nil]; first | done | rfl)) ?_
                         with_reducible refine (impl_reached.calls k4 _ _ l0 (rd (rd_L1 l0 x58_3) x65_4) t163 _ ?side1 ?side2 A39.out).mono ?_
                         (case side1 => repeat (first | exact (Kd.C_below HR0.out HB.out) | (with_reducible refine Kd.C_alloc ?_ _) | (with_reducible refine Kd.C_drewN ?_ _) | (with_reducible refine Kd.C_drew ?_)))
                         (case side2 => exact HC0.out)
                         rintro e w55 ⟨v164, rfl, ho0, hb⟩
                         have HS0_ := (hb.cell (bl_ _ _ (hHeld.1))).trans (hHeld.1)
                         have HS1_ := (hb.cell (bl_ _ _ (hHeld.2))).trans (hHeld.2)
                         refine ⟨_, rfl, ?_⟩
                         have n0_ := Am (Kd.R_elder' (by (with_reducible repeat (first | apply Ra | apply Rn | apply Rd)); exact HO_9.out) (Kd.R_base ho0) hb)
                         have n1_ := Am (Kd.R_lower (Kd.R_new' ho0 (Kd.R_lt (by (with_reducible repeat (first | apply Ra | apply Rn | apply Rd)); exact HO_9.out))) (Bz (by repeat (first | (with_reducible first | exact HB.out | apply Ba | apply Bn | apply Bd | refine Bs ?_ GE149.out) | exact HB.out))))
                         have n2_ := Am (Kb (g := gb149) (o := .cells #[.slice A1 l1.length c1] 23 (0, 0)) (by (with_reducible repeat (first | refine Kn ?_ _ | refine Ke ?_ | refine Ka ?_ _)); exact BK149.out) hb)
                         have n3_ := Am (Bt (by repeat (first | (with_reducible first | exact HB.out | apply Ba | apply Bn | apply Bd | refine Bs ?_ GE149.out) | exact HB.out)) hb)
                         clear HO_9
                         clear BK149
                         clear HB
                         have HO_9 := n0_
                         have HO165 := n1_
                         have BK149 := n2_
                         have HB := n3_
                         clear n0_ n1_ n2_ n3_
                         (try clear hb)
                         (try clear hb2)
                         (try clear hk)
                         (try clear hi)
                         (try clear ho0)
                         obtain ⟨Ao56, co56, eo56⟩ := Kd.R_slice HO165.out
                         (first | subst eo56 | (injection eo56 with f1_ f2_ f3_; have f4_ := f1_.symm; have f5_ := f3_.symm; clear f1_ f2_ f3_; subst f4_; subst f5_))
                         refine hK.out _ _ ⟨HS0_, HS1_⟩ (fun hHeld => ?_)
                         clear hK K
                         refine norm_ (a' := ?_) ?_ ?_
                         rotate_left
                         ·show Act.put _ (some 71) _ = _
                          simp only [Act.put, Lt, Lz, Ls, i64_w, i32_w]
                          rfl
                         refine one_ (i := 4) (N := some 73) #[true, true, true, true, true, false, false, false, false, false, false, false, false, false, false, false, false] rfl rfl (one_of HT_.out (by kernel_rfl)) (by decide) (fun K hK => ?_)
                         refine goes_ Try.func57 (by kernel_rfl) rfl #[.slice Ao56 t163.length co56, .int .i64 x58_3] (by rfl) rfl rfl (by first | rfl | (simp only [List.map_toArray, List.map_cons, List.map_nil]; first | done | rfl)) ?_
                         with_reducible refine (slices_Contains_int_int.calls k4 _ _ t163 x58_3 false _ ?side1 ?side2 A40.out).mono ?_
                         (case side1 => repeat (first | exact (Kd.R_reads' HO165.out).2.2 | (with_reducible refine Kd.C_alloc ?_ _) | (with_reducible refine Kd.C_drewN ?_ _) | (with_reducible refine Kd.C_drew ?_)))
                         (case side2 => exact (Kd.R_reads' HO165.out).2.1)
                         rintro e w' ⟨rfl, ⟨nd, rfl⟩⟩
                         refine ⟨_, rfl, ?_⟩
                         refine hK.out _ _ ⟨hHeld.1, hHeld.2⟩ (fun hHeld => ?_)
                         clear hK K
                         refine norm_ (a' := ?_) ?_ ?_
                         rotate_left
                         ·show Act.put _ (some 73) _ = _
                          simp only [Act.put, Lt, Lz, Ls, i64_w, i32_w]
                          rfl
                         refine pure_ (i := 5) (N := some 74) (v := ?_) (a' := ?_) #[true, true, true, true, true, true, false, false, false, false, false, false, false, false, false, false, false] rfl rfl (any_of HT_.out (by kernel_rfl)) (fun _ _ _ h => h) (Or.inl ⟨by rfl, ?_⟩) ?_ ?_
                         rotate_left
                         ·intro w'
                          go_simp
                          with_reducible rfl
                         rotate_left
                         ·simp only [Act.put, Lt, Lz, Ls, i64_w, i32_w]
                          rfl
                         refine pure_ (i := 6) (N := some 75) (v := ?_) (a' := ?_) #[true, true, true, true, true, true, true, false, false, false, false, false, false, false, false, false, false] rfl rfl (any_of HT_.out (by kernel_rfl)) (fun _ _ _ h => h) (Or.inl ⟨by rfl, ?_⟩) ?_ ?_
                         rotate_left
                         ·intro w'
                          go_simp
                          with_reducible rfl
                         rotate_left
                         ·simp only [Act.put, Lt, Lz, Ls, i64_w, i32_w]
                          rfl
                         refine pure_ (i := 7) (N := some 76) (v := ?_) (a' := ?_) #[true, true, true, true, true, true, true, true, false, false, false, false, false, false, false, false, false] rfl rfl (any_of HT_.out (by kernel_rfl)) (fun _ _ _ h => h) (Or.inl ⟨by rfl, ?_⟩) ?_ ?_
                         rotate_left
                         ·intro w'
                          go_simp
                          with_reducible rfl
                         rotate_left
                         ·simp only [Act.put, Lt, Lz, Ls, i64_w, i32_w]
                          rfl
                         refine pure_ (i := 8) (N := some 77) (v := ?_) (a' := ?_) #[true, true, true, true, true, true, true, true, true, false, false, false, false, false, false, false, false] rfl rfl (any_of HT_.out (by kernel_rfl)) (fun _ _ _ h => h) (Or.inl ⟨by rfl, ?_⟩) ?_ ?_
                         rotate_left
                         ·intro w'
                          go_simp
                          with_reducible rfl
                         rotate_left
                         ·simp only [Act.put, Lt, Lz, Ls, i64_w, i32_w]
                          rfl
                         refine pure_ (i := 9) (N := some 78) (v := ?_) (a' := ?_) #[true, true, true, true, true, true, true, true, true, true, false, false, false, false, false, false, false] rfl rfl (any_of HT_.out (by kernel_rfl)) (fun _ _ _ h => h) (Or.inl ⟨by rfl, ?_⟩) ?_ ?_
                         rotate_left
                         ·intro w'
                          go_simp
                          with_reducible rfl
                         rotate_left
                         ·simp only [Act.put, Lt, Lz, Ls, i64_w, i32_w]
                          rfl
                         refine pure_ (i := 11) (N := some 80) (v := ?_) (a' := ?_) #[true, true, true, true, true, true, true, true, true, true, false, true, false, false, false, false, false] rfl rfl (any_of HT_.out (by kernel_rfl)) (fun _ _ _ h => h) (Or.inl ⟨by rfl, ?_⟩) ?_ ?_
                         rotate_left
                         ·intro w'
                          go_simp
                          with_reducible rfl
                         rotate_left
                         ·simp only [Act.put, Lt, Lz, Ls, i64_w, i32_w]
                          rfl
                         refine pure_ (i := 12) (N := some 81) (v := ?_) (a' := ?_) #[true, true, true, true, true, true, true, true, true, true, false, true, true, false, false, false, false] rfl rfl (any_of HT_.out (by kernel_rfl)) (fun _ _ _ h => h) (Or.inl ⟨by rfl, ?_⟩) ?_ ?_
                         rotate_left
                         ·intro w'
                          go_simp
                          with_reducible rfl
                         rotate_left
                         ·simp only [Act.put, Lt, Lz, Ls, i64_w, i32_w]
                          rfl
                         refine pure_ (i := 13) (N := some 82) (v := ?_) (a' := ?_) #[true, true, true, true, true, true, true, true, true, true, false, true, true, true, false, false, false] rfl rfl (any_of HT_.out (by kernel_rfl)) (fun _ _ _ h => h) (Or.inl ⟨by rfl, ?_⟩) ?_ ?_
                         rotate_left
                         ·intro w'
                          go_simp
                          with_reducible rfl
                         rotate_left
                         ·simp only [Act.put, Lt, Lz, Ls, i64_w, i32_w]
                          rfl
                         refine take_ (i := 10) (N := some 79) (v := ?_) (a' := ?_) #[true, true, true, true, true, true, true, true, true, true, true, true, true, true, false, false, false] rfl rfl (take_ofW HT_.out HW_.out (by kernel_rfl)) (fun _ _ _ h => h) (Or.inl ⟨by rfl, ?_⟩) hHeld ?_ ?_
                         rotate_left
                         ·rintro w' ⟨s0, s1⟩
                          go_simp
                          with_reducible rfl
                         rotate_left
                         ·simp only [Act.put, Lt, Lz, Ls, i64_w, i32_w]
                          rfl
                         refine take_ (i := 14) (N := some 83) (v := ?_) (a' := ?_) #[true, true, true, true, true, true, true, true, true, true, true, true, true, true, true, false, false] rfl rfl (take_ofW HT_.out HW_.out (by kernel_rfl)) (fun _ _ _ h => h) (Or.inl ⟨by rfl, ?_⟩) hHeld ?_ ?_
                         rotate_left
                         ·rintro w' ⟨s0, s1⟩
                          go_simp
                          with_reducible rfl
                         rotate_left
                         ·simp only [Act.put, Lt, Lz, Ls, i64_w, i32_w]
                          rfl
                         refine pure_ (i := 15) (N := some 84) (v := ?_) (a' := ?_) #[true, true, true, true, true, true, true, true, true, true, true, true, true, true, true, true, false] rfl rfl (any_of HT_.out (by kernel_rfl)) (fun _ _ _ h => h) (Or.inl ⟨by rfl, ?_⟩) ?_ ?_
                         rotate_left
                         ·intro w'
                          go_simp
                          with_reducible rfl
                         rotate_left
                         ·simp only [Act.put, Lt, Lz, Ls, i64_w, i32_w]
                          rfl
                         refine pure_ (i := 16) (N := some 85) (v := ?_) (a' := ?_) #[true, true, true, true, true, true, true, true, true, true, true, true, true, true, true, true, true] rfl rfl (any_of HT_.out (by kernel_rfl)) (fun _ _ _ h => h) (Or.inl ⟨by rfl, ?_⟩) ?_ ?_
                         rotate_left
                         ·intro w'
                          go_simp
                          with_reducible rfl
                         rotate_left
                         ·simp only [Act.put, Lt, Lz, Ls, i64_w, i32_w]
                          rfl
                         refine done_ (done_of HT_.out (by kernel_rfl)) ?_
                         try go_wp2
                         go_roundg k4
                         case measure => have := HJ4.out; have := HK2.out; have := HK3.out; have := HK4.out; omega
                         case rel => exact ⟨(wrap64 (x65_4 + 1)), (by first | rfl | (simp; done) | (simp [*]; done)), H', ⟨by have := HJ4.out; have := HK2.out; have := HK3.out; have := HK4.out; omega⟩, ⟨by (with_reducible repeat (first | apply Ra | apply Rn | apply Rd)); exact Kd.R_mono HO_9.out (fun _ hk => trivial)⟩, ⟨by (with_reducible repeat (first | refine Kn ?_ _ | refine Ke ?_ | refine Ka ?_ _)); exact BK149.out⟩, ⟨by repeat (first | (with_reducible first | exact HB.out | apply Ba | apply Bn | apply Bd | refine Bs ?_ GE149.out) | exact HB.out)⟩⟩
                       ·rw [if_neg c48] at H
                        exact absurd H (by simp)
                      ·rw [if_neg c47] at H
                       exact absurd H (by simp)
                     ·rw [if_neg c46] at H
                      exact absurd H (by simp)
                    ·rw [if_neg c45] at H
                     exact absurd H (by simp)
                  ·rw [if_neg c38] at H
                   exact absurd H (by simp)
                 ·rw [if_neg c37] at H
                  exact absurd H (by simp)
                ·rw [if_neg c36] at H
                 have c36b0 : decide (x65_4 < ((rd_L1 l0 x58_3).length : Int)) = false := decide_eq_false c36
                 clear c36
                 have H' := Am H
                 clear H
                 go_wp2
                 go_roundg k4
                 case measure => have := HJ4.out; have := HK2.out; have := HK3.out; have := HK4.out; omega
                 case rel => exact ⟨(wrap64 (x58_3 + 1)), (by first | rfl | (simp; done) | (simp [*]; done)), H', ⟨by have := HJ4.out; have := HK2.out; have := HK3.out; have := HK4.out; omega⟩, ⟨by (with_reducible repeat (first | apply Ra | apply Rn | apply Rd)); exact HO_9.out⟩, ⟨by (with_reducible repeat (first | refine Kn ?_ _ | refine Ke ?_ | refine Ka ?_ _)); exact BK149.out⟩, ⟨by repeat (first | (with_reducible first | exact HB.out | apply Ba | apply Bn | apply Bd | refine Bs ?_ GE149.out) | exact HB.out)⟩⟩
             ·rw [if_neg c35] at H
              exact absurd H (by simp)
            ·rw [if_neg c34] at H
             exact absurd H (by simp)
           ·rw [if_neg c33] at H
            have c33b0 : decide (x58_3 < (l0.length : Int)) = false := decide_eq_false c33
            clear c33
            replace H := Option.bind_eq_some_iff.mp H
            obtain ⟨t160, A580, H⟩ := H
            replace H : (some (t160, true)) = some (r1, r2) := H
            have A58 := Am A580
            clear A580
            simp only [Option.some.injEq, Prod.mk.injEq] at H
            obtain ⟨rfl, rfl⟩ := H
            obtain ⟨Ao60, co60, eo60⟩ := Kd.R_slice HO_9.out
            subst eo60
            obtain ⟨cs, hcs, h2⟩ := Option.bind_eq_some_iff.1 A58.out
            clear A58
            by_cases hok : impl_order.ok cs l1 = true ∧ l1.length = x9_2.length
            case neg => rw [if_neg hok] at h2; cases h2
            rw [if_pos hok] at h2
            have h3 := Option.some.inj h2
            clear h2
            obtain ⟨hcl, hV, hG⟩ := impl_order.okE hok.1
            have HCS := Am hcs
            have HV := Am hV
            have HGR := Am hG
            have HKL := Am hok.2
            have HF : Ad (cs.all (impl_IsOrder_tail.ck l1 x9_2) = t160) := ⟨h3⟩
            clear hok hcs hV hG h3
            have HO : Ad (Kd.R (Kd.int .i64) 3 wr w.heap.size (fun _ => True) (.slice Ao60 x9_2.length co60) x9_2) := ⟨Kd.R_mono HO_9.out (fun _ _ => trivial)⟩
            clear HO_9
            go_wp2_with fail
            refine (impl_components.calls k3 A0 c0 l0 cs wr (Kd.C_below HR0.out HB.out) HC0.out HCS.out).mono ?_
            rintro e w2 ⟨vg, rfl, hS, hb⟩
            obtain ⟨ps, hpc, hh, hw⟩ := Kd.S_rows hS
            subst hpc
            rw [List.length_map] at hcl
            have hbz := HB.out.size
            have HN2 : Ad (∀ p ∈ ps, NeRow (hdV p.1) (.slice Ao60 x9_2.length co60)) := ⟨fun p hp k1 hk1 he1 => by have h1 := Kd.R_base (hw.row p hp) k1 hk1; have h2 := Kd.R_lt HO.out k1 he1; omega⟩
            have HO2 := Am (Kd.R_below HO.out hb)
            have BX2 := Am (Kb BK149.out hb)
            have HB2 := Am (below_then HB.out HB.out.size hb)
            have HL2 := Am (Kd.R_lower hh hbz)
            have HW2 := Am (hw.lower hbz)
            obtain ⟨A10, c10, e10⟩ := Kd.R_slice hh
            rw [List.length_map] at e10
            subst e10
            clear hS hh hw hb HO BK149 HB hbz
            go_wp2
            go_loopg [91] ps.length (fun gg v91 wr => ∃ (i : Nat) (qs : List (Hd × List Int)), i ≤ ps.length ∧ ps.length - i ≤ gg ∧ v91 = .int .i64 i ∧ Ad (((ps.map (·.2)).drop i).all (impl_IsOrder_tail.ck l1 x9_2) = t160) ∧ Ad (qs.map (·.1) = ps.map (·.1)) ∧ Ad ((qs.map (·.2)).drop i = (ps.map (·.2)).drop i) ∧ Ad (Kd.Rows (Kd.int .i64) 3 wr w.heap.size qs) ∧ Ad (∀ p ∈ qs, NeRow (hdV p.1) (.slice Ao60 x9_2.length co60)) ∧ Ad (Kd.hd.R 23 wr w.heap.size (fun _ => True) (.slice A10 ps.length c10) (ps.map (·.1))) ∧ Ad (Kd.R (Kd.int .i64) 3 wr w.heap.size (fun _ => True) (.slice Ao60 x9_2.length co60) x9_2) ∧ Ad (wr.heap[gb149]? = some (.cells #[.slice A1 l1.length c1] 23 (0, 0))) ∧ Ad (Below w.heap.size w wr))
            case atStart => exact ⟨0, ps, Nat.zero_le _, by omega, by first | rfl | simp, ⟨by simpa using HF.out⟩, ⟨rfl⟩, ⟨rfl⟩, HW2, HN2, HL2, HO2, BX2, HB2⟩
            case round =>
             clear HW2 HN2 HL2 HO2 BX2 HB2 HF
             obtain ⟨i, qs, hi, hgg, rfl, HE, HQ, HD, HW, HN, HL, HO, BX, HB⟩ := hrel
             have hql : qs.length = ps.length := by have h1 := congrArg List.length HQ.out; simpa using h1
             have HQL := Am hql
             clear hql
             by_cases hlt : i < ps.length
             ·have hltz : (i : Int) < (ps.length : Int) := by omega
              have h0z : (0 : Int) ≤ (i : Int) := by omega
              have hl2 : Kd.hd.R 23 wr w.heap.size (fun _ => True) (.slice A10 ps.length c10) (qs.map (·.1)) := by rw [HQ.out]; exact HL.out
              obtain ⟨ad10, B, cB, x, rfl, hx, hp, hxe, hxc, hC⟩ := Kd.pair_at hl2 (fun p hp => HW.out.row p hp) i (by rw [HQL.out]; exact hlt)
              have hdr : (ps.map (·.2)).drop i = x :: (ps.map (·.2)).drop (i + 1) := by
               have h1 := Mine.drop_at (ps.map (·.2)) ([] : List Int) i (by rw [List.length_map]; exact hlt)
               have h2 : (ps.map (·.2)).getD i [] = x := by
                rw [← hxe, List.getD_eq_getElem?_getD, List.getD_eq_getElem?_getD, ← Nat.add_zero i, ← List.getElem?_drop, ← List.getElem?_drop, HD.out]
               rw [h2] at h1
               exact h1
              have hdq : (qs.map (·.2)).drop (i + 1) = (ps.map (·.2)).drop (i + 1) := by rw [← List.drop_drop, ← List.drop_drop, HD.out]
              have hxm : x ∈ ps.map (·.2) := List.mem_of_mem_drop (i := i) (by rw [hdr]; exact List.mem_cons_self ..)
              obtain ⟨hne, hxl, hxr, hxi⟩ := HGR.out x hxm
              have HP := Am hp
              have HDQ := Am hdq
              have HXR := Am hxr
              have HXI := Am hxi
              have HE2 : Ad ((impl_IsOrder_tail.ck l1 x9_2 x && ((ps.map (·.2)).drop (i + 1)).all (impl_IsOrder_tail.ck l1 x9_2)) = t160) := ⟨by have h1 := HE.out; rw [hdr, List.all_cons] at h1; exact h1⟩
              have hRx := HW.out.row _ (List.mem_iff_getElem?.2 ⟨i, hp⟩)
              obtain ⟨gx, cx, ex, hgx0, hgx1, cells, hcx⟩ := Kd.R_form hRx (List.length_pos_iff.2 hne)
              injection ex with ex1 ex2 ex3
              subst ex1
              subst ex3
              have HX := Am hRx
              have HXN := Am hne
              clear hl2 hxe hxc hC hdr hdq hxm hne hxr hxi hRx hgx0 hgx1 hcx HD HE
              clear hp
              obtain ⟨m, hm⟩ : ∃ m, l1.length = m + 1 := by
               cases x with
               | nil => exact absurd rfl HXN.out
               | cons y ys => have := HXR.out y (List.mem_cons_self ..); exact ⟨l1.length - 1, by omega⟩
              have HM := Am hm
              clear hm
              go_wp2_with fail
              have hmz : (l1.length : Int) = (m : Int) + 1 := by have := HM.out; omega
              have hown : ∀ k1, some gx = some k1 → w.heap.size ≤ k1 := fun k1 hk => Kd.R_base HX.out k1 hk
              refine (slices_SortFunc_int_int.sort m 61 #[.pointer (some ⟨gb149, 0, none⟩)] (rd l1) gx cB w.heap.size x (fun _ => True) wr (fun args w => enters_ Try.func61 (by kernel_rfl) rfl args w) HX.out (fun p hp => by have := HXR.out p hp; omega) hxl (fun W hW x y hx0 hx1 hy0 hy1 => impl_IsOrder_1.calls x y gb149 A1 c1 l1 (rd l1 x - rd l1 y) W (Kd.C_below HR1.out (pw_below_grown HB.out _ HB.out.size hW hown)) HC1.out (blk_grown BX.out hW (Kd.R_ne HX.out BX.out (by decide))) (impl_IsOrder_tail.cmp l1 HV.out x y hx0 (by omega) hy0 (by omega)))).mono ?_
              rintro e w3 ⟨rfl, ys, hyp, hys, hR, hg⟩
              have he := impl_order.uniq hyp hys HXI.out
              subst he
              have hlen : (impl_order.srt l1 x).length = x.length := (impl_order.srt_perm l1 x).length_eq
              have hmem : ∀ p ∈ impl_order.srt l1 x, 0 ≤ p ∧ p < (x9_2.length : Int) := fun p hp => by have h1 := HXR.out p ((impl_order.srt_perm l1 x).mem_iff.1 hp); have h2 := HKL.out; omega
              have hpos : 0 < x.length := List.length_pos_iff.2 HXN.out
              obtain ⟨hw3, hq3⟩ := impl_order.wrote HW.out HP.out hg hR
              have HN3 : Ad (∀ p ∈ qs.set i ((some ⟨gx, 0, none⟩, x.length, cB), impl_order.srt l1 x), NeRow (hdV p.1) (.slice Ao60 x9_2.length co60)) := ⟨fun p hpm => by
               have h1 : p.1 ∈ qs.map (·.1) := by rw [← hq3]; exact List.mem_map_of_mem hpm
               obtain ⟨q, hq, he⟩ := List.mem_map.1 h1
               rw [← he]
               exact HN.out q hq⟩
              have hnx : NeRow (.slice (some ⟨gx, 0, none⟩) x.length cB) (.slice Ao60 x9_2.length co60) := HN.out _ (List.mem_iff_getElem?.2 ⟨i, HP.out⟩)
              have HW3 := Am hw3
              have HQ3 := Am (hq3.trans HQ.out)
              have HL3 := Am (Kd.R_over HL.out HX.out (by decide) hg)
              have HO3 := Am (Kd.R_grown2 HO.out rfl hg (fun k1 hk he => hnx k1 hk he.symm))
              have BX3 := Am (blk_grown BX.out hg (Kd.R_ne HX.out BX.out (by decide)))
              have HB3 := Am (pw_below_grown HB.out _ HB.out.size hg hown)
              have HXC : Ad (Kd.C (Kd.int .i64) w3 (some ⟨gx, 0, none⟩) x.length (impl_order.srt l1 x)) := ⟨by have h1 := (Kd.R_reads' hR).2.2; rw [hlen] at h1; exact h1⟩
              have HAC : Ad (Kd.C (Kd.int .i64) w3 Ao60 x9_2.length x9_2) := ⟨(Kd.R_reads' HO3.out).2.2⟩
              have HLN := Am hlen
              have HMM := Am hmem
              have HE3 : Ad ((impl_IsOrder_tail.in3 x9_2 (rd x9_2 (rd (impl_order.srt l1 x) 0)) (impl_order.srt l1 x) 0 && ((ps.map (·.2)).drop (i + 1)).all (impl_IsOrder_tail.ck l1 x9_2)) = t160) := HE2
              clear HE2
              generalize impl_order.srt l1 x = ys at *
              clear hyp hys hR hg hw3 hq3 hnx hlen hmem hown hmz HW HN HL HO BX HB HX HQ hx HXN HXR HXI
              obtain ⟨ad0, e0, h00⟩ := Kd.at_int HXC.out 0 (by omega) (by omega)
              have hm0 : 0 ≤ rd ys 0 ∧ rd ys 0 < (x9_2.length : Int) := HMM.out _ (Mine.getD_mem ys 0 (0 : Int).toNat (by have := HLN.out; simp; omega))
              injection e0 with e0
              subst e0
              obtain ⟨adT, eT, hT0⟩ := Kd.at_int HAC.out (rd ys 0) hm0.1 hm0.2
              subst eT
              go_wp2
              go_loopg [100] x.length (fun gg2 v100 wr2 => ∃ j : Nat, j ≤ x.length ∧ x.length - j ≤ gg2 ∧ v100 = .int .i64 j ∧ Ad ((impl_IsOrder_tail.in3 x9_2 (rd x9_2 (rd ys 0)) (ys.drop j) j && ((ps.map (·.2)).drop (i + 1)).all (impl_IsOrder_tail.ck l1 x9_2)) = t160) ∧ Drawn0 w3 wr2)
              case atStart => exact ⟨0, Nat.zero_le _, by omega, by first | rfl | simp, ⟨by simpa using HE3.out⟩, by repeat (first | exact Drawn0.refl _ | apply Drawn0.step)⟩
              case round =>
               clear HE3
               obtain ⟨j, hj, hgg2, rfl, HJ, ⟨m1, rfl⟩⟩ := hrel
               by_cases hjt : j < x.length
               ·have hjz : (j : Int) < (x.length : Int) := by omega
                have hj0 : (0 : Int) ≤ (j : Int) := by omega
                obtain ⟨adx, ex, hxj⟩ := Kd.at_int HXC.out (j : Int) (by omega) (by omega)
                injection ex with ex
                subst ex
                have hjl : j < ys.length := by have := HLN.out; omega
                have hmj : 0 ≤ rd ys (j : Int) ∧ rd ys (j : Int) < (x9_2.length : Int) := HMM.out _ (Mine.getD_mem ys 0 (j : Int).toNat (by simpa using hjl))
                obtain ⟨adT2, eT2, hTj⟩ := Kd.at_int HAC.out (rd ys (j : Int)) hmj.1 hmj.2
                injection eT2 with eT2
                subst eT2
                have hmj1 := hmj.1
                have hmj2 := hmj.2
                have hm01 := hm0.1
                have hm02 := hm0.2
                have HJ2 : Ad (((decide (rd x9_2 (rd ys (j : Int)) = wrap64 (rd x9_2 (rd ys 0) + (j : Int))) && impl_IsOrder_tail.in3 x9_2 (rd x9_2 (rd ys 0)) (ys.drop (j + 1)) (j + 1)) && ((ps.map (·.2)).drop (i + 1)).all (impl_IsOrder_tail.ck l1 x9_2)) = t160) := ⟨by
                 have h1 := HJ.out
                 rw [Mine.drop_at ys 0 j hjl] at h1
                 exact h1⟩
                clear HJ
                have hxj' : (w3.drewN m1).cell? ⟨gx, j, none⟩ = some (.int .i64 (rd ys (j : Int))) := by rw [← impl_IsOrder_tail.addz gx j]; exact hxj
                have h00w : w3.cell? ⟨gx, 0, none⟩ = some (.int .i64 (rd ys 0)) := h00
                have h00' : (w3.drewN m1).cell? ⟨gx, 0, none⟩ = some (.int .i64 (rd ys 0)) := h00
                have hT0' : (w3.drewN m1).cell? (Addr.add adT (rd ys 0).toNat) = some (.int .i64 (rd x9_2 (rd ys 0))) := hT0
                have hTj' : (w3.drewN m1).cell? (Addr.add adT (rd ys (j : Int)).toNat) = some (.int .i64 (rd x9_2 (rd ys (j : Int)))) := hTj
                have hpx0 : (0 : Int) < (x.length : Int) := by omega
                by_cases hc : rd x9_2 (rd ys (j : Int)) = wrap64 (rd x9_2 (rd ys 0) + (j : Int))
                ·have hcb : (rd x9_2 (rd ys (j : Int)) != wrap64 (rd x9_2 (rd ys 0) + (j : Int))) = false := bne_eq_false_iff_eq.mpr hc
                 have HJ3 : Ad ((impl_IsOrder_tail.in3 x9_2 (rd x9_2 (rd ys 0)) (ys.drop (j + 1)) (j + 1) && ((ps.map (·.2)).drop (i + 1)).all (impl_IsOrder_tail.ck l1 x9_2)) = t160) := ⟨by have h1 := HJ2.out; rw [decide_eq_true hc, Bool.true_and] at h1; exact h1⟩
                 clear HJ2 hc
                 go_wp2
                 go_quiet (fail)
                 go_wp2
                 go_roundg (x.length - (j + 1))
                 case measure => omega
                 case rel => exact ⟨j + 1, by omega, by omega, by go_num, HJ3, by repeat (first | exact Drawn0.refl _ | apply Drawn0.step)⟩
                ·have hcb : (rd x9_2 (rd ys (j : Int)) != wrap64 (rd x9_2 (rd ys 0) + (j : Int))) = true := bne_iff_ne.mpr hc
                 have h9 : t160 = false := by have h1 := HJ2.out; rw [decide_eq_false hc, Bool.false_and, Bool.false_and] at h1; exact h1.symm
                 subst h9
                 clear HJ2 hc
                 go_wp2
                 go_quiet (fail)
                 go_wp2
                 go_ret2
                 exact ⟨by first | rfl | simp, by repeat (first | exact HB3.out | apply Bn | apply Bd)⟩
               ·obtain rfl : j = x.length := by omega
                have hjz : ¬ (x.length : Int) < (x.length : Int) := by omega
                have HE4 : Ad (((ps.map (·.2)).drop (i + 1)).all (impl_IsOrder_tail.ck l1 x9_2) = t160) := ⟨by
                 have h1 := HJ.out
                 rw [List.drop_eq_nil_of_le (by have := HLN.out; omega)] at h1
                 exact h1⟩
                clear HJ
                go_wp2
                go_roundg (ps.length - (i + 1))
                case measure => omega
                case rel => exact ⟨i + 1, qs.set i ((some ⟨gx, 0, none⟩, x.length, cB), ys), by omega, by omega, by go_num, HE4, HQ3, ⟨by rw [List.map_set, List.drop_set_of_lt (by omega)]; exact HDQ.out⟩, ⟨by repeat (first | exact HW3.out | apply impl_IsOrder_tail.rowsN)⟩, HN3, ⟨by repeat (first | exact HL3.out | apply Rn | apply Rd)⟩, ⟨by repeat (first | exact HO3.out | apply Rn | apply Rd)⟩, ⟨by repeat (first | exact BX3.out | refine Kn ?_ _ | refine Ke ?_)⟩, ⟨by repeat (first | exact HB3.out | apply Bn | apply Bd)⟩⟩
             ·obtain rfl : i = ps.length := by omega
              have hltz : ¬ (ps.length : Int) < (ps.length : Int) := by omega
              have h9 : t160 = true := by
               have h1 := HE.out
               rw [List.drop_eq_nil_of_le (by rw [List.length_map]; exact Nat.le_refl _)] at h1
               simpa using h1.symm
              subst h9
              go_wp2
              go_ret2
              exact ⟨by first | rfl | simp, HB.out⟩
     ·rw [if_neg c22] at H
      exact absurd H (by simp)
    ·rw [if_neg c21] at H
     exact absurd H (by simp)
end Go.Proofs.Ytpboalgecejoeaa.QFnOrders
