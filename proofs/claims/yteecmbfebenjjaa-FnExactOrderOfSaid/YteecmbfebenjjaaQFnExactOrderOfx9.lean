-- Written by a program of this session (wip/mk.py) over the kit's print: Lean checks it.
import Derived.Test.YteecmbfebenjjaaQFnExactOrderOfx0
import Derived.Test.YteecmbfebenjjaaQFnExactOrderOfx6
import Derived.Test.YteecmbfebenjjaaQFnExactOrderOfx8
namespace Go.Proofs.Yteecmbfebenjjaa.QFnExactOrderOf
open Go.Proofs.YteecmbfebenjjaaW.PrintWords.Kd renaming R_alloc → Ra, R_drewN → Rn, R_drew → Rd
open Go.Proofs.YteecmbfebenjjaaW.PrintWords renaming below_alloc → Ba, pw_below_drewN → Bn, below_drew1 → Bd, below_size → Bz, below_step → Bt, gate_dst → Gd, gate_callee → Gc, blk_below → Kb, blk_cell → Kc, blk_frozen → Kz
open Go.Proofs.YteecmbfebenjjaaW.PrintWords.Aside0 renaming mk → Am
open Go.Proofs.YteecmbfebenjjaaW.PrintWords renaming Aside0 → Ad
open Go.RowKit Go.Proofs.YteecmbfebenjjaaW.PrintWords Go.Proofs.YteecmbfebenjjaaW.PrintLast Go.Proofs.YteecmbfebenjjaaW.PrintMore
attribute [local go_sem] max2_int min2_int max_two min_two max_three min_three max_four min_four   -- for this text's walks alone
set_option linter.unusedVariables false
set_option linter.unusedSimpArgs false
def slices_SortFunc_int_int.lay_ren : Go.Shelf.Ren := ⟨fun | 6 => 125 | 15 => 173 | 14 => 172 | 28 => 194 | 29 => 195 | 20 => 186 | 21 => 187 | 22 => 188 | 23 => 189 | 24 => 190 | 25 => 191 | 26 => 192 | 27 => 193 | 46 => 207 | 47 => 208 | 48 => 209 | 49 => 210 | 50 => 211 | 57 => 216 | n => n, fun | 22 => 24 | 24 => 3 | 25 => 131 | 3 => 3 | 39 => 136 | 0 => 0 | 53 => 158 | 55 => 89 | 4 => 4 | 46 => 170 | 45 => 169 | 50 => 36 | 5 => 5 | 9 => 9 | 66 => 182 | 70 => 186 | 76 => 190 | 77 => 111 | n => n, fun | n => n⟩
theorem slices_SortFunc_int_int.lay : Go.Proofs.SlLaysF.n6 Try.prog slices_SortFunc_int_int.lay_ren := {
 mixed := by kernel_rfl
 f6 := ⟨Try.f125.name, by decide, Try.func125.trans (congrArg some (by kernel_rfl))⟩
 f14 := ⟨Try.f172.name, by decide, Try.func172.trans (congrArg some (by kernel_rfl))⟩
 f15 := Try.func173.trans (congrArg some (by kernel_rfl))
 f20 := ⟨Try.f186.name, by decide, Try.func186.trans (congrArg some (by kernel_rfl))⟩
 f21 := ⟨Try.f187.name, by decide, Try.func187.trans (congrArg some (by kernel_rfl))⟩
 f22 := ⟨Try.f188.name, by decide, Try.func188.trans (congrArg some (by kernel_rfl))⟩
 f23 := ⟨Try.f189.name, by decide, Try.func189.trans (congrArg some (by kernel_rfl))⟩
 f24 := ⟨Try.f190.name, by decide, Try.func190.trans (congrArg some (by kernel_rfl))⟩
 f25 := ⟨Try.f191.name, by decide, Try.func191.trans (congrArg some (by kernel_rfl))⟩
 f26 := ⟨Try.f192.name, by decide, Try.func192.trans (congrArg some (by kernel_rfl))⟩
 f27 := ⟨Try.f193.name, by decide, Try.func193.trans (congrArg some (by kernel_rfl))⟩
 f28 := Try.func194.trans (congrArg some (by kernel_rfl))
 f29 := Try.func195.trans (congrArg some (by kernel_rfl))
 f46 := ⟨Try.f207.name, by decide, Try.func207.trans (congrArg some (by kernel_rfl))⟩
 f47 := Try.func208.trans (congrArg some (by kernel_rfl))
 f48 := Try.func209.trans (congrArg some (by kernel_rfl))
 f49 := ⟨Try.f210.name, by decide, Try.func210.trans (congrArg some (by kernel_rfl))⟩
 f50 := ⟨Try.f211.name, by decide, Try.func211.trans (congrArg some (by kernel_rfl))⟩
 f57 := ⟨Try.f216.name, by decide, Try.func216.trans (congrArg some (by kernel_rfl))⟩
 t0 := Try.underlying0
 a0 := Try.isAgg0
 z0 := Try.sizeOf0
 v0 := Try.zeroValue0
 t3 := Try.underlying3
 a3 := Try.isAgg3
 z3 := Try.sizeOf3
 v3 := Try.zeroValue3
 t4 := Try.underlying4
 a4 := Try.isAgg4
 z4 := Try.sizeOf4
 v4 := Try.zeroValue4
 t5 := Try.underlying5
 a5 := Try.isAgg5
 z5 := Try.sizeOf5
 v5 := Try.zeroValue5
 t9 := Try.underlying9
 a9 := Try.isAgg9
 z9 := Try.sizeOf9
 v9 := Try.zeroValue9
 t22 := Try.underlying24
 a22 := Try.isAgg24
 z22 := Try.sizeOf24
 v22 := Try.zeroValue24
 a24 := Try.isAgg3
 z24 := Try.sizeOf3
 t25 := Try.underlying131
 a25 := Try.isAgg131
 z25 := Try.sizeOf131
 v25 := Try.zeroValue131
 t39 := Try.underlying136
 a39 := Try.isAgg136
 z39 := Try.sizeOf136
 v39 := Try.zeroValue136
 t45 := Try.underlying169
 a45 := Try.isAgg169
 z45 := Try.sizeOf169
 v45 := Try.zeroValue169
 t46 := Try.underlying170
 a46 := Try.isAgg170
 z46 := Try.sizeOf170
 v46 := Try.zeroValue170
 t50 := Try.underlying36
 a50 := Try.isAgg36
 z50 := Try.sizeOf36
 v50 := Try.zeroValue36
 t53 := Try.underlying158
 a53 := Try.isAgg158
 z53 := Try.sizeOf158
 v53 := Try.zeroValue158
 t55 := Try.underlying89
 a55 := Try.isAgg89
 z55 := Try.sizeOf89
 v55 := Try.zeroValue89
 t66 := Try.underlying182
 a66 := Try.isAgg182
 z66 := Try.sizeOf182
 v66 := Try.zeroValue182
 t70 := Try.underlying186
 a70 := Try.isAgg186
 z70 := Try.sizeOf186
 v70 := Try.zeroValue186
 t76 := Try.underlying190
 a76 := Try.isAgg190
 z76 := Try.sizeOf190
 v76 := Try.zeroValue190
 t77 := Try.underlying111
 a77 := Try.isAgg111
 z77 := Try.sizeOf111
 v77 := Try.zeroValue111 }
section
open Go.RowKit
theorem slices_SortFunc_int_int.cells {m : Nat} (d : Array (Fin (m + 1))) (cur : Array Value) : Go.Sort.putCells (fun i : Fin (m + 1) => Value.int .i64 (i.val : Int)) 0 d cur = Go.Sort.putCells (Value.int .i64) 0 (d.toList.map fun i : Fin (m + 1) => (i.val : Int)).toArray cur := by
 apply Array.ext_getElem?
 intro k
 simp only [Go.Sort.putCells, Array.getElem?_mapIdx]
 cases cur[k]? with
 | none => rfl
 | some x =>
  simp only [Option.map_some, List.size_toArray, List.length_map, Array.length_toList]
  by_cases h : 0 ≤ k ∧ k < 0 + d.size
  ·rw [if_pos h, if_pos h]
   have hk : k < d.size := by omega
   simp [hk]
  ·rw [if_neg h, if_neg h]
theorem slices_SortFunc_int_int.world {m : Nat} (w : World) (blk n : Nat) (d : Array (Fin (m + 1))) (os : Array Obj) : sortWorld (fun i : Fin (m + 1) => Value.int .i64 (i.val : Int)) w blk 0 n d os = Go.Sort.grow (Go.Sort.putRow (Value.int .i64) (Go.Sort.ahead w n) blk 0 (d.toList.map fun i : Fin (m + 1) => (i.val : Int)).toArray) os := by
 unfold sortWorld Go.Sort.putRow
 rw [show Go.Sort.putCells (fun i : Fin (m + 1) => Value.int .i64 (i.val : Int)) 0 d = Go.Sort.putCells (Value.int .i64) 0 (d.toList.map fun i : Fin (m + 1) => (i.val : Int)).toArray from funext (slices_SortFunc_int_int.cells d)]
set_option maxHeartbeats 8000000 in
set_option maxRecDepth 100000 in
theorem slices_SortFunc_int_int.sort (m g : Nat) (cb : Array Value) (key : Int → Int) (blk cap base : Nat) (xs : List Int) (ok : Nat → Prop) (w : World)
  (eg : ∀ args w, (callFunc g args).run Try.prog w = .ok (.enter g args) w)
  (hR : Kd.R (Kd.int .i64) 3 w base ok (.slice (some ⟨blk, 0, none⟩) xs.length cap) xs) (hin : ∀ x ∈ xs, 0 ≤ x ∧ x < (m : Int) + 1) (hsz : xs.length ≤ 1000)
  (hcmp : ∀ W : World, w.grownBy W (some blk) → ∀ x y : Int, 0 ≤ x → x < (m : Int) + 1 → 0 ≤ y → y < (m : Int) + 1 → Calls Try.prog g (#[.int .i64 x, .int .i64 y] ++ cb) W fun e w' => e = .returned (.int .i64 (key x - key y)) ∧ Drawn0 W w') :
  Calls Try.prog 125 #[.slice (some ⟨blk, 0, none⟩) xs.length cap, .func (.func g) #[] cb] w fun e w' => e = .returned (.tuple #[]) ∧ ∃ ys : List Int, ys.Perm xs ∧ ys.Pairwise (fun a b => key a ≤ key b) ∧ Kd.R (Kd.int .i64) 3 w' base ok (.slice (some ⟨blk, 0, none⟩) xs.length cap) ys ∧ w.grownBy w' (some blk) := by
 have hblk : blk < w.heap.size := Kd.R_lt hR blk rfl
 have hg : ∀ (n : Nat) (d : Array Int) (os : Array Obj), w.grownBy (Go.Sort.grow (Go.Sort.putRow (Value.int .i64) (Go.Sort.ahead w n) blk 0 d) os) (some blk) := fun n d os => grownBy_sortedI d
 let toF : Int → Fin (m + 1) := fun x => ⟨x.toNat % (m + 1), Nat.mod_lt _ (Nat.succ_pos m)⟩
 have htoF : ∀ x : Int, 0 ≤ x → x < (m : Int) + 1 → ((toF x).val : Int) = x := fun x h0 h1 => by
  show ((x.toNat % (m + 1) : Nat) : Int) = x
  rw [Nat.mod_eq_of_lt (by omega)]
  omega
 have hback : ((xs.map toF).map fun i : Fin (m + 1) => (i.val : Int)) = xs := by
  rw [List.map_map]
  conv => rhs; rw [← List.map_id xs]
  exact List.map_congr_left (fun x hx => htoF x (hin x hx).1 (hin x hx).2)
 have hH : Go.Sort.Holds (fun i : Fin (m + 1) => Value.int .i64 (i.val : Int)) w blk 0 (xs.map toF).toArray := by
  intro j hj
  have hj' : j < xs.length := by simpa using hj
  obtain ⟨h1, h2⟩ := Kd.R_celln 0 hR (j : Int) (by omega) (by omega)
  rw [Int.toNat_natCast] at h1 h2
  rw [Nat.zero_add]
  refine ⟨?_, h2⟩
  rw [h1]
  unfold rdOf
  rw [Int.toNat_natCast]
  have e1 : ((xs.map toF).toArray)[j]! = toF xs[j] := by simp [hj']
  show _ = some (Value.int .i64 ((((xs.map toF).toArray)[j]!).val : Int))
  rw [e1, htoF _ (hin _ (List.getElem_mem hj')).1 (hin _ (List.getElem_mem hj')).2, List.getD_eq_getElem?_getD, List.getElem?_eq_getElem hj']
  rfl
 have hO : Go.Sort.SWO (ltOf fun x y : Fin (m + 1) => key (x.val : Int) - key (y.val : Int)) := {
  irrefl := fun x => by unfold ltOf; simp
  trans := fun x y z h1 h2 => by unfold ltOf at *; simp at *; omega
  ntrans := fun x y z h1 h2 => by unfold ltOf at *; simp at *; omega }
 have hcon := Any.slices_SortFunc slices_SortFunc_int_int.lay (fun i : Fin (m + 1) => Value.int .i64 (i.val : Int)) (fun _ => rfl) (fun x y => key (x.val : Int) - key (y.val : Int)) hO g cb blk 0 cap (xs.map toF).toArray w eg
  (fun n os dk _ x y => by
   rw [slices_SortFunc_int_int.world]
   refine (hcmp _ (hg n _ os) (x.val : Int) (y.val : Int) (by omega) (by have := x.isLt; omega) (by omega) (by have := y.isLt; omega)).mono ?_
   rintro e w' ⟨rfl, hd⟩
   obtain ⟨q, rfl⟩ := hd.out
   exact ⟨rfl, q, #[], (Go.Sort.grow_empty _).symm⟩) hH hblk (by simp; omega)
 have hs : (xs.map toF).toArray.size = xs.length := by simp
 rw [hs] at hcon
 refine hcon.mono ?_
 rintro e w' ⟨rfl, d', n, os, hp, hsd, rfl⟩
 obtain ⟨p1, p2, p3⟩ := hp
 rw [hs] at p1
 rw [slices_SortFunc_int_int.world]
 refine ⟨rfl, d'.toList.map fun i : Fin (m + 1) => (i.val : Int), ?_, ?_, ?_, hg n _ os⟩
 ·rw [← p1, Array.extract_size, p1, ← hs, Array.extract_size] at p3
  have h1 := p3.map (fun i : Fin (m + 1) => (i.val : Int))
  rw [hback] at h1
  exact h1
 ·rw [List.pairwise_map, List.pairwise_iff_getElem]
  intro i j hi hj hij
  have hi' : i < d'.size := by simpa using hi
  have hj' : j < d'.size := by simpa using hj
  have h1 := hsd i j (Nat.zero_le _) hij (by omega)
  unfold ltOf at h1
  rw [getElem!_pos d' i hi', getElem!_pos d' j hj'] at h1
  simp at h1
  simp
  omega
 ·have ho := Kd.own_of_R hR
  rcases ho.2 with ⟨hv, _⟩ | ⟨g', c', cur, hv, hb, hh, hn, hm, hsz', ht⟩
  ·cases hv
  ·injection hv with ha _ hc
   injection ha with ha
   injection ha with ha
   subst ha
   subst hc
   have hlen : (d'.toList.map fun i : Fin (m + 1) => (i.val : Int)).length = xs.length := by simp [p1]
   have h2 := ownsRow_sortedI (n := n) (os := os) hlen hb hh hn hm hsz'
   refine Kd.R_of_own (enc := Value.int .i64) ?_ hR.1
   rw [hlen]
   exact h2
end
def impl_order_1.f (a0 : Int) (a1 : Int) (l2_0 : List Int) : Option (Int) := if 0 ≤ a0 then (if a0 < (l2_0.length : Int) then (if 0 ≤ a1 then (if a1 < (l2_0.length : Int) then (some (wrap64 ((rd l2_0 a0) - (rd l2_0 a1)))) else (none)) else (none)) else (none)) else (none)
set_option maxHeartbeats 8000000 in
set_option maxRecDepth 100000 in
theorem impl_order_1.calls (a0 : Int) (a1 : Int) (gq2 : Nat) (A2_0 : Option Addr) (c2_0 : Nat) (l2_0 : List Int) (r : Int) (w : World) (hr2_0 : Kd.C (Kd.int .i64) w A2_0 l2_0.length l2_0) (hc2_0 : l2_0.length ≤ c2_0) (hb2 : w.heap[gq2]? = some (.cells #[.slice A2_0 l2_0.length c2_0] 24 (0, 0))) (h : impl_order_1.f a0 a1 l2_0 = some r) :
  Calls Try.prog 168 #[.int .i64 a0, .int .i64 a1, .pointer (some ⟨gq2, 0, none⟩)] w fun e w' => e = .returned (.int .i64 r) ∧ Drawn0 w w' := by
 have HR2_0 := Am hr2_0
 have HC2_0 := Am hc2_0
 clear hr2_0 hc2_0
 have BK297 := Am hb2
 clear hb2
 have H : (if 0 ≤ a0 then (if a0 < (l2_0.length : Int) then (if 0 ≤ a1 then (if a1 < (l2_0.length : Int) then (some (wrap64 ((rd l2_0 a0) - (rd l2_0 a1)))) else (none)) else (none)) else (none)) else (none)) = some r := h
 clear h
 by_cases c4 : 0 ≤ a0
 ·rw [if_pos c4] at H
  have c4b0 : decide (0 ≤ a0) = true := decide_eq_true c4
  clear c4
  by_cases c5 : a0 < (l2_0.length : Int)
  ·rw [if_pos c5] at H
   have c5b0 : decide (a0 < (l2_0.length : Int)) = true := decide_eq_true c5
   clear c5
   by_cases c6 : 0 ≤ a1
   ·rw [if_pos c6] at H
    have c6b0 : decide (0 ≤ a1) = true := decide_eq_true c6
    clear c6
    by_cases c7 : a1 < (l2_0.length : Int)
    ·rw [if_pos c7] at H
     have c7b0 : decide (a1 < (l2_0.length : Int)) = true := decide_eq_true c7
     clear c7
     obtain rfl := Option.some.inj H
     have hcz8_0 : w.cell? ⟨gq2, 0, none⟩ = some (.slice A2_0 l2_0.length c2_0) := (Kc BK297.out 0).trans rfl
     have hfz8_0 := Kz BK297.out 0
     have p298 : 0 ≤ (a0 : Int) := of_decide_eq_true (by assumption)
     have q298 : a0 < (l2_0.length : Int) := of_decide_eq_true (by assumption)
     obtain ⟨ad298, e298, hx298_0⟩ := Kd.at_int HR2_0.out a0 p298 q298
     cases e298
     replace p298 := eq_true p298
     replace q298 := eq_true q298
     have p299 : 0 ≤ (a1 : Int) := of_decide_eq_true (by assumption)
     have q299 : a1 < (l2_0.length : Int) := of_decide_eq_true (by assumption)
     obtain ⟨ad299, e299, hx299_0⟩ := Kd.at_int HR2_0.out a1 p299 q299
     obtain rfl : ad298 = ad299 := (by injection e299)
     replace p299 := eq_true p299
     replace q299 := eq_true q299
     go_enter Try.func168, Try.ntmps168
     go_wp2
     repeat (go_quiet (fail); try go_wp2)
     go_ret
     exact ⟨by first | rfl | (simp; done) | (simp [*]; done), by repeat (first | exact Drawn0.refl _ | apply Drawn0.step)⟩
    ·rw [if_neg c7] at H
     exact absurd H (by simp)
   ·rw [if_neg c6] at H
    exact absurd H (by simp)
  ·rw [if_neg c5] at H
   exact absurd H (by simp)
 ·rw [if_neg c4] at H
  exact absurd H (by simp)
def impl_order.ins (key : List Int) (p : Int) : List Int → List Int
 | [] => [p]
 | q :: l => if rd key p ≤ rd key q then p :: q :: l else q :: impl_order.ins key p l
def impl_order.srt (key l : List Int) : List Int := l.foldr (impl_order.ins key) []
def impl_order.okc (key c : List Int) : Bool := decide (c ≠ []) && decide (c.length ≤ 1000) && c.all fun p => decide (0 ≤ p ∧ p < (key.length : Int)) && c.all fun q => decide (rd key p = rd key q → p = q)
def impl_order.ok (cs : List (List Int)) (key : List Int) : Bool := decide (cs.length ≤ 1000) && (key.all fun v => decide (0 ≤ v ∧ v ≤ 999999)) && cs.all (impl_order.okc key)
theorem impl_order.ins_perm (key : List Int) (p : Int) : ∀ l, (impl_order.ins key p l).Perm (p :: l)
 | [] => List.Perm.refl _
 | q :: l => by
  unfold impl_order.ins
  split
  ·exact List.Perm.refl _
  ·exact ((impl_order.ins_perm key p l).cons q).trans (List.Perm.swap p q l)
theorem impl_order.srt_perm (key : List Int) : ∀ l, (impl_order.srt key l).Perm l
 | [] => List.Perm.refl _
 | p :: l => (impl_order.ins_perm key p _).trans ((impl_order.srt_perm key l).cons p)
theorem impl_order.ins_le (key : List Int) (p : Int) : ∀ l : List Int, l.Pairwise (fun a b => rd key a ≤ rd key b) → (impl_order.ins key p l).Pairwise (fun a b => rd key a ≤ rd key b)
 | [], _ => List.pairwise_singleton _ _
 | q :: l, h => by
  obtain ⟨h1, h2⟩ := List.pairwise_cons.1 h
  unfold impl_order.ins
  split
  ·rename_i hle
   refine List.pairwise_cons.2 ⟨fun b hb => ?_, h⟩
   rcases List.mem_cons.1 hb with rfl | hb
   ·exact hle
   ·exact Int.le_trans hle (h1 b hb)
  ·rename_i hle
   refine List.pairwise_cons.2 ⟨fun b hb => ?_, impl_order.ins_le key p l h2⟩
   rcases List.mem_cons.1 ((impl_order.ins_perm key p l).mem_iff.1 hb) with rfl | hb
   ·omega
   ·exact h1 b hb
theorem impl_order.srt_le (key : List Int) : ∀ l, (impl_order.srt key l).Pairwise (fun a b => rd key a ≤ rd key b)
 | [] => List.Pairwise.nil
 | p :: l => impl_order.ins_le key p _ (impl_order.srt_le key l)
theorem impl_order.uniq {key ys xs : List Int} (hp : ys.Perm xs) (hs : ys.Pairwise (fun a b => rd key a ≤ rd key b)) (hi : ∀ p ∈ xs, ∀ q ∈ xs, rd key p = rd key q → p = q) : ys = impl_order.srt key xs :=
 List.Perm.eq_of_pairwise (fun a b ha hb h1 h2 => hi a (hp.mem_iff.1 ha) b ((impl_order.srt_perm key xs).mem_iff.1 hb) (by omega)) hs (impl_order.srt_le key xs) (hp.trans (impl_order.srt_perm key xs).symm)
theorem impl_order.okE {cs : List (List Int)} {key : List Int} (h : impl_order.ok cs key = true) : cs.length ≤ 1000 ∧ (∀ v ∈ key, 0 ≤ v ∧ v ≤ 999999) ∧ ∀ c ∈ cs, c ≠ [] ∧ c.length ≤ 1000 ∧ (∀ p ∈ c, 0 ≤ p ∧ p < (key.length : Int)) ∧ ∀ p ∈ c, ∀ q ∈ c, rd key p = rd key q → p = q := by
 unfold impl_order.ok impl_order.okc at h
 simp only [Bool.and_eq_true, decide_eq_true_eq, List.all_eq_true] at h
 exact ⟨h.1.1, h.1.2, fun c hc => ⟨(h.2 c hc).1.1, (h.2 c hc).1.2, fun p hp => ((h.2 c hc).2 p hp).1, fun p hp q hq he => (((h.2 c hc).2 p hp).2 q hq) he⟩⟩
theorem impl_order.wrote {W w1 : World} {base i : Nat} {qs : List (Hd × List Int)} {h : Hd} {x y : List Int} (hr : Kd.Rows (Kd.int .i64) 3 W base qs) (hi : qs[i]? = some (h, x)) (hg : W.grownBy w1 (hdV h).ownBlock) (hy : (Kd.int .i64).R 3 w1 base (fun _ => True) (hdV h) y) :
  Kd.Rows (Kd.int .i64) 3 w1 base (qs.set i (h, y)) ∧ (qs.set i (h, y)).map (·.1) = qs.map (·.1) := by
 obtain ⟨hil, hie⟩ := List.getElem?_eq_some_iff.1 hi
 have hm : (qs.set i (h, y)).map (·.1) = qs.map (·.1) := by
  rw [List.map_set]
  apply List.ext_getElem?
  intro j
  rw [List.getElem?_set]
  split
  ·rename_i hij
   subst hij
   rw [if_pos (by simpa using hil), List.getElem?_map, hi]
   rfl
  ·rfl
 refine ⟨⟨fun p hp => ?_, ?_⟩, hm⟩
 ·obtain ⟨j, hj⟩ := List.mem_iff_getElem?.1 hp
  rw [List.getElem?_set] at hj
  split at hj
  ·injection hj with hj
   subst hj
   exact hy
  ·rename_i hij
   obtain ⟨hjl, hje⟩ := List.getElem?_eq_some_iff.1 hj
   have hn : NeRow (hdV p.1) (hdV h) := by
    rcases Nat.lt_or_ge i j with hlt | hge
    ·have h1 := (List.pairwise_iff_getElem.1 hr.ne) i j hil hjl hlt
     rw [hje, hie] at h1
     exact ne_symm h1
    ·have h1 := (List.pairwise_iff_getElem.1 hr.ne) j i hjl hil (by omega)
     rw [hje, hie] at h1
     exact h1
   exact Kd.R_grown2 (hr.row p (List.mem_iff_getElem?.2 ⟨j, hj⟩)) rfl hg (fun k hk he => hn k he.symm hk)
 ·have h1 : (qs.map (·.1)).Pairwise (fun a b : Hd => NeRow (hdV a) (hdV b)) := List.pairwise_map.2 hr.ne
  rw [← hm] at h1
  exact (List.pairwise_map (f := fun p : Hd × List Int => p.1) (R := fun a b : Hd => NeRow (hdV a) (hdV b))).1 h1
def impl_order.f (k : Nat) (l0 : List (List Int)) (l1 : List Int) : Option (List Int) := (impl_components.f k l0).bind fun cs => if impl_order.ok cs l1 = true then some (cs.flatMap (impl_order.srt l1)) else none
theorem impl_order.mono : ∀ a0 a1 k, LeO (impl_order.f k a0 a1) (impl_order.f (k + 1) a0 a1) := by
 intro a0 a1 k
 unfold impl_order.f
 exact LeO.bind (impl_components.mono _ _) (fun _ => LeO.refl _)
theorem impl_order.cmp (l1 : List Int) (HV : ∀ v ∈ l1, 0 ≤ v ∧ v ≤ 999999) (x y : Int) (hx0 : 0 ≤ x) (hx1 : x < (l1.length : Int)) (hy0 : 0 ≤ y) (hy1 : y < (l1.length : Int)) : impl_order_1.f x y l1 = some (rd l1 x - rd l1 y) := by
 unfold impl_order_1.f
 have h1 := HV _ (Mine.getD_mem l1 0 x.toNat (by omega))
 have h2 := HV _ (Mine.getD_mem l1 0 y.toNat (by omega))
 rw [if_pos hx0, if_pos hx1, if_pos hy0, if_pos hy1]
 unfold rd
 generalize l1.getD x.toNat 0 = u at h1
 generalize l1.getD y.toNat 0 = v at h2
 have : wrap64 (u - v) = u - v := by unfold wrap64; omega
 rw [this]
set_option maxHeartbeats 8000000 in
set_option maxRecDepth 100000 in
theorem impl_order.calls (k : Nat) (A0 : Option Addr) (c0 : Nat) (l0 : List (List Int)) (A1 : Option Addr) (c1 : Nat) (l1 : List Int) (r : List Int) (w : World) (hr0 : Kd.C (Kd.slice 3 (Kd.int .i64)) w A0 l0.length l0) (hc0 : l0.length ≤ c0) (hr1 : Kd.C (Kd.int .i64) w A1 l1.length l1) (hc1 : l1.length ≤ c1) (h : impl_order.f k l0 l1 = some r) :
  Calls Try.prog 119 #[.slice A0 l0.length c0, .slice A1 l1.length c1] w fun e w' => ∃ v0_ : Value, e = .returned (v0_) ∧ Kd.R (Kd.int .i64) 3 w' w.heap.size (fun _ => True) v0_ r ∧ Below w.heap.size w w' := by
 have HR0 := Am hr0
 have HC0 := Am hc0
 have HR1 := Am hr1
 have HC1 := Am hc1
 clear hr0 hc0 hr1 hc1
 unfold impl_order.f at h
 obtain ⟨cs, hcs, h2⟩ := Option.bind_eq_some_iff.1 h
 clear h
 by_cases hok : impl_order.ok cs l1 = true
 case neg => rw [if_neg hok] at h2; cases h2
 rw [if_pos hok] at h2
 obtain ⟨hcl, hV, hG⟩ := impl_order.okE hok
 have HCS := Am hcs
 have HV := Am hV
 have HGR := Am hG
 have HF : Ad (cs.flatMap (impl_order.srt l1) = r) := ⟨Option.some.inj h2⟩
 clear hok h2 hcs hV hG
 obtain ⟨cb, hcb⟩ : ∃ cb : Array Value, cb = #[.pointer (some ⟨w.heap.size, 0, none⟩)] := ⟨_, rfl⟩
 have BX : Ad ((w.alloc (.cells #[.slice A1 l1.length c1] 24 (0, 0))).heap[w.heap.size]? = some (.cells #[.slice A1 l1.length c1] 24 (0, 0))) := ⟨blk_new w _⟩
 have HB0 : Ad (Below w.heap.size w (w.alloc (.cells #[.slice A1 l1.length c1] 24 (0, 0)))) := ⟨(Below.refl _ _).alloc (Nat.le_refl _) _⟩
 go_enter Try.func119, Try.ntmps119
 go_wp2_with (first | ((refine Gd (N := 8) rfl ?_); refine Kd.R_lit (Kd.int .i64) _ 3 ?hg (N := 8) ?hd (xs := ([] : List Int)) (inner := []) (ok := fun _ => True) (okp := fun _ => True) ?hr ?hp (fun _ hk => hk) trivial HB0.out HB0.out.size (by simp) ?_; (case hd | hg => rfl); (case hr => first | (go_simp; done) | (go_simp; rfl)); (case hp => exact (Reps.none _ _)); intro v8 w1 ho hb hg_ hnew_; have HO1 := Am ho; have HB1 := Am hb; have BX1 := Am (blk_grown BX.out hg_ (by simp)); clear ho hb hg_ hnew_ BX HB0) | fail)
 refine (impl_components.calls k A0 c0 l0 cs w1 (Kd.C_below HR0.out HB1.out) HC0.out HCS.out).mono ?_
 rintro e w2 ⟨vg, rfl, hS, hb⟩
 obtain ⟨ps, hpc, hh, hw⟩ := Kd.S_rows hS
 subst hpc
 rw [List.length_map] at hcl
 have hbz := HB1.out.size
 have HN2 : Ad (∀ p ∈ ps, NeRow (hdV p.1) v8) := ⟨fun p hp k1 hk1 he1 => by have h1 := Kd.R_base (hw.row p hp) k1 hk1; have h2 := Kd.R_lt HO1.out k1 he1; omega⟩
 have HO2 := Am (Kd.R_below HO1.out hb)
 have BX2 := Am (Kb BX1.out hb)
 have HB2 := Am (below_then HB1.out HB1.out.size hb)
 have HL2 := Am (Kd.R_lower hh hbz)
 have HW2 := Am (hw.lower hbz)
 obtain ⟨A10, c10, e10⟩ := Kd.R_slice hh
 rw [List.length_map] at e10
 subst e10
 clear hS hh hw hb HO1 BX1 HB1
 go_wp2
 go_loopg [5, 12] ps.length (fun gg v5 v12 wr => ∃ (i : Nat) (acc : List Int) (qs : List (Hd × List Int)), i ≤ ps.length ∧ ps.length - i ≤ gg ∧ v12 = .int .i64 i ∧ acc.length ≤ 1000 * i ∧ Ad (acc ++ ((ps.map (·.2)).drop i).flatMap (impl_order.srt l1) = r) ∧ Ad (qs.map (·.1) = ps.map (·.1)) ∧ Ad ((qs.map (·.2)).drop i = (ps.map (·.2)).drop i) ∧ Ad (Kd.Rows (Kd.int .i64) 3 wr w.heap.size qs) ∧ Ad (∀ p ∈ qs, NeRow (hdV p.1) v5) ∧ Ad (Kd.hd.R 24 wr w.heap.size (fun _ => True) (.slice A10 ps.length c10) (ps.map (·.1))) ∧ Ad (Kd.R (Kd.int .i64) 3 wr w.heap.size (fun _ => True) v5 acc) ∧ Ad (wr.heap[w.heap.size]? = some (.cells #[.slice A1 l1.length c1] 24 (0, 0))) ∧ Ad (Below w.heap.size w wr))
 case atStart => exact ⟨0, [], ps, Nat.zero_le _, by omega, by first | rfl | simp, by simp, ⟨by simpa using HF.out⟩, ⟨rfl⟩, ⟨rfl⟩, HW2, HN2, HL2, HO2, BX2, HB2⟩
 case round =>
  clear HW2 HN2 HL2 HO2 BX2 HB2 HF
  obtain ⟨i, acc, qs, hi, hgg, rfl, hal, HE, HQ, HD, HW, HN, HL, HO, BX, HB⟩ := hrel
  have hql : qs.length = ps.length := by have h1 := congrArg List.length HQ.out; simpa using h1
  have HQL := Am hql
  clear hql
  obtain ⟨A5, c5, e5⟩ := Kd.R_slice HO.out
  subst e5
  by_cases hlt : i < ps.length
  ·have hltz : (i : Int) < (ps.length : Int) := by omega
   have h0z : (0 : Int) ≤ (i : Int) := by omega
   have hl2 : Kd.hd.R 24 wr w.heap.size (fun _ => True) (.slice A10 ps.length c10) (qs.map (·.1)) := by rw [HQ.out]; exact HL.out
   obtain ⟨ad10, B, cB, x, rfl, hx, hp, hxe, hxc, hC⟩ := Kd.pair_at hl2 (fun p hp => HW.out.row p hp) i (by rw [HQL.out]; exact hlt)
   have hdr : (ps.map (·.2)).drop i = x :: (ps.map (·.2)).drop (i + 1) := by
    have h1 := Mine.drop_at (ps.map (·.2)) ([] : List Int) i (by rw [List.length_map]; exact hlt)
    have h2 : (ps.map (·.2)).getD i [] = x := by
     rw [← hxe, List.getD_eq_getElem?_getD, List.getD_eq_getElem?_getD, ← Nat.add_zero i, ← List.getElem?_drop, ← List.getElem?_drop, HD.out]
    rw [h2] at h1
    exact h1
   have hdq : (qs.map (·.2)).drop (i + 1) = (ps.map (·.2)).drop (i + 1) := by rw [← List.drop_drop, ← List.drop_drop, HD.out]
   have hxm : x ∈ ps.map (·.2) := List.mem_of_mem_drop (i := i) (by rw [hdr]; exact List.mem_cons_self ..)
   obtain ⟨hne, hxl, hxr, hxi⟩ := HGR.out x hxm
   have HP := Am hp
   have HDR := Am hdr
   have HDQ := Am hdq
   have HXR := Am hxr
   have HXI := Am hxi
   have hRx := HW.out.row _ (List.mem_iff_getElem?.2 ⟨i, hp⟩)
   obtain ⟨gx, cx, ex, hgx0, hgx1, cells, hcx⟩ := Kd.R_form hRx (List.length_pos_iff.2 hne)
   injection ex with ex1 ex2 ex3
   subst ex1
   subst ex3
   have HX := Am hRx
   have HXN := Am hne
   clear hl2 hxe hxc hC hdr hdq hxm hne hxr hxi hRx hgx0 hgx1 hcx HD
   clear hp
   obtain ⟨m, hm⟩ : ∃ m, l1.length = m + 1 := by
    cases x with
    | nil => exact absurd rfl HXN.out
    | cons y ys => have := HXR.out y (List.mem_cons_self ..); exact ⟨l1.length - 1, by omega⟩
   have HM := Am hm
   clear hm
   go_wp2_with fail
   have hmz : (l1.length : Int) = (m : Int) + 1 := by have := HM.out; omega
   have hown : ∀ k1, some gx = some k1 → w.heap.size ≤ k1 := fun k1 hk => Kd.R_base HX.out k1 hk
   refine (slices_SortFunc_int_int.sort m 168 #[.pointer (some ⟨w.heap.size, 0, none⟩)] (rd l1) gx cB w.heap.size x (fun _ => True) wr (fun args w => enters_ Try.func168 (by kernel_rfl) rfl args w) HX.out (fun p hp => by have := HXR.out p hp; omega) hxl (fun W hW x y hx0 hx1 hy0 hy1 => impl_order_1.calls x y w.heap.size A1 c1 l1 (rd l1 x - rd l1 y) W (Kd.C_below HR1.out (pw_below_grown HB.out _ HB.out.size hW hown)) HC1.out (blk_grown BX.out hW (Kd.R_ne HX.out BX.out (by decide))) (impl_order.cmp l1 HV.out x y hx0 (by omega) hy0 (by omega)))).mono ?_
   rintro e w3 ⟨rfl, ys, hyp, hys, hR, hg⟩
   have he := impl_order.uniq hyp hys HXI.out
   subst he
   have hlen : (impl_order.srt l1 x).length = x.length := (impl_order.srt_perm l1 x).length_eq
   obtain ⟨hw3, hq3⟩ := impl_order.wrote HW.out HP.out hg hR
   have hnx : NeRow (.slice (some ⟨gx, 0, none⟩) x.length cB) (.slice A5 acc.length c5) := HN.out _ (List.mem_iff_getElem?.2 ⟨i, HP.out⟩)
   have HN3 : Ad (∀ p ∈ qs.set i ((some ⟨gx, 0, none⟩, x.length, cB), impl_order.srt l1 x), NeRow (hdV p.1) (.slice A5 acc.length c5)) := ⟨fun p hpm => by
    have h1 : p.1 ∈ qs.map (·.1) := by rw [← hq3]; exact List.mem_map_of_mem hpm
    obtain ⟨q, hq, he⟩ := List.mem_map.1 h1
    rw [← he]
    exact HN.out q hq⟩
   have HW3 := Am hw3
   have HQ3 := Am (hq3.trans HQ.out)
   have HL3 := Am (Kd.R_over HL.out HX.out (by decide) hg)
   have HO3 := Am (Kd.R_grown2 HO.out rfl hg (fun k1 hk he => hnx k1 hk he.symm))
   have BX3 := Am (blk_grown BX.out hg (Kd.R_ne HX.out BX.out (by decide)))
   have HB3 := Am (pw_below_grown HB.out _ HB.out.size hg hown)
   have HXC : Ad (Kd.C (Kd.int .i64) w3 (some ⟨gx, 0, none⟩) x.length (impl_order.srt l1 x)) := ⟨by have h1 := (Kd.R_reads' hR).2.2; rw [hlen] at h1; exact h1⟩
   have HLN := Am hlen
   clear hyp hys hR hg hw3 hq3 hnx hlen hown hmz HW HN HL HO BX HB HX HQ hx
   go_wp2_with (first | ((with_reducible refine gate_builtin (b := .append) (xs := #[.tmp 19, .tmp 20]) rfl ?_); at_builtin; refine Kd.R_append_rows (Kd.int .i64) (w0 := w) w.heap.size rfl (.tmp 19) (.tmp 20) 24 3 (.int .i64 0) 8 rfl Try.underlying24 info3 rfl (by decide) (by omega) (.slice A5 acc.length c5) acc (impl_order.srt l1 x) (some ⟨gx, 0, none⟩) x.length cB (fun _ => True) (fun _ => False) rfl rfl ?aO ?aR (fun _ _ h => h) (fun _ h => h.elim) ?aF ?aB ?aS ?aL ?_; (case aO => exact HO3.out); (case aR => exact HXC.out); (case aF => exact (fun _ _ => trivial)); (case aB => exact HB3.out); (case aS => exact HB3.out.size); (case aL => omega); intro v21 w4 ho hb hg hat; have HW4 := Am (HW3.out.grown_ne rfl hg HN3.out); have HL4 := Am (Kd.R_over HL3.out HO3.out (by decide) hg); have HN4 := Am (HW3.out.ne_after HN3.out hat); have BX4 := Am (blk_grown BX3.out hg (Kd.R_ne HO3.out BX3.out (by decide))); have HO4 := Am ho; have HB4 := Am hb; clear ho hb hg hat HW3 HL3 HN3 BX3 HO3 HB3) | fail)
   go_roundg (ps.length - (i + 1))
   case measure => omega
   case rel => exact ⟨i + 1, acc ++ impl_order.srt l1 x, qs.set i ((some ⟨gx, 0, none⟩, x.length, cB), impl_order.srt l1 x), by omega, by omega, by go_num, by have := HLN.out; rw [List.length_append]; omega, ⟨by rw [← HE.out, HDR.out, List.flatMap_cons, List.append_assoc]⟩, HQ3, ⟨by rw [List.map_set, List.drop_set_of_lt (by omega)]; exact HDQ.out⟩, HW4, HN4, HL4, HO4, BX4, HB4⟩
  ·obtain rfl : i = ps.length := by omega
   have hltz : ¬ (ps.length : Int) < (ps.length : Int) := by omega
   have HE2 : Ad (acc = r) := ⟨by
    have h1 := HE.out
    rw [List.drop_eq_nil_of_le (by rw [List.length_map]; exact Nat.le_refl _)] at h1
    simpa using h1⟩
   go_wp2
   go_ret
   exact ⟨_, rfl, by rw [← HE2.out]; exact HO.out, HB.out⟩
def impl_OrderOf.f (k : Nat) (l0 : List (List Int)) (l1 : List Int) : Option (List Int × Bool) := (impl_areKeys.f k l0 l1).bind fun t300 => (if t300 = true then ((impl_order.f k l0 l1).bind fun t301 => (some (t301, true))) else (some (([] : List Int), false)))
theorem impl_OrderOf.mono : ∀ a0 a1 k, LeO (impl_OrderOf.f k a0 a1) (impl_OrderOf.f (k + 1) a0 a1) := by
 intro a0 a1 k
 unfold impl_OrderOf.f
 repeat' first
   | (with_reducible exact impl_areKeys.mono _ _ _)
   | (with_reducible exact impl_order.mono _ _ _)
   | (with_reducible exact LeO.refl _)
   | (with_reducible exact LeO.none _)
   | (with_reducible refine LeO.ite ?_ ?_)
   | (with_reducible refine LeO.bind ?_ (fun _ => ?_))
   | exact impl_areKeys.mono _ _ _
   | exact impl_order.mono _ _ _
   | exact LeO.none _
   | refine LeO.ite ?_ ?_
   | refine LeO.bind ?_ (fun _ => ?_)
set_option maxHeartbeats 8000000 in
set_option maxRecDepth 100000 in
theorem impl_OrderOf.calls (k : Nat) (A0 : Option Addr) (c0 : Nat) (l0 : List (List Int)) (A1 : Option Addr) (c1 : Nat) (l1 : List Int) (r1 : List Int) (r2 : Bool) (w : World) (hr0 : Kd.C (Kd.slice 3 (Kd.int .i64)) w A0 l0.length l0) (hc0 : l0.length ≤ c0) (hr1 : Kd.C (Kd.int .i64) w A1 l1.length l1) (hc1 : l1.length ≤ c1) (h : impl_OrderOf.f k l0 l1 = some (r1, r2)) :
  Calls Try.prog 56 #[.slice A0 l0.length c0, .slice A1 l1.length c1] w fun e w' => ∃ v0_ : Value, e = .returned (.tuple #[v0_, .bool r2]) ∧ Kd.R (Kd.int .i64) 3 w' w.heap.size (fun _ => True) v0_ r1 ∧ Below w.heap.size w w' := by
 have HR0 := Am hr0
 have HC0 := Am hc0
 clear hr0 hc0
 have HR1 := Am hr1
 have HC1 := Am hc1
 clear hr1 hc1
 have HB := Am (Below.refl w.heap.size w)
 have H : ((impl_areKeys.f k l0 l1).bind fun t300 => (if t300 = true then ((impl_order.f k l0 l1).bind fun t301 => (some (t301, true))) else (some (([] : List Int), false)))) = some (r1, r2) := h
 clear h
 replace H := Option.bind_eq_some_iff.mp H
 obtain ⟨t300, A30, H⟩ := H
 replace H : (if t300 = true then ((impl_order.f k l0 l1).bind fun t301 => (some (t301, true))) else (some (([] : List Int), false))) = some (r1, r2) := H
 have A3 := Am A30
 clear A30
 by_cases c4 : t300 = true
 ·subst c4
  have H1 : ((impl_order.f k l0 l1).bind fun t301 => (some (t301, true))) = some (r1, r2) := by rw [if_pos rfl] at H; exact H
  clear H
  have H := H1
  clear H1
  replace H := Option.bind_eq_some_iff.mp H
  obtain ⟨t301, A50, H⟩ := H
  replace H : (some (t301, true)) = some (r1, r2) := H
  have A5 := Am A50
  clear A50
  simp only [Option.some.injEq, Prod.mk.injEq] at H
  obtain ⟨rfl, rfl⟩ := H
  go_enter Try.func56, Try.ntmps56
  go_wp2_with (first | ((refine Gc (f := 118) rfl ?_); refine goesL_ (some 8) rfl rfl Try.func118 (by kernel_rfl) rfl #[.slice A0 l0.length c0, .slice A1 l1.length c1] rfl (by first | rfl | (simp only [List.map_toArray, List.map_cons, List.map_nil]; first | done | rfl)) ?_; (with_reducible refine (impl_areKeys.calls k _ _ l0 _ _ l1 true _ ?side1 ?side2 ?side3 ?side4 A3.out).mono ?_); (case side1 => repeat (first | exact HR0.out | (with_reducible refine Kd.C_alloc ?_ _) | (with_reducible refine Kd.C_drewN ?_ _) | (with_reducible refine Kd.C_drew ?_))); (case side2 => exact HC0.out); (case side3 => repeat (first | exact HR1.out | (with_reducible refine Kd.C_alloc ?_ _) | (with_reducible refine Kd.C_drewN ?_ _) | (with_reducible refine Kd.C_drew ?_))); (case side4 => exact HC1.out); rintro e w6 ⟨rfl, hb⟩; refine ⟨_, rfl, ?_⟩; have n0_ := Am (Bt (by repeat (first | exact HB.out | apply Ba | apply Bn | apply Bd)) hb); clear HB; have HB := n0_; clear n0_; (try clear hb); (try clear hb2); (try clear hk); (try clear hi)) | ((refine Gc (f := 119) rfl ?_); refine goesL_ (some 12) rfl rfl Try.func119 (by kernel_rfl) rfl #[.slice A0 l0.length c0, .slice A1 l1.length c1] rfl (by first | rfl | (simp only [List.map_toArray, List.map_cons, List.map_nil]; first | done | rfl)) ?_; (with_reducible refine (impl_order.calls k _ _ l0 _ _ l1 t301 _ ?side1 ?side2 ?side3 ?side4 A5.out).mono ?_); (case side1 => repeat (first | exact (Kd.C_below HR0.out HB.out) | (with_reducible refine Kd.C_alloc ?_ _) | (with_reducible refine Kd.C_drewN ?_ _) | (with_reducible refine Kd.C_drew ?_))); (case side2 => exact HC0.out); (case side3 => repeat (first | exact (Kd.C_below HR1.out HB.out) | (with_reducible refine Kd.C_alloc ?_ _) | (with_reducible refine Kd.C_drewN ?_ _) | (with_reducible refine Kd.C_drew ?_))); (case side4 => exact HC1.out); rintro e w7 ⟨v302, rfl, ho0, hb⟩; refine ⟨_, rfl, ?_⟩; have n0_ := Am (Kd.R_lower ho0 (Bz (by repeat (first | exact HB.out | apply Ba | apply Bn | apply Bd)))); have n1_ := Am (Bt (by repeat (first | exact HB.out | apply Ba | apply Bn | apply Bd)) hb); clear HB; have HO303 := n0_; have HB := n1_; clear n0_ n1_; (try clear hb); (try clear hb2); (try clear hk); (try clear hi); (try clear ho0)))
  go_ret2
  exact ⟨_, by first | rfl | (simp [*, errW_none, errW_some] <;> rfl), by (with_reducible repeat (first | apply Ra | apply Rn | apply Rd)); exact HO303.out, by repeat (first | exact HB.out | apply Ba | apply Bn | apply Bd)⟩
 ·replace c4 := Bool.eq_false_iff.mpr c4
  subst c4
  have H1 : (some (([] : List Int), false)) = some (r1, r2) := by rw [if_neg (show ¬ (false = true) by decide)] at H; exact H
  clear H
  have H := H1
  clear H1
  simp only [Option.some.injEq, Prod.mk.injEq] at H
  obtain ⟨rfl, rfl⟩ := H
  go_enter Try.func56, Try.ntmps56
  go_wp2_with (first | ((refine Gc (f := 118) rfl ?_); refine goesL_ (some 8) rfl rfl Try.func118 (by kernel_rfl) rfl #[.slice A0 l0.length c0, .slice A1 l1.length c1] rfl (by first | rfl | (simp only [List.map_toArray, List.map_cons, List.map_nil]; first | done | rfl)) ?_; (with_reducible refine (impl_areKeys.calls k _ _ l0 _ _ l1 false _ ?side1 ?side2 ?side3 ?side4 A3.out).mono ?_); (case side1 => repeat (first | exact HR0.out | (with_reducible refine Kd.C_alloc ?_ _) | (with_reducible refine Kd.C_drewN ?_ _) | (with_reducible refine Kd.C_drew ?_))); (case side2 => exact HC0.out); (case side3 => repeat (first | exact HR1.out | (with_reducible refine Kd.C_alloc ?_ _) | (with_reducible refine Kd.C_drewN ?_ _) | (with_reducible refine Kd.C_drew ?_))); (case side4 => exact HC1.out); rintro e w8 ⟨rfl, hb⟩; refine ⟨_, rfl, ?_⟩; have n0_ := Am (Bt (by repeat (first | exact HB.out | apply Ba | apply Bn | apply Bd)) hb); clear HB; have HB := n0_; clear n0_; (try clear hb); (try clear hb2); (try clear hk); (try clear hi)))
  go_ret2
  exact ⟨_, by first | rfl | (simp [*, errW_none, errW_some] <;> rfl), by first | exact Kd.R_nil _ _ _ _ _ | exact Kd.N_nil _ _ _ _ _ | exact Kd.V_nil _ _ _ _ _ | exact Kd.Q_nil _ _ _ _ _ | exact Kd.S_nil _ _ _ _ _, by repeat (first | exact HB.out | apply Ba | apply Bn | apply Bd)⟩
def laws_heldIntS.l0 : Nat → List Int → Int → Int → Option (Int)
 | 0, _, _, _ => none
 | k + 1, x0, x1, x5 => if x5 < (x0.length : Int) then (if 0 ≤ x5 then (if (rd x0 x5) = x1 then (laws_heldIntS.l0 k x0 (wrap64 (x1 + 1)) (wrap64 (x5 + 1))) else (some (-1))) else (none)) else (some x1)
def laws_heldIntS.f (k : Nat) (l0 : List Int) (a1 : Int) : Option (Int) := laws_heldIntS.l0 k l0 a1 0
theorem laws_heldIntS.mono_l : ∀ k, (∀ y0 y1 y2, LeO (laws_heldIntS.l0 k y0 y1 y2) (laws_heldIntS.l0 (k + 1) y0 y1 y2))
 | 0 => fun _ _ _ r h => by simp [laws_heldIntS.l0] at h
 | k + 1 => by
  have ih0 := laws_heldIntS.mono_l k
  ·intro y0 y1 y2
   unfold laws_heldIntS.l0
   repeat' first
   | (with_reducible exact ih0 _ _ _)
   | (with_reducible exact LeO.refl _)
   | (with_reducible exact LeO.none _)
   | (with_reducible refine LeO.ite ?_ ?_)
   | (with_reducible refine LeO.bind ?_ (fun _ => ?_))
   | exact ih0 _ _ _
   | exact LeO.none _
   | refine LeO.ite ?_ ?_
   | refine LeO.bind ?_ (fun _ => ?_)
theorem laws_heldIntS.mono : ∀ a0 a1 k, LeO (laws_heldIntS.f k a0 a1) (laws_heldIntS.f (k + 1) a0 a1) := by
 intro a0 a1 k
 have ih0 := laws_heldIntS.mono_l k
 unfold laws_heldIntS.f
 repeat' first
   | (with_reducible exact ih0 _ _ _)
   | (with_reducible exact LeO.refl _)
   | (with_reducible exact LeO.none _)
   | (with_reducible refine LeO.ite ?_ ?_)
   | (with_reducible refine LeO.bind ?_ (fun _ => ?_))
   | exact ih0 _ _ _
   | exact LeO.none _
   | refine LeO.ite ?_ ?_
   | refine LeO.bind ?_ (fun _ => ?_)
set_option maxHeartbeats 8000000 in
set_option maxRecDepth 100000 in
theorem laws_heldIntS.calls (k : Nat) (A0 : Option Addr) (c0 : Nat) (l0 : List Int) (a1 : Int) (r : Int) (w : World) (hr0 : Kd.C (Kd.int .i64) w A0 l0.length l0) (hc0 : l0.length ≤ c0) (h : laws_heldIntS.f k l0 a1 = some r) :
  Calls Try.prog 59 #[.slice A0 l0.length c0, .int .i64 a1] w fun e w' => e = .returned (.int .i64 r) ∧ Drawn0 w w' := by
 have HR0 := Am hr0
 have HC0 := Am hc0
 clear hr0 hc0
 have H : (laws_heldIntS.l0 k l0 a1 0) = some r := h
 clear h
 have H' := Am H
 clear H
 go_enter Try.func59, Try.ntmps59
 go_wp2
 go_loopg [1, 5] k (fun kq v1 v5 w' => ∃ (x1_1 : Int) (x5_1 : Int), v1 = .int .i64 x1_1 ∧ v5 = .int .i64 x5_1 ∧ Ad (laws_heldIntS.l0 kq l0 x1_1 x5_1 = some r) ∧ Ad (kq ≤ k) ∧ Drawn0 w w')
 case atStart => exact ⟨(a1), (0), (by first | rfl | (simp; done) | (simp [*]; done)), (by first | rfl | (simp; done) | (simp [*]; done)), H', ⟨Nat.le_refl _⟩, by repeat (first | exact Drawn0.refl _ | apply Drawn0.step)⟩
 case round =>
  clear H'
  try clear p2
  obtain ⟨x1_1, x5_1, rfl, rfl, HA, HK1, ⟨m1, rfl⟩⟩ := hrel
  cases gk with
  | zero => exact absurd HA.out (by simp [laws_heldIntS.l0])
  | succ k1 =>
   have H := HA.out
   clear HA
   simp only [laws_heldIntS.l0] at H
   by_cases c3 : x5_1 < (l0.length : Int)
   ·rw [if_pos c3] at H
    have c3b0 : decide (x5_1 < (l0.length : Int)) = true := decide_eq_true c3
    clear c3
    by_cases c4 : 0 ≤ x5_1
    ·rw [if_pos c4] at H
     have c4b0 : decide (0 ≤ x5_1) = true := decide_eq_true c4
     clear c4
     by_cases c5 : (rd l0 x5_1) = x1_1
     ·rw [if_pos c5] at H
      have c5b0 : ((rd l0 x5_1) == x1_1) = true := beq_iff_eq.mpr c5
      have c5b1 : ((rd l0 x5_1) != x1_1) = false := bne_eq_false_iff_eq.mpr c5
      clear c5
      have H' := Am H
      clear H
      have p304 : 0 ≤ (x5_1 : Int) := of_decide_eq_true (by assumption)
      have q304 : x5_1 < (l0.length : Int) := of_decide_eq_true (by assumption)
      obtain ⟨ad304, e304, hx304_0⟩ := Kd.at_int HR0.out x5_1 p304 q304
      cases e304
      replace p304 := eq_true p304
      replace q304 := eq_true q304
      go_wp2
      go_roundg k1
      case measure => have := HK1.out; omega
      case rel => exact ⟨(wrap64 (x1_1 + 1)), (wrap64 (x5_1 + 1)), (by first | rfl | (simp; done) | (simp [*]; done)), (by first | rfl | (simp; done) | (simp [*]; done)), H', ⟨by have := HK1.out; omega⟩, by repeat (first | exact Drawn0.refl _ | apply Drawn0.step)⟩
     ·rw [if_neg c5] at H
      have c5b0 : ((rd l0 x5_1) == x1_1) = false := beq_eq_false_iff_ne.mpr c5
      have c5b1 : ((rd l0 x5_1) != x1_1) = true := bne_iff_ne.mpr c5
      obtain rfl := Option.some.inj H
      have p304 : 0 ≤ (x5_1 : Int) := of_decide_eq_true (by assumption)
      have q304 : x5_1 < (l0.length : Int) := of_decide_eq_true (by assumption)
      obtain ⟨ad304, e304, hx304_0⟩ := Kd.at_int HR0.out x5_1 p304 q304
      cases e304
      replace p304 := eq_true p304
      replace q304 := eq_true q304
      go_wp2
      go_ret
      exact ⟨by first | rfl | (simp; done) | (simp [*]; done), by repeat (first | exact Drawn0.refl _ | apply Drawn0.step)⟩
    ·rw [if_neg c4] at H
     exact absurd H (by simp)
   ·rw [if_neg c3] at H
    have c3b0 : decide (x5_1 < (l0.length : Int)) = false := decide_eq_false c3
    clear c3
    obtain rfl := Option.some.inj H
    go_wp2
    go_ret
    exact ⟨by first | rfl | (simp; done) | (simp [*]; done), by repeat (first | exact Drawn0.refl _ | apply Drawn0.step)⟩
end Go.Proofs.Yteecmbfebenjjaa.QFnExactOrderOf
