-- Written by a program of this session (wip/mk.py) over the kit's print: Lean checks it.
import Derived.Test.YtpboalgecejoeaaQFnOrdersx0
import Derived.Test.YtpboalgecejoeaaQFnOrdersx8
namespace Go.Proofs.Ytpboalgecejoeaa.QFnOrders
open Go.Proofs.YtpboalgecejoeaaW.PrintWords renaming gate_dst → Gd, blk_below → Kb, blk_cell → Kc, blk_frozen → Kz
open Go.Proofs.YtpboalgecejoeaaW.PrintWords.Aside0 renaming mk → Am
open Go.Proofs.YtpboalgecejoeaaW.PrintWords renaming Aside0 → Ad
open Go.RowKit Go.Proofs.YtpboalgecejoeaaW.PrintWords Go.Proofs.YtpboalgecejoeaaW.PrintLast Go.Proofs.YtpboalgecejoeaaW.PrintMore
attribute [local go_sem] max2_int min2_int max_two min_two max_three min_three max_four min_four   -- for this text's walks alone
set_option linter.unusedVariables false
set_option linter.unusedSimpArgs false
def impl_order_1.f (a0 : Int) (a1 : Int) (l2_0 : List Int) : Option (Int) := if 0 ≤ a0 then (if a0 < (l2_0.length : Int) then (if 0 ≤ a1 then (if a1 < (l2_0.length : Int) then (some (wrap64 ((rd l2_0 a0) - (rd l2_0 a1)))) else (none)) else (none)) else (none)) else (none)
set_option maxHeartbeats 8000000 in
set_option maxRecDepth 100000 in
theorem impl_order_1.calls (a0 : Int) (a1 : Int) (gq2 : Nat) (A2_0 : Option Addr) (c2_0 : Nat) (l2_0 : List Int) (r : Int) (w : World) (hr2_0 : Kd.C (Kd.int .i64) w A2_0 l2_0.length l2_0) (hc2_0 : l2_0.length ≤ c2_0) (hb2 : w.heap[gq2]? = some (.cells #[.slice A2_0 l2_0.length c2_0] 23 (0, 0))) (h : impl_order_1.f a0 a1 l2_0 = some r) :
  Calls Try.prog 117 #[.int .i64 a0, .int .i64 a1, .pointer (some ⟨gq2, 0, none⟩)] w fun e w' => e = .returned (.int .i64 r) ∧ Drawn0 w w' := by
 have HR2_0 := Am hr2_0
 have HC2_0 := Am hc2_0
 clear hr2_0 hc2_0
 have BK290 := Am hb2
 clear hb2
 have H : (if 0 ≤ a0 then (if a0 < (l2_0.length : Int) then (if 0 ≤ a1 then (if a1 < (l2_0.length : Int) then (some (wrap64 ((rd l2_0 a0) - (rd l2_0 a1)))) else (none)) else (none)) else (none)) else (none)) = some r := h
 clear h
 by_cases c4 : 0 ≤ a0
 ·rw [if_pos c4] at H
  have c4b0 : decide (0 ≤ a0) = true := decide_eq_true c4
  clear c4
  by_cases c5 : a0 < (l2_0.length : Int)
  ·rw [if_pos c5] at H
   have c5b0 : decide (a0 < (l2_0.length : Int)) = true := decide_eq_true c5
   clear c5
   by_cases c6 : 0 ≤ a1
   ·rw [if_pos c6] at H
    have c6b0 : decide (0 ≤ a1) = true := decide_eq_true c6
    clear c6
    by_cases c7 : a1 < (l2_0.length : Int)
    ·rw [if_pos c7] at H
     have c7b0 : decide (a1 < (l2_0.length : Int)) = true := decide_eq_true c7
     clear c7
     obtain rfl := Option.some.inj H
     have hcz8_0 : w.cell? ⟨gq2, 0, none⟩ = some (.slice A2_0 l2_0.length c2_0) := (Kc BK290.out 0).trans rfl
     have hfz8_0 := Kz BK290.out 0
     have p291 : 0 ≤ (a0 : Int) := of_decide_eq_true (by assumption)
     have q291 : a0 < (l2_0.length : Int) := of_decide_eq_true (by assumption)
     obtain ⟨ad291, e291, hx291_0⟩ := Kd.at_int HR2_0.out a0 p291 q291
     cases e291
     replace p291 := eq_true p291
     replace q291 := eq_true q291
     have p292 : 0 ≤ (a1 : Int) := of_decide_eq_true (by assumption)
     have q292 : a1 < (l2_0.length : Int) := of_decide_eq_true (by assumption)
     obtain ⟨ad292, e292, hx292_0⟩ := Kd.at_int HR2_0.out a1 p292 q292
     obtain rfl : ad291 = ad292 := (by injection e292)
     replace p292 := eq_true p292
     replace q292 := eq_true q292
     go_enter Try.func117, Try.ntmps117
     go_wp2
     repeat (go_quiet (fail); try go_wp2)
     go_ret
     exact ⟨by first | rfl | (simp; done) | (simp [*]; done), by repeat (first | exact Drawn0.refl _ | apply Drawn0.step)⟩
    ·rw [if_neg c7] at H
     exact absurd H (by simp)
   ·rw [if_neg c6] at H
    exact absurd H (by simp)
  ·rw [if_neg c5] at H
   exact absurd H (by simp)
 ·rw [if_neg c4] at H
  exact absurd H (by simp)
def impl_order.ins (key : List Int) (p : Int) : List Int → List Int
 | [] => [p]
 | q :: l => if rd key p ≤ rd key q then p :: q :: l else q :: impl_order.ins key p l
def impl_order.srt (key l : List Int) : List Int := l.foldr (impl_order.ins key) []
def impl_order.okc (key c : List Int) : Bool := decide (c ≠ []) && decide (c.length ≤ 1000) && c.all fun p => decide (0 ≤ p ∧ p < (key.length : Int)) && c.all fun q => decide (rd key p = rd key q → p = q)
def impl_order.ok (cs : List (List Int)) (key : List Int) : Bool := decide (cs.length ≤ 1000) && (key.all fun v => decide (0 ≤ v ∧ v ≤ 999999)) && cs.all (impl_order.okc key)
theorem impl_order.ins_perm (key : List Int) (p : Int) : ∀ l, (impl_order.ins key p l).Perm (p :: l)
 | [] => List.Perm.refl _
 | q :: l => by
  unfold impl_order.ins
  split
  ·exact List.Perm.refl _
  ·exact ((impl_order.ins_perm key p l).cons q).trans (List.Perm.swap p q l)
theorem impl_order.srt_perm (key : List Int) : ∀ l, (impl_order.srt key l).Perm l
 | [] => List.Perm.refl _
 | p :: l => (impl_order.ins_perm key p _).trans ((impl_order.srt_perm key l).cons p)
theorem impl_order.ins_le (key : List Int) (p : Int) : ∀ l : List Int, l.Pairwise (fun a b => rd key a ≤ rd key b) → (impl_order.ins key p l).Pairwise (fun a b => rd key a ≤ rd key b)
 | [], _ => List.pairwise_singleton _ _
 | q :: l, h => by
  obtain ⟨h1, h2⟩ := List.pairwise_cons.1 h
  unfold impl_order.ins
  split
  ·rename_i hle
   refine List.pairwise_cons.2 ⟨fun b hb => ?_, h⟩
   rcases List.mem_cons.1 hb with rfl | hb
   ·exact hle
   ·exact Int.le_trans hle (h1 b hb)
  ·rename_i hle
   refine List.pairwise_cons.2 ⟨fun b hb => ?_, impl_order.ins_le key p l h2⟩
   rcases List.mem_cons.1 ((impl_order.ins_perm key p l).mem_iff.1 hb) with rfl | hb
   ·omega
   ·exact h1 b hb
theorem impl_order.srt_le (key : List Int) : ∀ l, (impl_order.srt key l).Pairwise (fun a b => rd key a ≤ rd key b)
 | [] => List.Pairwise.nil
 | p :: l => impl_order.ins_le key p _ (impl_order.srt_le key l)
theorem impl_order.uniq {key ys xs : List Int} (hp : ys.Perm xs) (hs : ys.Pairwise (fun a b => rd key a ≤ rd key b)) (hi : ∀ p ∈ xs, ∀ q ∈ xs, rd key p = rd key q → p = q) : ys = impl_order.srt key xs :=
 List.Perm.eq_of_pairwise (fun a b ha hb h1 h2 => hi a (hp.mem_iff.1 ha) b ((impl_order.srt_perm key xs).mem_iff.1 hb) (by omega)) hs (impl_order.srt_le key xs) (hp.trans (impl_order.srt_perm key xs).symm)
theorem impl_order.okE {cs : List (List Int)} {key : List Int} (h : impl_order.ok cs key = true) : cs.length ≤ 1000 ∧ (∀ v ∈ key, 0 ≤ v ∧ v ≤ 999999) ∧ ∀ c ∈ cs, c ≠ [] ∧ c.length ≤ 1000 ∧ (∀ p ∈ c, 0 ≤ p ∧ p < (key.length : Int)) ∧ ∀ p ∈ c, ∀ q ∈ c, rd key p = rd key q → p = q := by
 unfold impl_order.ok impl_order.okc at h
 simp only [Bool.and_eq_true, decide_eq_true_eq, List.all_eq_true] at h
 exact ⟨h.1.1, h.1.2, fun c hc => ⟨(h.2 c hc).1.1, (h.2 c hc).1.2, fun p hp => ((h.2 c hc).2 p hp).1, fun p hp q hq he => (((h.2 c hc).2 p hp).2 q hq) he⟩⟩
theorem impl_order.wrote {W w1 : World} {base i : Nat} {qs : List (Hd × List Int)} {h : Hd} {x y : List Int} (hr : Kd.Rows (Kd.int .i64) 3 W base qs) (hi : qs[i]? = some (h, x)) (hg : W.grownBy w1 (hdV h).ownBlock) (hy : (Kd.int .i64).R 3 w1 base (fun _ => True) (hdV h) y) :
  Kd.Rows (Kd.int .i64) 3 w1 base (qs.set i (h, y)) ∧ (qs.set i (h, y)).map (·.1) = qs.map (·.1) := by
 obtain ⟨hil, hie⟩ := List.getElem?_eq_some_iff.1 hi
 have hm : (qs.set i (h, y)).map (·.1) = qs.map (·.1) := by
  rw [List.map_set]
  apply List.ext_getElem?
  intro j
  rw [List.getElem?_set]
  split
  ·rename_i hij
   subst hij
   rw [if_pos (by simpa using hil), List.getElem?_map, hi]
   rfl
  ·rfl
 refine ⟨⟨fun p hp => ?_, ?_⟩, hm⟩
 ·obtain ⟨j, hj⟩ := List.mem_iff_getElem?.1 hp
  rw [List.getElem?_set] at hj
  split at hj
  ·injection hj with hj
   subst hj
   exact hy
  ·rename_i hij
   obtain ⟨hjl, hje⟩ := List.getElem?_eq_some_iff.1 hj
   have hn : NeRow (hdV p.1) (hdV h) := by
    rcases Nat.lt_or_ge i j with hlt | hge
    ·have h1 := (List.pairwise_iff_getElem.1 hr.ne) i j hil hjl hlt
     rw [hje, hie] at h1
     exact ne_symm h1
    ·have h1 := (List.pairwise_iff_getElem.1 hr.ne) j i hjl hil (by omega)
     rw [hje, hie] at h1
     exact h1
   exact Kd.R_grown2 (hr.row p (List.mem_iff_getElem?.2 ⟨j, hj⟩)) rfl hg (fun k hk he => hn k he.symm hk)
 ·have h1 : (qs.map (·.1)).Pairwise (fun a b : Hd => NeRow (hdV a) (hdV b)) := List.pairwise_map.2 hr.ne
  rw [← hm] at h1
  exact (List.pairwise_map (f := fun p : Hd × List Int => p.1) (R := fun a b : Hd => NeRow (hdV a) (hdV b))).1 h1
def impl_order.f (k : Nat) (l0 : List (List Int)) (l1 : List Int) : Option (List Int) := (impl_components.f k l0).bind fun cs => if impl_order.ok cs l1 = true then some (cs.flatMap (impl_order.srt l1)) else none
theorem impl_order.mono : ∀ a0 a1 k, LeO (impl_order.f k a0 a1) (impl_order.f (k + 1) a0 a1) := by
 intro a0 a1 k
 unfold impl_order.f
 exact LeO.bind (impl_components.mono _ _) (fun _ => LeO.refl _)
theorem impl_order.cmp (l1 : List Int) (HV : ∀ v ∈ l1, 0 ≤ v ∧ v ≤ 999999) (x y : Int) (hx0 : 0 ≤ x) (hx1 : x < (l1.length : Int)) (hy0 : 0 ≤ y) (hy1 : y < (l1.length : Int)) : impl_order_1.f x y l1 = some (rd l1 x - rd l1 y) := by
 unfold impl_order_1.f
 have h1 := HV _ (Mine.getD_mem l1 0 x.toNat (by omega))
 have h2 := HV _ (Mine.getD_mem l1 0 y.toNat (by omega))
 rw [if_pos hx0, if_pos hx1, if_pos hy0, if_pos hy1]
 unfold rd
 generalize l1.getD x.toNat 0 = u at h1
 generalize l1.getD y.toNat 0 = v at h2
 have : wrap64 (u - v) = u - v := by unfold wrap64; omega
 rw [this]
set_option maxHeartbeats 8000000 in
set_option maxRecDepth 100000 in
theorem impl_order.calls (k : Nat) (A0 : Option Addr) (c0 : Nat) (l0 : List (List Int)) (A1 : Option Addr) (c1 : Nat) (l1 : List Int) (r : List Int) (w : World) (hr0 : Kd.C (Kd.slice 3 (Kd.int .i64)) w A0 l0.length l0) (hc0 : l0.length ≤ c0) (hr1 : Kd.C (Kd.int .i64) w A1 l1.length l1) (hc1 : l1.length ≤ c1) (h : impl_order.f k l0 l1 = some r) :
  Calls Try.prog 64 #[.slice A0 l0.length c0, .slice A1 l1.length c1] w fun e w' => ∃ v0_ : Value, e = .returned (v0_) ∧ Kd.R (Kd.int .i64) 3 w' w.heap.size (fun _ => True) v0_ r ∧ Below w.heap.size w w' := by
 have HR0 := Am hr0
 have HC0 := Am hc0
 have HR1 := Am hr1
 have HC1 := Am hc1
 clear hr0 hc0 hr1 hc1
 unfold impl_order.f at h
 obtain ⟨cs, hcs, h2⟩ := Option.bind_eq_some_iff.1 h
 clear h
 by_cases hok : impl_order.ok cs l1 = true
 case neg => rw [if_neg hok] at h2; cases h2
 rw [if_pos hok] at h2
 obtain ⟨hcl, hV, hG⟩ := impl_order.okE hok
 have HCS := Am hcs
 have HV := Am hV
 have HGR := Am hG
 have HF : Ad (cs.flatMap (impl_order.srt l1) = r) := ⟨Option.some.inj h2⟩
 clear hok h2 hcs hV hG
 obtain ⟨cb, hcb⟩ : ∃ cb : Array Value, cb = #[.pointer (some ⟨w.heap.size, 0, none⟩)] := ⟨_, rfl⟩
 have BX : Ad ((w.alloc (.cells #[.slice A1 l1.length c1] 23 (0, 0))).heap[w.heap.size]? = some (.cells #[.slice A1 l1.length c1] 23 (0, 0))) := ⟨blk_new w _⟩
 have HB0 : Ad (Below w.heap.size w (w.alloc (.cells #[.slice A1 l1.length c1] 23 (0, 0)))) := ⟨(Below.refl _ _).alloc (Nat.le_refl _) _⟩
 go_enter Try.func64, Try.ntmps64
 go_wp2_with (first | ((refine Gd (N := 8) rfl ?_); refine Kd.R_lit (Kd.int .i64) _ 3 ?hg (N := 8) ?hd (xs := ([] : List Int)) (inner := []) (ok := fun _ => True) (okp := fun _ => True) ?hr ?hp (fun _ hk => hk) trivial HB0.out HB0.out.size (by simp) ?_; (case hd | hg => rfl); (case hr => first | (go_simp; done) | (go_simp; rfl)); (case hp => exact (Reps.none _ _)); intro v8 w1 ho hb hg_ hnew_; have HO1 := Am ho; have HB1 := Am hb; have BX1 := Am (blk_grown BX.out hg_ (by simp)); clear ho hb hg_ hnew_ BX HB0) | fail)
 refine (impl_components.calls k A0 c0 l0 cs w1 (Kd.C_below HR0.out HB1.out) HC0.out HCS.out).mono ?_
 rintro e w2 ⟨vg, rfl, hS, hb⟩
 obtain ⟨ps, hpc, hh, hw⟩ := Kd.S_rows hS
 subst hpc
 rw [List.length_map] at hcl
 have hbz := HB1.out.size
 have HN2 : Ad (∀ p ∈ ps, NeRow (hdV p.1) v8) := ⟨fun p hp k1 hk1 he1 => by have h1 := Kd.R_base (hw.row p hp) k1 hk1; have h2 := Kd.R_lt HO1.out k1 he1; omega⟩
 have HO2 := Am (Kd.R_below HO1.out hb)
 have BX2 := Am (Kb BX1.out hb)
 have HB2 := Am (below_then HB1.out HB1.out.size hb)
 have HL2 := Am (Kd.R_lower hh hbz)
 have HW2 := Am (hw.lower hbz)
 obtain ⟨A10, c10, e10⟩ := Kd.R_slice hh
 rw [List.length_map] at e10
 subst e10
 clear hS hh hw hb HO1 BX1 HB1
 go_wp2
 go_loopg [5, 12] ps.length (fun gg v5 v12 wr => ∃ (i : Nat) (acc : List Int) (qs : List (Hd × List Int)), i ≤ ps.length ∧ ps.length - i ≤ gg ∧ v12 = .int .i64 i ∧ acc.length ≤ 1000 * i ∧ Ad (acc ++ ((ps.map (·.2)).drop i).flatMap (impl_order.srt l1) = r) ∧ Ad (qs.map (·.1) = ps.map (·.1)) ∧ Ad ((qs.map (·.2)).drop i = (ps.map (·.2)).drop i) ∧ Ad (Kd.Rows (Kd.int .i64) 3 wr w.heap.size qs) ∧ Ad (∀ p ∈ qs, NeRow (hdV p.1) v5) ∧ Ad (Kd.hd.R 23 wr w.heap.size (fun _ => True) (.slice A10 ps.length c10) (ps.map (·.1))) ∧ Ad (Kd.R (Kd.int .i64) 3 wr w.heap.size (fun _ => True) v5 acc) ∧ Ad (wr.heap[w.heap.size]? = some (.cells #[.slice A1 l1.length c1] 23 (0, 0))) ∧ Ad (Below w.heap.size w wr))
 case atStart => exact ⟨0, [], ps, Nat.zero_le _, by omega, by first | rfl | simp, by simp, ⟨by simpa using HF.out⟩, ⟨rfl⟩, ⟨rfl⟩, HW2, HN2, HL2, HO2, BX2, HB2⟩
 case round =>
  clear HW2 HN2 HL2 HO2 BX2 HB2 HF
  obtain ⟨i, acc, qs, hi, hgg, rfl, hal, HE, HQ, HD, HW, HN, HL, HO, BX, HB⟩ := hrel
  have hql : qs.length = ps.length := by have h1 := congrArg List.length HQ.out; simpa using h1
  have HQL := Am hql
  clear hql
  obtain ⟨A5, c5, e5⟩ := Kd.R_slice HO.out
  subst e5
  by_cases hlt : i < ps.length
  ·have hltz : (i : Int) < (ps.length : Int) := by omega
   have h0z : (0 : Int) ≤ (i : Int) := by omega
   have hl2 : Kd.hd.R 23 wr w.heap.size (fun _ => True) (.slice A10 ps.length c10) (qs.map (·.1)) := by rw [HQ.out]; exact HL.out
   obtain ⟨ad10, B, cB, x, rfl, hx, hp, hxe, hxc, hC⟩ := Kd.pair_at hl2 (fun p hp => HW.out.row p hp) i (by rw [HQL.out]; exact hlt)
   have hdr : (ps.map (·.2)).drop i = x :: (ps.map (·.2)).drop (i + 1) := by
    have h1 := Mine.drop_at (ps.map (·.2)) ([] : List Int) i (by rw [List.length_map]; exact hlt)
    have h2 : (ps.map (·.2)).getD i [] = x := by
     rw [← hxe, List.getD_eq_getElem?_getD, List.getD_eq_getElem?_getD, ← Nat.add_zero i, ← List.getElem?_drop, ← List.getElem?_drop, HD.out]
    rw [h2] at h1
    exact h1
   have hdq : (qs.map (·.2)).drop (i + 1) = (ps.map (·.2)).drop (i + 1) := by rw [← List.drop_drop, ← List.drop_drop, HD.out]
   have hxm : x ∈ ps.map (·.2) := List.mem_of_mem_drop (i := i) (by rw [hdr]; exact List.mem_cons_self ..)
   obtain ⟨hne, hxl, hxr, hxi⟩ := HGR.out x hxm
   have HP := Am hp
   have HDR := Am hdr
   have HDQ := Am hdq
   have HXR := Am hxr
   have HXI := Am hxi
   have hRx := HW.out.row _ (List.mem_iff_getElem?.2 ⟨i, hp⟩)
   obtain ⟨gx, cx, ex, hgx0, hgx1, cells, hcx⟩ := Kd.R_form hRx (List.length_pos_iff.2 hne)
   injection ex with ex1 ex2 ex3
   subst ex1
   subst ex3
   have HX := Am hRx
   have HXN := Am hne
   clear hl2 hxe hxc hC hdr hdq hxm hne hxr hxi hRx hgx0 hgx1 hcx HD
   clear hp
   obtain ⟨m, hm⟩ : ∃ m, l1.length = m + 1 := by
    cases x with
    | nil => exact absurd rfl HXN.out
    | cons y ys => have := HXR.out y (List.mem_cons_self ..); exact ⟨l1.length - 1, by omega⟩
   have HM := Am hm
   clear hm
   go_wp2_with fail
   have hmz : (l1.length : Int) = (m : Int) + 1 := by have := HM.out; omega
   have hown : ∀ k1, some gx = some k1 → w.heap.size ≤ k1 := fun k1 hk => Kd.R_base HX.out k1 hk
   refine (slices_SortFunc_int_int.sort m 117 #[.pointer (some ⟨w.heap.size, 0, none⟩)] (rd l1) gx cB w.heap.size x (fun _ => True) wr (fun args w => enters_ Try.func117 (by kernel_rfl) rfl args w) HX.out (fun p hp => by have := HXR.out p hp; omega) hxl (fun W hW x y hx0 hx1 hy0 hy1 => impl_order_1.calls x y w.heap.size A1 c1 l1 (rd l1 x - rd l1 y) W (Kd.C_below HR1.out (pw_below_grown HB.out _ HB.out.size hW hown)) HC1.out (blk_grown BX.out hW (Kd.R_ne HX.out BX.out (by decide))) (impl_order.cmp l1 HV.out x y hx0 (by omega) hy0 (by omega)))).mono ?_
   rintro e w3 ⟨rfl, ys, hyp, hys, hR, hg⟩
   have he := impl_order.uniq hyp hys HXI.out
   subst he
   have hlen : (impl_order.srt l1 x).length = x.length := (impl_order.srt_perm l1 x).length_eq
   obtain ⟨hw3, hq3⟩ := impl_order.wrote HW.out HP.out hg hR
   have hnx : NeRow (.slice (some ⟨gx, 0, none⟩) x.length cB) (.slice A5 acc.length c5) := HN.out _ (List.mem_iff_getElem?.2 ⟨i, HP.out⟩)
   have HN3 : Ad (∀ p ∈ qs.set i ((some ⟨gx, 0, none⟩, x.length, cB), impl_order.srt l1 x), NeRow (hdV p.1) (.slice A5 acc.length c5)) := ⟨fun p hpm => by
    have h1 : p.1 ∈ qs.map (·.1) := by rw [← hq3]; exact List.mem_map_of_mem hpm
    obtain ⟨q, hq, he⟩ := List.mem_map.1 h1
    rw [← he]
    exact HN.out q hq⟩
   have HW3 := Am hw3
   have HQ3 := Am (hq3.trans HQ.out)
   have HL3 := Am (Kd.R_over HL.out HX.out (by decide) hg)
   have HO3 := Am (Kd.R_grown2 HO.out rfl hg (fun k1 hk he => hnx k1 hk he.symm))
   have BX3 := Am (blk_grown BX.out hg (Kd.R_ne HX.out BX.out (by decide)))
   have HB3 := Am (pw_below_grown HB.out _ HB.out.size hg hown)
   have HXC : Ad (Kd.C (Kd.int .i64) w3 (some ⟨gx, 0, none⟩) x.length (impl_order.srt l1 x)) := ⟨by have h1 := (Kd.R_reads' hR).2.2; rw [hlen] at h1; exact h1⟩
   have HLN := Am hlen
   clear hyp hys hR hg hw3 hq3 hnx hlen hown hmz HW HN HL HO BX HB HX HQ hx
   go_wp2_with (first | ((with_reducible refine gate_builtin (b := .append) (xs := #[.tmp 19, .tmp 20]) rfl ?_); at_builtin; refine Kd.R_append_rows (Kd.int .i64) (w0 := w) w.heap.size rfl (.tmp 19) (.tmp 20) 23 3 (.int .i64 0) 8 rfl Try.underlying23 info3 rfl (by decide) (by omega) (.slice A5 acc.length c5) acc (impl_order.srt l1 x) (some ⟨gx, 0, none⟩) x.length cB (fun _ => True) (fun _ => False) rfl rfl ?aO ?aR (fun _ _ h => h) (fun _ h => h.elim) ?aF ?aB ?aS ?aL ?_; (case aO => exact HO3.out); (case aR => exact HXC.out); (case aF => exact (fun _ _ => trivial)); (case aB => exact HB3.out); (case aS => exact HB3.out.size); (case aL => omega); intro v21 w4 ho hb hg hat; have HW4 := Am (HW3.out.grown_ne rfl hg HN3.out); have HL4 := Am (Kd.R_over HL3.out HO3.out (by decide) hg); have HN4 := Am (HW3.out.ne_after HN3.out hat); have BX4 := Am (blk_grown BX3.out hg (Kd.R_ne HO3.out BX3.out (by decide))); have HO4 := Am ho; have HB4 := Am hb; clear ho hb hg hat HW3 HL3 HN3 BX3 HO3 HB3) | fail)
   go_roundg (ps.length - (i + 1))
   case measure => omega
   case rel => exact ⟨i + 1, acc ++ impl_order.srt l1 x, qs.set i ((some ⟨gx, 0, none⟩, x.length, cB), impl_order.srt l1 x), by omega, by omega, by go_num, by have := HLN.out; rw [List.length_append]; omega, ⟨by rw [← HE.out, HDR.out, List.flatMap_cons, List.append_assoc]⟩, HQ3, ⟨by rw [List.map_set, List.drop_set_of_lt (by omega)]; exact HDQ.out⟩, HW4, HN4, HL4, HO4, BX4, HB4⟩
  ·obtain rfl : i = ps.length := by omega
   have hltz : ¬ (ps.length : Int) < (ps.length : Int) := by omega
   have HE2 : Ad (acc = r) := ⟨by
    have h1 := HE.out
    rw [List.drop_eq_nil_of_le (by rw [List.length_map]; exact Nat.le_refl _)] at h1
    simpa using h1⟩
   go_wp2
   go_ret
   exact ⟨_, rfl, by rw [← HE2.out]; exact HO.out, HB.out⟩
end Go.Proofs.Ytpboalgecejoeaa.QFnOrders
