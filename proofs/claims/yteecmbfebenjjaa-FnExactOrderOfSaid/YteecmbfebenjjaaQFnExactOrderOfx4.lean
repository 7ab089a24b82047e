-- Written by a program of this session (wip/mk.py) over the kit's print: Lean checks it.
import Derived.Test.YteecmbfebenjjaaQFnExactOrderOfx0
import Derived.Test.YteecmbfebenjjaaQFnExactOrderOfx2
import Derived.Test.YteecmbfebenjjaaQFnExactOrderOfx3
namespace Go.Proofs.Yteecmbfebenjjaa.QFnExactOrderOf
open Go.Proofs.YteecmbfebenjjaaW.PrintWords.Kd renaming R_alloc → Ra, R_drewN → Rn, R_drew → Rd
open Go.Proofs.YteecmbfebenjjaaW.PrintWords renaming below_alloc → Ba, pw_below_drewN → Bn, below_drew1 → Bd, below_size → Bz, below_step → Bt, gate_dst → Gd
open Go.Proofs.YteecmbfebenjjaaW.PrintWords.Aside0 renaming mk → Am
open Go.Proofs.YteecmbfebenjjaaW.PrintWords renaming Aside0 → Ad
open Go.RowKit Go.Proofs.YteecmbfebenjjaaW.PrintWords Go.Proofs.YteecmbfebenjjaaW.PrintLast Go.Proofs.YteecmbfebenjjaaW.PrintMore
attribute [local go_sem] max2_int min2_int max_two min_two max_three min_three max_four min_four   -- for this text's walks alone
set_option linter.unusedVariables false
set_option linter.unusedSimpArgs false
def spec_l5Groups.al (k : Nat) (g : List (List Int)) : Nat → Nat → Option (List (List Int))
 | 0, _ => some []
 | d + 1, i => (spec_l5Reached.f k g (i : Int)).bind fun r => (spec_l5Groups.al k g d (i + 1)).map (r :: ·)
def spec_l5Groups.gr (all : List (List Int)) (i : Nat) : List Int := (all.getD i []).filter fun n => Mine.anyP (fun x => x == (i : Int)) (all.getD n.toNat [])
def spec_l5Groups.gs (all : List (List Int)) : Nat → Nat → List (List Int)
 | 0, _ => []
 | d + 1, i => if (spec_l5Groups.gr all i).getD 0 0 = (i : Int) then spec_l5Groups.gr all i :: spec_l5Groups.gs all d (i + 1) else spec_l5Groups.gs all d (i + 1)
def spec_l5Groups.ok (n : Nat) (all : List (List Int)) : Bool := decide (n ≤ 1000) && (all.all fun a => decide (a.length ≤ 1000) && a.all fun p => decide (0 ≤ p ∧ p < (n : Int))) && (List.range n).all fun i => decide (spec_l5Groups.gr all i ≠ [])
def spec_l5Groups.f (k : Nat) (l0 : List (List Int)) : Option (List (List Int)) := (spec_l5Groups.al k l0 l0.length 0).bind fun all => if spec_l5Groups.ok l0.length all = true then some (spec_l5Groups.gs all l0.length 0) else none
theorem spec_l5Groups.mono_al (g : List (List Int)) (k : Nat) : ∀ d i, LeO (spec_l5Groups.al k g d i) (spec_l5Groups.al (k + 1) g d i)
 | 0, _ => LeO.refl _
 | d + 1, i => by
  unfold spec_l5Groups.al
  exact LeO.bind (spec_l5Reached.mono _ _ _) (fun _ => LeO.map _ (spec_l5Groups.mono_al g k d _))
theorem spec_l5Groups.mono : ∀ a0 k, LeO (spec_l5Groups.f k a0) (spec_l5Groups.f (k + 1) a0) := by
 intro a0 k
 unfold spec_l5Groups.f
 exact LeO.bind (spec_l5Groups.mono_al _ _ _ _) (fun _ => LeO.refl _)
theorem spec_l5Groups.okE {n : Nat} {all : List (List Int)} (h : spec_l5Groups.ok n all = true) : n ≤ 1000 ∧ (∀ a ∈ all, a.length ≤ 1000 ∧ ∀ p ∈ a, 0 ≤ p ∧ p < (n : Int)) ∧ ∀ i, i < n → spec_l5Groups.gr all i ≠ [] := by
 unfold spec_l5Groups.ok at h
 simp only [Bool.and_eq_true, decide_eq_true_eq, List.all_eq_true, List.mem_range] at h
 exact ⟨h.1.1, h.1.2, h.2⟩
theorem spec_l5Groups.al_len (k : Nat) (g : List (List Int)) : ∀ d i all, spec_l5Groups.al k g d i = some all → all.length = d
 | 0, _, all, h => by cases h; rfl
 | d + 1, i, all, h => by
  unfold spec_l5Groups.al at h
  obtain ⟨r, _, h⟩ := Option.bind_eq_some_iff.1 h
  obtain ⟨rs, hrs, rfl⟩ := Option.map_eq_some_iff.1 h
  rw [List.length_cons, spec_l5Groups.al_len k g d _ rs hrs]
theorem spec_l5Groups.has (l : List Int) (n : Int) (hm : l.length ≤ 9223372036854775807) : ∃ K, spec_l1Has.f K l n = some (Mine.anyP (fun x => x == n) l) := by
 have key : ∀ d i : Nat, l.length - i = d → i ≤ l.length → ∃ K, spec_l1Has.l0 K n l (l.length : Int) (i : Int) = some (Mine.anyP (fun x => x == n) (l.drop i)) := by
  intro d
  induction d with
  | zero =>
   intro i hd hi
   obtain rfl : i = l.length := by omega
   exact ⟨1, by simp [spec_l1Has.l0, Mine.anyP]⟩
  | succ d ih =>
   intro i hd hi
   obtain ⟨K, hK⟩ := ih (i + 1) (by omega) (by omega)
   refine ⟨K + 1, ?_⟩
   rw [Mine.drop_at l 0 i (by omega), Mine.anyP_cons]
   simp only [spec_l1Has.l0]
   rw [if_pos (by omega), if_pos (by omega), if_pos (by omega), show wrap64 ((i : Int) + 1) = ((i + 1 : Nat) : Int) by unfold wrap64; omega, hK]
   unfold rd
   rw [Int.toNat_natCast]
   by_cases h : l.getD i 0 = n
   ·rw [if_pos h, h]; simp
   ·rw [if_neg h, beq_false_of_ne h, Bool.false_or]
 obtain ⟨K, hK⟩ := key l.length 0 (by omega) (by omega)
 exact ⟨K, by simpa [spec_l1Has.f] using hK⟩
set_option maxHeartbeats 8000000 in
set_option maxRecDepth 100000 in
theorem spec_l5Groups.calls (k : Nat) (A0 : Option Addr) (c0 : Nat) (l0 : List (List Int)) (r : List (List Int)) (w : World) (hr0 : Kd.C (Kd.slice 3 (Kd.int .i64)) w A0 l0.length l0) (hc0 : l0.length ≤ c0) (h : spec_l5Groups.f k l0 = some r) :
  Calls Try.prog 121 #[.slice A0 l0.length c0] w fun e w' => ∃ v0_ : Value, e = .returned (v0_) ∧ Kd.S (Kd.slice 3 (Kd.int .i64)) 24 w' w.heap.size (fun _ => True) v0_ r ∧ Below w.heap.size w w' := by
 have hmax0 : l0.length ≤ 9223372036854775807 := hr0.2.1
 have HR0 := Am hr0
 have HC0 := Am hc0
 clear hr0 hc0
 unfold spec_l5Groups.f at h
 cases hg : spec_l5Groups.al k l0 l0.length 0 with
 | none => rw [hg] at h; cases h
 | some all =>
 rw [hg, Option.bind_some] at h
 by_cases hok : spec_l5Groups.ok l0.length all = true
 case neg => rw [if_neg hok] at h; cases h
 rw [if_pos hok] at h
 have hall := spec_l5Groups.al_len k l0 _ _ all hg
 have HG := Am hg
 have HK := Am (spec_l5Groups.okE hok)
 have HS : Ad (spec_l5Groups.gs all l0.length 0 = r) := ⟨Option.some.inj h⟩
 have hn40 : l0.length ≤ 1000 := HK.out.1
 clear hg hok h
 go_enter Try.func121, Try.ntmps121
 go_wp2
 go_loopg [3, 12] l0.length (fun gg v3 v12 wr => ∃ (i : Nat) (pa : List (Hd × List Int)) (rest : List (List Int)), i ≤ l0.length ∧ l0.length - i ≤ gg ∧ v12 = .int .i64 i ∧ Ad (pa.length = i) ∧ Ad (spec_l5Groups.al k l0 (l0.length - i) i = some rest) ∧ Ad (pa.map (·.2) ++ rest = all) ∧ Ad (Kd.Rows (Kd.int .i64) 3 wr w.heap.size pa) ∧ Ad (Kd.hd.R 24 wr w.heap.size (fun _ => True) v3 (pa.map (·.1))) ∧ Ad (Below w.heap.size w wr))
 case atStart => exact ⟨0, [], all, Nat.zero_le _, by omega, by first | rfl | simp, ⟨rfl⟩, HG, ⟨by simp⟩, ⟨Kd.Rows.nil _ _ _ _⟩, ⟨Kd.R_nil _ _ _ _ _⟩, ⟨Below.refl _ _⟩⟩
 case round =>
  clear HG
  obtain ⟨i, pa, rest, hi, hgg, rfl, hpl, HG, HE, HW, HL, HB⟩ := hrel
  obtain ⟨A3, c3, e3⟩ := Kd.R_slice HL.out
  rw [List.length_map] at e3
  subst e3
  by_cases hlt : i < l0.length
  ·have hltz : (i : Int) < (l0.length : Int) := by omega
   have h1 := HG.out
   rw [show l0.length - i = (l0.length - (i + 1)) + 1 by omega, spec_l5Groups.al] at h1
   obtain ⟨x, hx, h1⟩ := Option.bind_eq_some_iff.1 h1
   obtain ⟨rest', hr', rfl⟩ := Option.map_eq_some_iff.1 h1
   have HX := Am hx
   have HG' := Am hr'
   clear h1 hx hr' HG
   go_wp2_with fail
   refine (spec_l5Reached.calls k A0 c0 l0 (i : Int) x wr (Kd.C_below HR0.out HB.out) HC0.out HX.out).mono ?_
   rintro e w2 ⟨vx, rfl, hx2, hb⟩
   obtain ⟨Ax, cx, rfl⟩ := Kd.R_slice hx2
   have HX2 := Am hx2
   have HNE := Am (HW.out.ne_new hx2)
   have HW2 := Am (HW.out.below hb)
   have HL2 := Am (Kd.R_below HL.out hb)
   have HB2 := Am (below_then HB.out HB.out.size hb)
   have hsz := HB.out.size
   have HX3 := Am (Kd.R_lower HX2.out hsz)
   clear hx2 hb hsz HW HL HB HX2
   go_wp2_with (first | ((with_reducible refine gate_builtin (b := .append) (xs := #[.tmp 15, .tmp 19]) rfl ?_); at_builtin; refine Kd.R_append Kd.hd (w0 := w) w.heap.size rfl (.tmp 15) (.tmp 19) 64 24 (.slice none 0 0) 24 rfl Try.underlying64 info24 rfl (by decide) (by omega) (.slice A3 pa.length c3) (pa.map (·.1)) (Ax, x.length, cx) [.slice (Ax) (x.length) (cx)] (fun _ => True) (fun _ => False) rfl rfl ?aP (fun _ hk => hk.elim) ?aF ?aO ?aB ?aS ?aL ?_; (case aP => exact rfl); (case aB => exact HB2.out); (case aF => exact (fun _ _ => trivial)); (case aO => exact HL2.out); (case aS => exact (Bz HB2.out)); (case aL => rw [List.length_map, hpl.out]; omega); intro v3 w3 ho hb hg hat; have HW3 := Am ((HW2.out.snoc (p := ((Ax, x.length, cx), x)) HX3.out (Nat.le_refl _) HNE.out).over HL2.out (by decide) hg); have HL3 := Am ho; have HB3 := Am hb; clear HW2 HL2 HB2 HX3 HNE; clear ho hb hg hat))
   go_roundg (l0.length - (i + 1))
   case measure => omega
   case rel => exact ⟨i + 1, pa ++ [((Ax, x.length, cx), x)], rest', by omega, by omega, by go_num, ⟨by rw [List.length_append, hpl.out]; rfl⟩, HG', ⟨by rw [← HE.out]; simp⟩, HW3, ⟨by have := HL3.out; simpa using this⟩, HB3⟩
  ·obtain rfl : i = l0.length := by omega
   have hltz : ¬ (l0.length : Int) < (l0.length : Int) := by omega
   clear hi hgg hlt
   have HE2 : Ad (pa.map (·.2) = all) := ⟨by
    have h1 := HG.out
    rw [Nat.sub_self, spec_l5Groups.al] at h1
    rw [← HE.out, ← Option.some.inj h1, List.append_nil]⟩
   clear HG HE
   go_wp2
   go_loopg [5, 24] l0.length (fun gg v5 v24 wq => ∃ (i : Nat) (po : List (Hd × List Int)), i ≤ l0.length ∧ l0.length - i ≤ gg ∧ v24 = .int .i64 i ∧ po.length ≤ i ∧ Ad (po.map (·.2) ++ spec_l5Groups.gs all (l0.length - i) i = r) ∧ Ad (Kd.Rows (Kd.int .i64) 3 wq w.heap.size (pa ++ po)) ∧ Ad (Kd.hd.R 24 wq w.heap.size (fun k_ => some k_ ≠ v5.ownBlock) (.slice A3 pa.length c3) (pa.map (·.1))) ∧ Ad (Kd.hd.R 24 wq w.heap.size (fun k_ => some k_ ≠ (Value.slice A3 pa.length c3).ownBlock) v5 (po.map (·.1))) ∧ Ad (Below w.heap.size w wq))
   case atStart => exact ⟨0, [], Nat.zero_le _, by omega, by first | rfl | simp, by simp, ⟨by simpa using HS.out⟩, ⟨by simpa using HW.out⟩, ⟨Kd.R_mono HL.out (fun _ _ => by simp [Value.ownBlock])⟩, ⟨Kd.R_nil _ _ _ _ _⟩, HB⟩
   case round =>
    clear HW HL HB HS
    obtain ⟨i, po, hi, hgg, rfl, hpo, HE, HW, HL, HO, HB⟩ := hrel
    obtain ⟨A5, c5, e5⟩ := Kd.R_slice HO.out
    rw [List.length_map] at e5
    subst e5
    by_cases hlt : i < l0.length
    ·have hltz : (i : Int) < (l0.length : Int) := by omega
     have hltp : i < pa.length := by rw [hpl.out]; exact hlt
     have hltpz : (i : Int) < (pa.length : Int) := by omega
     have h0z : (0 : Int) ≤ (i : Int) := by omega
     obtain ⟨ad3, B, cB, x, rfl, hx, hp, hxe, hxc, hC⟩ := Kd.pair_at HL.out (fun p hp => HW.out.row p (List.mem_append_left _ hp)) i hltp
     rw [HE2.out] at hxe
     have HM : Ad ((((B, x.length, cB), x) : Hd × List Int) ∈ pa) := ⟨List.mem_iff_getElem?.2 ⟨i, hp⟩⟩
     have HXC := Am hxc
     have hxm : x.length ≤ 1000 ∧ ∀ p ∈ x, 0 ≤ p ∧ p < (l0.length : Int) := by
      refine HK.out.2.1 x ?_
      rw [← HE2.out, List.mem_map]
      exact ⟨_, List.mem_iff_getElem?.2 ⟨i, hp⟩, rfl⟩
     have HXM := Am hxm.2
     have hxl : x.length ≤ 1000 := hxm.1
     have HXE := Am hxe
     have hgr : Ad (spec_l5Groups.gr all i = x.filter fun n => Mine.anyP (fun y => y == (i : Int)) (all.getD n.toNat [])) := ⟨by unfold spec_l5Groups.gr; rw [hxe]⟩
     have HGN := Am (HK.out.2.2 i hlt)
     clear hC hxc hxm hxe hp
     go_wp2
     go_loopg [7, 32] x.length (fun gg v7 v32 wz => ∃ (j : Nat) (acc : List Int), j ≤ x.length ∧ x.length - j ≤ gg ∧ v32 = .int .i64 j ∧ acc.length ≤ j ∧ Ad (acc ++ (x.drop j).filter (fun n => Mine.anyP (fun y => y == (i : Int)) (all.getD n.toNat [])) = spec_l5Groups.gr all i) ∧ Ad (Kd.Rows (Kd.int .i64) 3 wz w.heap.size (pa ++ po)) ∧ Ad (∀ p ∈ pa ++ po, NeRow (hdV p.1) v7) ∧ Ad (Kd.hd.R 24 wz w.heap.size (fun k_ => some k_ ≠ (Value.slice A5 po.length c5).ownBlock) (.slice (some ad3) pa.length c3) (pa.map (·.1))) ∧ Ad (Kd.hd.R 24 wz w.heap.size (fun k_ => some k_ ≠ (Value.slice (some ad3) pa.length c3).ownBlock) (.slice A5 po.length c5) (po.map (·.1))) ∧ Ad (Kd.R (Kd.int .i64) 3 wz w.heap.size (fun _ => True) v7 acc) ∧ Ad (Below w.heap.size w wz))
     case atStart => exact ⟨0, [], Nat.zero_le _, by omega, by first | rfl | simp, by simp, ⟨by rw [hgr.out]; simp⟩, HW, ⟨fun p _ => ne_nil' _⟩, HL, HO, ⟨Kd.R_nil _ _ _ _ _⟩, HB⟩
     case round =>
      clear HW HL HO HB hx
      obtain ⟨j, acc, hj, hgg2, rfl, hal, HA, HW, HN, HL, HO, HR, HB⟩ := hrel
      obtain ⟨A7, c7, e7⟩ := Kd.R_slice HR.out
      subst e7
      by_cases hjlt : j < x.length
      ·have hjz : (j : Int) < (x.length : Int) := by omega
       obtain ⟨adx, rfl, hxj⟩ := Kd.at_int (Kd.R_reads' (show Kd.R (Kd.int .i64) 3 wr w.heap.size (fun _ => True) (.slice B x.length cB) x from HW.out.row _ (List.mem_append_left _ HM.out))).2.2 (j : Int) (by omega) hjz
       rw [Int.toNat_natCast, rd, Int.toNat_natCast] at hxj
       have hmem : x.getD j 0 ∈ x := Mine.getD_mem _ _ _ hjlt
       have hdr : x.drop j = x.getD j 0 :: x.drop (j + 1) := Mine.drop_at x 0 j hjlt
       have HDR := Am hdr
       clear hdr
       generalize x.getD j 0 = y at hxj hmem HDR
       obtain ⟨hy0, hy1⟩ := HXM.out y hmem
       obtain ⟨yn, rfl⟩ := Int.eq_ofNat_of_zero_le hy0
       have hyn : yn < pa.length := by rw [hpl.out]; omega
       have hypz : (yn : Int) < (pa.length : Int) := by omega
       have hy0z : (0 : Int) ≤ (yn : Int) := by omega
       obtain ⟨ad3', B2, cB2, z, e3', hz, hpz, hze, hzc, hCz⟩ := Kd.pair_at HL.out (fun p hp => HW.out.row p (List.mem_append_left _ hp)) yn hyn
       injection e3' with e3'
       subst e3'
       rw [HE2.out] at hze
       have HZE := Am hze
       obtain ⟨K, hK⟩ := spec_l5Groups.has z (i : Int) hCz.2.1
       have HKK := Am hK
       have HCz := Am hCz
       have HZC := Am hzc
       clear hmem hpz hze hzc hCz hK hy1
       cases hb : Mine.anyP (fun y => y == (i : Int)) z with
       | true =>
        have HBt := Am hb
        clear hb
        go_wp2_with fail
        refine (spec_l1Has.calls K B2 cB2 z (i : Int) true wr HCz.out HZC.out (by rw [← HBt.out]; exact HKK.out)).mono ?_
        rintro e w2 ⟨rfl, hd⟩
        have hb := hd.below
        have HW2 := Am (HW.out.below hb)
        have HL2 := Am (Kd.R_below HL.out hb)
        have HO2 := Am (Kd.R_below HO.out hb)
        have HR2 := Am (Kd.R_below HR.out hb)
        have HB2 := Am (below_then HB.out HB.out.size hb)
        clear hb hd HW HL HO HR HB HCz hz hxj
        go_wp2_with (first | ((with_reducible refine gate_builtin (b := .append) (xs := #[.tmp 42, .tmp 44]) rfl ?_); at_builtin; refine Kd.R_append (Kd.int .i64) (w0 := w) w.heap.size rfl (.tmp 42) (.tmp 44) 24 3 (.int .i64 0) 8 rfl Try.underlying24 info3 rfl (by decide) (by omega) (.slice A7 acc.length c7) acc (yn : Int) [.int .i64 yn] (fun _ => True) (fun _ => False) rfl rfl ?aP (fun _ hk => hk.elim) ?aF ?aO ?aB ?aS ?aL ?_; (case aP => exact rfl); (case aB => exact HB2.out); (case aF => exact (fun _ _ => trivial)); (case aO => exact HR2.out); (case aS => exact HB2.out.size); (case aL => omega); intro v7 w3 ho hb hg hat; have HR3 := Am ho; have HB3 := Am hb; have HW3 := Am (HW2.out.grown_ne rfl hg HN.out); have HN3 := Am (HW2.out.ne_after HN.out hat); have HL3 := Am (Kd.R_over HL2.out HR2.out (by decide) hg); have HO3 := Am (Kd.R_over HO2.out HR2.out (by decide) hg); clear ho hb hg hat))
        go_roundg (x.length - (j + 1))
        case measure => omega
        case rel => exact ⟨j + 1, acc ++ [(yn : Int)], by omega, by omega, by go_num, by rw [List.length_append]; simp; omega, ⟨by rw [← HA.out, HDR.out, List.filter_cons_of_pos (by rw [Int.toNat_natCast, HZE.out]; exact HBt.out)]; simp⟩, HW3, HN3, HL3, HO3, HR3, HB3⟩
       | false =>
        have HBt := Am hb
        clear hb
        go_wp2_with fail
        refine (spec_l1Has.calls K B2 cB2 z (i : Int) false wr HCz.out HZC.out (by rw [← HBt.out]; exact HKK.out)).mono ?_
        rintro e w2 ⟨rfl, hd⟩
        have hb := hd.below
        have HW2 := Am (HW.out.below hb)
        have HL2 := Am (Kd.R_below HL.out hb)
        have HO2 := Am (Kd.R_below HO.out hb)
        have HR2 := Am (Kd.R_below HR.out hb)
        have HB2 := Am (below_then HB.out HB.out.size hb)
        clear hb hd HW HL HO HR HB HCz hz hxj
        go_wp2
        go_roundg (x.length - (j + 1))
        case measure => omega
        case rel => exact ⟨j + 1, acc, by omega, by omega, by go_num, by omega, ⟨by rw [← HA.out, HDR.out, List.filter_cons_of_neg (by rw [Int.toNat_natCast, HZE.out, HBt.out]; simp)]⟩, HW2, HN, HL2, HO2, HR2, HB2⟩
      ·obtain rfl : j = x.length := by omega
       have hjz : ¬ (x.length : Int) < (x.length : Int) := by omega
       have hE : acc = spec_l5Groups.gr all i := by
        have h1 := HA.out
        rw [List.drop_eq_nil_of_le (Nat.le_refl _), List.filter_nil, List.append_nil] at h1
        exact h1
       have HAE := Am hE
       have hap : 0 < acc.length := List.length_pos_iff.2 (by rw [hE]; exact HGN.out)
       have hapz : (0 : Int) < (acc.length : Int) := by omega
       obtain ⟨ad7, rfl, h70⟩ := Kd.at_int (Kd.R_reads' HR.out).2.2 0 (by omega) hapz
       have h70 : wr.cell? ad7 = some (.int .i64 (acc.getD 0 0)) := by rw [show ((0 : Int)).toNat = 0 from rfl, Addr.add_zero'] at h70; exact h70
       clear hE HA
       have HSTEP : Ad (spec_l5Groups.gs all (l0.length - i) i = if acc.getD 0 0 = (i : Int) then acc :: spec_l5Groups.gs all (l0.length - (i + 1)) (i + 1) else spec_l5Groups.gs all (l0.length - (i + 1)) (i + 1)) := ⟨by rw [show l0.length - i = (l0.length - (i + 1)) + 1 by omega, spec_l5Groups.gs, HAE.out]⟩
       generalize acc.getD 0 0 = y0 at h70 HSTEP
       by_cases hy : y0 = (i : Int)
       ·have hyb : (y0 == (i : Int)) = true := beq_iff_eq.2 hy
        have HSTEP2 : Ad (spec_l5Groups.gs all (l0.length - i) i = acc :: spec_l5Groups.gs all (l0.length - (i + 1)) (i + 1)) := ⟨by rw [HSTEP.out, if_pos hy]⟩
        clear hy HSTEP
        go_wp2_with (first | ((with_reducible refine gate_builtin (b := .append) (xs := #[.tmp 52, .tmp 54]) rfl ?_); at_builtin; refine Kd.R_append Kd.hd (w0 := w) w.heap.size rfl (.tmp 52) (.tmp 54) 64 24 (.slice none 0 0) 24 rfl Try.underlying64 info24 rfl (by decide) (by omega) (.slice A5 po.length c5) (po.map (·.1)) (some ad7, acc.length, c7) [.slice (some ad7) (acc.length) (c7)] (fun k_ => some k_ ≠ (Value.slice (some ad3) pa.length c3).ownBlock) (fun _ => False) rfl rfl ?aP (fun _ hk => hk.elim) ?aF ?aO ?aB ?aS ?aL ?_; (case aP => exact rfl); (case aB => exact HB.out); (case aF => exact (fun k_ hk => Kd.fresh' (Kd.R_lt HL.out) k_ hk)); (case aO => exact HO.out); (case aS => exact (Bz HB.out)); (case aL => rw [List.length_map]; omega); intro v5 w3 ho hb hg hat; have HW3 := Am (Kd.Rows.over (HW.out.snoc (p := ((some ad7, acc.length, c7), acc)) HR.out (Nat.le_refl _) HN.out) HO.out (by decide) hg); have HL3 := Am (Kd.R_after (ok := fun _ => True) (Kd.R_mono HL.out (fun _ hk => ⟨trivial, hk⟩)) hg hat); have HO3 := Am ho; have HB3 := Am hb; clear HW HL HO HB; clear ho hb hg hat))
        go_roundg (l0.length - (i + 1))
        case measure => omega
        case rel => exact ⟨i + 1, po ++ [((some ad7, acc.length, c7), acc)], by omega, by omega, by go_num, by rw [List.length_append]; simp; omega, ⟨by rw [← HE.out, HSTEP2.out]; simp⟩, ⟨by have := HW3.out; simpa [List.append_assoc] using this⟩, ⟨Kd.R_mono HL3.out (fun _ hk => hk.2)⟩, ⟨by have := HO3.out; simpa using this⟩, HB3⟩
       ·have hyb : (y0 == (i : Int)) = false := beq_false_of_ne hy
        have HSTEP2 : Ad (spec_l5Groups.gs all (l0.length - i) i = spec_l5Groups.gs all (l0.length - (i + 1)) (i + 1)) := ⟨by rw [HSTEP.out, if_neg hy]⟩
        clear hy HSTEP
        go_wp2
        go_roundg (l0.length - (i + 1))
        case measure => omega
        case rel => exact ⟨i + 1, po, by omega, by omega, by go_num, by omega, ⟨by rw [← HE.out, HSTEP2.out]⟩, HW, HL, HO, HB⟩
    ·obtain rfl : i = l0.length := by omega
     have hltz : ¬ (l0.length : Int) < (l0.length : Int) := by omega
     have he : Ad (po.map (·.2) = r) := ⟨by rw [← HE.out, Nat.sub_self]; simp [spec_l5Groups.gs]⟩
     go_wp2
     go_ret
     refine ⟨_, rfl, ?_, HB.out⟩
     rw [← he.out]
     exact Kd.rows_S (Kd.R_mono HO.out (fun _ _ => trivial)) (HW.out.sub (List.sublist_append_right _ _)) rfl (by decide)
def spec_l5Components.fe (g left : List (List Int)) (k : Nat) (p : Int) (i : Nat) : Bool := !(i == k) && Mine.anyP (fun n : Int => Mine.anyP (fun x => x == n) (g.getD p.toNat [])) (left.getD i [])
def spec_l5Components.fr (g left : List (List Int)) (k : Nat) : Bool := !Mine.anyP (fun p : Int => Mine.anyP (spec_l5Components.fe g left k p) (List.range' 0 left.length)) (left.getD k [])
def spec_l5Components.s (g : List (List Int)) : Nat → List (List Int) → Option (List (List Int))
 | 0, _ => none
 | f + 1, left => if left = [] then some [] else ((List.range left.length).find? (spec_l5Components.fr g left)).bind fun k => (spec_l5Components.s g f (left.eraseIdx k)).map (left.getD k [] :: ·)
def spec_l5Components.ok (n : Nat) (left : List (List Int)) : Bool := decide (left.length ≤ 1000) && left.all fun a => a.all fun p => decide (0 ≤ p ∧ p < (n : Int))
def spec_l5Components.f (k : Nat) (l0 : List (List Int)) : Option (List (List Int)) := (spec_l5Groups.f k l0).bind fun left => if spec_l5Components.ok l0.length left = true then spec_l5Components.s l0 k left else none
theorem spec_l5Components.mono_s (g : List (List Int)) : ∀ k left, LeO (spec_l5Components.s g k left) (spec_l5Components.s g (k + 1) left)
 | 0, _ => LeO.none _
 | k + 1, left => by
  unfold spec_l5Components.s
  exact LeO.ite (LeO.refl _) (LeO.bind (LeO.refl _) (fun j => LeO.map _ (spec_l5Components.mono_s g k _)))
theorem spec_l5Components.mono : ∀ a0 k, LeO (spec_l5Components.f k a0) (spec_l5Components.f (k + 1) a0) := by
 intro a0 k
 unfold spec_l5Components.f
 exact LeO.bind (spec_l5Groups.mono _ _) (fun _ => LeO.ite (spec_l5Components.mono_s _ _ _) (LeO.none _))
theorem spec_l5Components.okE {n : Nat} {left : List (List Int)} (h : spec_l5Components.ok n left = true) : left.length ≤ 1000 ∧ ∀ a ∈ left, ∀ p ∈ a, 0 ≤ p ∧ p < (n : Int) := by
 unfold spec_l5Components.ok at h
 simp only [Bool.and_eq_true, decide_eq_true_eq, List.all_eq_true] at h
 exact h
set_option maxHeartbeats 8000000 in
set_option maxRecDepth 100000 in
theorem spec_l5Components.calls (k : Nat) (A0 : Option Addr) (c0 : Nat) (l0 : List (List Int)) (r : List (List Int)) (w : World) (hr0 : Kd.C (Kd.slice 3 (Kd.int .i64)) w A0 l0.length l0) (hc0 : l0.length ≤ c0) (h : spec_l5Components.f k l0 = some r) :
  Calls Try.prog 101 #[.slice A0 l0.length c0] w fun e w' => ∃ v0_ : Value, e = .returned (v0_) ∧ Kd.S (Kd.slice 3 (Kd.int .i64)) 24 w' w.heap.size (fun _ => True) v0_ r ∧ Below w.heap.size w w' := by
 have hmax0 : l0.length ≤ 9223372036854775807 := hr0.2.1
 have HR0 := Am hr0
 have HC0 := Am hc0
 clear hr0 hc0
 unfold spec_l5Components.f at h
 cases hg : spec_l5Groups.f k l0 with
 | none => rw [hg] at h; cases h
 | some L =>
 rw [hg, Option.bind_some] at h
 by_cases hok : spec_l5Components.ok l0.length L = true
 case neg => rw [if_neg hok] at h; cases h
 rw [if_pos hok] at h
 have HG := Am hg
 have HK := Am (spec_l5Components.okE hok)
 have HS := Am h
 clear hg hok h
 go_enter Try.func101, Try.ntmps101
 go_wp2_with fail
 refine (spec_l5Groups.calls k A0 c0 l0 L w HR0.out HC0.out HG.out).mono ?_
 rintro e w1 ⟨vL, rfl, hS, hb⟩
 obtain ⟨ps, rfl, hR, hRows⟩ := Kd.S_rows hS
 have HL := Am hR
 have HW := Am hRows
 have HB := Am hb
 clear hS hR hRows hb HG
 go_wp2
 go_loopg [3, 4] k (fun f v3 v4 wr => ∃ (pl po : List (Hd × List Int)) (rs : List (List Int)), Ad (spec_l5Components.s l0 f (pl.map (·.2)) = some rs) ∧ Ad (po.map (·.2) ++ rs = r) ∧ Ad (po.length + pl.length ≤ 1000) ∧ Ad (∀ a ∈ pl.map (·.2), ∀ p ∈ a, 0 ≤ p ∧ p < (l0.length : Int)) ∧ Ad (Kd.Rows (Kd.int .i64) 3 wr w.heap.size (po ++ pl)) ∧ Ad (Kd.hd.R 24 wr w.heap.size (fun k_ => some k_ ≠ v4.ownBlock) v3 (pl.map (·.1))) ∧ Ad (Kd.hd.R 24 wr w.heap.size (fun k_ => some k_ ≠ v3.ownBlock) v4 (po.map (·.1))) ∧ Ad (Below w.heap.size w wr))
 case atStart => exact ⟨ps, [], r, HS, ⟨rfl⟩, ⟨by have := HK.out.1; simpa using this⟩, ⟨HK.out.2⟩, HW, ⟨Kd.R_mono HL.out (fun _ _ => by simp [Value.ownBlock])⟩, ⟨Kd.R_nil _ _ _ _ _⟩, HB⟩
 case round =>
  clear HS HK HL HW HB
  obtain ⟨pl, po, rs, HS, HE, HN, HP, HW, HL, HO, HB⟩ := hrel
  cases gk with
  | zero => exact absurd HS.out (by simp [spec_l5Components.s])
  | succ f1 =>
  obtain ⟨A3, c3, e3⟩ := Kd.R_slice HL.out
  obtain ⟨A4, c4, e4⟩ := Kd.R_slice HO.out
  rw [List.length_map] at e3 e4
  subst e3
  subst e4
  by_cases hne : pl = []
  ·subst hne
   have he : Ad (po.map (·.2) = r) := ⟨by
    have h1 := HS.out
    simp [spec_l5Components.s] at h1
    have h2 := HE.out
    rw [← h2, h1, List.append_nil]⟩
   go_wp2
   go_ret
   refine ⟨_, rfl, ?_, HB.out⟩
   rw [← he.out]
   refine Kd.rows_S (Kd.R_mono HO.out (fun _ _ => trivial)) ?_ rfl (by decide)
   have := HW.out
   rwa [List.append_nil] at this
  ·have hpos : 0 < pl.length := List.length_pos_iff.2 hne
   have h1 := HS.out
   rw [spec_l5Components.s, if_neg (by simpa using hne)] at h1
   obtain ⟨k0, hk0, h1⟩ := Option.bind_eq_some_iff.1 h1
   rw [List.length_map, List.find?_range_eq_some] at hk0
   obtain ⟨hf0, hlt0, hbef⟩ := hk0
   have hlt0 : k0 < pl.length := by simpa using hlt0
   obtain ⟨rs1, hs1, hrs⟩ := Option.map_eq_some_iff.1 h1
   have HS1 := Am hs1
   have HRS := Am hrs
   have HF0 := Am hf0
   have HBF := Am hbef
   have hposz : decide (0 < (pl.length : Int)) = true := decide_eq_true (by omega)
   clear h1 hs1 hrs hf0 hbef hne HS
   generalize hEL : (List.map (fun x => x.2) pl) = EL at HS1 HRS HF0 HBF HP
   have HEL := Am hEL
   clear hEL
   have hlen : EL.length = pl.length := by rw [← HEL.out, List.length_map]
   go_wp2
   go_loopg [3, 4, 22] pl.length (fun gg v3 v4 v22 wq => ∃ kk : Nat, kk ≤ k0 ∧ pl.length - kk ≤ gg ∧ v3 = .slice A3 pl.length c3 ∧ v4 = .slice A4 po.length c4 ∧ v22 = .int .i64 kk ∧ Ad (Below wr.heap.size wr wq))
   case atStart => exact ⟨0, Nat.zero_le _, by omega, rfl, rfl, by first | rfl | simp, ⟨Below.refl _ _⟩⟩
   case round =>
    obtain ⟨kk, hkk, hgg, rfl, rfl, rfl, HQ⟩ := hrel
    have HW1 := Am (HW.out.below HQ.out)
    have HL1 := Am (Kd.R_below HL.out HQ.out)
    have HO1 := Am (Kd.R_below HO.out HQ.out)
    have HB1 := Am (below_then HB.out HB.out.size HQ.out)
    clear HW HL HO HB
    have hkl : kk < pl.length := by omega
    have hpn : pl.length ≤ 1000 := by have := HN.out; omega
    have hkz : (kk : Int) < (pl.length : Int) := by omega
    have hk0z : (0 : Int) ≤ (kk : Int) := by omega
    obtain ⟨ad3, B, cB, x, rfl, hx, hp, hxe, hxc, hC⟩ := Kd.pair_at HL1.out (fun p hp => HW1.out.row p (List.mem_append_right _ hp)) kk hkl
    rw [HEL.out] at hxe
    have HM : Ad ((((B, x.length, cB), x) : Hd × List Int) ∈ pl) := ⟨List.mem_iff_getElem?.2 ⟨kk, hp⟩⟩
    have HXI : Ad (pl[kk]? = some ((B, x.length, cB), x)) := ⟨hp⟩
    have hxmem : x ∈ EL := by
     rw [← hxe]
     exact Mine.getD_mem EL [] kk (by omega)
    have HXP := Am (HP.out x hxmem)
    have HXE := Am hxe
    have hxm : x.length ≤ 9223372036854775807 := hC.2.1
    have hfr : Ad (spec_l5Components.fr l0 EL kk = !Mine.anyP (fun p : Int => Mine.anyP (spec_l5Components.fe l0 EL kk p) (List.range' 0 EL.length)) x) := ⟨by unfold spec_l5Components.fr; rw [hxe]⟩
    clear hC hxmem hxe hp
    have HXC := Am hxc
    clear hxc
    go_wp2
    go_loopg [7, 29] x.length (fun gg v7 v29 wy => ∃ (b : Bool) (j : Nat), j ≤ x.length ∧ x.length - j ≤ gg ∧ v7 = .bool b ∧ v29 = .int .i64 j ∧ Ad ((b && !Mine.anyP (fun p : Int => Mine.anyP (spec_l5Components.fe l0 EL kk p) (List.range' 0 EL.length)) (x.drop j)) = spec_l5Components.fr l0 EL kk) ∧ Ad (Below wr.heap.size wr wy))
    case atStart => exact ⟨true, 0, Nat.zero_le _, by omega, rfl, by first | rfl | simp, ⟨by rw [hfr.out]; simp⟩, ⟨Below.refl _ _⟩⟩
    case round =>
     clear hx
     obtain ⟨b, j, hj, hgg3, rfl, rfl, HF, HQ3⟩ := hrel
     by_cases hjlt : j < x.length
     ·have hjz : (j : Int) < (x.length : Int) := by omega
      obtain ⟨adx, rfl, hxj⟩ := Kd.at_int (Kd.R_reads' (show Kd.R (Kd.int .i64) 3 wr w.heap.size (fun _ => True) (.slice B x.length cB) x from Kd.R_below (HW1.out.row _ (List.mem_append_right _ HM.out)) HQ3.out)).2.2 (j : Int) (by omega) hjz
      rw [Int.toNat_natCast, rd, Int.toNat_natCast] at hxj
      have hmem : x.getD j 0 ∈ x := Mine.getD_mem _ _ _ hjlt
      have HDR := Am (show x.drop j = x.getD j 0 :: x.drop (j + 1) from Mine.drop_at x 0 j hjlt)
      generalize x.getD j 0 = y at hxj hmem HDR
      obtain ⟨hy0, hy1⟩ := HXP.out y hmem
      clear hmem
      obtain ⟨T3, hT3⟩ : ∃ T : Bool, T = (b && !Mine.anyP (spec_l5Components.fe l0 EL kk y) (List.range' 0 EL.length)) := ⟨_, rfl⟩
      have HT3 := Am hT3
      have HF3 : Ad ((T3 && !Mine.anyP (fun p : Int => Mine.anyP (spec_l5Components.fe l0 EL kk p) (List.range' 0 EL.length)) (x.drop (j + 1))) = spec_l5Components.fr l0 EL kk) := ⟨by rw [← HF.out, HDR.out, Mine.anyP_cons, hT3]; cases b <;> cases Mine.anyP (spec_l5Components.fe l0 EL kk y) (List.range' 0 EL.length) <;> rfl⟩
      clear hT3 HF HDR
      go_wp2
      go_loopg [7, 35] pl.length (fun gg v7 v35 wy => ∃ (b : Bool) (i : Nat), i ≤ pl.length ∧ pl.length - i ≤ gg ∧ v7 = .bool b ∧ v35 = .int .i64 i ∧ Ad ((b && !Mine.anyP (spec_l5Components.fe l0 EL kk y) (List.range' i (pl.length - i))) = T3) ∧ Ad (Below wr.heap.size wr wy))
      case atStart => exact ⟨b, 0, Nat.zero_le _, by omega, rfl, by first | rfl | simp, ⟨by rw [HT3.out, hlen, Nat.sub_zero]⟩, ⟨Below.refl _ _⟩⟩
      case round =>
       clear hxj HT3
       clear b
       obtain ⟨b, i, hi, hgg4, rfl, rfl, HF, HQ4⟩ := hrel
       have HQ4' := Am (below_then HQ3.out HQ3.out.size HQ4.out)
       by_cases hilt : i < pl.length
       ·have hiz : (i : Int) < (pl.length : Int) := by omega
        have hi0z : (0 : Int) ≤ (i : Int) := by omega
        obtain ⟨ad3', B2, cB2, z, e3', hz, hpz, hze, hzc, hCz⟩ := Kd.pair_at (Kd.R_below HL1.out HQ4'.out) (fun p hp => (HW1.out.below HQ4'.out).row p (List.mem_append_right _ hp)) i hilt
        injection e3' with e3'
        subst e3'
        rw [HEL.out] at hze
        have HMz : Ad ((((B2, z.length, cB2), z) : Hd × List Int) ∈ pl) := ⟨List.mem_iff_getElem?.2 ⟨i, hpz⟩⟩
        have hzm : z.length ≤ 9223372036854775807 := hCz.2.1
        have hfe : Ad (spec_l5Components.fe l0 EL kk y i = (!(i == kk) && Mine.anyP (fun n : Int => Mine.anyP (fun x => x == n) (l0.getD y.toNat [])) z)) := ⟨by unfold spec_l5Components.fe; rw [hze]⟩
        obtain ⟨T4, hT4⟩ : ∃ T : Bool, T = (b && !(!(i == kk) && Mine.anyP (fun n : Int => Mine.anyP (fun x => x == n) (l0.getD y.toNat [])) z)) := ⟨_, rfl⟩
        have HT4 := Am hT4
        have HF4 : Ad ((T4 && !Mine.anyP (spec_l5Components.fe l0 EL kk y) (List.range' (i + 1) (pl.length - (i + 1)))) = T3) := ⟨by
         rw [← HF.out, show pl.length - i = (pl.length - (i + 1)) + 1 by omega, List.range'_succ, Mine.anyP_cons, hfe.out, hT4]
         cases b <;> cases (!(i == kk) && Mine.anyP (fun n : Int => Mine.anyP (fun x => x == n) (l0.getD y.toNat [])) z) <;> rfl⟩
        clear hT4 HF hfe hze hpz hzc hCz
        go_wp2
        go_loopg [7, 42] z.length (fun gg v7 v42 wy => ∃ (b : Bool) (j : Nat), j ≤ z.length ∧ z.length - j ≤ gg ∧ v7 = .bool b ∧ v42 = .int .i64 j ∧ Ad ((b && !(!(i == kk) && Mine.anyP (fun n : Int => Mine.anyP (fun x => x == n) (l0.getD y.toNat [])) (z.drop j))) = T4) ∧ Ad (Below wr.heap.size wr wy))
        case atStart => exact ⟨b, 0, Nat.zero_le _, by omega, rfl, by first | rfl | simp, ⟨by rw [HT4.out]; rfl⟩, ⟨Below.refl _ _⟩⟩
        case round =>
         clear hz HT4
         clear b
         obtain ⟨b, j5, hj5, hgg5, rfl, rfl, HF, HQ5⟩ := hrel
         have HQ5' := Am (below_then HQ4'.out HQ4'.out.size HQ5.out)
         by_cases hj5lt : j5 < z.length
         ·have hj5z : (j5 : Int) < (z.length : Int) := by omega
          obtain ⟨adz, rfl, hzj⟩ := Kd.at_int (Kd.R_reads' (show Kd.R (Kd.int .i64) 3 wr w.heap.size (fun _ => True) (.slice B2 z.length cB2) z from Kd.R_below (HW1.out.row _ (List.mem_append_right _ HMz.out)) HQ5'.out)).2.2 (j5 : Int) (by omega) hj5z
          rw [Int.toNat_natCast, rd, Int.toNat_natCast] at hzj
          have HDR := Am (show z.drop j5 = z.getD j5 0 :: z.drop (j5 + 1) from Mine.drop_at z 0 j5 hj5lt)
          generalize z.getD j5 0 = n5 at hzj HDR
          have HF2 : Ad (∀ h : Bool, h = Mine.anyP (fun x => x == n5) (l0.getD y.toNat []) → ((b && !(!(i == kk) && h)) && !(!(i == kk) && Mine.anyP (fun n : Int => Mine.anyP (fun x => x == n) (l0.getD y.toNat [])) (z.drop (j5 + 1)))) = T4) := ⟨fun h hh => by
           rw [← HF.out, HDR.out, Mine.anyP_cons, hh]
           cases b <;> cases (i == kk) <;> cases Mine.anyP (fun x => x == n5) (l0.getD y.toNat []) <;> rfl⟩
          clear HF HDR
          cases b with
          | false =>
           go_wp2
           go_roundg (z.length - (j5 + 1))
           case measure => omega
           case rel => exact ⟨false, j5 + 1, by omega, by omega, rfl, by go_num, ⟨by have := HF2.out _ rfl; simpa using this⟩, HQ5⟩
          | true =>
           by_cases hik : i = kk
           ·have hikb : ((i : Int) == (kk : Int)) = true := by rw [hik]; exact beq_self_eq_true _
            go_wp2
            go_roundg (z.length - (j5 + 1))
            case measure => omega
            case rel => exact ⟨true, j5 + 1, by omega, by omega, rfl, by go_num, ⟨by have := HF2.out _ rfl; rw [hik, beq_self_eq_true] at this ⊢; simpa using this⟩, HQ5⟩
           ·have hikb : ((i : Int) == (kk : Int)) = false := beq_false_of_ne (by omega)
            have hikn : (i == kk) = false := beq_false_of_ne hik
            obtain ⟨adg, Ag, cg, rfl, hg, hgc, hgC⟩ := at_L1 (Kd.C_below HR0.out (below_then HB1.out HB1.out.size HQ5'.out)) y hy0 hy1
            have HRG := Am hgC
            have HCG := Am hgc
            have hge : rd_L1 l0 y = l0.getD y.toNat [] := rfl
            obtain ⟨K, hK⟩ := spec_l5Groups.has (rd_L1 l0 y) n5 hgC.2.1
            have HK := Am hK
            have HGE := Am hge
            generalize rd_L1 l0 y = gy at hg hgc HRG HCG HK HGE
            have HHB : Ad (Mine.anyP (fun x => x == n5) gy = Mine.anyP (fun x => x == n5) (l0.getD y.toNat [])) := ⟨by rw [HGE.out]⟩
            clear hgC hgc hge hK HGE
            generalize Mine.anyP (fun x => x == n5) gy = hb5 at HK HHB
            go_wp2_with fail
            refine (spec_l1Has.calls K Ag cg gy n5 hb5 wr HRG.out HCG.out HK.out).mono ?_
            rintro e w2 ⟨rfl, hd⟩
            have hbw := hd.below
            clear hd hg hzj
            have HQ6 := Am (below_then HQ5.out HQ5.out.size hbw)
            clear hbw
            cases hb5 with
            | true =>
             go_wp2
             go_roundg (z.length - (j5 + 1))
             case measure => omega
             case rel => exact ⟨false, j5 + 1, by omega, by omega, rfl, by go_num, ⟨by have := HF2.out _ HHB.out; simpa [hikn] using this⟩, HQ6⟩
            | false =>
             go_wp2
             go_roundg (z.length - (j5 + 1))
             case measure => omega
             case rel => exact ⟨true, j5 + 1, by omega, by omega, rfl, by go_num, ⟨by have := HF2.out _ HHB.out; simpa [hikn] using this⟩, HQ6⟩
         ·obtain rfl : j5 = z.length := by omega
          have hj5z : ¬ (z.length : Int) < (z.length : Int) := by omega
          have hbe : b = T4 := by
           have h1 := HF.out
           rw [List.drop_eq_nil_of_le (Nat.le_refl _)] at h1
           simpa [Mine.anyP] using h1
          have HF5 := Am (hbe ▸ HF4.out)
          clear hbe HF
          go_wp2
          go_roundg (pl.length - (i + 1))
          case measure => omega
          case rel => exact ⟨b, i + 1, by omega, by omega, rfl, by go_num, HF5, ⟨below_then HQ4.out HQ4.out.size HQ5.out⟩⟩
       ·obtain rfl : i = pl.length := by omega
        have hiz : ¬ (pl.length : Int) < (pl.length : Int) := by omega
        have hbe : b = T3 := by
         have h1 := HF.out
         rw [Nat.sub_self] at h1
         simpa [Mine.anyP] using h1
        have HF5 := Am (hbe ▸ HF3.out)
        clear hbe HF
        go_wp2
        go_roundg (x.length - (j + 1))
        case measure => omega
        case rel => exact ⟨b, j + 1, by omega, by omega, rfl, by go_num, HF5, ⟨below_then HQ3.out HQ3.out.size HQ4.out⟩⟩
     ·obtain rfl : j = x.length := by omega
      have hjz : ¬ (x.length : Int) < (x.length : Int) := by omega
      have hbe : b = spec_l5Components.fr l0 EL kk := by
       have h1 := HF.out
       rw [List.drop_eq_nil_of_le (Nat.le_refl _)] at h1
       simpa [Mine.anyP] using h1
      clear HF
      have HQ' := Am (below_then HQ.out HQ.out.size HQ3.out)
      cases b with
      | false =>
       have hne : kk ≠ k0 := fun h => by rw [h, HF0.out] at hbe; cases hbe
       clear hbe
       go_wp2
       go_roundg (pl.length - (kk + 1))
       case measure => omega
       case rel => exact ⟨kk + 1, by omega, by omega, rfl, rfl, by go_num, HQ'⟩
      | true =>
       have hk : kk = k0 := by
        rcases Nat.lt_or_ge kk k0 with h | h
        ·have := HBF.out kk h; rw [← hbe] at this; cases this
        ·omega
       subst hk
       clear hbe
       have HW2 := Am (HW1.out.below HQ3.out)
       have HL2 := Am (Kd.R_below HL1.out HQ3.out)
       have HO2 := Am (Kd.R_below HO1.out HQ3.out)
       have HB2 := Am (below_then HB1.out HB1.out.size HQ3.out)
       have HPERM : Ad ((po ++ pl).Perm ((po ++ [((B, x.length, cB), x)]) ++ pl.eraseIdx kk)) := ⟨by
        rw [List.append_assoc]
        refine List.Perm.append_left po ?_
        rw [List.eraseIdx_eq_take_drop_succ, List.singleton_append]
        have h1 : pl = pl.take kk ++ ((B, x.length, cB), x) :: pl.drop (kk + 1) := by
         obtain ⟨hl_, he_⟩ := List.getElem?_eq_some_iff.1 HXI.out
         rw [← he_, ← List.drop_eq_getElem_cons hl_, List.take_append_drop]
        conv => lhs; rw [h1]
        exact List.perm_middle⟩
       clear HW1 HL1 HO1 HB1 HQ HQ3 HQ' HM HF0 HBF HXP hfr
       obtain ⟨m1, hm1⟩ : ∃ m : Nat, m = kk + 1 := ⟨_, rfl⟩
       have hwk : IntKind.i64.wrap ((kk : Int) + 1) = (m1 : Int) := by rw [IntWalk.i64_in _ (by omega)]; omega
       obtain ⟨i0_, hi0_, _, hsz_, _⟩ := info_parts info24
       have hcut1 := cut_to (P := Try.prog) 64 24 .i64 Try.underlying64 hi0_ (some ad3) pl.length c3 (kk : Int) hk0z (by omega) (by have := (Kd.R_reads' HL2.out).2.1; omega)
       simp only [Int.toNat_natCast] at hcut1
       obtain ⟨A1, hcut2, hA1⟩ := print_cut_of (P := Try.prog) hdV ((none, 0, 0) : Hd) 64 24 .i64 Try.underlying64 hi0_ hsz_ (some ad3) pl.length c3 m1 (by omega)
       have HA1 := Am hA1
       have hcap : Ad (pl.length ≤ c3) := ⟨(Kd.R_reads' HL2.out).2.1⟩
       have HM1 := Am hm1
       clear hA1 hi0_ hsz_ hm1
       have HRT : Ad (∀ W : World, Kd.hd.R 24 W w.heap.size (fun _ => True) (.slice (some ad3) pl.length c3) (pl.map (·.1)) → Kd.C Kd.hd W (some ad3) kk ((pl.map (·.1)).take kk)) := ⟨fun W h => by
        have h1 := (Kd.R_reads' (Kd.R_take (m := kk) h (by rw [List.length_map]; omega))).2.2
        rwa [List.length_take, List.length_map, Nat.min_eq_left (by omega)] at h1⟩
       have HRD : Ad (∀ W : World, Kd.hd.R 24 W w.heap.size (fun _ => True) (.slice (some ad3) pl.length c3) (pl.map (·.1)) → Kd.C Kd.hd W A1 (pl.length - m1) ((pl.map (·.1)).drop m1)) := ⟨fun W h => by
        have h1 := Kd.reads_of_C (d := ((none, 0, 0) : Hd)) (Kd.R_reads' h).2.2
        rw [List.length_map] at h1
        exact Kd.C_of_reads (HA1.out W _ hcap.out h1)⟩
       clear HA1
       go_wp2_with (first | ((with_reducible refine gate_builtin (b := .append) (xs := #[.tmp 65, .tmp 67]) rfl ?_); at_builtin; refine Kd.R_append Kd.hd (w0 := w) w.heap.size rfl (.tmp 65) (.tmp 67) 64 24 (.slice none 0 0) 24 rfl Try.underlying64 info24 rfl (by decide) (by omega) (.slice A4 po.length c4) (po.map (·.1)) (B, x.length, cB) [.slice (B) (x.length) (cB)] (fun k_ => some k_ ≠ (Value.slice (some ad3) pl.length c3).ownBlock) (fun _ => False) rfl rfl ?aP (fun _ hk => hk.elim) ?aF ?aO ?aB ?aS ?aL ?_; (case aP => exact rfl); (case aB => exact HB2.out); (case aF => exact (fun k_ hk => Kd.fresh' (Kd.R_lt HL2.out) k_ hk)); (case aO => exact HO2.out); (case aS => exact (Bz HB2.out)); (case aL => have := HN.out; rw [List.length_map]; omega); intro v4 w3 ho hb hg hat; have HW3 := Am (HW2.out.over HO2.out (by decide) hg); have HL3 := Am (Kd.R_after (ok := fun _ => True) (Kd.R_mono HL2.out (fun _ hk => ⟨trivial, hk⟩)) hg hat); have HO3 := Am ho; have HB3 := Am hb; clear HW2 HL2 HO2 HB2; clear ho hb hg hat) | ((refine Gd (N := 69) rfl ?_); refine Kd.R_lit Kd.hd _ 24 ?hg (N := 69) ?hd (xs := ([] : List Hd)) (inner := []) (ok := fun _ => True) (okp := fun _ => True) ?hr ?hp (fun _ hk => hk) trivial (Below.refl _ _) (Nat.le_refl _) (by simp) ?_; (case hd | hg => rfl); (case hr => first | (go_simp; done) | (go_simp; rfl)); (case hp => exact (Reps.none _ _)); intro v69 w4 ho hb hg_ hnew_; have HZ4 := Am (Kd.R_lower (Kd.R_newR (Kd.R_newR ho HL3.out) HO3.out) HB3.out.size); have HL4 := Am (Kd.R_elder HL3.out ho hb); have HO4 := Am (Kd.R_elder HO3.out ho hb); have HW4 := Am (HW3.out.below hb); have HB4 := Am (below_then HB3.out HB3.out.size hb); clear ho hb hg_ hnew_ HL3 HO3 HW3 HB3) | ((with_reducible refine gate_builtin (b := .append) (xs := #[.tmp 69, .tmp 72]) rfl ?_); at_builtin; refine Kd.R_append_rows Kd.hd (w0 := w) w.heap.size rfl (.tmp 69) (.tmp 72) 64 24 (.slice none 0 0) 24 rfl Try.underlying64 info24 rfl (by decide) (by omega) v69 ([] : List Hd) ((pl.map (·.1)).take kk) (some ad3) kk c3 (fun k_ => (True ∧ some k_ ≠ (Value.slice (some ad3) pl.length c3).ownBlock) ∧ some k_ ≠ (v4 : Value).ownBlock) (fun _ => False) rfl rfl ?aO ?aR (fun _ _ h => h) (fun _ h => h.elim) ?aF ?aB ?aS ?aL ?_; (case aO => exact HZ4.out); (case aR => exact (HRT.out _ (Kd.R_mono HL4.out (fun _ _ => trivial)))); (case aF => exact (fun k_ hk => ⟨⟨trivial, Kd.fresh' (Kd.R_lt HL4.out) k_ hk⟩, Kd.fresh' (Kd.R_lt HO4.out) k_ hk⟩)); (case aB => exact HB4.out); (case aS => exact HB4.out.size); (case aL => have := HN.out; (try simp only [List.length_nil]); omega); intro v73 w5 ho hb hg hat; have HZ5 := Am ho; have HL5 := Am (Kd.R_after HL4.out hg hat); have HO5 := Am (Kd.R_after HO4.out hg hat); have HW5 := Am (HW4.out.over HZ4.out (by decide) hg); have HB5 := Am hb; clear ho hb hg hat HZ4 HL4 HO4 HW4 HB4) | ((with_reducible refine gate_builtin (b := .append) (xs := #[.tmp 74, .tmp 78]) rfl ?_); at_builtin; refine Kd.R_append_rows Kd.hd (w0 := w) w.heap.size rfl (.tmp 74) (.tmp 78) 64 24 (.slice none 0 0) 24 rfl Try.underlying64 info24 rfl (by decide) (by omega) v73 ([] ++ (pl.map (·.1)).take kk) ((pl.map (·.1)).drop m1) A1 (pl.length - m1) (c3 - m1) (fun k_ => (True ∧ some k_ ≠ (Value.slice (some ad3) pl.length c3).ownBlock) ∧ some k_ ≠ (v4 : Value).ownBlock) (fun _ => False) rfl rfl ?aO ?aR (fun _ _ h => h) (fun _ h => h.elim) ?aF ?aB ?aS ?aL ?_; (case aO => exact HZ5.out); (case aR => exact (HRD.out _ (Kd.R_mono HL5.out (fun _ _ => trivial)))); (case aF => exact (fun k_ hk => ⟨⟨trivial, Kd.fresh' (Kd.R_lt HL5.out) k_ hk⟩, Kd.fresh' (Kd.R_lt HO5.out) k_ hk⟩)); (case aB => exact HB5.out); (case aS => exact HB5.out.size); (case aL => have := HN.out; have := HM1.out; simp only [List.nil_append, List.length_take, List.length_map]; omega); intro v3 w6 ho hb hg hat; have HZ6 := Am ho; have HO6 := Am (Kd.R_after HO5.out hg hat); have HW6 := Am (HW5.out.over HZ5.out (by decide) hg); have HB6 := Am hb; clear ho hb hg hat HZ5 HL5 HO5 HW5 HB5))
       have HX : Ad ([] ++ (pl.map (·.1)).take kk ++ (pl.map (·.1)).drop m1 = (pl.eraseIdx kk).map (·.1)) := ⟨by rw [HM1.out, List.eraseIdx_eq_take_drop_succ, List.nil_append, List.map_append, List.map_take, List.map_drop]⟩
       have HY : Ad ((pl.eraseIdx kk).map (·.2) = EL.eraseIdx kk) := ⟨by rw [List.eraseIdx_eq_take_drop_succ, List.eraseIdx_eq_take_drop_succ, List.map_append, List.map_take, List.map_drop, HEL.out]⟩
       go_roundg f1
       case measure => omega
       case rel => exact ⟨pl.eraseIdx kk, po ++ [((B, x.length, cB), x)], rs1, ⟨by rw [HY.out]; exact HS1.out⟩, ⟨by rw [← HE.out, ← HRS.out, HXE.out]; simp⟩, ⟨by have := HN.out; rw [List.length_append, List.length_eraseIdx_of_lt hkl]; simp; omega⟩, ⟨fun a ha => HP.out a (by rw [HY.out] at ha; exact (List.eraseIdx_sublist _ _).subset ha)⟩, ⟨HW6.out.perm HPERM.out⟩, ⟨by rw [← HX.out]; exact Kd.R_mono HZ6.out (fun _ hk => hk.2)⟩, ⟨by rw [List.map_append]; exact Kd.R_mono HO6.out (fun _ hk => hk.2)⟩, HB6⟩
def spec_l1Own.f (l0 : List Int) : Option (List Int) := (some (([] : List Int) : List Int)).bind fun y193 => (if y193.length + l0.length < 17592186044416 then (some (y193 ++ l0)) else (none))
set_option maxHeartbeats 8000000 in
set_option maxRecDepth 100000 in
theorem spec_l1Own.calls (A0 : Option Addr) (c0 : Nat) (l0 : List Int) (r : List Int) (w : World) (hr0 : Kd.C (Kd.int .i64) w A0 l0.length l0) (hc0 : l0.length ≤ c0) (h : spec_l1Own.f l0 = some r) :
  Calls Try.prog 133 #[.slice A0 l0.length c0] w fun e w' => ∃ v0_ : Value, e = .returned (v0_) ∧ Kd.R (Kd.int .i64) 3 w' w.heap.size (fun _ => True) v0_ r ∧ Below w.heap.size w w' := by
 have HR0 := Am hr0
 have HC0 := Am hc0
 clear hr0 hc0
 have HB := Am (Below.refl w.heap.size w)
 have H : ((some (([] : List Int) : List Int)).bind fun y193 => (if y193.length + l0.length < 17592186044416 then (some (y193 ++ l0)) else (none))) = some r := h
 clear h
 obtain ⟨y193, hy193⟩ : ∃ y_ : List Int, y_ = (([] : List Int)) := ⟨_, rfl⟩
 replace H : (if y193.length + l0.length < 17592186044416 then (some (y193 ++ l0)) else (none)) = some r := by first | (rw [hy193]; with_reducible exact H) | (have H2_ := (Option.bind_some _ _).symm.trans H; rw [hy193]; with_reducible exact H2_) | (have H2_ := (Option.bind_some _ _).symm.trans H; with_reducible exact H2_) | with_reducible exact H | (rw [hy193]; exact H) | exact H
 have Ny193 := Am hy193
 clear hy193
 by_cases c2 : y193.length + l0.length < 17592186044416
 ·rw [if_pos c2] at H
  have LMc2 := Am c2
  clear c2
  obtain ⟨y196, hy196⟩ : ∃ y_ : List Int, y_ = (y193 ++ l0) := ⟨_, rfl⟩
  replace H : (some y196) = some r := by first | (rw [hy196]; with_reducible exact H) | (have H2_ := (Option.bind_some _ _).symm.trans H; rw [hy196]; with_reducible exact H2_) | (have H2_ := (Option.bind_some _ _).symm.trans H; with_reducible exact H2_) | with_reducible exact H | (rw [hy196]; exact H) | exact H
  have Ny196 := Am hy196
  clear hy196
  obtain rfl := Option.some.inj H
  go_enter Try.func133, Try.ntmps133
  go_wp2_with (first | ((refine Gd (N := 3) rfl ?_); refine Kd.R_lit (Kd.int .i64) _ 3 ?hg (N := 3) ?hd (xs := ([] : List Int)) (inner := []) (ok := fun _ => True) (okp := fun _ => True) ?hr ?hp (fun _ hk => hk) trivial (Below.refl _ _) (Nat.le_refl _) (by simp) ?_; (case hd | hg => rfl); (case hr => first | (go_simp; done) | (go_simp; rfl)); (case hp => exact (Reps.none _ _)); intro v194 w3 ho4 hb hg_ hnew_; clear hg_ hnew_; (first | rw [← Ny193.out] at ho4 | (simp only [Int.reduceToNat] at ho4; rw [← Ny193.out] at ho4)); have n0_ := Am (Kd.R_lower ho4 (Bz (by repeat (first | exact HB.out | apply Ba | apply Bn | apply Bd)))); have n1_ := Am (Bt (by repeat (first | exact HB.out | apply Ba | apply Bn | apply Bd)) hb); clear HB; have HO195 := n0_; have HB := n1_; clear n0_ n1_; clear hb ho4) | ((with_reducible refine gate_builtin (b := .append) (xs := #[.tmp 3, .tmp 4]) rfl ?_); at_builtin; refine Kd.R_append_rows (Kd.int .i64) (w0 := w) w.heap.size rfl (.tmp 3) (.tmp 4) 24 3 (.int .i64 0) 8 rfl Try.underlying24 info3 rfl (by decide) (by omega) v194 y193 l0 _ _ _ (fun _ => True) (fun _ => False) rfl rfl ?aO ?aR (fun _ _ h => h) (fun _ h => h.elim) ?aF ?aB ?aS ?aL ?_; (case aR => repeat (first | exact (Kd.C_below HR0.out HB.out) | (with_reducible refine Kd.C_alloc ?_ _) | (with_reducible refine Kd.C_drewN ?_ _) | (with_reducible refine Kd.C_drew ?_))); (case aB => exact (by repeat (first | exact HB.out | apply Ba | apply Bn | apply Bd))); (case aF => exact (fun _ _ => trivial)); (case aO => exact (by (with_reducible repeat (first | apply Ra | apply Rn | apply Rd)); exact HO195.out)); (case aS => exact (Bz (by repeat (first | exact HB.out | apply Ba | apply Bn | apply Bd)))); (case aL => have := LMc2.out; omega); intro v197 w5 ho hb hg hat; rw [← Ny196.out] at ho; have n0_ := Am (hb); have n1_ := Am (ho); clear HB; clear HO195; have HB := n0_; have HO198 := n1_; clear n0_ n1_; clear ho hb hg hat))
  go_ret
  exact ⟨_, by first | rfl | (simp [*, errW_none, errW_some] <;> rfl), by (with_reducible repeat (first | apply Ra | apply Rn | apply Rd)); exact HO198.out, by repeat (first | exact HB.out | apply Ba | apply Bn | apply Bd)⟩
 ·rw [if_neg c2] at H
  exact absurd H (by simp)
end Go.Proofs.Yteecmbfebenjjaa.QFnExactOrderOf
