-- Written by a program of this session (wip/mk.py) over the kit's print: Lean checks it.
import Derived.Test.YtpboalgecejoeaaQFnComponentsx0
import Derived.Test.YtpboalgecejoeaaQFnComponentsx1
import Derived.Test.YtpboalgecejoeaaQFnComponentsx2
import Derived.Test.YtpboalgecejoeaaQFnComponentsx3
import Derived.Test.YtpboalgecejoeaaQFnComponentsx5
namespace Go.Proofs.Ytpboalgecejoeaa.QFnComponents
open Go.Proofs.YtpboalgecejoeaaW.PrintWords.Kd renaming R_alloc → Ra, R_drew → Rd, S_alloc → Sa, S_drewN → Sn, S_drew → Sd
open Go.Proofs.YtpboalgecejoeaaW.PrintWords renaming below_alloc → Ba, pw_below_drewN → Bn, below_drew1 → Bd, below_set → Bs, below_size → Bz, below_step → Bt, gate_dst → Gd, gate_callee → Gc, blk_alloc → Ka, blk_drew → Ke, blk_below → Kb, blk_cell → Kc, blk_frozen → Kz
open List renaming setIfInBounds_toArray → Lt, set_cons_zero → Lz, set_cons_succ → Ls
open Go.Proofs.YtpboalgecejoeaaW.PrintWords.Aside0 renaming mk → Am
open Go.Proofs.YtpboalgecejoeaaW.PrintWords renaming Aside0 → Ad
open Go.RowKit Go.Proofs.YtpboalgecejoeaaW.PrintWords Go.Proofs.YtpboalgecejoeaaW.PrintLast Go.Proofs.YtpboalgecejoeaaW.PrintMore
attribute [local go_sem] max2_int min2_int max_two min_two max_three min_three max_four min_four   -- for this text's walks alone
set_option linter.unusedVariables false
set_option linter.unusedSimpArgs false
def impl_components.al (k : Nat) (g : List (List Int)) : Nat → Nat → Option (List (List Int))
 | 0, _ => some []
 | d + 1, i => (impl_reached.f k g (i : Int)).bind fun r => (impl_components.al k g d (i + 1)).map (r :: ·)
def impl_components.q (all : List (List Int)) (i p : Nat) : Bool := Mine.anyP (fun x => x == (p : Int)) (all.getD i []) && Mine.anyP (fun x => x == (i : Int)) (all.getD p [])
def impl_components.gr (all : List (List Int)) (n i : Nat) : List Int := ((List.range' 0 n).filter (impl_components.q all i)).map fun p : Nat => (p : Int)
theorem impl_components.alloc3 (w : World) (o1 o2 o3 : Obj) : (((w.alloc o1).alloc o2).alloc o3).drew.heap[w.heap.size]? = some o1 ∧ (((w.alloc o1).alloc o2).alloc o3).drew.heap[w.heap.size + 1]? = some o2 ∧ (((w.alloc o1).alloc o2).alloc o3).drew.heap[w.heap.size + 1 + 1]? = some o3 ∧ Below w.heap.size w (((w.alloc o1).alloc o2).alloc o3).drew := by
 have h1 := Ka (Ka (blk_new w o1) o2) o3
 have h2 := Ka (blk_new (w.alloc o1) o2) o3
 have h3 := blk_new ((w.alloc o1).alloc o2) o3
 rw [show (w.alloc o1).heap.size = w.heap.size + 1 by simp] at h2
 rw [show ((w.alloc o1).alloc o2).heap.size = w.heap.size + 1 + 1 by simp] at h3
 exact ⟨h1, h2, h3, below_drew (Ba (Ba (Ba (Below.refl _ _) _) _) _)⟩
def impl_components.gs (all : List (List Int)) (n : Nat) : Nat → Nat → List (List Int)
 | 0, _ => []
 | d + 1, i => if (impl_components.gr all n i).getD 0 0 = (i : Int) then impl_components.gr all n i :: impl_components.gs all n d (i + 1) else impl_components.gs all n d (i + 1)
def impl_components.set (done : List Bool) (ps : List Int) : List Bool := ps.foldl (fun d p => d.set p.toNat true) done
def impl_components.s (k : Nat) (all : List (List Int)) : Nat → List (List Int) → List Bool → Option (List (List Int))
 | 0, _, _ => none
 | f + 1, groups, done => if groups = [] then some [] else (Mine.idxO (fun x => impl_components_1.f k x all done) groups 0).bind fun j => if 0 ≤ j ∧ j < (groups.length : Int) ∧ (groups.getD j.toNat []).all (fun p => decide (0 ≤ p ∧ p < (done.length : Int))) = true then (impl_components.s k all f (groups.eraseIdx j.toNat) (impl_components.set done (groups.getD j.toNat []))).map (groups.getD j.toNat [] :: ·) else none
def impl_components.ok (n : Nat) (all : List (List Int)) : Bool := decide (n ≤ 1000) && (List.range n).all fun i => decide (impl_components.gr all n i ≠ [])
def impl_components.f (k : Nat) (l0 : List (List Int)) : Option (List (List Int)) := (impl_components.al k l0 l0.length 0).bind fun all => if impl_components.ok l0.length all = true then impl_components.s k all k (impl_components.gs all l0.length l0.length 0) (List.replicate l0.length false) else none
theorem impl_components.mono_al (g : List (List Int)) (k : Nat) : ∀ d i, LeO (impl_components.al k g d i) (impl_components.al (k + 1) g d i)
 | 0, _ => LeO.refl _
 | d + 1, i => by
  unfold impl_components.al
  exact LeO.bind (impl_reached.mono _ _ _) (fun _ => LeO.map _ (impl_components.mono_al g k d _))
theorem impl_components.mono_s (all : List (List Int)) (k : Nat) : ∀ f g d, LeO (impl_components.s k all f g d) (impl_components.s (k + 1) all (f + 1) g d)
 | 0, _, _ => LeO.none _
 | f + 1, g, d => by
  unfold impl_components.s
  exact LeO.ite (LeO.refl _) (LeO.bind (fun r hr => Mine.idxO_mono (fun x b hb => impl_components_1.mono x all d k b hb) _ _ _ hr) (fun j => LeO.ite (LeO.map _ (impl_components.mono_s all k f _ _)) (LeO.none _)))
theorem impl_components.mono : ∀ a0 k, LeO (impl_components.f k a0) (impl_components.f (k + 1) a0) := by
 intro a0 k
 unfold impl_components.f
 exact LeO.bind (impl_components.mono_al _ _ _ _) (fun _ => LeO.ite (impl_components.mono_s _ _ _ _ _) (LeO.none _))
theorem impl_components.okE {n : Nat} {all : List (List Int)} (h : impl_components.ok n all = true) : n ≤ 1000 ∧ ∀ i, i < n → impl_components.gr all n i ≠ [] := by
 unfold impl_components.ok at h
 simp only [Bool.and_eq_true, decide_eq_true_eq, List.all_eq_true, List.mem_range] at h
 exact h
theorem impl_components.al_len (k : Nat) (g : List (List Int)) : ∀ d i all, impl_components.al k g d i = some all → all.length = d
 | 0, _, all, h => by cases h; rfl
 | d + 1, i, all, h => by
  unfold impl_components.al at h
  obtain ⟨r, _, h⟩ := Option.bind_eq_some_iff.1 h
  obtain ⟨rs, hrs, rfl⟩ := Option.map_eq_some_iff.1 h
  rw [List.length_cons, impl_components.al_len k g d _ rs hrs]
theorem impl_components.has (l : List Int) (n : Int) (hm : l.length ≤ 9223372036854775807) : ∃ K, slices_Contains_int_int.f K l n = some (Mine.anyP (fun x => x == n) l) := by
 have key : ∀ d i : Nat, l.length - i = d → i ≤ l.length → ∃ K t, slices_Index_int_int.l0 K l n (l.length : Int) (i : Int) = some t ∧ decide (t ≥ 0) = Mine.anyP (fun x => x == n) (l.drop i) := by
  intro d
  induction d with
  | zero =>
   intro i hd hi
   obtain rfl : i = l.length := by omega
   exact ⟨1, -1, by simp [slices_Index_int_int.l0], by simp [Mine.anyP]⟩
  | succ d ih =>
   intro i hd hi
   obtain ⟨K, t, hK, ht⟩ := ih (i + 1) (by omega) (by omega)
   rw [Mine.drop_at l 0 i (by omega), Mine.anyP_cons]
   by_cases h : n = l.getD i 0
   ·refine ⟨K + 1, (i : Int), ?_, ?_⟩
    ·simp only [slices_Index_int_int.l0]
     rw [if_pos (by omega), if_pos (by omega), if_pos (by omega)]
     unfold rd
     rw [Int.toNat_natCast, if_pos h]
    ·rw [h]; simp
   ·refine ⟨K + 1, t, ?_, ?_⟩
    ·simp only [slices_Index_int_int.l0]
     rw [if_pos (by omega), if_pos (by omega), if_pos (by omega), show wrap64 ((i : Int) + 1) = ((i + 1 : Nat) : Int) by unfold wrap64; omega, hK]
     unfold rd
     rw [Int.toNat_natCast, if_neg h]
    ·rw [ht, beq_false_of_ne (fun e => h e.symm), Bool.false_or]
 obtain ⟨K, t, hK, ht⟩ := key l.length 0 (by omega) (by omega)
 refine ⟨K, ?_⟩
 unfold slices_Contains_int_int.f slices_Index_int_int.f
 have hK : slices_Index_int_int.l0 K l n (l.length : Int) 0 = some t := hK
 rw [hK, Option.bind_some, ht, List.drop_zero]
set_option maxHeartbeats 8000000 in
set_option maxRecDepth 100000 in
theorem impl_components.calls (k : Nat) (A0 : Option Addr) (c0 : Nat) (l0 : List (List Int)) (r : List (List Int)) (w : World) (hr0 : Kd.C (Kd.slice 3 (Kd.int .i64)) w A0 l0.length l0) (hc0 : l0.length ≤ c0) (h : impl_components.f k l0 = some r) :
  Calls Try.prog 59 #[.slice A0 l0.length c0] w fun e w' => ∃ v0_ : Value, e = .returned (v0_) ∧ Kd.S (Kd.slice 3 (Kd.int .i64)) 23 w' w.heap.size (fun _ => True) v0_ r ∧ Below w.heap.size w w' := by
 have hmax0 : l0.length ≤ 9223372036854775807 := hr0.2.1
 have HR0 := Am hr0
 have HC0 := Am hc0
 clear hr0 hc0
 unfold impl_components.f at h
 cases hg : impl_components.al k l0 l0.length 0 with
 | none => rw [hg] at h; cases h
 | some all =>
 rw [hg, Option.bind_some] at h
 by_cases hok : impl_components.ok l0.length all = true
 case neg => rw [if_neg hok] at h; cases h
 rw [if_pos hok] at h
 have hall := Am (impl_components.al_len k l0 _ _ all hg)
 have HG := Am hg
 have HK := Am (impl_components.okE hok)
 have HS := Am h
 have hn40 : l0.length ≤ 1000 := HK.out.1
 clear hg hok h
 go_enter Try.func59, Try.ntmps59
 go_upto_region 2 with (fail)
 refine letC (fun W_ => ∃ gl gb : Nat, gb = w.heap.size + 1 ∧ gl = w.heap.size ∧ Below w.heap.size w W_ ∧ W_.heap[gb]? = some (.cells #[.slice (some ⟨gl, 0, none⟩) 0 0] 22 (0, 0)) ∧ Kd.hd.R 23 W_ w.heap.size (fun k_ => k_ ≠ gb) (.slice (some ⟨gl, 0, none⟩) 0 0) []) ?_ ?_
 ·refine ⟨_, _, rfl, rfl, ?_, ?_, ?_⟩
  ·repeat (first | refine Bs ?_ (by simp) | apply Ba | exact Below.refl _ _)
  ·simpa using blk_new (w.alloc (.cells #[] 23)) (.cells #[.slice (some ⟨w.heap.size, 0, none⟩) 0 0] 22)
  ·refine Ra (Kd.R_of_own (enc := hdV) (xs := []) (by simpa [encs] using World.ownsRow_lit (base := w.heap.size) (e := 23) (size := 1) w #[] 0 (Nat.le_refl _) (by simp [maxLen]) rfl) ?_) _
   intro k hk; simp [Value.ownBlock] at hk; omega
 rintro w1 ⟨gl, gb, hgb, hgl, hb, hx, hR⟩
 have hgb0 : w.heap.size ≤ gb := by omega
 have HGB0 := Am hgb0
 rw [← hgb, ← hgl]
 clear hgb0 hgb hgl
 have HB := Am hb
 have BK := Am hx
 have HL := Am hR
 clear hb hx hR
 go_wp2
 go_loopg [17] l0.length (fun gg v17 wr => ∃ (i : Nat) (pa : List (Hd × List Int)) (rest : List (List Int)) (A3 : Option Addr) (c3 : Nat), i ≤ l0.length ∧ l0.length - i ≤ gg ∧ v17 = .int .i64 i ∧ Ad (pa.length = i) ∧ Ad (impl_components.al k l0 (l0.length - i) i = some rest) ∧ Ad (pa.map (·.2) ++ rest = all) ∧ Ad (Kd.Rows (Kd.int .i64) 3 wr w.heap.size pa) ∧ Ad (Kd.hd.R 23 wr w.heap.size (fun k_ => k_ ≠ gb) (.slice A3 pa.length c3) (pa.map (·.1))) ∧ Ad (wr.heap[gb]? = some (.cells #[.slice A3 pa.length c3] 22 (0, 0))) ∧ Ad (Below w.heap.size w wr))
 case atStart => exact ⟨0, [], all, some ⟨gl, 0, none⟩, 0, Nat.zero_le _, by omega, by first | rfl | simp, ⟨rfl⟩, HG, ⟨by simp⟩, ⟨Kd.Rows.nil _ _ _ _⟩, HL, BK, HB⟩
 case round =>
  clear HG HL BK HB
  obtain ⟨i, pa, rest, A3, c3, hi, hgg, rfl, hpl, HG, HE, HW, HL, BK, HB⟩ := hrel
  by_cases hlt : i < l0.length
  ·have hltz : (i : Int) < (l0.length : Int) := by omega
   have h1 := HG.out
   rw [show l0.length - i = (l0.length - (i + 1)) + 1 by omega, impl_components.al] at h1
   obtain ⟨x, hx, h1⟩ := Option.bind_eq_some_iff.1 h1
   obtain ⟨rest', hr', rfl⟩ := Option.map_eq_some_iff.1 h1
   have HX := Am hx
   have HG' := Am hr'
   clear h1 hx hr' HG
   go_wp2
   refine start_ (n := 7) (S := fun w' => w'.cell? ⟨gb, 0, none⟩ = some (.slice A3 pa.length c3)) (ds := [6]) #[false, false, false, false, false, false, false] (by kernel_rfl) rfl rfl ((Kc BK.out 0).trans rfl) (fun hHeld => ?_)
   have HW1 := Am (HW.out.below (below_drew (Below.refl _ _)))
   have HL1 := Am (Rd HL.out)
   have BK1 := Am (Ke BK.out)
   have HB1 := Am (Bd HB.out)
   clear HW HL BK HB
   generalize wr.drew = w1 at HW1 HL1 BK1 HB1 hHeld ⊢
   refine pure_ (i := 1) (N := some 21) (v := ?_) (a' := ?_) #[false, true, false, false, false, false, false] rfl rfl (by kernel_rfl) (fun _ _ _ h => h) (Or.inl ⟨by rfl, ?_⟩) ?_ ?_
   rotate_left
   ·intro w'
    go_simp
    with_reducible rfl
   rotate_left
   ·simp only [Act.put, Lt, Lz, Ls, i64_w, i32_w]
    rfl
   refine pure_ (i := 2) (N := some 22) (v := ?_) (a' := ?_) #[false, true, true, false, false, false, false] rfl rfl (by kernel_rfl) (fun _ _ _ h => h) (Or.inl ⟨by rfl, ?_⟩) ?_ ?_
   rotate_left
   ·intro w'
    go_simp
    with_reducible rfl
   rotate_left
   ·simp only [Act.put, Lt, Lz, Ls, i64_w, i32_w]
    rfl
   refine take_ (i := 0) (N := some 20) (v := ?_) (a' := ?_) #[true, true, true, false, false, false, false] rfl rfl (by kernel_rfl) (fun _ _ _ h => h) (Or.inl ⟨by rfl, ?_⟩) hHeld ?_ ?_
   rotate_left
   ·intro w' s0
    go_simp
    with_reducible rfl
   rotate_left
   ·simp only [Act.put, Lt, Lz, Ls, i64_w, i32_w]
    rfl
   refine one_ (i := 3) (N := some 23) #[true, true, true, true, false, false, false] rfl rfl (by kernel_rfl) (by decide) (fun K hK => ?_)
   refine goes_ Try.func58 (by kernel_rfl) rfl #[.slice A0 l0.length c0, .int .i64 (i : Int)] (by rfl) rfl rfl (by (try simp only [List.map_toArray, List.map_cons, List.map_nil]); first | done | rfl) ?_
   with_reducible refine (impl_reached.calls k A0 c0 l0 (i : Int) x _ ?side1 ?side2 HX.out).mono ?_
   (case side1 => exact (Kd.C_below HR0.out HB1.out))
   (case side2 => exact HC0.out)
   rintro e w2 ⟨vx, rfl, hx2, hb⟩
   refine ⟨_, rfl, ?_⟩
   obtain ⟨Ax, cx, rfl⟩ := Kd.R_slice hx2
   have HX2 := Am (Kd.R_lower hx2 HB1.out.size)
   have HNE := Am (HW1.out.ne_new hx2)
   have HW2 := Am (HW1.out.below hb)
   have HL2 := Am (Kd.R_below HL1.out hb)
   have BK2 := Am (Kb BK1.out hb)
   have HB2 := Am (below_then HB1.out HB1.out.size hb)
   clear hx2 hb HW1 HL1 BK1 HB1
   refine hK.out _ _ ((Kc BK2.out 0).trans rfl) (fun hHeld => ?_)
   clear hK K
   refine norm_ (a' := ?_) ?_ ?_
   rotate_left
   ·show Act.put _ (some 23) _ = _
    simp only [Act.put, Lt, Lz, Ls, i64_w, i32_w]
    rfl
   refine one_ (i := 4) (N := some 24) #[true, true, true, true, true, false, false] rfl rfl (by kernel_rfl) (by decide) (fun K hK => ?_)
   refine value_ (w1 := ?_) (v := ?_) (by rfl) rfl ?_ ?_
   rotate_left 2
   ·go_simp
    constructor
    ·rfl
    ·rfl
   refine hK.out _ _ ((Kc (Ka BK2.out _) 0).trans rfl) (fun hHeld => ?_)
   clear hK K
   refine norm_ (a' := ?_) ?_ ?_
   rotate_left
   ·show Act.put _ (some 24) _ = _
    simp only [Act.put, Lt, Lz, Ls, i64_w, i32_w]
    rfl
   refine one_ (i := 5) (N := some 25) #[true, true, true, true, true, true, false] rfl rfl (by kernel_rfl) (by decide) (fun K hK => ?_)
   refine Kd.R_append_step Kd.hd (w0 := w) w.heap.size (by rfl) (.tmp 20) (.tmp 24) 22 23 (.slice none 0 0) 24 rfl Try.underlying22 info23 rfl (by decide) (by omega) (.slice A3 pa.length c3) (pa.map (·.1)) (Ax, x.length, cx) [.slice Ax x.length cx] (fun k_ => k_ ≠ gb) (fun _ => False) rfl rfl ?aP (fun _ hk => hk.elim) ?aF ?aO ?aB ?aS ?aL ?_
   (case aP => exact rfl)
   (case aB => exact HB2.out)
   (case aF => exact (fun k_ hk => Kd.freshB BK2.out k_ hk))
   (case aO => exact HL2.out)
   (case aS => exact HB2.out.size)
   (case aL => rw [List.length_map, hpl.out]; omega)
   intro v3 w3 ho hb hg hat
   have HW3 := Am ((HW2.out.snoc (p := ((Ax, x.length, cx), x)) HX2.out (Nat.le_refl _) HNE.out).over HL2.out (by decide) hg)
   have BK3 := Am (blk_grown BK2.out hg (Kd.R_ne HL2.out BK2.out (by decide)))
   have HL3 := Am ho
   have HB3 := Am hb
   clear ho hb hg hat HW2 HL2 BK2 HB2 HX2 HNE
   obtain ⟨A3', c3', e3'⟩ := Kd.R_slice HL3.out
   rw [List.length_append, List.length_map, List.length_singleton] at e3'
   subst e3'
   refine hK.out _ _ ((Kc BK3.out 0).trans rfl) (fun hHeld => ?_)
   clear hK K
   refine norm_ (a' := ?_) ?_ ?_
   rotate_left
   ·show Act.put _ (some 25) _ = _
    simp only [Act.put, Lt, Lz, Ls, i64_w, i32_w]
    rfl
   refine last_ (i := 6) (N := none) #[true, true, true, true, true, true, true] rfl rfl (by kernel_rfl) (by decide) (fun K hK => ?_)
   have hs15 : w3.cell? ⟨gb, 0, none⟩ = some (.slice A3 pa.length c3) := (Kc BK3.out 0).trans rfl
   have hfs15 := Kz BK3.out 0
   refine skip_ (w1 := ?_) (by rfl) rfl ?_ ?_
   rotate_left
   ·go_simp
    rfl
   refine hK.out _ _ ?_
   clear hK K
   refine done_ (by kernel_rfl) ?_
   clear hs15 hfs15 hHeld
   go_wp2
   go_roundg (l0.length - (i + 1))
   case measure => omega
   case rel => exact ⟨i + 1, pa ++ [((Ax, x.length, cx), x)], rest', A3', c3', by omega, by omega, by go_num, ⟨by rw [List.length_append, hpl.out]; rfl⟩, HG', ⟨by rw [← HE.out]; simp⟩, ⟨HW3.out.set_ BK3.out (by decide) _ _⟩, ⟨by rw [List.length_append, List.length_singleton, List.map_append]; exact Kd.R_far (p := ⟨gb, 0, none⟩) HL3.out (fun _ hk => hk) _⟩, ⟨by rw [List.length_append, List.length_singleton]; exact blk_put BK3.out 0 _ rfl⟩, ⟨Bs HB3.out HGB0.out⟩⟩
  ·obtain rfl : i = l0.length := by omega
   have hltz : ¬ (l0.length : Int) < (l0.length : Int) := by omega
   clear hi hgg hlt
   have HE2 : Ad (pa.map (·.2) = all) := ⟨by
    have h1 := HG.out
    rw [Nat.sub_self, impl_components.al] at h1
    rw [← HE.out, ← Option.some.inj h1, List.append_nil]⟩
   clear HG HE
   have hmk := print_make_of (P := Try.prog) 129 4 (.bool false) 1 Try.underlying129 info4 rfl (by decide) l0.length (by omega)
   go_upto_region 7 with (fail)
   go_cut [5, 6] (fun v5 v6 wc => ∃ gl gd g6 : Nat, v5 = .slice (some ⟨gl, 0, none⟩) 0 0 ∧ v6 = .pointer (some ⟨g6, 0, none⟩) ∧ Ad (wr.heap.size ≤ gl ∧ wr.heap.size ≤ gd ∧ wr.heap.size ≤ g6) ∧ Ad (wc.heap[gl]? = some (.cells #[] 23 (0, 0))) ∧ Ad (wc.heap[gd]? = some (.cells (madeCells #[.bool false] l0.length) 4 (0, 0))) ∧ Ad (wc.heap[g6]? = some (.cells #[.slice (some ⟨gd, 0, none⟩) l0.length l0.length] 129 (0, 0))) ∧ Ad (Below wr.heap.size wr wc))
   case first =>
    go_region
    all_goals (go_wp2_with fail; go_meet)
    all_goals (case rel => (clear HR0 HC0; first
     | exact ⟨_, wr.heap.size, _, rfl, rfl, ⟨by omega⟩, ⟨by first | exact (impl_components.alloc3 _ _ _ _).1 | exact (impl_components.alloc3 _ _ _ _).2.1 | exact (impl_components.alloc3 _ _ _ _).2.2.1⟩, ⟨(impl_components.alloc3 _ _ _ _).1⟩, ⟨by first | exact (impl_components.alloc3 _ _ _ _).1 | exact (impl_components.alloc3 _ _ _ _).2.1 | exact (impl_components.alloc3 _ _ _ _).2.2.1⟩, ⟨(impl_components.alloc3 _ _ _ _).2.2.2⟩⟩
     | exact ⟨_, wr.heap.size + 1, _, rfl, rfl, ⟨by omega⟩, ⟨by first | exact (impl_components.alloc3 _ _ _ _).1 | exact (impl_components.alloc3 _ _ _ _).2.1 | exact (impl_components.alloc3 _ _ _ _).2.2.1⟩, ⟨(impl_components.alloc3 _ _ _ _).2.1⟩, ⟨by first | exact (impl_components.alloc3 _ _ _ _).1 | exact (impl_components.alloc3 _ _ _ _).2.1 | exact (impl_components.alloc3 _ _ _ _).2.2.1⟩, ⟨(impl_components.alloc3 _ _ _ _).2.2.2⟩⟩
     | exact ⟨_, wr.heap.size + 1 + 1, _, rfl, rfl, ⟨by omega⟩, ⟨by first | exact (impl_components.alloc3 _ _ _ _).1 | exact (impl_components.alloc3 _ _ _ _).2.1 | exact (impl_components.alloc3 _ _ _ _).2.2.1⟩, ⟨(impl_components.alloc3 _ _ _ _).2.2.1⟩, ⟨by first | exact (impl_components.alloc3 _ _ _ _).1 | exact (impl_components.alloc3 _ _ _ _).2.1 | exact (impl_components.alloc3 _ _ _ _).2.2.1⟩, ⟨(impl_components.alloc3 _ _ _ _).2.2.2⟩⟩))
   case rest =>
    obtain ⟨gl, gd, g6, rfl, rfl, hge, hl, hd, h6, hb⟩ := hcut
    have HW1 := Am (HW.out.below hb.out)
    have HL1 : Ad (Kd.hd.R 23 wc w.heap.size (fun k_ => some k_ ≠ (Value.slice (some ⟨gl, 0, none⟩) 0 0).ownBlock) (.slice A3 pa.length c3) (pa.map (·.1))) := ⟨Kd.R_mono (Kd.R_below (Kd.R_bound HL.out) hb.out) (fun k hk he => by
     have h1 : k = gl := by simpa [Value.ownBlock] using he
     have h2 := hk.2.2.1
     have := hge.out
     omega)⟩
    have BK1 := Am (Kb BK.out hb.out)
    have HB1 := Am (below_then HB.out HB.out.size hb.out)
    have hsz := HB.out.size
    have HO1 : Ad (Kd.hd.R 23 wc w.heap.size (fun k_ => some k_ ≠ (Value.slice A3 pa.length c3).ownBlock) (.slice (some ⟨gl, 0, none⟩) 0 0) []) := ⟨Kd.R_of_own (enc := hdV) (xs := []) ⟨rfl, .inr ⟨gl, 0, #[], rfl, by have := hge.out; omega, hl.out, Nat.le_refl _, by simp [maxLen], rfl, rfl⟩⟩ (fun k hk he => by
     have h1 : gl = k := by simpa [Value.ownBlock] using hk
     have h2 := Kd.R_lt HL.out k he.symm
     have := hge.out
     omega)⟩
    have HD1 : Ad (Kd.bool.R 4 wc w.heap.size (fun _ => True) (.slice (some ⟨gd, 0, none⟩) l0.length l0.length) (List.replicate l0.length false)) := ⟨Kd.R_of_own (enc := Value.bool) (by
     rw [List.length_replicate]
     refine ⟨by simp [encs], .inr ⟨gd, l0.length, madeCells #[.bool false] l0.length, rfl, by have := hge.out; omega, hd.out, Nat.le_refl _, by simp [maxLen]; omega, by simp [size_madeCells], ?_⟩⟩
     rw [List.take_of_length_le (by simp [madeCells])]
     apply List.ext_getElem
     ·simp [encs, madeCells]
     ·intro i h1 h2
      simp [encs, madeCells, Nat.mod_one]) (fun _ _ => trivial)⟩
    have HG61 : Ad (w.heap.size ≤ g6) := ⟨by have := hge.out; omega⟩
    have B61 := h6
    clear HW HL BK HB hl hd h6 hb hge hsz hmk
    obtain ⟨G, hG⟩ : ∃ G, G = impl_components.gs all l0.length l0.length 0 := ⟨_, rfl⟩
    have HGG := Am hG
    have HS : Ad (impl_components.s k all k G (List.replicate l0.length false) = some r) := ⟨by rw [hG]; exact HS.out⟩
    clear hG
    have hpn : pa.length ≤ 1000 := by rw [hpl.out]; exact hn40
    go_wp2
    go_loopg [5, 33] l0.length (fun gg v5 v33 wr => ∃ (i : Nat) (po : List (Hd × List Int)), i ≤ l0.length ∧ l0.length - i ≤ gg ∧ v33 = .int .i64 i ∧ Ad (po.length ≤ i) ∧ Ad (po.map (·.2) ++ impl_components.gs all l0.length (l0.length - i) i = G) ∧ Ad (Kd.Rows (Kd.int .i64) 3 wr w.heap.size (pa ++ po)) ∧ Ad (Kd.hd.R 23 wr w.heap.size (fun k_ => some k_ ≠ v5.ownBlock) (.slice A3 pa.length c3) (pa.map (·.1))) ∧ Ad (Kd.hd.R 23 wr w.heap.size (fun k_ => some k_ ≠ (Value.slice A3 pa.length c3).ownBlock) v5 (po.map (·.1))) ∧ Ad (wr.heap[gb]? = some (.cells #[.slice A3 pa.length c3] 22 (0, 0))) ∧ Ad (wr.heap[g6]? = some (.cells #[.slice (some ⟨gd, 0, none⟩) l0.length l0.length] 129 (0, 0))) ∧ Ad (Kd.bool.R 4 wr w.heap.size (fun _ => True) (.slice (some ⟨gd, 0, none⟩) l0.length l0.length) (List.replicate l0.length false)) ∧ Ad (Below w.heap.size w wr))
    case atStart => exact ⟨0, [], Nat.zero_le _, by omega, by first | rfl | simp, ⟨Nat.le_refl _⟩, ⟨by rw [HGG.out]; rfl⟩, ⟨by simpa using HW1.out⟩, HL1, HO1, BK1, B61, HD1, HB1⟩
    case round =>
     clear HW1 HL1 HO1 BK1 B61 HD1 HB1
     obtain ⟨i, po, hi, hgg, rfl, hpo, HE, HW, HL, HO, BK, B6, HD, HB⟩ := hrel
     obtain ⟨A5, c5, e5⟩ := Kd.R_slice HO.out
     rw [List.length_map] at e5
     subst e5
     by_cases hlt : i < l0.length
     ·have hltz : (i : Int) < (l0.length : Int) := by omega
      have hltp : i < pa.length := by rw [hpl.out]; exact hlt
      have hltpz : (i : Int) < (pa.length : Int) := by omega
      have hi0z : (0 : Int) ≤ (i : Int) := by omega
      have HGN := Am (HK.out.2 i hlt)
      go_wp2_with (first | ((refine Gd (N := 36) rfl ?_); refine Kd.R_lit (Kd.int .i64) _ 3 ?hg (N := 36) ?hd (xs := ([] : List Int)) (inner := []) (ok := fun _ => True) (okp := fun _ => True) ?hr ?hp (fun _ hk => hk) trivial (Below.refl _ _) (Nat.le_refl _) (by simp) ?_; (case hd | hg => rfl); (case hr => first | (go_simp; done) | (go_simp; rfl)); (case hp => exact (Reps.none _ _)); intro v8 w2 ho hb hg_ hnew_; have HN2 := Am (HW.out.ne_new ho); have HR2 := Am (Kd.R_lower ho HB.out.size); have HW2 := Am (HW.out.below hb); have HL2 := Am (Kd.R_below HL.out hb); have HO2 := Am (Kd.R_below HO.out hb); have BK2 := Am (Kb BK.out hb); have B62 := Am (Kb B6.out hb); have HD2 := Am (Kd.R_below HD.out hb); have HB2 := Am (below_then HB.out HB.out.size hb); clear ho hb hg_ hnew_ HW HL HO BK B6 HD HB))
      go_loopg [8, 39] l0.length (fun gg v8 v39 wr => ∃ (j : Nat) (acc : List Int), j ≤ l0.length ∧ l0.length - j ≤ gg ∧ v39 = .int .i64 j ∧ Ad (acc.length ≤ j) ∧ Ad (acc ++ ((List.range' j (l0.length - j)).filter (impl_components.q all i)).map (fun p : Nat => (p : Int)) = impl_components.gr all l0.length i) ∧ Ad (Kd.Rows (Kd.int .i64) 3 wr w.heap.size (pa ++ po)) ∧ Ad (∀ p ∈ pa ++ po, NeRow (hdV p.1) v8) ∧ Ad (Kd.R (Kd.int .i64) 3 wr w.heap.size (fun _ => True) v8 acc) ∧ Ad (Kd.hd.R 23 wr w.heap.size (fun k_ => some k_ ≠ (Value.slice A5 po.length c5).ownBlock) (.slice A3 pa.length c3) (pa.map (·.1))) ∧ Ad (Kd.hd.R 23 wr w.heap.size (fun k_ => some k_ ≠ (Value.slice A3 pa.length c3).ownBlock) (.slice A5 po.length c5) (po.map (·.1))) ∧ Ad (wr.heap[gb]? = some (.cells #[.slice A3 pa.length c3] 22 (0, 0))) ∧ Ad (wr.heap[g6]? = some (.cells #[.slice (some ⟨gd, 0, none⟩) l0.length l0.length] 129 (0, 0))) ∧ Ad (Kd.bool.R 4 wr w.heap.size (fun _ => True) (.slice (some ⟨gd, 0, none⟩) l0.length l0.length) (List.replicate l0.length false)) ∧ Ad (Below w.heap.size w wr))
      case atStart => exact ⟨0, [], Nat.zero_le _, by omega, by first | rfl | simp, ⟨Nat.le_refl _⟩, ⟨rfl⟩, HW2, HN2, HR2, HL2, HO2, BK2, B62, HD2, HB2⟩
      case round =>
       clear HW2 HN2 HR2 HL2 HO2 BK2 B62 HD2 HB2
       obtain ⟨j, acc, hj, hgg2, rfl, hal, HA, HW, HN, HR, HL, HO, BK, B6, HD, HB⟩ := hrel
       obtain ⟨A8, c8, e8⟩ := Kd.R_slice HR.out
       subst e8
       by_cases hjlt : j < l0.length
       ·have hjz : (j : Int) < (l0.length : Int) := by omega
        have hjp : j < pa.length := by rw [hpl.out]; exact hjlt
        have hjpz : (j : Int) < (pa.length : Int) := by omega
        have hj0z : (0 : Int) ≤ (j : Int) := by omega
        have HDR := Am (show List.range' j (l0.length - j) = j :: List.range' (j + 1) (l0.length - (j + 1)) by rw [show l0.length - j = (l0.length - (j + 1)) + 1 by omega, List.range'_succ])
        obtain ⟨ad3, B, cB, x, rfl, hx, hp, hxe, hxc, hC⟩ := Kd.pair_at HL.out (fun p hp => HW.out.row p (List.mem_append_left _ hp)) i hltp
        rw [HE2.out] at hxe
        obtain ⟨K1, hK1⟩ := impl_components.has x (j : Int) hC.2.1
        have HX1 := Am hK1
        have HXE := Am hxe
        have HXC := Am hxc
        have HCX := Am hC
        have hq3 : wr.cell? ⟨gb, 0, none⟩ = some (.slice (some ad3) pa.length c3) := (Kc BK.out 0).trans rfl
        clear hp hxe hxc hC hK1
        generalize hb1 : Mine.anyP (fun y => y == (j : Int)) x = b1 at HX1
        have HB1 := Am hb1
        clear hb1
        go_wp2_with fail
        refine (slices_Contains_int_int.calls K1 B cB x (j : Int) b1 wr HCX.out HXC.out HX1.out).mono ?_
        rintro e w2 ⟨rfl, hd⟩
        have hb := hd.below
        have HW2 := Am (HW.out.below hb)
        have HR2 := Am (Kd.R_below HR.out hb)
        have HL2 := Am (Kd.R_below HL.out hb)
        have HO2 := Am (Kd.R_below HO.out hb)
        have BK2 := Am (Kb BK.out hb)
        have B62 := Am (Kb B6.out hb)
        have HD2 := Am (Kd.R_below HD.out hb)
        have HB2 := Am (below_then HB.out HB.out.size hb)
        clear hb hd hx hq3 HW HR HL HO BK B6 HD HB HCX HX1
        cases b1 with
        | false =>
         have hQ : Ad (impl_components.q all i j = false) := ⟨by unfold impl_components.q; rw [HXE.out, HB1.out]; rfl⟩
         go_wp2
         go_roundg (l0.length - (j + 1))
         case measure => omega
         case rel => exact ⟨j + 1, acc, by omega, by omega, by go_num, ⟨by have := hal.out; omega⟩, ⟨by rw [← HA.out, HDR.out, List.filter_cons_of_neg (by rw [hQ.out]; simp)]⟩, HW2, HN, HR2, HL2, HO2, BK2, B62, HD2, HB2⟩
        | true =>
         obtain ⟨ad3', B2, cB2, z, e3', hz, hpz, hze, hzc, hCz⟩ := Kd.pair_at HL2.out (fun p hp => HW2.out.row p (List.mem_append_left _ hp)) j hjp
         injection e3' with e3'
         subst e3'
         rw [HE2.out] at hze
         obtain ⟨K2, hK2⟩ := impl_components.has z (i : Int) hCz.2.1
         have HX2 := Am hK2
         have HZE := Am hze
         have HZC := Am hzc
         have HCZ := Am hCz
         have hq3 : w2.cell? ⟨gb, 0, none⟩ = some (.slice (some ad3) pa.length c3) := (Kc BK2.out 0).trans rfl
         clear hpz hze hzc hCz hK2
         generalize hb2 : Mine.anyP (fun y => y == (i : Int)) z = b2 at HX2
         have HBB := Am hb2
         clear hb2
         have hQ : Ad (impl_components.q all i j = b2) := ⟨by unfold impl_components.q; rw [HXE.out, HB1.out, HZE.out, HBB.out]; rfl⟩
         go_wp2_with fail
         refine (slices_Contains_int_int.calls K2 B2 cB2 z (i : Int) b2 w2 HCZ.out HZC.out HX2.out).mono ?_
         rintro e w3 ⟨rfl, hd⟩
         have hb := hd.below
         have HW3 := Am (HW2.out.below hb)
         have HR3 := Am (Kd.R_below HR2.out hb)
         have HL3 := Am (Kd.R_below HL2.out hb)
         have HO3 := Am (Kd.R_below HO2.out hb)
         have BK3 := Am (Kb BK2.out hb)
         have B63 := Am (Kb B62.out hb)
         have HD3 := Am (Kd.R_below HD2.out hb)
         have HB3 := Am (below_then HB2.out HB2.out.size hb)
         clear hb hd hz hq3 HW2 HR2 HL2 HO2 BK2 B62 HD2 HB2 HCZ HX2
         cases b2 with
         | false =>
          go_wp2
          go_roundg (l0.length - (j + 1))
          case measure => omega
          case rel => exact ⟨j + 1, acc, by omega, by omega, by go_num, ⟨by have := hal.out; omega⟩, ⟨by rw [← HA.out, HDR.out, List.filter_cons_of_neg (by rw [hQ.out]; simp)]⟩, HW3, HN, HR3, HL3, HO3, BK3, B63, HD3, HB3⟩
         | true =>
          go_wp2_with (first | ((with_reducible refine gate_builtin (b := .append) (xs := #[.tmp 56, .tmp 58]) rfl ?_); at_builtin; refine Kd.R_append (Kd.int .i64) (w0 := w) w.heap.size rfl (.tmp 56) (.tmp 58) 23 3 (.int .i64 0) 8 rfl Try.underlying23 info3 rfl (by decide) (by omega) (.slice A8 acc.length c8) acc (j : Int) [.int .i64 j] (fun _ => True) (fun _ => False) rfl rfl ?aP (fun _ hk => hk.elim) ?aF ?aO ?aB ?aS ?aL ?_; (case aP => exact rfl); (case aB => exact HB3.out); (case aF => exact (fun _ _ => trivial)); (case aO => exact HR3.out); (case aS => exact HB3.out.size); (case aL => have := hal.out; omega); intro v8 w4 ho hb hg hat; have HR4 := Am ho; have HB4 := Am hb; have HW4 := Am (HW3.out.grown_ne rfl hg HN.out); have HN4 := Am (HW3.out.ne_after HN.out hat); have HL4 := Am (Kd.R_over HL3.out HR3.out (by decide) hg); have HO4 := Am (Kd.R_over HO3.out HR3.out (by decide) hg); have BK4 := Am (blk_grown BK3.out hg (Kd.R_ne HR3.out BK3.out (by decide))); have B64 := Am (blk_grown B63.out hg (Kd.R_ne HR3.out B63.out (by decide))); have HD4 := Am (Kd.R_over HD3.out HR3.out (by decide) hg); clear ho hb hg hat HW3 HN HR3 HL3 HO3 BK3 B63 HD3 HB3))
          go_roundg (l0.length - (j + 1))
          case measure => omega
          case rel => exact ⟨j + 1, acc ++ [(j : Int)], by omega, by omega, by go_num, ⟨by have := hal.out; rw [List.length_append]; simp; omega⟩, ⟨by rw [← HA.out, HDR.out, List.filter_cons_of_pos (by rw [hQ.out])]; simp⟩, HW4, HN4, HR4, HL4, HO4, BK4, B64, HD4, HB4⟩
       ·obtain rfl : j = l0.length := by omega
        have hjz : ¬ (l0.length : Int) < (l0.length : Int) := by omega
        have hE : acc = impl_components.gr all l0.length i := by
         have h1 := HA.out
         rw [Nat.sub_self] at h1
         simpa using h1
        have HAE := Am hE
        have hap : 0 < acc.length := List.length_pos_iff.2 (by rw [hE]; exact HGN.out)
        have hapz : (0 : Int) < (acc.length : Int) := by omega
        obtain ⟨ad8, rfl, h80⟩ := Kd.at_int (Kd.R_reads' HR.out).2.2 0 (by omega) hapz
        have h80 : wr.cell? ad8 = some (.int .i64 (acc.getD 0 0)) := by rw [show ((0 : Int)).toNat = 0 from rfl, Addr.add_zero'] at h80; exact h80
        clear hE HA
        have HSTEP : Ad (impl_components.gs all l0.length (l0.length - i) i = if acc.getD 0 0 = (i : Int) then acc :: impl_components.gs all l0.length (l0.length - (i + 1)) (i + 1) else impl_components.gs all l0.length (l0.length - (i + 1)) (i + 1)) := ⟨by rw [show l0.length - i = (l0.length - (i + 1)) + 1 by omega, impl_components.gs, HAE.out]⟩
        generalize acc.getD 0 0 = y0 at h80 HSTEP
        by_cases hy : y0 = (i : Int)
        ·have hyb : (y0 == (i : Int)) = true := beq_iff_eq.2 hy
         have HSTEP2 : Ad (impl_components.gs all l0.length (l0.length - i) i = acc :: impl_components.gs all l0.length (l0.length - (i + 1)) (i + 1)) := ⟨by rw [HSTEP.out, if_pos hy]⟩
         clear hy HSTEP
         go_wp2_with (first | ((with_reducible refine gate_builtin (b := .append) (xs := #[.tmp 66, .tmp 68]) rfl ?_); at_builtin; refine Kd.R_append Kd.hd (w0 := w) w.heap.size rfl (.tmp 66) (.tmp 68) 22 23 (.slice none 0 0) 24 rfl Try.underlying22 info23 rfl (by decide) (by omega) (.slice A5 po.length c5) (po.map (·.1)) (some ad8, acc.length, c8) [.slice (some ad8) (acc.length) (c8)] (fun k_ => some k_ ≠ (Value.slice A3 pa.length c3).ownBlock) (fun _ => False) rfl rfl ?aP (fun _ hk => hk.elim) ?aF ?aO ?aB ?aS ?aL ?_; (case aP => exact rfl); (case aB => exact HB.out); (case aF => exact (fun k_ hk => Kd.fresh' (Kd.R_lt HL.out) k_ hk)); (case aO => exact HO.out); (case aS => exact (Bz HB.out)); (case aL => have := hpo.out; rw [List.length_map]; omega); intro v5 w3 ho hb hg hat; have HW3 := Am (Kd.Rows.over (HW.out.snoc (p := ((some ad8, acc.length, c8), acc)) HR.out (Nat.le_refl _) HN.out) HO.out (by decide) hg); have HL3 := Am (Kd.R_after (ok := fun _ => True) (Kd.R_mono HL.out (fun _ hk => ⟨trivial, hk⟩)) hg hat); have HO3 := Am ho; have HB3 := Am hb; have BK3 := Am (blk_grown BK.out hg (Kd.R_ne HO.out BK.out (by decide))); have B63 := Am (blk_grown B6.out hg (Kd.R_ne HO.out B6.out (by decide))); have HD3 := Am (Kd.R_over HD.out HO.out (by decide) hg); clear HW HL HO HB BK B6 HD; clear ho hb hg hat))
         go_roundg (l0.length - (i + 1))
         case measure => omega
         case rel => exact ⟨i + 1, po ++ [((some ad8, acc.length, c8), acc)], by omega, by omega, by go_num, ⟨by have := hpo.out; rw [List.length_append]; simp; omega⟩, ⟨by rw [← HE.out, HSTEP2.out]; simp⟩, ⟨by have := HW3.out; simpa [List.append_assoc] using this⟩, ⟨Kd.R_mono HL3.out (fun _ hk => hk.2)⟩, ⟨by have := HO3.out; simpa using this⟩, BK3, B63, HD3, HB3⟩
        ·have hyb : (y0 == (i : Int)) = false := beq_false_of_ne hy
         have HSTEP2 : Ad (impl_components.gs all l0.length (l0.length - i) i = impl_components.gs all l0.length (l0.length - (i + 1)) (i + 1)) := ⟨by rw [HSTEP.out, if_neg hy]⟩
         clear hy HSTEP
         go_wp2
         go_roundg (l0.length - (i + 1))
         case measure => omega
         case rel => exact ⟨i + 1, po, by omega, by omega, by go_num, ⟨by have := hpo.out; omega⟩, ⟨by rw [← HE.out, HSTEP2.out]⟩, HW, HL, HO, BK, B6, HD, HB⟩
     ·obtain rfl : i = l0.length := by omega
      have hltz : ¬ (l0.length : Int) < (l0.length : Int) := by omega
      have HE3 : Ad (po.map (·.2) = G) := ⟨by have h1 := HE.out; rw [Nat.sub_self] at h1; simpa [impl_components.gs] using h1⟩
      have hpo2 : po.length ≤ 1000 := by have := hpo.out; omega
      clear hi hgg hlt HE
      go_wp2_with (first | ((refine Gd (N := 71) rfl ?_); refine Kd.R_lit Kd.hd _ 23 ?hg (N := 71) ?hd (xs := ([] : List Hd)) (inner := []) (ok := fun _ => True) (okp := fun _ => True) ?hr ?hp (fun _ hk => hk) trivial (Below.refl _ _) (Nat.le_refl _) (by simp) ?_; (case hd | hg => rfl); (case hr => first | (go_simp; done) | (go_simp; rfl)); (case hp => exact (Reps.none _ _)); intro v10 w2 ho hb hg_ hnew_; have HZ := Am (Kd.R_lower (Kd.R_newR (Kd.R_newR ho HL.out) HO.out) HB.out.size); have HL2 := Am (Kd.R_elder HL.out ho hb); have HO2 := Am (Kd.R_elder HO.out ho hb); have HW2 := Am (HW.out.below hb); have BK2 := Am (Kb BK.out hb); have B62 := Am (Kb B6.out hb); have HD2 := Am (Kd.R_below HD.out hb); have HB2 := Am (below_then HB.out HB.out.size hb); clear ho hb hg_ hnew_ HW HL HO BK B6 HD HB))
      go_loopg [5, 10] k (fun f v5 v10 wr => ∃ (pl po : List (Hd × List Int)) (dn : List Bool) (rs : List (List Int)), Ad (impl_components.s k all f (pl.map (·.2)) dn = some rs) ∧ Ad (po.map (·.2) ++ rs = r) ∧ Ad (po.length + pl.length ≤ 1000) ∧ Ad (dn.length = l0.length) ∧ Ad (Kd.Rows (Kd.int .i64) 3 wr w.heap.size (pa ++ (po ++ pl))) ∧ Ad (Kd.hd.R 23 wr w.heap.size (fun k_ => some k_ ≠ v5.ownBlock ∧ some k_ ≠ v10.ownBlock) (.slice A3 pa.length c3) (pa.map (·.1))) ∧ Ad (Kd.hd.R 23 wr w.heap.size (fun k_ => some k_ ≠ (Value.slice A3 pa.length c3).ownBlock ∧ some k_ ≠ v10.ownBlock) v5 (pl.map (·.1))) ∧ Ad (Kd.hd.R 23 wr w.heap.size (fun k_ => some k_ ≠ (Value.slice A3 pa.length c3).ownBlock ∧ some k_ ≠ v5.ownBlock) v10 (po.map (·.1))) ∧ Ad (wr.heap[gb]? = some (.cells #[.slice A3 pa.length c3] 22 (0, 0))) ∧ Ad (wr.heap[g6]? = some (.cells #[.slice (some ⟨gd, 0, none⟩) l0.length l0.length] 129 (0, 0))) ∧ Ad (Kd.bool.R 4 wr w.heap.size (fun _ => True) (.slice (some ⟨gd, 0, none⟩) l0.length l0.length) dn) ∧ Ad (Below w.heap.size w wr))
      case atStart => exact ⟨po, [], List.replicate l0.length false, r, ⟨by rw [HE3.out]; exact HS.out⟩, ⟨rfl⟩, ⟨by simpa using hpo2⟩, ⟨by simp⟩, ⟨by simpa using HW2.out⟩, HL2, HO2, ⟨Kd.R_mono HZ.out (fun _ hk => ⟨hk.1.2, hk.2⟩)⟩, BK2, B62, HD2, HB2⟩
      case round =>
       clear HS HE3 HW2 HL2 HO2 HZ BK2 B62 HD2 HB2 hpo2 hpo
       clear po
       obtain ⟨pl, po, dn, rs, HS, HE, HN, HDL, HW, HF, HL, HO, BK, B6, HD, HB⟩ := hrel
       obtain ⟨A10, c10, e10⟩ := Kd.R_slice HO.out
       rw [List.length_map] at e10
       subst e10
       cases gk with
       | zero => exact absurd HS.out (by simp [impl_components.s])
       | succ f1 =>
       by_cases hne : pl = []
       ·subst hne
        obtain ⟨A5, c5, e5⟩ := Kd.R_slice HL.out
        rw [List.length_map] at e5
        subst e5
        have he : Ad (po.map (·.2) = r) := ⟨by
         have h1 := HS.out
         simp [impl_components.s] at h1
         have h2 := HE.out
         rw [← h2, h1, List.append_nil]⟩
        go_wp2
        go_ret
        refine ⟨_, rfl, ?_, HB.out⟩
        rw [← he.out]
        refine Kd.rows_S (Kd.R_mono HO.out (fun _ _ => trivial)) (HW.out.sub ?_) rfl (by decide)
        rw [List.append_nil]
        exact List.sublist_append_right _ _
       ·have hpos : 0 < pl.length := List.length_pos_iff.2 hne
        obtain ⟨g5, c5, e5, _, _, _⟩ := Kd.R_form HL.out (by rw [List.length_map]; exact hpos)
        rw [List.length_map] at e5
        subst e5
        have h1 := HS.out
        rw [impl_components.s, if_neg (by simpa using hne)] at h1
        obtain ⟨jz, hidx, h1⟩ := Option.bind_eq_some_iff.1 h1
        by_cases hcd : 0 ≤ jz ∧ jz < ((pl.map (·.2)).length : Int) ∧ ((pl.map (·.2)).getD jz.toNat []).all (fun p => decide (0 ≤ p ∧ p < (dn.length : Int))) = true
        case neg => rw [if_neg hcd] at h1; cases h1
        rw [if_pos hcd] at h1
        obtain ⟨rs1, hs1, hrs⟩ := Option.map_eq_some_iff.1 h1
        obtain ⟨hj0, hjl, hjall⟩ := hcd
        obtain ⟨jn, rfl⟩ := Int.eq_ofNat_of_zero_le hj0
        rw [List.length_map] at hjl
        rw [Int.toNat_natCast] at hjall hs1 hrs
        have HS1 := Am hs1
        have HRS := Am hrs
        have HIDX := Am hidx
        have HALL := Am hjall
        have hjn : jn < pl.length := by omega
        have hpn2 : pl.length ≤ 1000 := by have := HN.out; omega
        have hposz : decide (0 < (pl.length : Int)) = true := decide_eq_true (by omega)
        have hposn : decide (0 < pl.length) = true := decide_eq_true hpos
        clear h1 hs1 hrs hidx hjall hne HS hj0
        have HCA : Ad (∀ W : World, Below wr.heap.size wr W → Kd.C (Kd.slice 3 (Kd.int .i64)) W A3 all.length all ∧ all.length ≤ c3) := ⟨fun W hW => by
         have h1 := Kd.rows_C (Kd.R_below HF.out hW) ((HW.out.sub (List.sublist_append_left _ _)).below hW) rfl (by decide)
         rw [HE2.out] at h1
         refine ⟨h1.2.2, ?_⟩
         rw [hall.out, ← hpl.out]
         exact h1.2.1⟩
        have HCD : Ad (∀ W : World, Below wr.heap.size wr W → Kd.C Kd.bool W (some ⟨gd, 0, none⟩) dn.length dn) := ⟨fun W hW => (Kd.R_reads' (Kd.R_below HD.out hW)).2.2⟩
        have HCL := Am (Kd.rows_C HL.out (HW.out.sub ((List.sublist_append_right po pl).trans (List.sublist_append_right pa _))) rfl (by decide))
        have hcall := slices_IndexFunc_int_int_111.anyO 112 #[.pointer (some ⟨gb, 0, none⟩), .pointer (some ⟨g6, 0, none⟩)] (fun x => impl_components_1.f k x all dn) (some ⟨g5, 0, none⟩) c5 (pl.map (·.2)) wr (jn : Int) (fun args w => enters_ Try.func112 (by kernel_rfl) rfl args w) HCL.out.2.2 (by rw [List.length_map]; have := HCL.out.2.1; exact this)
         (fun W x A c hx hB hC hc b hb => impl_components_1.calls k A c x gb A3 c3 all g6 (some ⟨gd, 0, none⟩) l0.length dn b W hC hc (HCA.out W hB).1 (HCA.out W hB).2 (HCD.out W hB) (by rw [HDL.out]; exact Nat.le_refl _) (by have h_ := Kb BK.out hB; rw [hpl.out] at h_; rw [hall.out]; exact h_) (by rw [HDL.out]; exact Kb B6.out hB) hb) HIDX.out
        rw [List.length_map] at hcall
        have HCALL := Am hcall
        clear hcall HIDX HCA HCD HCL
        go_wp2_with fail
        refine HCALL.out.mono ?_
        rintro e w2 ⟨rfl, hb⟩
        clear HCALL
        have HW2 := Am (HW.out.below hb)
        have HF2 := Am (Kd.R_below HF.out hb)
        have HL2 := Am (Kd.R_below HL.out hb)
        have HO2 := Am (Kd.R_below HO.out hb)
        have BK2 := Am (Kb BK.out hb)
        have B62 := Am (Kb B6.out hb)
        have HD2 := Am (Kd.R_below HD.out hb)
        have HB2 := Am (below_then HB.out HB.out.size hb)
        clear hb HW HF HL HO BK B6 HD HB
        obtain ⟨ad5, B, cB, x, e5, hx, hp, hxe, hxc, hC⟩ := Kd.pair_at HL2.out (fun p hp => HW2.out.row p (List.mem_append_right _ (List.mem_append_right _ hp))) jn hjn
        injection e5 with e5
        subst e5
        have HM : Ad ((((B, x.length, cB), x) : Hd × List Int) ∈ pa ++ (po ++ pl)) := ⟨List.mem_append_right _ (List.mem_append_right _ (List.mem_iff_getElem?.2 ⟨jn, hp⟩))⟩
        have HXI : Ad (pl[jn]? = some ((B, x.length, cB), x)) := ⟨hp⟩
        have HXE := Am hxe
        have HXP : Ad (∀ p ∈ x, 0 ≤ p ∧ p < (l0.length : Int)) := ⟨fun p hp => by
         have h1 := HALL.out
         rw [HXE.out, List.all_eq_true] at h1
         have h2 := of_decide_eq_true (h1 p hp)
         rw [HDL.out] at h2
         exact h2⟩
        have hxm : x.length ≤ 9223372036854775807 := hC.2.1
        have hjz : (jn : Int) < (pl.length : Int) := by omega
        have hj0z : (0 : Int) ≤ (jn : Int) := by omega
        have HDL2 := Am (show (dn.length : Int) = (l0.length : Int) by rw [HDL.out])
        clear hp hxe hxc hC HALL
        rw [add_plain] at hx
        go_wp2
        go_loopg [83] x.length (fun gg v83 wr => ∃ (j : Nat) (dq : List Bool), j ≤ x.length ∧ x.length - j ≤ gg ∧ v83 = .int .i64 j ∧ Ad (dq.length = l0.length) ∧ Ad (impl_components.set dq (x.drop j) = impl_components.set dn x) ∧ Ad (Kd.bool.R 4 wr w.heap.size (fun _ => True) (.slice (some ⟨gd, 0, none⟩) l0.length l0.length) dq) ∧ Ad (w2.grownBy wr (some gd)) ∧ Ad (Below w.heap.size w wr))
        case atStart => exact ⟨0, dn, Nat.zero_le _, by omega, by first | rfl | simp, HDL, ⟨rfl⟩, HD2, ⟨World.grownBy.refl _ _⟩, HB2⟩
        case round =>
         clear hx
         obtain ⟨j, dq, hj, hgg5, rfl, hdq, HSET, HDQ, HGR, HBR⟩ := hrel
         by_cases hjlt : j < x.length
         ·have hjxz : (j : Int) < (x.length : Int) := by omega
          obtain ⟨adx, rfl, hxj⟩ := Kd.at_int (Kd.R_reads' (show Kd.R (Kd.int .i64) 3 wr w.heap.size (fun _ => True) (.slice B x.length cB) x from (HW2.out.over HD2.out (by decide) HGR.out).row _ HM.out)).2.2 (j : Int) (by omega) hjxz
          rw [Int.toNat_natCast, rd, Int.toNat_natCast] at hxj
          have hmem : x.getD j 0 ∈ x := Mine.getD_mem _ _ _ hjlt
          have HDR := Am (show x.drop j = x.getD j 0 :: x.drop (j + 1) from Mine.drop_at x 0 j hjlt)
          generalize x.getD j 0 = y at hxj hmem HDR
          obtain ⟨hy0, hy1⟩ := HXP.out y hmem
          obtain ⟨yn, rfl⟩ := Int.eq_ofNat_of_zero_le hy0
          have hq6 : wr.cell? ⟨g6, 0, none⟩ = some (.slice (some ⟨gd, 0, none⟩) l0.length l0.length) := (Kc (blk_grown B62.out HGR.out (Kd.R_ne HD2.out B62.out (by decide))) 0).trans rfl
          obtain ⟨hcy, hfy⟩ := Kd.R_celln false HDQ.out (yn : Int) (by omega) hy1
          rw [Int.toNat_natCast] at hcy hfy
          obtain ⟨hn1, hn2⟩ := Kd.R_putg HDQ.out (yn : Int) true
          rw [Int.toNat_natCast] at hn1 hn2
          have HN1 := Am hn1
          have HN2 := Am hn2
          have hynz : (yn : Int) < (l0.length : Int) := hy1
          have hyn0 : (0 : Int) ≤ (yn : Int) := by omega
          generalize rdOf false dq (yn : Int) = bq at hcy
          clear hn1 hn2 hmem
          go_wp2
          go_roundg (x.length - (j + 1))
          case measure => omega
          case rel => exact ⟨j + 1, dq.set yn true, by omega, by omega, by go_num, ⟨by rw [List.length_set, hdq.out]⟩, ⟨by rw [← HSET.out, HDR.out]; rfl⟩, HN1, ⟨World.grownBy.trans HGR.out HN2.out⟩, ⟨pw_below_grown HBR.out _ HBR.out.size HN2.out (fun k hk => by have := Kd.R_base HD2.out k (by simpa [Value.ownBlock] using hk); exact this)⟩⟩
         ·obtain rfl : j = x.length := by omega
          have hjxz : ¬ (x.length : Int) < (x.length : Int) := by omega
          have hg := HGR.out
          have HW3 := Am (HW2.out.over HD2.out (by decide) hg)
          have HF3 := Am (Kd.R_over HF2.out HD2.out (by decide) hg)
          have HL3 := Am (Kd.R_over HL2.out HD2.out (by decide) hg)
          have HO3 := Am (Kd.R_over HO2.out HD2.out (by decide) hg)
          have BK3 := Am (blk_grown BK2.out hg (Kd.R_ne HD2.out BK2.out (by decide)))
          have B63 := Am (blk_grown B62.out hg (Kd.R_ne HD2.out B62.out (by decide)))
          have HS2 : Ad (impl_components.set dn x = dq) := ⟨by have h1 := HSET.out; rw [List.drop_eq_nil_of_le (Nat.le_refl _)] at h1; exact h1.symm⟩
          have HB3 := HBR
          have HD3 := HDQ
          clear HW2 HF2 HL2 HO2 BK2 B62 HD2 HB2 HBR HDQ hg HGR HSET
          have HPERM : Ad ((pa ++ (po ++ pl)).Perm (pa ++ ((po ++ [((B, x.length, cB), x)]) ++ pl.eraseIdx jn))) := ⟨by
           refine List.Perm.append_left pa ?_
           rw [List.append_assoc]
           refine List.Perm.append_left po ?_
           rw [List.eraseIdx_eq_take_drop_succ, List.singleton_append]
           have h1 : pl = pl.take jn ++ ((B, x.length, cB), x) :: pl.drop (jn + 1) := by
            obtain ⟨hl_, he_⟩ := List.getElem?_eq_some_iff.1 HXI.out
            rw [← he_, ← List.drop_eq_getElem_cons hl_, List.take_append_drop]
           conv => lhs; rw [h1]
           exact List.perm_middle⟩
          obtain ⟨m1, hm1⟩ : ∃ m : Nat, m = jn + 1 := ⟨_, rfl⟩
          obtain ⟨n1, hn1⟩ : ∃ m : Nat, pl.length = m + 1 := ⟨pl.length - 1, by omega⟩
          have hwk : IntKind.i64.wrap ((jn : Int) + 1) = (m1 : Int) := by rw [IntWalk.i64_in _ (by omega)]; omega
          have hx3 := (Kd.pair_at HL3.out (fun p hp => HW3.out.row p (List.mem_append_right _ (List.mem_append_right _ hp))) jn hjn)
          obtain ⟨ad5, B', cB', x', e5, hx3, hp', _, _, _⟩ := hx3
          injection e5 with e5
          subst e5
          have he_ := HXI.out
          rw [hp'] at he_
          injection he_ with he_
          injection he_ with he1_ he2_
          subst he2_
          injection he1_ with he1_ he3_
          injection he3_ with _ he3_
          subst he1_
          subst he3_
          rw [add_plain] at hx3
          have HM1 := Am hm1
          have HN1 := Am hn1
          clear hp' hm1 hn1
          go_wp2_with (first | ((with_reducible refine gate_builtin (b := .append) (xs := #[.tmp 91, .tmp 96]) rfl ?_); at_builtin; refine Kd.R_append Kd.hd (w0 := w) w.heap.size rfl (.tmp 91) (.tmp 96) 22 23 (.slice none 0 0) 24 rfl Try.underlying22 info23 rfl (by decide) (by omega) (.slice A10 po.length c10) (po.map (·.1)) (B', x'.length, cB') [.slice (B') (x'.length) (cB')] (fun k_ => some k_ ≠ (Value.slice A3 pa.length c3).ownBlock ∧ some k_ ≠ (Value.slice (some ⟨g5, 0, none⟩) pl.length c5).ownBlock) (fun _ => False) rfl rfl ?aP (fun _ hk => hk.elim) ?aF ?aO ?aB ?aS ?aL ?_; (case aP => exact rfl); (case aB => exact HB3.out); (case aF => exact (fun k_ hk => ⟨Kd.fresh' (Kd.R_lt HF3.out) k_ hk, Kd.fresh' (Kd.R_lt HL3.out) k_ hk⟩)); (case aO => exact HO3.out); (case aS => exact (Bz HB3.out)); (case aL => have := HN.out; rw [List.length_map]; omega); intro v10 w4 ho hb hg hat; have HW4 := Am (HW3.out.over HO3.out (by decide) hg); have HF4 := Am (Kd.R_after (ok := fun k_ => some k_ ≠ (Value.slice (some ⟨g5, 0, none⟩) pl.length c5).ownBlock) HF3.out hg hat); have HL4 := Am (Kd.R_after (ok := fun k_ => some k_ ≠ (Value.slice A3 pa.length c3).ownBlock) HL3.out hg hat); have BK4 := Am (blk_grown BK3.out hg (Kd.R_ne HO3.out BK3.out (by decide))); have B64 := Am (blk_grown B63.out hg (Kd.R_ne HO3.out B63.out (by decide))); have HD4 := Am (Kd.R_over HD3.out HO3.out (by decide) hg); have HO4 := Am ho; have HB4 := Am hb; clear HW3 HF3 HL3 HO3 BK3 B63 HD3 HB3; clear ho hb hg hat))
          refine (slices_Delete_int_int.del jn pl.length n1 m1 g5 c5 (pl.map (·.1)) _ w w4 (List.length_map ..) HN1.out HM1.out hjn HL4.out HB4.out).mono ?_
          rintro e w5 ⟨rfl, hR, hb, hg⟩
          have HW5 := Am (HW4.out.over HL4.out (by decide) hg)
          have HF5 := Am (Kd.R_grown HF4.out hg (fun k hk => hk.1))
          have HO5 := Am (Kd.R_grown HO4.out hg (fun k hk => hk.2))
          have BK5 := Am (blk_grown BK4.out hg (Kd.R_ne HL4.out BK4.out (by decide)))
          have B65 := Am (blk_grown B64.out hg (Kd.R_ne HL4.out B64.out (by decide)))
          have HD5 := Am (Kd.R_over HD4.out HL4.out (by decide) hg)
          have HL5 := Am hR
          have HB5 := Am hb
          clear hR hb hg HW4 HF4 HL4 HO4 BK4 B64 HD4 HB4 hx3
          go_wp2
          have HX : Ad ((pl.map (·.1)).eraseIdx jn = (pl.eraseIdx jn).map (·.1)) := ⟨by rw [List.eraseIdx_eq_take_drop_succ, List.eraseIdx_eq_take_drop_succ, List.map_append, List.map_take, List.map_drop]⟩
          have HY : Ad ((pl.eraseIdx jn).map (·.2) = (pl.map (·.2)).eraseIdx jn) := ⟨by rw [List.eraseIdx_eq_take_drop_succ, List.eraseIdx_eq_take_drop_succ, List.map_append, List.map_take, List.map_drop]⟩
          go_roundg f1
          case measure => omega
          case rel => exact ⟨pl.eraseIdx jn, po ++ [((B', x'.length, cB'), x')], dq, rs1, ⟨by rw [HY.out, ← HS2.out, ← HXE.out]; exact HS1.out⟩, ⟨by rw [← HE.out, ← HRS.out, HXE.out]; simp⟩, ⟨by have := HN.out; rw [List.length_append, List.length_eraseIdx_of_lt hjn]; simp; omega⟩, hdq, ⟨HW5.out.perm HPERM.out⟩, ⟨HF5.out⟩, ⟨by rw [← HX.out]; exact HL5.out⟩, ⟨by rw [List.map_append]; exact HO5.out⟩, BK5, B65, HD5, HB5⟩
def impl_ComponentsOf.f (k : Nat) (l0 : List (List Int)) : Option ((List (List Int)) × Bool) := (impl_GoodGraph.f l0).bind fun t214 => (if t214 = true then ((impl_components.f k l0).bind fun t215 => (some (t215, true))) else (some (([] : List (List Int)), false)))
theorem impl_ComponentsOf.mono : ∀ a0 k, LeO (impl_ComponentsOf.f k a0) (impl_ComponentsOf.f (k + 1) a0) := by
 intro a0 k
 unfold impl_ComponentsOf.f
 repeat' first
   | (with_reducible exact impl_components.mono _ _)
   | (with_reducible exact LeO.refl _)
   | (with_reducible exact LeO.none _)
   | (with_reducible refine LeO.ite ?_ ?_)
   | (with_reducible refine LeO.bind ?_ (fun _ => ?_))
   | exact impl_components.mono _ _
   | exact LeO.none _
   | refine LeO.ite ?_ ?_
   | refine LeO.bind ?_ (fun _ => ?_)
set_option maxHeartbeats 8000000 in
set_option maxRecDepth 100000 in
theorem impl_ComponentsOf.calls (k : Nat) (A0 : Option Addr) (c0 : Nat) (l0 : List (List Int)) (r1 : List (List Int)) (r2 : Bool) (w : World) (hr0 : Kd.C (Kd.slice 3 (Kd.int .i64)) w A0 l0.length l0) (hc0 : l0.length ≤ c0) (h : impl_ComponentsOf.f k l0 = some (r1, r2)) :
  Calls Try.prog 25 #[.slice A0 l0.length c0] w fun e w' => ∃ v0_ : Value, e = .returned (.tuple #[v0_, .bool r2]) ∧ Kd.S (Kd.slice 3 (Kd.int .i64)) 23 w' w.heap.size (fun _ => True) v0_ r1 ∧ Below w.heap.size w w' := by
 have HR0 := Am hr0
 have HC0 := Am hc0
 clear hr0 hc0
 have HB := Am (Below.refl w.heap.size w)
 have H : ((impl_GoodGraph.f l0).bind fun t214 => (if t214 = true then ((impl_components.f k l0).bind fun t215 => (some (t215, true))) else (some (([] : List (List Int)), false)))) = some (r1, r2) := h
 clear h
 replace H := Option.bind_eq_some_iff.mp H
 obtain ⟨t214, A20, H⟩ := H
 replace H : (if t214 = true then ((impl_components.f k l0).bind fun t215 => (some (t215, true))) else (some (([] : List (List Int)), false))) = some (r1, r2) := H
 have A2 := Am A20
 clear A20
 by_cases c3 : t214 = true
 ·subst c3
  have H1 : ((impl_components.f k l0).bind fun t215 => (some (t215, true))) = some (r1, r2) := by rw [if_pos rfl] at H; exact H
  clear H
  have H := H1
  clear H1
  replace H := Option.bind_eq_some_iff.mp H
  obtain ⟨t215, A40, H⟩ := H
  replace H : (some (t215, true)) = some (r1, r2) := H
  have A4 := Am A40
  clear A40
  simp only [Option.some.injEq, Prod.mk.injEq] at H
  obtain ⟨rfl, rfl⟩ := H
  go_enter Try.func25, Try.ntmps25
  go_wp2_with (first | ((refine Gc (f := 28) rfl ?_); refine goesL_ (some 5) rfl rfl Try.func28 (by kernel_rfl) rfl #[.slice A0 l0.length c0] rfl (by first | rfl | (simp only [List.map_toArray, List.map_cons, List.map_nil]; first | done | rfl)) ?_; (with_reducible refine (impl_GoodGraph.calls _ _ l0 true _ ?side1 ?side2 A2.out).mono ?_); (case side1 => repeat (first | exact HR0.out | (with_reducible refine Kd.C_alloc ?_ _) | (with_reducible refine Kd.C_drewN ?_ _) | (with_reducible refine Kd.C_drew ?_))); (case side2 => exact HC0.out); rintro e w5 ⟨rfl, hb⟩; refine ⟨_, rfl, ?_⟩; have n0_ := Am (Bt (by repeat (first | exact HB.out | apply Ba | apply Bn | apply Bd)) hb); clear HB; have HB := n0_; clear n0_; (try clear hb); (try clear hb2); (try clear hk); (try clear hi)) | ((refine Gc (f := 59) rfl ?_); refine goesL_ (some 8) rfl rfl Try.func59 (by kernel_rfl) rfl #[.slice A0 l0.length c0] rfl (by first | rfl | (simp only [List.map_toArray, List.map_cons, List.map_nil]; first | done | rfl)) ?_; (with_reducible refine (impl_components.calls k _ _ l0 t215 _ ?side1 ?side2 A4.out).mono ?_); (case side1 => repeat (first | exact (Kd.C_below HR0.out HB.out) | (with_reducible refine Kd.C_alloc ?_ _) | (with_reducible refine Kd.C_drewN ?_ _) | (with_reducible refine Kd.C_drew ?_))); (case side2 => exact HC0.out); rintro e w6 ⟨v216, rfl, ho0, hb⟩; refine ⟨_, rfl, ?_⟩; have n0_ := Am (Kd.S_lower ho0 (Bz (by repeat (first | exact HB.out | apply Ba | apply Bn | apply Bd)))); have n1_ := Am (Bt (by repeat (first | exact HB.out | apply Ba | apply Bn | apply Bd)) hb); clear HB; have HO217 := n0_; have HB := n1_; clear n0_ n1_; (try clear hb); (try clear hb2); (try clear hk); (try clear hi); (try clear ho0)))
  go_ret2
  exact ⟨_, by first | rfl | (simp [*, errW_none, errW_some] <;> rfl), by (with_reducible repeat (first | apply Sa | apply Sn | apply Sd)); exact HO217.out, by repeat (first | exact HB.out | apply Ba | apply Bn | apply Bd)⟩
 ·replace c3 := Bool.eq_false_iff.mpr c3
  subst c3
  have H1 : (some (([] : List (List Int)), false)) = some (r1, r2) := by rw [if_neg (show ¬ (false = true) by decide)] at H; exact H
  clear H
  have H := H1
  clear H1
  simp only [Option.some.injEq, Prod.mk.injEq] at H
  obtain ⟨rfl, rfl⟩ := H
  go_enter Try.func25, Try.ntmps25
  go_wp2_with (first | ((refine Gc (f := 28) rfl ?_); refine goesL_ (some 5) rfl rfl Try.func28 (by kernel_rfl) rfl #[.slice A0 l0.length c0] rfl (by first | rfl | (simp only [List.map_toArray, List.map_cons, List.map_nil]; first | done | rfl)) ?_; (with_reducible refine (impl_GoodGraph.calls _ _ l0 false _ ?side1 ?side2 A2.out).mono ?_); (case side1 => repeat (first | exact HR0.out | (with_reducible refine Kd.C_alloc ?_ _) | (with_reducible refine Kd.C_drewN ?_ _) | (with_reducible refine Kd.C_drew ?_))); (case side2 => exact HC0.out); rintro e w7 ⟨rfl, hb⟩; refine ⟨_, rfl, ?_⟩; have n0_ := Am (Bt (by repeat (first | exact HB.out | apply Ba | apply Bn | apply Bd)) hb); clear HB; have HB := n0_; clear n0_; (try clear hb); (try clear hb2); (try clear hk); (try clear hi)))
  go_ret2
  exact ⟨_, by first | rfl | (simp [*, errW_none, errW_some] <;> rfl), by first | exact Kd.S_nil _ _ _ _ _ | exact Kd.N_nil _ _ _ _ _ | exact Kd.V_nil _ _ _ _ _ | exact Kd.Q_nil _ _ _ _ _ | exact Kd.R_nil _ _ _ _ _, by repeat (first | exact HB.out | apply Ba | apply Bn | apply Bd)⟩
def spec_l1In.f (a0 : Int) (a1 : Int) (a2 : Int) : Option (Bool) := if a0 ≥ a1 then (some (decide (a0 ≤ a2))) else (some false)
set_option maxHeartbeats 8000000 in
set_option maxRecDepth 100000 in
theorem spec_l1In.calls (a0 : Int) (a1 : Int) (a2 : Int) (r : Bool) (w : World) (h : spec_l1In.f a0 a1 a2 = some r) :
  Calls Try.prog 79 #[.int .i64 a0, .int .i64 a1, .int .i64 a2] w fun e w' => e = .returned (.bool r) ∧ Drawn0 w w' := by
 have H : (if a0 ≥ a1 then (some (decide (a0 ≤ a2))) else (some false)) = some r := h
 clear h
 by_cases c4 : a0 ≥ a1
 ·rw [if_pos c4] at H
  have c4b0 : decide (a1 ≤ a0) = true := decide_eq_true c4
  clear c4
  obtain rfl := Option.some.inj H
  go_enter Try.func79, Try.ntmps79
  go_wp2
  go_ret
  exact ⟨by first | rfl | (simp; done) | (simp [*]; done), by repeat (first | exact Drawn0.refl _ | apply Drawn0.step)⟩
 ·rw [if_neg c4] at H
  have c4b0 : decide (a1 ≤ a0) = false := decide_eq_false c4
  clear c4
  obtain rfl := Option.some.inj H
  go_enter Try.func79, Try.ntmps79
  go_wp2
  go_ret
  exact ⟨by first | rfl | (simp; done) | (simp [*]; done), by repeat (first | exact Drawn0.refl _ | apply Drawn0.step)⟩
def spec_l1Rising.l0 : Nat → List Int → Int → Int → List Int → Int → Int → Option (Bool)
 | 0, _, _, _, _, _, _ => none
 | k + 1, x0, x1, x2, x9, x10, x11 => if x11 < x10 then (if 0 ≤ x11 then (if x11 < (x9.length : Int) then ((spec_l1In.f (rd x9 x11) x1 x2).bind fun t219 => (if t219 = true then (if x11 > 0 then (if 0 ≤ (wrap64 (x11 - 1)) then (if (wrap64 (x11 - 1)) < (x0.length : Int) then (if (rd x0 (wrap64 (x11 - 1))) ≥ (rd x9 x11) then (some false) else (spec_l1Rising.l0 k x0 x1 x2 x9 x10 (wrap64 (x11 + 1)))) else (none)) else (none)) else (spec_l1Rising.l0 k x0 x1 x2 x9 x10 (wrap64 (x11 + 1)))) else (some false))) else (none)) else (none)) else (some true)
def spec_l1Rising.f (k : Nat) (l0 : List Int) (a1 : Int) (a2 : Int) : Option (Bool) := spec_l1Rising.l0 k l0 a1 a2 l0 (l0.length : Int) 0
theorem spec_l1Rising.mono_l : ∀ k, (∀ y0 y1 y2 y3 y4 y5, LeO (spec_l1Rising.l0 k y0 y1 y2 y3 y4 y5) (spec_l1Rising.l0 (k + 1) y0 y1 y2 y3 y4 y5))
 | 0 => fun _ _ _ _ _ _ r h => by simp [spec_l1Rising.l0] at h
 | k + 1 => by
  have ih0 := spec_l1Rising.mono_l k
  ·intro y0 y1 y2 y3 y4 y5
   unfold spec_l1Rising.l0
   repeat' first
   | (with_reducible exact ih0 _ _ _ _ _ _)
   | (with_reducible exact LeO.refl _)
   | (with_reducible exact LeO.none _)
   | (with_reducible refine LeO.ite ?_ ?_)
   | (with_reducible refine LeO.bind ?_ (fun _ => ?_))
   | exact ih0 _ _ _ _ _ _
   | exact LeO.none _
   | refine LeO.ite ?_ ?_
   | refine LeO.bind ?_ (fun _ => ?_)
theorem spec_l1Rising.mono : ∀ a0 a1 a2 k, LeO (spec_l1Rising.f k a0 a1 a2) (spec_l1Rising.f (k + 1) a0 a1 a2) := by
 intro a0 a1 a2 k
 have ih0 := spec_l1Rising.mono_l k
 unfold spec_l1Rising.f
 repeat' first
   | (with_reducible exact ih0 _ _ _ _ _ _)
   | (with_reducible exact LeO.refl _)
   | (with_reducible exact LeO.none _)
   | (with_reducible refine LeO.ite ?_ ?_)
   | (with_reducible refine LeO.bind ?_ (fun _ => ?_))
   | exact ih0 _ _ _ _ _ _
   | exact LeO.none _
   | refine LeO.ite ?_ ?_
   | refine LeO.bind ?_ (fun _ => ?_)
set_option maxHeartbeats 8000000 in
set_option maxRecDepth 100000 in
theorem spec_l1Rising.calls (k : Nat) (A0 : Option Addr) (c0 : Nat) (l0 : List Int) (a1 : Int) (a2 : Int) (r : Bool) (w : World) (hr0 : Kd.C (Kd.int .i64) w A0 l0.length l0) (hc0 : l0.length ≤ c0) (h : spec_l1Rising.f k l0 a1 a2 = some r) :
  Calls Try.prog 78 #[.slice A0 l0.length c0, .int .i64 a1, .int .i64 a2] w fun e w' => e = .returned (.bool r) ∧ Drawn0 w w' := by
 have HR0 := Am hr0
 have HC0 := Am hc0
 clear hr0 hc0
 have H : (spec_l1Rising.l0 k l0 a1 a2 l0 (l0.length : Int) 0) = some r := h
 clear h
 have H' := Am H
 clear H
 go_enter Try.func78, Try.ntmps78
 go_wp2
 go_loopg [11] k (fun kq v11 w' => ∃ (x11_1 : Int), v11 = .int .i64 x11_1 ∧ Ad (spec_l1Rising.l0 kq l0 a1 a2 l0 (l0.length : Int) x11_1 = some r) ∧ Ad (kq ≤ k) ∧ Drawn0 w w')
 case atStart => exact ⟨(0), (by first | rfl | (simp; done) | (simp [*]; done)), H', ⟨Nat.le_refl _⟩, by repeat (first | exact Drawn0.refl _ | apply Drawn0.step)⟩
 case round =>
  clear H'
  try clear p2
  obtain ⟨x11_1, rfl, HA, HK1, ⟨m1, rfl⟩⟩ := hrel
  cases gk with
  | zero => exact absurd HA.out (by simp [spec_l1Rising.l0])
  | succ k1 =>
   have H := HA.out
   clear HA
   simp only [spec_l1Rising.l0] at H
   by_cases c4 : x11_1 < (l0.length : Int)
   ·rw [if_pos c4] at H
    have c4b0 : decide (x11_1 < (l0.length : Int)) = true := decide_eq_true c4
    clear c4
    by_cases c5 : 0 ≤ x11_1
    ·rw [if_pos c5] at H
     have c5b0 : decide (0 ≤ x11_1) = true := decide_eq_true c5
     clear c5
     by_cases c6 : x11_1 < (l0.length : Int)
     ·rw [if_pos c6] at H
      have c6b0 : decide (x11_1 < (l0.length : Int)) = true := decide_eq_true c6
      clear c6
      replace H := Option.bind_eq_some_iff.mp H
      obtain ⟨t219, A70, H⟩ := H
      replace H : (if t219 = true then (if x11_1 > 0 then (if 0 ≤ (wrap64 (x11_1 - 1)) then (if (wrap64 (x11_1 - 1)) < (l0.length : Int) then (if (rd l0 (wrap64 (x11_1 - 1))) ≥ (rd l0 x11_1) then (some false) else (spec_l1Rising.l0 k1 l0 a1 a2 l0 (l0.length : Int) (wrap64 (x11_1 + 1)))) else (none)) else (none)) else (spec_l1Rising.l0 k1 l0 a1 a2 l0 (l0.length : Int) (wrap64 (x11_1 + 1)))) else (some false)) = some r := H
      have A7 := Am A70
      clear A70
      by_cases c8 : t219 = true
      ·subst c8
       have H1 : (if x11_1 > 0 then (if 0 ≤ (wrap64 (x11_1 - 1)) then (if (wrap64 (x11_1 - 1)) < (l0.length : Int) then (if (rd l0 (wrap64 (x11_1 - 1))) ≥ (rd l0 x11_1) then (some false) else (spec_l1Rising.l0 k1 l0 a1 a2 l0 (l0.length : Int) (wrap64 (x11_1 + 1)))) else (none)) else (none)) else (spec_l1Rising.l0 k1 l0 a1 a2 l0 (l0.length : Int) (wrap64 (x11_1 + 1)))) = some r := by rw [if_pos rfl] at H; exact H
       clear H
       have H := H1
       clear H1
       by_cases c9 : x11_1 > 0
       ·rw [if_pos c9] at H
        have c9b0 : decide (0 < x11_1) = true := decide_eq_true c9
        clear c9
        obtain ⟨ji10, hji10⟩ : ∃ j_ : Int, (wrap64 (x11_1 - 1)) = j_ := ⟨_, rfl⟩
        replace H : (if 0 ≤ (ji10) then (if (ji10) < (l0.length : Int) then (if (rd l0 (ji10)) ≥ (rd l0 x11_1) then (some false) else (spec_l1Rising.l0 k1 l0 a1 a2 l0 (l0.length : Int) (wrap64 (x11_1 + 1)))) else (none)) else (none)) = some r := by first | (rw [hji10] at H; exact H) | (simp only [hji10] at H ⊢; exact H)
        (try rw [hji10] at A7)
        have hji10w : (IntKind.i64.wrap (x11_1 - 1)) = ji10 := (i64_w _).trans hji10
        by_cases c11 : 0 ≤ (ji10)
        ·rw [if_pos c11] at H
         have c11b0 : decide (0 ≤ (ji10)) = true := decide_eq_true c11
         clear c11
         by_cases c12 : (ji10) < (l0.length : Int)
         ·rw [if_pos c12] at H
          have c12b0 : decide ((ji10) < (l0.length : Int)) = true := decide_eq_true c12
          clear c12
          by_cases c13 : (rd l0 (ji10)) ≥ (rd l0 x11_1)
          ·rw [if_pos c13] at H
           have c13b0 : decide ((rd l0 x11_1) ≤ (rd l0 (ji10))) = true := decide_eq_true c13
           clear c13
           obtain rfl := Option.some.inj H
           have p218 : 0 ≤ (x11_1 : Int) := of_decide_eq_true (by assumption)
           have q218 : x11_1 < (l0.length : Int) := of_decide_eq_true (by assumption)
           obtain ⟨ad218, e218, hx218_0⟩ := Kd.at_int HR0.out x11_1 p218 q218
           cases e218
           replace p218 := eq_true p218
           replace q218 := eq_true q218
           go_wp2_with (first | ((refine Gc (f := 79) rfl ?_); refine goesL_ (some 19) rfl rfl Try.func79 (by kernel_rfl) rfl #[.int .i64 (rd l0 x11_1), .int .i64 a1, .int .i64 a2] rfl (by first | rfl | (simp only [List.map_toArray, List.map_cons, List.map_nil]; first | done | rfl)) ?_; (with_reducible refine (spec_l1In.calls (rd l0 x11_1) a1 a2 true _ A7.out).mono ?_); rintro e w' ⟨rfl, ⟨nd, rfl⟩⟩; refine ⟨_, rfl, ?_⟩; have p220 : 0 ≤ ((ji10) : Int) := of_decide_eq_true (by assumption); have q220 : (ji10) < (l0.length : Int) := of_decide_eq_true (by assumption); obtain ⟨ad220, e220, hx220_0⟩ := Kd.at_int HR0.out (ji10) p220 q220; obtain rfl : ad218 = ad220 := (by injection e220); replace p220 := eq_true p220; replace q220 := eq_true q220))
           go_ret
           exact ⟨by first | rfl | (simp; done) | (simp only [← hji10] <;> (first | rfl | simp)) | (simp [*]; done), by repeat (first | exact Drawn0.refl _ | apply Drawn0.step)⟩
          ·rw [if_neg c13] at H
           have c13b0 : decide ((rd l0 x11_1) ≤ (rd l0 (ji10))) = false := decide_eq_false c13
           clear c13
           have H' := Am H
           clear H
           have p218 : 0 ≤ (x11_1 : Int) := of_decide_eq_true (by assumption)
           have q218 : x11_1 < (l0.length : Int) := of_decide_eq_true (by assumption)
           obtain ⟨ad218, e218, hx218_0⟩ := Kd.at_int HR0.out x11_1 p218 q218
           cases e218
           replace p218 := eq_true p218
           replace q218 := eq_true q218
           go_wp2_with (first | ((refine Gc (f := 79) rfl ?_); refine goesL_ (some 19) rfl rfl Try.func79 (by kernel_rfl) rfl #[.int .i64 (rd l0 x11_1), .int .i64 a1, .int .i64 a2] rfl (by first | rfl | (simp only [List.map_toArray, List.map_cons, List.map_nil]; first | done | rfl)) ?_; (with_reducible refine (spec_l1In.calls (rd l0 x11_1) a1 a2 true _ A7.out).mono ?_); rintro e w' ⟨rfl, ⟨nd, rfl⟩⟩; refine ⟨_, rfl, ?_⟩; have p220 : 0 ≤ ((ji10) : Int) := of_decide_eq_true (by assumption); have q220 : (ji10) < (l0.length : Int) := of_decide_eq_true (by assumption); obtain ⟨ad220, e220, hx220_0⟩ := Kd.at_int HR0.out (ji10) p220 q220; obtain rfl : ad218 = ad220 := (by injection e220); replace p220 := eq_true p220; replace q220 := eq_true q220))
           go_roundg k1
           case measure => have := HK1.out; omega
           case rel => exact ⟨(wrap64 (x11_1 + 1)), (by first | rfl | (simp; done) | (simp [*]; done)), H', ⟨by have := HK1.out; omega⟩, by repeat (first | exact Drawn0.refl _ | apply Drawn0.step)⟩
         ·rw [if_neg c12] at H
          exact absurd H (by simp)
        ·rw [if_neg c11] at H
         exact absurd H (by simp)
       ·rw [if_neg c9] at H
        have c9b0 : decide (0 < x11_1) = false := decide_eq_false c9
        clear c9
        have H' := Am H
        clear H
        have p218 : 0 ≤ (x11_1 : Int) := of_decide_eq_true (by assumption)
        have q218 : x11_1 < (l0.length : Int) := of_decide_eq_true (by assumption)
        obtain ⟨ad218, e218, hx218_0⟩ := Kd.at_int HR0.out x11_1 p218 q218
        cases e218
        replace p218 := eq_true p218
        replace q218 := eq_true q218
        go_wp2_with (first | ((refine Gc (f := 79) rfl ?_); refine goesL_ (some 19) rfl rfl Try.func79 (by kernel_rfl) rfl #[.int .i64 (rd l0 x11_1), .int .i64 a1, .int .i64 a2] rfl (by first | rfl | (simp only [List.map_toArray, List.map_cons, List.map_nil]; first | done | rfl)) ?_; (with_reducible refine (spec_l1In.calls (rd l0 x11_1) a1 a2 true _ A7.out).mono ?_); rintro e w' ⟨rfl, ⟨nd, rfl⟩⟩; refine ⟨_, rfl, ?_⟩))
        go_roundg k1
        case measure => have := HK1.out; omega
        case rel => exact ⟨(wrap64 (x11_1 + 1)), (by first | rfl | (simp; done) | (simp [*]; done)), H', ⟨by have := HK1.out; omega⟩, by repeat (first | exact Drawn0.refl _ | apply Drawn0.step)⟩
      ·replace c8 := Bool.eq_false_iff.mpr c8
       subst c8
       have H1 : (some false) = some r := by rw [if_neg (show ¬ (false = true) by decide)] at H; exact H
       clear H
       have H := H1
       clear H1
       obtain rfl := Option.some.inj H
       have p218 : 0 ≤ (x11_1 : Int) := of_decide_eq_true (by assumption)
       have q218 : x11_1 < (l0.length : Int) := of_decide_eq_true (by assumption)
       obtain ⟨ad218, e218, hx218_0⟩ := Kd.at_int HR0.out x11_1 p218 q218
       cases e218
       replace p218 := eq_true p218
       replace q218 := eq_true q218
       go_wp2_with (first | ((refine Gc (f := 79) rfl ?_); refine goesL_ (some 19) rfl rfl Try.func79 (by kernel_rfl) rfl #[.int .i64 (rd l0 x11_1), .int .i64 a1, .int .i64 a2] rfl (by first | rfl | (simp only [List.map_toArray, List.map_cons, List.map_nil]; first | done | rfl)) ?_; (with_reducible refine (spec_l1In.calls (rd l0 x11_1) a1 a2 false _ A7.out).mono ?_); rintro e w' ⟨rfl, ⟨nd, rfl⟩⟩; refine ⟨_, rfl, ?_⟩))
       go_ret
       exact ⟨by first | rfl | (simp; done) | (simp [*]; done), by repeat (first | exact Drawn0.refl _ | apply Drawn0.step)⟩
     ·rw [if_neg c6] at H
      exact absurd H (by simp)
    ·rw [if_neg c5] at H
     exact absurd H (by simp)
   ·rw [if_neg c4] at H
    have c4b0 : decide (x11_1 < (l0.length : Int)) = false := decide_eq_false c4
    clear c4
    obtain rfl := Option.some.inj H
    go_wp2
    go_ret
    exact ⟨by first | rfl | (simp; done) | (simp [*]; done), by repeat (first | exact Drawn0.refl _ | apply Drawn0.step)⟩
end Go.Proofs.Ytpboalgecejoeaa.QFnComponents
