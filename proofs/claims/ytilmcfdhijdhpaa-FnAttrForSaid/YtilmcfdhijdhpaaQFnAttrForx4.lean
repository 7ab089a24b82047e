-- Written by a program of this session (wip/mk.py) over the kit's print: Lean checks it.
import Derived.Test.YtilmcfdhijdhpaaQFnAttrForx0
import Derived.Test.YtilmcfdhijdhpaaQFnAttrForx2
import Derived.Test.YtilmcfdhijdhpaaQFnAttrForx3
namespace Go.Proofs.Ytilmcfdhijdhpaa.QFnAttrFor
open Go.Proofs.YtilmcfdhijdhpaaW.PrintWords.Kd renaming R_alloc → Ra, R_drew → Rd
open Go.Proofs.YtilmcfdhijdhpaaW.PrintWords renaming below_alloc → Ba, below_drew1 → Bd, below_set → Bs, blk_alloc → Ka, blk_drew → Ke, blk_below → Kb, blk_cell → Kc, blk_far → Kf, blk_frozen → Kz
open List renaming setIfInBounds_toArray → Lt, set_cons_zero → Lz, set_cons_succ → Ls
open Go.Proofs.YtilmcfdhijdhpaaW.PrintWords.Aside0 renaming mk → Am
open Go.Proofs.YtilmcfdhijdhpaaW.PrintWords renaming Aside0 → Ad
open Go.RowKit Go.Proofs.YtilmcfdhijdhpaaW.PrintWords Go.Proofs.YtilmcfdhijdhpaaW.PrintLast Go.Proofs.YtilmcfdhijdhpaaW.PrintMore
attribute [local go_sem] max2_int min2_int max_two min_two max_three min_three max_four min_four   -- for this text's walks alone
set_option linter.unusedVariables false
set_option linter.unusedSimpArgs false
theorem spec_l1Cur_table.own2 {α : Type} {d : Kd α} {e : Nat} {W : World} {base : Nat} {ok : Nat → Prop} {v : Value} {xs : List α} (h : d.R e W base ok v xs) : d.R e W base (fun k => ok k ∧ (some k = v.ownBlock ∨ ∃ q, q ∈ d.E ∧ ∃ cells, W.heap[k]? = some (.cells cells q (0, 0)))) v xs := by
 obtain ⟨h0, inner, ho, hr⟩ := h
 exact ⟨fun k hk => ⟨h0 k hk, .inl hk.symm⟩, inner, ho, hr.imp_ (fun _ _ hp => d.M_mono (fun k hk => ⟨⟨hk.1.1, .inr hk.2.2.2⟩, hk.1.2⟩) (d.M_bound hp))⟩
theorem spec_l1Cur_table.other {W w1 : World} {base : Nat} {u v : Value} {x y : List S39} {ok ok' : Nat → Prop} (hp : k39.R 39 W base ok u x) (hn : NeRow u v) (hv : k39.R 39 W base ok' v y) (hg : W.grownBy w1 v.ownBlock) : k39.R 39 w1 base ok u x := by
 refine Kd.R_mono (Kd.R_grown (spec_l1Cur_table.own2 hp) hg (fun k hk he => ?_)) (fun _ h => h.1)
 rcases hk.2 with h1 | ⟨q, hq, cells, hc⟩
 ·exact hn k h1.symm he.symm
 ·obtain ⟨cells', hc'⟩ := Kd.R_typed hv k he.symm
  rw [hc] at hc'
  injection hc' with hc'
  injection hc' with _ hc'
  revert hc'
  exact (show ∀ q, q ∈ k39.E → q ≠ 39 by decide) q hq
theorem spec_l1Cur_table.put {W w1 : World} {base i : Nat} {qs : List (Hd × List S39)} {h h' : Hd} {x x' : List S39} (hr : Kd.Rows k39 39 W base qs) (hi : qs[i]? = some (h, x)) (hg : W.grownBy w1 (hdV h).ownBlock) (hat : (hdV h').ownBlock = (hdV h).ownBlock ∨ ∃ b, (hdV h').ownBlock = some b ∧ W.heap.size ≤ b)
  (hy : k39.R 39 w1 base (fun _ => True) (hdV h') x') : Kd.Rows k39 39 w1 base (qs.set i (h', x')) := by
 obtain ⟨hil, hie⟩ := List.getElem?_eq_some_iff.1 hi
 have hri := hr.row _ (List.mem_iff_getElem?.2 ⟨i, hi⟩)
 have hfar : ∀ j p, qs[j]? = some p → j ≠ i → NeRow (hdV p.1) (hdV h) := fun j p hj hij => by
  obtain ⟨hjl, hje⟩ := List.getElem?_eq_some_iff.1 hj
  rcases Nat.lt_or_ge i j with hlt | hge
  ·have h1 := (List.pairwise_iff_getElem.1 hr.ne) i j hil hjl hlt
   rw [hje, hie] at h1
   exact ne_symm h1
  ·have h1 := (List.pairwise_iff_getElem.1 hr.ne) j i hjl hil (by omega)
   rw [hje, hie] at h1
   exact h1
 have hnew : ∀ j p, qs[j]? = some p → j ≠ i → NeRow (hdV p.1) (hdV h') := fun j p hj hij k hk1 hk2 => by
  rcases hat with he | ⟨b, hb, hge⟩
  ·rw [he] at hk2
   exact hfar j p hj hij k hk1 hk2
  ·have := Kd.R_lt (hr.row p (List.mem_iff_getElem?.2 ⟨j, hj⟩)) k hk1
   rw [hk2] at hb
   injection hb with hb
   omega
 refine ⟨fun p hp => ?_, ?_⟩
 ·obtain ⟨j, hj⟩ := List.mem_iff_getElem?.1 hp
  rw [List.getElem?_set] at hj
  split at hj
  ·rename_i hij
   injection hj with hj
   subst hj
   exact hy
  ·rename_i hij
   exact spec_l1Cur_table.other (hr.row p (List.mem_iff_getElem?.2 ⟨j, hj⟩)) (hfar j p hj (fun e => hij e.symm)) hri hg
 ·rw [List.pairwise_iff_getElem]
  intro a b ha hb hab
  rw [List.length_set] at ha hb
  rw [List.getElem_set, List.getElem_set]
  split
  ·rename_i hia
   subst hia
   rw [if_neg (by omega)]
   exact ne_symm (hnew b _ (List.getElem?_eq_getElem hb) (by omega))
  ·rename_i hia
   split
   ·rename_i hib
    exact hnew a _ (List.getElem?_eq_getElem ha) (fun e => hia e.symm)
   ·exact (List.pairwise_iff_getElem.1 hr.ne) a b ha hb hab
theorem spec_l1Cur_table.rowsKeep {w0 W w1 : World} {base g : Nat} {l0 : List Int} {a s : Int} {ps : List (Hd × List S39)} (hr : Kd.Rows k39 39 W base ps) (hI : IsS60 w0 W g l0 a s) (hk : KeepBut W w1 g none) : Kd.Rows k39 39 w1 base ps :=
 ⟨fun p hp => Kd.R_mono (Kd.R_keep (IsS60.apart hI (hr.row p hp) (by decide)) hk (fun _ h => h.2)) (fun _ h => h.1), hr.ne⟩
theorem spec_l1Cur_table.hdsKeep {w0 W w1 : World} {base g : Nat} {l0 : List Int} {a s : Int} {v : Value} {hs : List Hd} (hr : Kd.hd.R 37 W base (fun _ => True) v hs) (hI : IsS60 w0 W g l0 a s) (hk : KeepBut W w1 g none) : Kd.hd.R 37 w1 base (fun _ => True) v hs :=
 Kd.R_mono (Kd.R_keep (IsS60.apart hI hr (by decide)) hk (fun _ h => h.2)) (fun _ h => h.1)
theorem spec_l1Cur_table.hdAt {W : World} {base g n c i : Nat} {ok : Nat → Prop} {ps : List (Hd × List S39)} {h : Hd} {x : List S39} (hl : Kd.hd.R 37 W base ok (.slice (some ⟨g, 0, none⟩) n c) (ps.map (·.1))) (hi : ps[i]? = some (h, x)) : W.cell? ⟨g, i, none⟩ = some (hdV h) ∧ W.frozen? ⟨g, i, none⟩ = false := by
 obtain ⟨hil, _⟩ := List.getElem?_eq_some_iff.1 hi
 have hn := (Kd.R_reads' hl).1
 rw [List.length_map] at hn
 obtain ⟨h1, h2⟩ := Kd.R_celln ((none, 0, 0) : Hd) hl (i : Int) (by omega) (by omega)
 rw [Int.toNat_natCast] at h1 h2
 refine ⟨h1.trans ?_, h2⟩
 unfold rdOf
 rw [Int.toNat_natCast, List.getD_eq_getElem?_getD, List.getElem?_map, hi]
 rfl
theorem spec_l1Cur_table.set {w0 w W : World} {base g gz j : Nat} {l0 : List Int} {a s : Int} {u v : Value} {cells : Array Value} {hs : List Hd} {ps : List (Hd × List S39)} (hz : W.heap[gz]? = some (.cells cells 26 (0, 0))) (hgz : w.heap.size ≤ gz) (hws : w0.heap.size ≤ w.heap.size) (hr : Kd.Rows k39 39 W base ps) (hl : Kd.hd.R 37 W base (fun _ => True) v hs) (hI : IsS60 w0 W g l0 a s) (hB : Below w0.heap.size w0 W) (hK : KeepBut w W g none) : Kd.Rows k39 39 (W.setCell ⟨gz, j, none⟩ u) base ps ∧ Kd.hd.R 37 (W.setCell ⟨gz, j, none⟩ u) base (fun _ => True) v hs ∧ IsS60 w0 (W.setCell ⟨gz, j, none⟩ u) g l0 a s ∧ Below w0.heap.size w0 (W.setCell ⟨gz, j, none⟩ u) ∧ KeepBut w (W.setCell ⟨gz, j, none⟩ u) g none :=
 ⟨hr.set_ hz (by decide) j u, Kd.R_set hl hz (by decide) j u, IsS60.far (p := ⟨gz, j, none⟩) hI (IsS60.ne_blk hI hz (by decide)) u, Bs hB (Nat.le_trans hws hgz), keep_far (p := ⟨gz, j, none⟩) hK hgz u⟩
theorem spec_l1Cur_table.rows0 (W : World) (base : Nat) : ∀ N : Nat, Kd.Rows k39 39 W base (List.replicate N (((none, 0, 0) : Hd), ([] : List S39)))
 | N => ⟨fun p hp => by rw [(List.mem_replicate.1 hp).2]; exact Kd.R_nil _ _ _ _ _, List.pairwise_replicate.2 (.inr (fun k hk => by simp [hdV, Value.ownBlock] at hk))⟩
def spec_l1Cur_table.e (k : Nat) (l0 : List Int) (n a s : Int) : Option (S39 × Int × Int) := (spec_l1Cur_row.f k l0 a s n).bind fun t => some ((⟨t.1, t.2.1, t.2.2.1, (⟨t.2.2.2.1, t.2.2.2.2.1, t.2.2.2.2.2.1, t.2.2.2.2.2.2.1, t.2.2.2.2.2.2.2.1⟩ : S28), (⟨t.2.2.2.2.2.2.2.2.1, t.2.2.2.2.2.2.2.2.2.1⟩ : S33)⟩ : S39), t.2.2.2.2.2.2.2.2.2.2.1, t.2.2.2.2.2.2.2.2.2.2.2)
def spec_l1Cur_table.v1 : S39 := ⟨0, 1, 0, (⟨0, 0, 0, 0, 0⟩ : S28), (⟨0, []⟩ : S33)⟩
def spec_l1Cur_table.i : Nat → List Int → Int → List S39 → Int → Int → Int → Option (List S39 × Int × Int)
 | 0, _, _, _, _, _, _ => none
 | k + 1, l0, n, x, m, a, s => if m > 0 then (spec_l1Cur_table.e k l0 n a s).bind fun t => if x.length ≤ 1000 then spec_l1Cur_table.i k l0 n (x ++ [t.1]) (wrap64 (m - 1)) t.2.1 t.2.2 else none else some (x, a, s)
def spec_l1Cur_table.o (k : Nat) (l0 : List Int) (n : Int) : Nat → Int → Int → Option (List (List S39) × Int × Int)
 | 0, a, s => some ([], a, s)
 | d + 1, a, s => (spec_l1Cur_pick.f l0 a s 4).bind fun t => (spec_l1Cur_table.i k l0 n [] t.1 t.2.1 t.2.2).bind fun q => (spec_l1Cur_table.o k l0 n d q.2.1 q.2.2).map fun r => (q.1 :: r.1, r.2)
def spec_l1Cur_table.z (l0 : List Int) (rows : List (List S39)) (n a s : Int) : Option (Int × List (List S39) × Int × Int) := (spec_l1Cur_pick.f l0 a s 40).bind fun p => if p.1 = 0 then (spec_l1Cur_pick.f l0 p.2.1 p.2.2 6).bind fun q => some (q.1, rows, q.2.1, q.2.2) else if p.1 = 1 then if (rows.getD 0 []).length ≤ 1000 then some (n, rows.set 0 (rows.getD 0 [] ++ [spec_l1Cur_table.v1]), p.2.1, p.2.2) else none else some (n, rows, p.2.1, p.2.2)
def spec_l1Cur_table.f (k : Nat) (l0 : List Int) (a s : Int) : Option (Int × List (List S39) × Int × Int) := (spec_l1Cur_among.f l0 a s [3, 3, 3, 5]).bind fun t => if 0 < t.1 ∧ t.1 ≤ 1000 then (spec_l1Cur_table.o k l0 t.1 t.1.toNat t.2.1 t.2.2).bind fun r => spec_l1Cur_table.z l0 r.1 t.1 r.2.1 r.2.2 else none
theorem spec_l1Cur_table.mono_e (k : Nat) (l0 : List Int) (n a s : Int) : LeO (spec_l1Cur_table.e k l0 n a s) (spec_l1Cur_table.e (k + 1) l0 n a s) := by
 unfold spec_l1Cur_table.e
 exact LeO.bind (spec_l1Cur_row.mono _ _ _ _ _) (fun _ => LeO.refl _)
theorem spec_l1Cur_table.mono_i : ∀ k l0 n x m a s, LeO (spec_l1Cur_table.i k l0 n x m a s) (spec_l1Cur_table.i (k + 1) l0 n x m a s)
 | 0, _, _, _, _, _, _ => LeO.none _
 | k + 1, l0, n, x, m, a, s => by
  unfold spec_l1Cur_table.i
  exact LeO.ite (LeO.bind (spec_l1Cur_table.mono_e _ _ _ _ _) (fun t => LeO.ite (spec_l1Cur_table.mono_i k _ _ _ _ _ _) (LeO.none _))) (LeO.refl _)
theorem spec_l1Cur_table.mono_o (k : Nat) (l0 : List Int) (n : Int) : ∀ d a s, LeO (spec_l1Cur_table.o k l0 n d a s) (spec_l1Cur_table.o (k + 1) l0 n d a s)
 | 0, _, _ => LeO.refl _
 | d + 1, a, s => by
  unfold spec_l1Cur_table.o
  exact LeO.bind (LeO.refl _) (fun t => LeO.bind (spec_l1Cur_table.mono_i _ _ _ _ _ _ _) (fun q => LeO.map _ (spec_l1Cur_table.mono_o k l0 n d _ _)))
theorem spec_l1Cur_table.mono : ∀ l0 a s k, LeO (spec_l1Cur_table.f k l0 a s) (spec_l1Cur_table.f (k + 1) l0 a s) := by
 intro l0 a s k
 unfold spec_l1Cur_table.f
 exact LeO.bind (LeO.refl _) (fun _ => LeO.ite (LeO.bind (spec_l1Cur_table.mono_o _ _ _ _ _ _) (fun _ => LeO.refl _)) (LeO.none _))
theorem spec_l1Cur_table.o_len (k : Nat) (l0 : List Int) (n : Int) : ∀ d a s r, spec_l1Cur_table.o k l0 n d a s = some r → r.1.length = d
 | 0, _, _, r, h => by cases h; rfl
 | d + 1, a, s, r, h => by
  unfold spec_l1Cur_table.o at h
  obtain ⟨t, _, h⟩ := Option.bind_eq_some_iff.1 h
  obtain ⟨q, _, h⟩ := Option.bind_eq_some_iff.1 h
  obtain ⟨r2, h2, rfl⟩ := Option.map_eq_some_iff.1 h
  rw [List.length_cons, spec_l1Cur_table.o_len k l0 n d _ _ r2 h2]
set_option maxHeartbeats 8000000 in
set_option maxRecDepth 100000 in
theorem spec_l1Cur_table.calls (k : Nat) (g : Nat) (l0 : List Int) (a s : Int) (r1 : Int) (r2 : List (List S39)) (r3 r4 : Int) (w0 w : World) (hI : IsS60 w0 w g l0 a s) (hB : Below w0.heap.size w0 w) (h : spec_l1Cur_table.f k l0 a s = some (r1, r2, r3, r4)) :
  Calls Try.prog 17 #[.pointer (some ⟨g, 0, none⟩)] w fun e w' => ∃ (A : Option Addr) (ps : List (Hd × List S39)), e = .returned (.agg #[.int .i64 r1, .slice A ps.length ps.length]) ∧ ps.map (·.2) = r2 ∧ Kd.hd.R 37 w' w.heap.size (fun _ => True) (.slice A ps.length ps.length) (ps.map (·.1)) ∧ Kd.Rows k39 39 w' w.heap.size ps ∧ IsS60 w0 w' g l0 r3 r4 ∧ Below w0.heap.size w0 w' ∧ KeepBut w w' g none := by
 have hu_ := Try.underlying26
 have HI := Am hI
 have HB := Am hB
 have HWS := Am hB.size
 clear hI hB
 unfold spec_l1Cur_table.f at h
 obtain ⟨⟨n, a0, s0⟩, hp, h⟩ := Option.bind_eq_some_iff.1 h
 try dsimp only at h
 by_cases hn0 : 0 < n ∧ n ≤ 1000
 case neg => rw [if_neg hn0] at h; cases h
 rw [if_pos hn0] at h
 obtain ⟨⟨rows, ra, rs⟩, ho, hz⟩ := Option.bind_eq_some_iff.1 h
 obtain ⟨N, rfl⟩ : ∃ N : Nat, n = (N : Int) := ⟨n.toNat, by omega⟩
 rw [Int.toNat_natCast] at ho
 have HO := Am ho
 have HZ := Am hz
 have HP := Am hp
 have HRL : Ad (rows.length = N) := ⟨spec_l1Cur_table.o_len _ _ _ _ _ _ _ ho⟩
 have hN1 : N ≤ 1000 := by omega
 have hN0 : 0 < N := by omega
 clear h ho hz hp hn0
 go_enter Try.func17, Try.ntmps17
 go_upto_region 1 with (fail)
 refine letC (fun W_ => ∃ gz : Nat, gz = w.heap.size ∧ Below w.heap.size w W_ ∧ W_.heap[gz]? = some (.cells #[.int .i64 0, .slice none 0 0] 26 (0, 0))) ⟨w.heap.size, rfl, Ba (Below.refl _ _) _, blk_new w (.cells #[.int .i64 0, .slice none 0 0] 26)⟩ ?_
 rintro W0 ⟨gz, ez, hb, hx⟩
 have HI0 := Am (IsS60.below HI.out hb)
 have HB0 := Am (below_then HB.out HB.out.size hb)
 have HK0 := Am (KeepBut.of_below hb g none)
 have BZ0 := Am hx
 have HNZ := Am (IsS60.ne_blk HI0.out hx (by decide)).symm
 have GZ : Ad (w.heap.size ≤ gz) := ⟨by omega⟩
 rw [← ez]
 clear hb hx ez HI HB
 go_wp2_with fail
 have HIa := IsS60.alloc HI0.out (.cells #[.int .i64 3, .int .i64 3, .int .i64 3, .int .i64 5] 3)
 refine (spec_l1Cur_among.calls g l0 a s (some ⟨W0.heap.size, 0, none⟩) 4 [3, 3, 3, 5] (N : Int) a0 s0 w0 _ HIa (Ba HB0.out _) (Kd.R_reads' (Kd.R_of_own (enc := Value.int .i64) (ok := fun _ => True) (World.ownsRow_lit (base := W0.heap.size) (e := 3) (size := 1) W0 #[.int .i64 3, .int .i64 3, .int .i64 3, .int .i64 5] 4 (Nat.le_refl _) (by decide) rfl) (fun _ _ => trivial))).2.2 (by decide) (far_lit (IsS60.lt HI0.out)) HP.out).mono ?_
 rintro e W2 ⟨rfl, hI, hB, hKB⟩
 have hK := KeepBut.trans (keep_alloc (KeepBut.refl W0 g none) (.cells #[.int .i64 3, .int .i64 3, .int .i64 3, .int .i64 5] 3)) hKB (.inl rfl)
 clear hKB HIa HP
 have BZ2 := Am (hK.blk BZ0.out HNZ.out (by simp))
 have HI2 := Am hI
 have HB2 := Am hB
 have HK2 := Am (KeepBut.trans HK0.out hK (.inl rfl))
 clear hI hB hK HI0 HB0 HK0 BZ0
 go_wp2_with fail
 refine (spec_l4New.heads N hN1 W2).mono ?_
 rintro e W3 ⟨g4, rfl, hg4, hl, hb⟩
 have HI3 := Am (IsS60.below HI2.out hb)
 have HB3 := Am (below_then HB2.out HB2.out.size hb)
 have HL3 := Am (Kd.R_lower hl HK2.out.1)
 have HK3 := Am (KeepBut.trans HK2.out (KeepBut.of_below hb g none) (.inl rfl))
 have BZ3 := Am (Kb BZ2.out hb)
 have G4 : Ad (w.heap.size ≤ g4) := ⟨Nat.le_trans HK2.out.1 hg4⟩
 clear hg4 hl hb HI2 HB2 HK2 BZ2
 go_upto_region 3 with (fail)
 refine letC (fun W_ => ∃ gt : Nat, gt = W3.heap.size ∧ Below W3.heap.size W3 W_ ∧ W_.heap[gt]? = some (.cells #[.int .i64 (N : Int), .slice (some ⟨g4, 0, none⟩) N N] 26 (0, 0))) ⟨W3.heap.size, rfl, Ba (Below.refl _ _) _, blk_new W3 (.cells #[.int .i64 (N : Int), .slice (some ⟨g4, 0, none⟩) N N] 26)⟩ ?_
 rintro W4 ⟨gt, et, hb, hx⟩
 have HI4 := Am (IsS60.below HI3.out hb)
 have HB4 := Am (below_then HB3.out HB3.out.size hb)
 have HK4 := Am (KeepBut.trans HK3.out (KeepBut.of_below hb g none) (.inl rfl))
 have BZ4 := Am (Kb BZ3.out hb)
 have BT4 := Am hx
 have GT : Ad (w.heap.size ≤ gt) := ⟨by rw [et]; exact HK3.out.1⟩
 have HNT := Am (IsS60.ne_blk HI4.out hx (by decide)).symm
 have HZT : Ad (gz ≠ gt) := ⟨by have := blk_lt BZ3.out; omega⟩
 have HL4 : Ad (Kd.hd.R 37 W4 w.heap.size (fun _ => True) (.slice (some ⟨g4, 0, none⟩) N N) ((List.replicate N (((none, 0, 0) : Hd), ([] : List S39))).map (·.1))) := ⟨by rw [List.map_replicate]; exact Kd.R_below HL3.out hb⟩
 have HW4 : Ad (Kd.Rows k39 39 W4 w.heap.size (List.replicate N (((none, 0, 0) : Hd), ([] : List S39)))) := ⟨spec_l1Cur_table.rows0 _ _ _⟩
 rw [← et]
 clear hb hx et HI3 HB3 HL3 HK3 BZ3
 have hq1 : W4.cell? ⟨gt, 1, none⟩ = some (.slice (some ⟨g4, 0, none⟩) N N) := (Kc BT4.out 1).trans rfl
 go_wp2
 go_loopg [15] N (fun gg v15 wr => ∃ (i : Nat) (ps : List (Hd × List S39)) (a9 s9 : Int), i ≤ N ∧ N - i ≤ gg ∧ v15 = .int .i64 i ∧ ps.length = N ∧ Ad ((ps.map (·.2)).take i = rows.take i) ∧ Ad (ps.drop i = List.replicate (N - i) (((none, 0, 0) : Hd), ([] : List S39))) ∧ Ad (spec_l1Cur_table.o k l0 (N : Int) (N - i) a9 s9 = some (rows.drop i, ra, rs)) ∧ Ad (Kd.Rows k39 39 wr w.heap.size ps) ∧ Ad (Kd.hd.R 37 wr w.heap.size (fun _ => True) (.slice (some ⟨g4, 0, none⟩) N N) (ps.map (·.1))) ∧ Ad (wr.heap[gt]? = some (.cells #[.int .i64 (N : Int), .slice (some ⟨g4, 0, none⟩) N N] 26 (0, 0))) ∧ Ad (wr.heap[gz]? = some (.cells #[.int .i64 0, .slice none 0 0] 26 (0, 0))) ∧ Ad (IsS60 w0 wr g l0 a9 s9) ∧ Ad (Below w0.heap.size w0 wr) ∧ Ad (KeepBut w wr g none))
 case atStart => exact ⟨0, _, a0, s0, Nat.zero_le _, by omega, by first | rfl | simp, by simp, ⟨rfl⟩, ⟨rfl⟩, HO, HW4, HL4, BT4, BZ4, HI4, HB4, HK4⟩
 case round =>
  clear HO HW4 HL4 HI4 HB4 HK4 BT4 BZ4 hq1
  obtain ⟨i, ps, a9, s9, hi, hgg, rfl, hpl, HT, HD, HO, HW, HL, BT, BZ, HI, HB, HK⟩ := hrel
  by_cases hlt : i < N
  ·have hltz : (i : Int) < (N : Int) := by omega
   have h0z : (0 : Int) ≤ (i : Int) := by omega
   obtain ⟨d, hd⟩ : ∃ d, N - i = d + 1 := ⟨N - i - 1, by omega⟩
   have h1 := HO.out
   rw [hd] at h1
   unfold spec_l1Cur_table.o at h1
   obtain ⟨⟨m0, a1', s1'⟩, hm, h1⟩ := Option.bind_eq_some_iff.1 h1
   obtain ⟨⟨x1, a2', s2'⟩, hq, h1⟩ := Option.bind_eq_some_iff.1 h1
   obtain ⟨⟨rs1, ra', rs'⟩, ho, he⟩ := Option.map_eq_some_iff.1 h1
   simp only [Prod.mk.injEq] at he
   obtain ⟨he1, he2, he3⟩ := he
   try dsimp only at hm hq ho
   have hdr : rows.drop (i + 1) = rs1 := by rw [← List.drop_drop (i := 1) (j := i), ← he1]; rfl
   have hx1 : rows.take (i + 1) = rows.take i ++ [x1] := by
    have h2 : rows[i]? = some x1 := by
     have h3 : (rows.drop i)[0]? = some x1 := by rw [← he1]; rfl
     rw [List.getElem?_drop] at h3
     simpa using h3
    rw [List.take_add_one, h2]
    rfl
   have HO2 : Ad (spec_l1Cur_table.o k l0 (N : Int) (N - (i + 1)) a2' s2' = some (rows.drop (i + 1), ra, rs)) := ⟨by rw [hdr, show N - (i + 1) = d by omega, ← he2, ← he3]; exact ho⟩
   have hpi : ps[i]? = some (((none, 0, 0) : Hd), ([] : List S39)) := by
    have h3 : (ps.drop i)[0]? = some (((none, 0, 0) : Hd), ([] : List S39)) := by rw [HD.out, hd]; rfl
    rw [List.getElem?_drop] at h3
    simpa using h3
   have hpd : ps.drop (i + 1) = List.replicate (N - (i + 1)) (((none, 0, 0) : Hd), ([] : List S39)) := by
    rw [← List.drop_drop (i := 1) (j := i), HD.out, hd, show N - (i + 1) = d by omega]
    rfl
   have HPD := Am hpd
   have HPI := Am hpi
   have HX1 := Am hx1
   have HM := Am hm
   have HQ := Am hq
   clear h1 hm hq ho he1 he2 he3 hdr hx1 hpd hpi HO HD
   go_wp2_with fail
   refine (spec_l1Cur_pick.calls g l0 a9 s9 4 m0 a1' s1' w0 wr HI.out HB.out HM.out).mono ?_
   rintro e w1 ⟨rfl, hI, hB, hK⟩
   have HW1 := Am (spec_l1Cur_table.rowsKeep HW.out HI.out hK)
   have HL1 := Am (spec_l1Cur_table.hdsKeep HL.out HI.out hK)
   have BT1 := Am (hK.blk BT.out HNT.out (by simp))
   have BZ1 := Am (hK.blk BZ.out HNZ.out (by simp))
   have HI1 := Am hI
   have HB1 := Am hB
   have HK1 := Am (KeepBut.trans HK.out hK (.inl rfl))
   clear hI hB hK HI HB HK BZ HW HL BT
   clear HM
   go_wp2
   go_loopg [6] k (fun kq v6 wr => ∃ (m : Int) (h : Hd) (x : List S39) (a s : Int), v6 = .int .i64 m ∧ Ad (kq ≤ k) ∧ Ad (spec_l1Cur_table.i kq l0 (N : Int) x m a s = some (x1, a2', s2')) ∧ Ad (Kd.Rows k39 39 wr w.heap.size (ps.set i (h, x))) ∧ Ad (Kd.hd.R 37 wr w.heap.size (fun _ => True) (.slice (some ⟨g4, 0, none⟩) N N) ((ps.set i (h, x)).map (·.1))) ∧ Ad (wr.heap[gt]? = some (.cells #[.int .i64 (N : Int), .slice (some ⟨g4, 0, none⟩) N N] 26 (0, 0))) ∧ Ad (wr.heap[gz]? = some (.cells #[.int .i64 0, .slice none 0 0] 26 (0, 0))) ∧ Ad (IsS60 w0 wr g l0 a s) ∧ Ad (Below w0.heap.size w0 wr) ∧ Ad (KeepBut w wr g none))
   case atStart =>
    have hse : ps.set i (((none, 0, 0) : Hd), ([] : List S39)) = ps := by
     apply List.ext_getElem?
     intro j
     rw [List.getElem?_set]
     split
     ·rename_i hij
      subst hij
      rw [if_pos (by omega), HPI.out]
     ·rfl
    exact ⟨m0, ((none, 0, 0) : Hd), [], a1', s1', by first | rfl | simp, ⟨Nat.le_refl _⟩, HQ, ⟨by rw [hse]; exact HW1.out⟩, ⟨by rw [hse]; exact HL1.out⟩, BT1, BZ1, HI1, HB1, HK1⟩
   case round =>
    clear HW1 HL1 HI1 HB1 HK1 BT1 BZ1 HQ
    obtain ⟨m, h, x, a, s, rfl, HQK, HA, HW, HL, BT, BZ, HI, HB, HK⟩ := hrel
    cases gk with
    | zero => exact absurd HA.out (by simp [spec_l1Cur_table.i])
    | succ k1 =>
     have h1 := HA.out
     simp only [spec_l1Cur_table.i] at h1
     by_cases hm0 : m > 0
     ·rw [if_pos hm0] at h1
      obtain ⟨⟨t, tA, tS⟩, hp1, h1⟩ := Option.bind_eq_some_iff.1 h1
      try dsimp only at h1
      unfold spec_l1Cur_table.e at hp1
      obtain ⟨⟨t1, t2, t3, t4, t5, t6, t7, t8, t9, tl, ta, ts⟩, hrow, hp1⟩ := Option.bind_eq_some_iff.1 hp1
      simp only [Option.some.injEq, Prod.mk.injEq] at hp1
      obtain ⟨rfl, rfl, rfl⟩ := hp1
      by_cases hxl : x.length ≤ 1000
      case neg => rw [if_neg hxl] at h1; cases h1
      rw [if_pos hxl] at h1
      have HROW := Am hrow
      have HN1 := Am h1
      clear h1 hrow HA
      obtain ⟨B, hl, cB⟩ := h
      have hpi : (ps.set i ((B, hl, cB), x))[i]? = some ((B, hl, cB), x) := by rw [List.getElem?_set_self (by omega)]
      have hRx := HW.out.row _ (List.mem_iff_getElem?.2 ⟨i, hpi⟩)
      obtain rfl : hl = x.length := (Kd.R_reads' hRx).1
      have HPI2 := Am hpi
      clear hpi hRx
      obtain ⟨qs, hqs⟩ : ∃ qs, qs = ps.set i ((B, x.length, cB), x) := ⟨_, rfl⟩
      rw [← hqs] at HW HL HPI2
      go_upto_region 9 with (fail)
      refine start_ (n := 15) (S := fun w' => w'.cell? ⟨gt, 1, none⟩ = some (.slice (some ⟨g4, 0, none⟩) N N) ∧ w'.cell? ⟨g4, i, none⟩ = some (.slice B x.length cB)) (ds := [14]) #[false, false, false, false, false, false, false, false, false, false, false, false, false, false, false] (by kernel_rfl) rfl rfl ⟨(Kc BT.out 1).trans rfl, (spec_l1Cur_table.hdAt HL.out HPI2.out).1⟩ (fun hHeld => ?_)
      have HW1 := Am (HW.out.below (below_drew (Below.refl _ _)))
      have HL1 := Am (Rd HL.out)
      have HI1 : Ad (IsS60 w0 wr.drew g l0 a s) := HI
      have HB1 := Am (Bd HB.out)
      have HK1 : Ad (KeepBut w wr.drew g none) := HK
      have BT1 := Am (Ke BT.out)
      have BZ1 := Am (Ke BZ.out)
      clear HW HL HI HB HK BT BZ
      generalize wr.drew = w1 at HW1 HL1 HI1 HB1 HK1 BT1 BZ1 hHeld ⊢
      refine pure_ (i := 0) (N := some 24) (v := ?_) (a' := ?_) #[true, false, false, false, false, false, false, false, false, false, false, false, false, false, false] rfl rfl (by kernel_rfl) (fun _ _ _ h => h) (Or.inl ⟨by rfl, ?_⟩) ?_ ?_
      rotate_left
      ·intro w'
       go_simp
       with_reducible rfl
      rotate_left
      ·simp only [Act.put, Lt, Lz, Ls, i64_w, i32_w]
       rfl
      refine pure_ (i := 2) (N := some 26) (v := ?_) (a' := ?_) #[true, false, true, false, false, false, false, false, false, false, false, false, false, false, false] rfl rfl (by kernel_rfl) (fun _ _ _ h => h) (Or.inl ⟨by rfl, ?_⟩) ?_ ?_
      rotate_left
      ·intro w'
       go_simp
       with_reducible rfl
      rotate_left
      ·simp only [Act.put, Lt, Lz, Ls, i64_w, i32_w]
       rfl
      refine pure_ (i := 3) (N := some 27) (v := ?_) (a' := ?_) #[true, false, true, true, false, false, false, false, false, false, false, false, false, false, false] rfl rfl (by kernel_rfl) (fun _ _ _ h => h) (Or.inl ⟨by rfl, ?_⟩) ?_ ?_
      rotate_left
      ·intro w'
       go_simp
       with_reducible rfl
      rotate_left
      ·simp only [Act.put, Lt, Lz, Ls, i64_w, i32_w]
       rfl
      refine pure_ (i := 5) (N := some 29) (v := ?_) (a' := ?_) #[true, false, true, true, false, true, false, false, false, false, false, false, false, false, false] rfl rfl (by kernel_rfl) (fun _ _ _ h => h) (Or.inl ⟨by rfl, ?_⟩) ?_ ?_
      rotate_left
      ·intro w'
       go_simp
       with_reducible rfl
      rotate_left
      ·simp only [Act.put, Lt, Lz, Ls, i64_w, i32_w]
       rfl
      refine pure_ (i := 8) (N := some 32) (v := ?_) (a' := ?_) #[true, false, true, true, false, true, false, false, true, false, false, false, false, false, false] rfl rfl (by kernel_rfl) (fun _ _ _ h => h) (Or.inl ⟨by rfl, ?_⟩) ?_ ?_
      rotate_left
      ·intro w'
       go_simp
       with_reducible rfl
      rotate_left
      ·simp only [Act.put, Lt, Lz, Ls, i64_w, i32_w]
       rfl
      refine pure_ (i := 9) (N := some 33) (v := ?_) (a' := ?_) #[true, false, true, true, false, true, false, false, true, true, false, false, false, false, false] rfl rfl (by kernel_rfl) (fun _ _ _ h => h) (Or.inl ⟨by rfl, ?_⟩) ?_ ?_
      rotate_left
      ·intro w'
       go_simp
       with_reducible rfl
      rotate_left
      ·simp only [Act.put, Lt, Lz, Ls, i64_w, i32_w]
       rfl
      refine take_ (i := 1) (N := some 25) (v := ?_) (a' := ?_) #[true, true, true, true, false, true, false, false, true, true, false, false, false, false, false] rfl rfl (by kernel_rfl) (fun _ _ _ h => h) (Or.inl ⟨by rfl, ?_⟩) hHeld ?_ ?_
      rotate_left
      ·rintro w' ⟨s0, s1⟩
       go_simp
       with_reducible rfl
      rotate_left
      ·simp only [Act.put, Lt, Lz, Ls, i64_w, i32_w]
       rfl
      refine take_ (i := 4) (N := some 28) (v := ?_) (a' := ?_) #[true, true, true, true, true, true, false, false, true, true, false, false, false, false, false] rfl rfl (by kernel_rfl) (fun _ _ _ h => h) (Or.inl ⟨by rfl, ?_⟩) hHeld ?_ ?_
      rotate_left
      ·rintro w' ⟨s0, s1⟩
       go_simp
       with_reducible rfl
      rotate_left
      ·simp only [Act.put, Lt, Lz, Ls, i64_w, i32_w]
       rfl
      refine pure_ (i := 6) (N := some 30) (v := ?_) (a' := ?_) #[true, true, true, true, true, true, true, false, true, true, false, false, false, false, false] rfl rfl (by kernel_rfl) (fun _ _ _ h => h) (Or.inl ⟨by rfl, ?_⟩) ?_ ?_
      rotate_left
      ·intro w'
       go_simp
       with_reducible rfl
      rotate_left
      ·simp only [Act.put, Lt, Lz, Ls, i64_w, i32_w]
       rfl
      refine take_ (i := 7) (N := some 31) (v := ?_) (a' := ?_) #[true, true, true, true, true, true, true, true, true, true, false, false, false, false, false] rfl rfl (by kernel_rfl) (fun _ _ _ h => h) (Or.inl ⟨by rfl, ?_⟩) hHeld ?_ ?_
      rotate_left
      ·rintro w' ⟨s0, s1⟩
       go_simp
       with_reducible rfl
      rotate_left
      ·simp only [Act.put, Lt, Lz, Ls, i64_w, i32_w]
       rfl
      refine one_ (i := 10) (N := some 34) #[true, true, true, true, true, true, true, true, true, true, true, false, false, false, false] rfl rfl (by kernel_rfl) (by decide) (fun K hK => ?_)
      refine goes_ Try.func45 (by kernel_rfl) rfl #[.pointer (some ⟨g, 0, none⟩), .int .i64 (N : Int)] (by rfl) rfl rfl (by (try simp only [List.map_toArray, List.map_cons, List.map_nil]); first | done | rfl) ?_
      with_reducible refine (spec_l1Cur_row.calls k1 g l0 a s (N : Int) t1 t2 t3 t4 t5 t6 t7 t8 t9 tl ta ts w0 w1 HI1.out HB1.out HROW.out).mono ?_
      rintro e w2 ⟨v9, rfl, hR, hI, hB, hKB⟩
      refine ⟨_, rfl, ?_⟩
      have hK0 := hK
      clear hK
      have hK := hKB
      clear hKB
      have hsz := HK1.out.1
      skip
      have HW2 := Am (spec_l1Cur_table.rowsKeep HW1.out HI1.out hK)
      have HL2 := Am (spec_l1Cur_table.hdsKeep HL1.out HI1.out hK)
      have BT2 := Am (hK.blk BT1.out HNT.out (by simp))
      have BZ2 := Am (hK.blk BZ1.out HNZ.out (by simp))
      have HI2 := Am hI
      have HB2 := Am hB
      have HK2 := Am (KeepBut.trans HK1.out hK (.inl rfl))
      clear hI hB hK HI1 HB1 HK1 BZ1 HW1 HL1 BT1
      have hK := hK0
      clear hK0
      have HR2 := Am (Kd.R_lower hR hsz)
      clear hR hsz
      refine hK.out _ _ ⟨(Kc BT2.out 1).trans rfl, (spec_l1Cur_table.hdAt HL2.out HPI2.out).1⟩ (fun hHeld => ?_)
      clear hK K
      refine norm_ (a' := ?_) ?_ ?_
      rotate_left
      ·show Act.put _ (some 34) _ = _
       simp only [Act.put, Lt, Lz, Ls, i64_w, i32_w]
       rfl
      have HX2 := Am (HW2.out.row _ (List.mem_iff_getElem?.2 ⟨i, HPI2.out⟩))
      refine one_ (i := 11) (N := some 35) #[true, true, true, true, true, true, true, true, true, true, true, true, false, false, false] rfl rfl (by kernel_rfl) (by decide) (fun K hK => ?_)
      refine value_ (w1 := ?_) (v := ?_) (by rfl) rfl ?_ ?_
      rotate_left 2
      ·go_simp
       constructor
       ·rfl
       ·rfl
      refine hK.out _ _ ⟨(Kc (Ka BT2.out _) 1).trans rfl, (spec_l1Cur_table.hdAt (Ra HL2.out _) HPI2.out).1⟩ (fun hHeld => ?_)
      clear hK K
      refine norm_ (a' := ?_) ?_ ?_
      rotate_left
      ·show Act.put _ (some 35) _ = _
       simp only [Act.put, Lt, Lz, Ls, i64_w, i32_w]
       rfl
      refine one_ (i := 12) (N := some 36) #[true, true, true, true, true, true, true, true, true, true, true, true, true, false, false] rfl rfl (by kernel_rfl) (by decide) (fun K hK => ?_)
      refine Kd.R_append_step k39 (w0 := w2) w.heap.size (by rfl) (.tmp 31) (.tmp 35) 37 39 (.agg #[.int .i64 0, .int .i64 0, .int .i64 0, .int .i64 0, .int .i64 0, .int .i64 0, .int .i64 0, .int .i64 0, .int .i64 0, .slice none 0 0]) 96 rfl Try.underlying37 info39 rfl (by decide) (by omega) (.slice B x.length cB) x ⟨t1, t2, t3, (⟨t4, t5, t6, t7, t8⟩ : S28), (⟨t9, tl⟩ : S33)⟩ [.int .i64 t1, .int .i64 t2, .int .i64 t3, .int .i64 t4, .int .i64 t5, .int .i64 t6, .int .i64 t7, .int .i64 t8, .int .i64 t9, v9] (fun _ => True) (fun k_ => True ∧ some k_ ≠ (Value.slice B x.length cB).ownBlock) rfl rfl ?aP ?aK ?aF ?aO ?aB ?aS ?aL ?_
      (case aP => exact k39_mkM _ _ _ _ (Kd.R_apart' HR2.out (Kd.R_typed HX2.out) (by decide)))
      (case aK => exact (fun _ hk => hk))
      (case aF => exact (fun _ _ => trivial))
      (case aO => exact HX2.out)
      (case aB => exact Below.refl _ _)
      (case aS => exact HK2.out.1)
      (case aL => omega)
      intro v5 w3 ho hb hg hat
      obtain ⟨A5, c5, e5⟩ := Kd.R_slice ho
      rw [List.length_append, List.length_singleton] at e5
      subst e5
      have HW3 := Am (spec_l1Cur_table.put (h' := (A5, x.length + 1, c5)) (x' := x ++ [⟨t1, t2, t3, (⟨t4, t5, t6, t7, t8⟩ : S28), (⟨t9, tl⟩ : S33)⟩]) HW2.out HPI2.out hg hat (Kd.R_mono ho (fun _ _ => trivial)))
      have HL3 : Ad (Kd.hd.R 37 w3 w.heap.size (fun _ => True) (.slice (some ⟨g4, 0, none⟩) N N) (qs.map (·.1))) := ⟨Kd.R_mono (Kd.R_grown (Kd.R_apart' HL2.out (Kd.R_typed HX2.out) (by decide)) hg (fun _ h => h.2)) (fun _ _ => trivial)⟩
      have BT3 := Am (blk_grown BT2.out hg (Kd.R_ne HX2.out BT2.out (by decide)))
      have BZ3 := Am (blk_grown BZ2.out hg (Kd.R_ne HX2.out BZ2.out (by decide)))
      have HI3 := Am (IsS60.grown HI2.out hg (IsS60.own_ne HI2.out HX2.out (by decide)))
      have HK3 : Ad (KeepBut w w3 g none) := ⟨⟨Nat.le_trans HK2.out.1 hb.size, fun i_ hi_ h1_ h2_ => (hb.block i_ hi_).trans (HK2.out.2 i_ hi_ h1_ h2_)⟩⟩
      have HB3 := Am (below_weaken HB2.out HWS.out hb)
      clear ho hb hg hat HW2 HL2 HI2 HB2 HK2 BT2 BZ2 HX2
      refine hK.out _ _ ⟨(Kc BT3.out 1).trans rfl, (spec_l1Cur_table.hdAt HL3.out HPI2.out).1⟩ (fun hHeld => ?_)
      clear hK K
      refine norm_ (a' := ?_) ?_ ?_
      rotate_left
      ·show Act.put _ (some 36) _ = _
       simp only [Act.put, Lt, Lz, Ls, i64_w, i32_w]
       rfl
      refine pure_ (i := 13) (N := some 37) (v := ?_) (a' := ?_) #[true, true, true, true, true, true, true, true, true, true, true, true, true, true, false] rfl rfl (by kernel_rfl) (fun _ _ _ h => h) (Or.inl ⟨by rfl, ?_⟩) ?_ ?_
      rotate_left
      ·intro w'
       go_simp
       with_reducible rfl
      rotate_left
      ·simp only [Act.put, Lt, Lz, Ls, i64_w, i32_w]
       rfl
      refine last_ (i := 14) (N := none) #[true, true, true, true, true, true, true, true, true, true, true, true, true, true, true] rfl rfl (by kernel_rfl) (by decide) (fun K hK => ?_)
      have hs15 : w3.cell? ⟨g4, i, none⟩ = some (.slice B x.length cB) := (spec_l1Cur_table.hdAt HL3.out HPI2.out).1
      have hfs15 := (spec_l1Cur_table.hdAt HL3.out HPI2.out).2
      refine skip_ (w1 := ?_) (by rfl) rfl ?_ ?_
      rotate_left
      ·go_simp
       rfl
      refine hK.out _ _ ?_
      clear hK K
      refine done_ (by kernel_rfl) ?_
      clear hs15 hfs15 hHeld
      have hg4 := G4.out
      have hws := HWS.out
      obtain ⟨cells4, hb4⟩ := Kd.R_typed HL3.out g4 rfl
      have hne4 := blk_ne BT3.out hb4 (by decide)
      have hnz4 := blk_ne BZ3.out hb4 (by decide)
      have HL4 : Ad (Kd.hd.R 37 (w3.setCell ⟨g4, i, none⟩ (.slice A5 (x.length + 1) c5)) w.heap.size (fun _ => True) (.slice (some ⟨g4, 0, none⟩) N N) ((ps.set i ((A5, x.length + 1, c5), x ++ [⟨t1, t2, t3, (⟨t4, t5, t6, t7, t8⟩ : S28), (⟨t9, tl⟩ : S33)⟩])).map (·.1))) := ⟨by
       have h1 := Kd.R_putn HL3.out (i : Int) (A5, x.length + 1, c5)
       rw [Int.toNat_natCast] at h1
       rw [hqs, List.map_set, List.set_set] at h1
       rw [List.map_set]
       exact h1⟩
      have HW4 : Ad (Kd.Rows k39 39 (w3.setCell ⟨g4, i, none⟩ (.slice A5 (x.length + 1) c5)) w.heap.size (ps.set i ((A5, x.length + 1, c5), x ++ [⟨t1, t2, t3, (⟨t4, t5, t6, t7, t8⟩ : S28), (⟨t9, tl⟩ : S33)⟩]))) := ⟨by
       have h1 := HW3.out.set_ hb4 (by decide) i (.slice A5 (x.length + 1) c5)
       rw [hqs, List.set_set] at h1
       exact h1⟩
      have HI4 := Am (IsS60.far (p := ⟨g4, i, none⟩) HI3.out (IsS60.ne_blk HI3.out hb4 (by decide)) (.slice A5 (x.length + 1) c5))
      have HB4 : Ad (Below w0.heap.size w0 (w3.setCell ⟨g4, i, none⟩ (.slice A5 (x.length + 1) c5))) := ⟨Bs HB3.out (by omega)⟩
      have HK4 := Am (keep_far (p := ⟨g4, i, none⟩) HK3.out hg4 (.slice A5 (x.length + 1) c5))
      have BT4 := Am (Kf (p := ⟨g4, i, none⟩) BT3.out hne4 (.slice A5 (x.length + 1) c5))
      have BZ4 := Am (Kf (p := ⟨g4, i, none⟩) BZ3.out hnz4 (.slice A5 (x.length + 1) c5))
      clear HL3 HW3 HI3 HB3 HK3 BT3 BZ3 hb4 hg4 hws hne4 hnz4 HPI2
      go_wp2
      go_roundg k1
      case measure => omega
      case rel => exact ⟨wrap64 (m - 1), (A5, x.length + 1, c5), _, ta, ts, by first | rfl | simp, ⟨by have := HQK.out; omega⟩, HN1, HW4, HL4, BT4, BZ4, HI4, HB4, HK4⟩
     ·rw [if_neg hm0] at h1
      simp only [Option.some.injEq, Prod.mk.injEq] at h1
      obtain ⟨rfl, rfl, rfl⟩ := h1
      clear HA
      have HT2 : Ad (((ps.set i (h, x)).map (·.2)).take (i + 1) = rows.take (i + 1)) := ⟨by
       rw [HX1.out, ← HT.out, List.map_set, List.take_add_one, List.getElem?_set_self (by rw [List.length_map]; omega), List.take_set_of_le (Nat.le_refl _)]
       rfl⟩
      have HD2 : Ad ((ps.set i (h, x)).drop (i + 1) = List.replicate (N - (i + 1)) (((none, 0, 0) : Hd), ([] : List S39))) := ⟨by rw [List.drop_set_of_lt (by omega)]; exact HPD.out⟩
      go_wp2
      go_roundg (N - (i + 1))
      case measure => omega
      case rel => exact ⟨i + 1, ps.set i (h, x), a, s, by omega, by omega, by go_num, by rw [List.length_set]; exact hpl, HT2, HD2, HO2, HW, HL, BT, BZ, HI, HB, HK⟩
  ·obtain rfl : N = i := by omega
   have hltz : ¬ (N : Int) < (N : Int) := by omega
   have hrows : ps.map (·.2) = rows := by
    have h1 := HT.out
    rw [List.take_of_length_le (by rw [List.length_map]; omega), List.take_of_length_le (by have := HRL.out; omega)] at h1
    exact h1
   have hO := HO.out
   rw [Nat.sub_self] at hO
   simp only [spec_l1Cur_table.o, Option.some.injEq, Prod.mk.injEq] at hO
   obtain ⟨_, rfl, rfl⟩ := hO
   subst hrows
   have HZ1 := HZ.out
   unfold spec_l1Cur_table.z at HZ1
   clear HO HT HD HZ HRL
   obtain ⟨⟨p, a3, s3⟩, hp, hz⟩ := Option.bind_eq_some_iff.1 HZ1
   try dsimp only at hz
   have HPP := Am hp
   clear HZ1 hp
   go_wp2_with fail
   refine (spec_l1Cur_pick.calls g l0 a9 s9 40 p a3 s3 w0 wr HI.out HB.out HPP.out).mono ?_
   rintro e w5 ⟨rfl, hI, hB, hK⟩
   have HW5 := Am (spec_l1Cur_table.rowsKeep HW.out HI.out hK)
   have HL5 := Am (spec_l1Cur_table.hdsKeep HL.out HI.out hK)
   have BT5 := Am (hK.blk BT.out HNT.out (by simp))
   have BZ5 := Am (hK.blk BZ.out HNZ.out (by simp))
   have HI5 := Am hI
   have HB5 := Am hB
   have HK5 := Am (KeepBut.trans HK.out hK (.inl rfl))
   clear hI hB hK HI HB HK BZ HW HL BT
   clear HPP
   by_cases hp0 : p = 0
   ·subst hp0
    rw [if_pos rfl] at hz
    obtain ⟨⟨q, a4, s4⟩, hq, hz⟩ := Option.bind_eq_some_iff.1 hz
    simp only [Option.some.injEq, Prod.mk.injEq] at hz
    obtain ⟨rfl, rfl, rfl, rfl⟩ := hz
    have HQ2 := Am hq
    clear hq
    go_wp2_with fail
    refine (spec_l1Cur_pick.calls g l0 a3 s3 6 q a4 s4 w0 w5 HI5.out HB5.out HQ2.out).mono ?_
    rintro e w6 ⟨rfl, hI, hB, hK⟩
    have HW6 := Am (spec_l1Cur_table.rowsKeep HW5.out HI5.out hK)
    have HL6 := Am (spec_l1Cur_table.hdsKeep HL5.out HI5.out hK)
    have BT6 := Am (hK.blk BT5.out HNT.out (by simp))
    have BZ6 := Am (hK.blk BZ5.out HNZ.out (by simp))
    have HI6 := Am hI
    have HB6 := Am hB
    have HK6 := Am (KeepBut.trans HK5.out hK (.inl rfl))
    clear hI hB hK HI5 HB5 HK5 BZ5 HW5 HL5 BT5
    have ct0 : w6.cell? ⟨gt, 0, none⟩ = some (.int .i64 (N : Int)) := (Kc BT6.out 0).trans rfl
    have ct1 : w6.cell? ⟨gt, 1, none⟩ = some (.slice (some ⟨g4, 0, none⟩) N N) := (Kc BT6.out 1).trans rfl
    have cz0 : w6.cell? ⟨gz, 0, none⟩ = some (.int .i64 0) := (Kc BZ6.out 0).trans rfl
    have cz1 : w6.cell? ⟨gz, 1, none⟩ = some (.slice none 0 0) := (Kc BZ6.out 1).trans rfl
    have fgt0 : w6.frozen? ⟨gt, 0, none⟩ = false := Kz BT6.out 0
    have fgt1 : w6.frozen? ⟨gt, 1, none⟩ = false := Kz BT6.out 1
    have fgz0 : w6.frozen? ⟨gz, 0, none⟩ = false := Kz BZ6.out 0
    have fgz1 : w6.frozen? ⟨gz, 1, none⟩ = false := Kz BZ6.out 1
    have hzt := HZT.out
    have htz := HZT.out.symm
    go_wp2
    obtain ⟨x1, x2, x3, x4, x5⟩ := spec_l1Cur_table.set (j := 0) (u := .int .i64 q) BT6.out GT.out HWS.out HW6.out HL6.out HI6.out HB6.out HK6.out
    refine bodyPost_ret (results_cell_row rfl _ _ gz 26 #[.int .i64 q, .slice (some ⟨g4, 0, none⟩) N N] (0, 0) _ rfl (blk_put (cs := #[.int .i64 q, .slice none 0 0]) (blk_put (cs := #[.int .i64 0, .slice none 0 0]) (Kf (p := ⟨gt, 0, none⟩) BZ6.out HZT.out (.int .i64 q)) 0 _ rfl) 1 _ rfl) Try.underlying26 rfl (by kernel_rfl)) rfl ?_
    obtain ⟨y1, y2, y3, y4, y5⟩ := spec_l1Cur_table.set (j := 0) (u := .int .i64 q) (Kf (p := ⟨gt, 0, none⟩) BZ6.out HZT.out (.int .i64 q)) GZ.out HWS.out x1 x2 x3 x4 x5
    obtain ⟨y1, y2, y3, y4, y5⟩ := spec_l1Cur_table.set (j := 1) (u := .slice (some ⟨g4, 0, none⟩) N N) (blk_put (cs := #[.int .i64 0, .slice none 0 0]) (Kf (p := ⟨gt, 0, none⟩) BZ6.out HZT.out (.int .i64 q)) 0 (.int .i64 q) rfl) GZ.out HWS.out y1 y2 y3 y4 y5
    have hpl' : ps.length = N := by (try simp only [List.length_set]); exact hpl
    exact ⟨some ⟨g4, 0, none⟩, ps, by rw [hpl'], rfl, by rw [hpl']; exact y2, y1, y3, y4, y5⟩
   ·rw [if_neg hp0] at hz
    by_cases hp1 : p = 1
    ·subst hp1
     rw [if_pos rfl] at hz
     by_cases hxl : ((ps.map (·.2)).getD 0 []).length ≤ 1000
     case neg => rw [if_neg hxl] at hz; cases hz
     rw [if_pos hxl] at hz
     simp only [Option.some.injEq, Prod.mk.injEq] at hz
     obtain ⟨rfl, rfl, rfl, rfl⟩ := hz
     obtain ⟨⟨⟨B, hl, cB⟩, x⟩, hpi⟩ : ∃ p, ps[0]? = some p := ⟨_, List.getElem?_eq_getElem (show 0 < ps.length by omega)⟩
     have hRx := HW5.out.row _ (List.mem_iff_getElem?.2 ⟨0, hpi⟩)
     obtain rfl : hl = x.length := (Kd.R_reads' hRx).1
     have HPI2 := Am hpi
     have hgx : (ps.map (·.2)).getD 0 [] = x := by rw [List.getD_eq_getElem?_getD, List.getElem?_map, hpi]; rfl
     rw [hgx] at hxl
     have HGX := Am hgx
     clear hgx hpi hRx
     have hltz : (0 : Int) < (N : Int) := by omega
     have HW := HW5
     have HL := HL5
     have HI := HI5
     have HB := HB5
     have HK := HK5
     have BT := BT5
     have BZ := BZ5
     clear HW5 HL5 HI5 HB5 HK5 BT5 BZ5
     go_upto_region 15 with (fail)
     refine start_ (n := 11) (S := fun w' => w'.cell? ⟨gt, 1, none⟩ = some (.slice (some ⟨g4, 0, none⟩) N N) ∧ w'.cell? ⟨g4, 0, none⟩ = some (.slice B x.length cB)) (ds := [10]) #[false, false, false, false, false, false, false, false, false, false, false] (by kernel_rfl) rfl rfl ⟨(Kc BT.out 1).trans rfl, (spec_l1Cur_table.hdAt HL.out HPI2.out).1⟩ (fun hHeld => ?_)
     have HW1 := Am (HW.out.below (below_drew (Below.refl _ _)))
     have HL1 := Am (Rd HL.out)
     have HI1 : Ad (IsS60 w0 w5.drew g l0 a3 s3) := HI
     have HB1 := Am (Bd HB.out)
     have HK1 : Ad (KeepBut w w5.drew g none) := HK
     have BT1 := Am (Ke BT.out)
     have BZ1 := Am (Ke BZ.out)
     clear HW HL HI HB HK BT BZ
     generalize w5.drew = w1 at HW1 HL1 HI1 HB1 HK1 BT1 BZ1 hHeld ⊢
     refine pure_ (i := 0) (N := some 48) (v := ?_) (a' := ?_) #[true, false, false, false, false, false, false, false, false, false, false] rfl rfl (by kernel_rfl) (fun _ _ _ h => h) (Or.inl ⟨by rfl, ?_⟩) ?_ ?_
     rotate_left
     ·intro w'
      go_simp
      with_reducible rfl
     rotate_left
     ·simp only [Act.put, Lt, Lz, Ls, i64_w, i32_w]
      rfl
     refine pure_ (i := 2) (N := some 50) (v := ?_) (a' := ?_) #[true, false, true, false, false, false, false, false, false, false, false] rfl rfl (by kernel_rfl) (fun _ _ _ h => h) (Or.inl ⟨by rfl, ?_⟩) ?_ ?_
     rotate_left
     ·intro w'
      go_simp
      with_reducible rfl
     rotate_left
     ·simp only [Act.put, Lt, Lz, Ls, i64_w, i32_w]
      rfl
     refine pure_ (i := 6) (N := some 54) (v := ?_) (a' := ?_) #[true, false, true, false, false, false, true, false, false, false, false] rfl rfl (by kernel_rfl) (fun _ _ _ h => h) (Or.inl ⟨by rfl, ?_⟩) ?_ ?_
     rotate_left
     ·intro w'
      go_simp
      with_reducible rfl
     rotate_left
     ·simp only [Act.put, Lt, Lz, Ls, i64_w, i32_w]
      rfl
     refine take_ (i := 1) (N := some 49) (v := ?_) (a' := ?_) #[true, true, true, false, false, false, true, false, false, false, false] rfl rfl (by kernel_rfl) (fun _ _ _ h => h) (Or.inl ⟨by rfl, ?_⟩) hHeld ?_ ?_
     rotate_left
     ·rintro w' ⟨s0, s1⟩
      go_simp
      with_reducible rfl
     rotate_left
     ·simp only [Act.put, Lt, Lz, Ls, i64_w, i32_w]
      rfl
     refine take_ (i := 3) (N := some 51) (v := ?_) (a' := ?_) #[true, true, true, true, false, false, true, false, false, false, false] rfl rfl (by kernel_rfl) (fun _ _ _ h => h) (Or.inl ⟨by rfl, ?_⟩) hHeld ?_ ?_
     rotate_left
     ·rintro w' ⟨s0, s1⟩
      go_simp
      with_reducible rfl
     rotate_left
     ·simp only [Act.put, Lt, Lz, Ls, i64_w, i32_w]
      rfl
     refine pure_ (i := 4) (N := some 52) (v := ?_) (a' := ?_) #[true, true, true, true, true, false, true, false, false, false, false] rfl rfl (by kernel_rfl) (fun _ _ _ h => h) (Or.inl ⟨by rfl, ?_⟩) ?_ ?_
     rotate_left
     ·intro w'
      go_simp
      with_reducible rfl
     rotate_left
     ·simp only [Act.put, Lt, Lz, Ls, i64_w, i32_w]
      rfl
     refine take_ (i := 5) (N := some 53) (v := ?_) (a' := ?_) #[true, true, true, true, true, true, true, false, false, false, false] rfl rfl (by kernel_rfl) (fun _ _ _ h => h) (Or.inl ⟨by rfl, ?_⟩) hHeld ?_ ?_
     rotate_left
     ·rintro w' ⟨s0, s1⟩
      go_simp
      with_reducible rfl
     rotate_left
     ·simp only [Act.put, Lt, Lz, Ls, i64_w, i32_w]
      rfl
     have HI2 := HI1
     have HB2 := HB1
     have HK2 := HK1
     have HW2 := HW1
     have HL2 := HL1
     have BT2 := BT1
     have BZ2 := BZ1
     clear HI1 HB1 HK1 HW1 HL1 BT1 BZ1
     generalize w1 = w2 at HI2 HB2 HK2 HW2 HL2 BT2 BZ2 hHeld ⊢
     have HX2 := Am (HW2.out.row _ (List.mem_iff_getElem?.2 ⟨0, HPI2.out⟩))
     refine one_ (i := 7) (N := some 55) #[true, true, true, true, true, true, true, true, false, false, false] rfl rfl (by kernel_rfl) (by decide) (fun K hK => ?_)
     refine value_ (w1 := ?_) (v := ?_) (by rfl) rfl ?_ ?_
     rotate_left 2
     ·go_simp
      constructor
      ·rfl
      ·rfl
     refine hK.out _ _ ⟨(Kc (Ka BT2.out _) 1).trans rfl, (spec_l1Cur_table.hdAt (Ra HL2.out _) HPI2.out).1⟩ (fun hHeld => ?_)
     clear hK K
     refine norm_ (a' := ?_) ?_ ?_
     rotate_left
     ·show Act.put _ (some 55) _ = _
      simp only [Act.put, Lt, Lz, Ls, i64_w, i32_w]
      rfl
     refine one_ (i := 8) (N := some 56) #[true, true, true, true, true, true, true, true, true, false, false] rfl rfl (by kernel_rfl) (by decide) (fun K hK => ?_)
     refine Kd.R_append_step k39 (w0 := w2) w.heap.size (by rfl) (.tmp 53) (.tmp 55) 37 39 (.agg #[.int .i64 0, .int .i64 0, .int .i64 0, .int .i64 0, .int .i64 0, .int .i64 0, .int .i64 0, .int .i64 0, .int .i64 0, .slice none 0 0]) 96 rfl Try.underlying37 info39 rfl (by decide) (by omega) (.slice B x.length cB) x spec_l1Cur_table.v1 [.int .i64 0, .int .i64 1, .int .i64 0, .int .i64 0, .int .i64 0, .int .i64 0, .int .i64 0, .int .i64 0, .int .i64 0, .slice none 0 0] (fun _ => True) (fun k_ => True ∧ some k_ ≠ (Value.slice B x.length cB).ownBlock) rfl rfl ?aP ?aK ?aF ?aO ?aB ?aS ?aL ?_
     (case aP => exact k39_mkM _ _ _ spec_l1Cur_table.v1 (Kd.R_nil _ _ _ _ _))
     (case aK => exact (fun _ hk => hk))
     (case aF => exact (fun _ _ => trivial))
     (case aO => exact HX2.out)
     (case aB => exact Below.refl _ _)
     (case aS => exact HK2.out.1)
     (case aL => omega)
     intro v5 w3 ho hb hg hat
     obtain ⟨A5, c5, e5⟩ := Kd.R_slice ho
     rw [List.length_append, List.length_singleton] at e5
     subst e5
     have HW3 := Am (spec_l1Cur_table.put (h' := (A5, x.length + 1, c5)) (x' := x ++ [spec_l1Cur_table.v1]) HW2.out HPI2.out hg hat (Kd.R_mono ho (fun _ _ => trivial)))
     have HL3 : Ad (Kd.hd.R 37 w3 w.heap.size (fun _ => True) (.slice (some ⟨g4, 0, none⟩) N N) (ps.map (·.1))) := ⟨Kd.R_mono (Kd.R_grown (Kd.R_apart' HL2.out (Kd.R_typed HX2.out) (by decide)) hg (fun _ h => h.2)) (fun _ _ => trivial)⟩
     have BT3 := Am (blk_grown BT2.out hg (Kd.R_ne HX2.out BT2.out (by decide)))
     have BZ3 := Am (blk_grown BZ2.out hg (Kd.R_ne HX2.out BZ2.out (by decide)))
     have HI3 := Am (IsS60.grown HI2.out hg (IsS60.own_ne HI2.out HX2.out (by decide)))
     have HK3 : Ad (KeepBut w w3 g none) := ⟨⟨Nat.le_trans HK2.out.1 hb.size, fun i_ hi_ h1_ h2_ => (hb.block i_ hi_).trans (HK2.out.2 i_ hi_ h1_ h2_)⟩⟩
     have HB3 := Am (below_weaken HB2.out HWS.out hb)
     clear ho hb hg hat HW2 HL2 HI2 HB2 HK2 BT2 BZ2 HX2
     refine hK.out _ _ ⟨(Kc BT3.out 1).trans rfl, (spec_l1Cur_table.hdAt HL3.out HPI2.out).1⟩ (fun hHeld => ?_)
     clear hK K
     refine norm_ (a' := ?_) ?_ ?_
     rotate_left
     ·show Act.put _ (some 56) _ = _
      simp only [Act.put, Lt, Lz, Ls, i64_w, i32_w]
      rfl
     refine pure_ (i := 9) (N := some 57) (v := ?_) (a' := ?_) #[true, true, true, true, true, true, true, true, true, true, false] rfl rfl (by kernel_rfl) (fun _ _ _ h => h) (Or.inl ⟨by rfl, ?_⟩) ?_ ?_
     rotate_left
     ·intro w'
      go_simp
      with_reducible rfl
     rotate_left
     ·simp only [Act.put, Lt, Lz, Ls, i64_w, i32_w]
      rfl
     refine last_ (i := 10) (N := none) #[true, true, true, true, true, true, true, true, true, true, true] rfl rfl (by kernel_rfl) (by decide) (fun K hK => ?_)
     have hs15 : w3.cell? ⟨g4, 0, none⟩ = some (.slice B x.length cB) := (spec_l1Cur_table.hdAt HL3.out HPI2.out).1
     have hfs15 := (spec_l1Cur_table.hdAt HL3.out HPI2.out).2
     refine skip_ (w1 := ?_) (by rfl) rfl ?_ ?_
     rotate_left
     ·go_simp
      rfl
     refine hK.out _ _ ?_
     clear hK K
     refine done_ (by kernel_rfl) ?_
     clear hs15 hfs15 hHeld
     have hg4 := G4.out
     have hws := HWS.out
     obtain ⟨cells4, hb4⟩ := Kd.R_typed HL3.out g4 rfl
     have hne4 := blk_ne BT3.out hb4 (by decide)
     have hnz4 := blk_ne BZ3.out hb4 (by decide)
     have HL4 : Ad (Kd.hd.R 37 (w3.setCell ⟨g4, 0, none⟩ (.slice A5 (x.length + 1) c5)) w.heap.size (fun _ => True) (.slice (some ⟨g4, 0, none⟩) N N) ((ps.set 0 ((A5, x.length + 1, c5), x ++ [spec_l1Cur_table.v1])).map (·.1))) := ⟨by
      have h1 := Kd.R_putn HL3.out (0 : Int) (A5, x.length + 1, c5)
      rw [List.map_set]
      exact h1⟩
     have HW4 : Ad (Kd.Rows k39 39 (w3.setCell ⟨g4, 0, none⟩ (.slice A5 (x.length + 1) c5)) w.heap.size (ps.set 0 ((A5, x.length + 1, c5), x ++ [spec_l1Cur_table.v1]))) := ⟨by
      have h1 := HW3.out.set_ hb4 (by decide) 0 (.slice A5 (x.length + 1) c5)
      exact h1⟩
     have HI4 := Am (IsS60.far (p := ⟨g4, 0, none⟩) HI3.out (IsS60.ne_blk HI3.out hb4 (by decide)) (.slice A5 (x.length + 1) c5))
     have HB4 : Ad (Below w0.heap.size w0 (w3.setCell ⟨g4, 0, none⟩ (.slice A5 (x.length + 1) c5))) := ⟨Bs HB3.out (by omega)⟩
     have HK4 := Am (keep_far (p := ⟨g4, 0, none⟩) HK3.out hg4 (.slice A5 (x.length + 1) c5))
     have BT4 := Am (Kf (p := ⟨g4, 0, none⟩) BT3.out hne4 (.slice A5 (x.length + 1) c5))
     have BZ4 := Am (Kf (p := ⟨g4, 0, none⟩) BZ3.out hnz4 (.slice A5 (x.length + 1) c5))
     clear HL3 HW3 HI3 HB3 HK3 BT3 BZ3 hb4 hg4 hws hne4 hnz4 HPI2
     generalize w3.setCell ⟨g4, 0, none⟩ (.slice A5 (x.length + 1) c5) = w4 at HW4 HL4 HI4 HB4 HK4 BT4 BZ4 ⊢
     have ct0 : w4.cell? ⟨gt, 0, none⟩ = some (.int .i64 (N : Int)) := (Kc BT4.out 0).trans rfl
     have ct1 : w4.cell? ⟨gt, 1, none⟩ = some (.slice (some ⟨g4, 0, none⟩) N N) := (Kc BT4.out 1).trans rfl
     have cz0 : w4.cell? ⟨gz, 0, none⟩ = some (.int .i64 0) := (Kc BZ4.out 0).trans rfl
     have cz1 : w4.cell? ⟨gz, 1, none⟩ = some (.slice none 0 0) := (Kc BZ4.out 1).trans rfl
     have fgt0 : w4.frozen? ⟨gt, 0, none⟩ = false := Kz BT4.out 0
     have fgt1 : w4.frozen? ⟨gt, 1, none⟩ = false := Kz BT4.out 1
     have fgz0 : w4.frozen? ⟨gz, 0, none⟩ = false := Kz BZ4.out 0
     have fgz1 : w4.frozen? ⟨gz, 1, none⟩ = false := Kz BZ4.out 1
     have hzt := HZT.out
     have htz := HZT.out.symm
     go_wp2
     refine bodyPost_ret (results_cell_row rfl _ _ gz 26 #[.int .i64 (N : Int), .slice (some ⟨g4, 0, none⟩) N N] (0, 0) _ rfl (blk_put (cs := #[.int .i64 (N : Int), .slice none 0 0]) (blk_put (cs := #[.int .i64 0, .slice none 0 0]) BZ4.out 0 _ rfl) 1 _ rfl) Try.underlying26 rfl (by kernel_rfl)) rfl ?_
     obtain ⟨y1, y2, y3, y4, y5⟩ := spec_l1Cur_table.set (j := 0) (u := .int .i64 (N : Int)) BZ4.out GZ.out HWS.out HW4.out HL4.out HI4.out HB4.out HK4.out
     obtain ⟨y1, y2, y3, y4, y5⟩ := spec_l1Cur_table.set (j := 1) (u := .slice (some ⟨g4, 0, none⟩) N N) (blk_put (cs := #[.int .i64 0, .slice none 0 0]) BZ4.out 0 (.int .i64 (N : Int)) rfl) GZ.out HWS.out y1 y2 y3 y4 y5
     have hpl' : (ps.set 0 ((A5, x.length + 1, c5), x ++ [spec_l1Cur_table.v1])).length = N := by (try simp only [List.length_set]); exact hpl
     exact ⟨some ⟨g4, 0, none⟩, (ps.set 0 ((A5, x.length + 1, c5), x ++ [spec_l1Cur_table.v1])), by rw [hpl'], by rw [List.map_set, HGX.out], by rw [hpl']; exact y2, y1, y3, y4, y5⟩
    ·rw [if_neg hp1] at hz
     simp only [Option.some.injEq, Prod.mk.injEq] at hz
     obtain ⟨rfl, rfl, rfl, rfl⟩ := hz
     have ct0 : w5.cell? ⟨gt, 0, none⟩ = some (.int .i64 (N : Int)) := (Kc BT5.out 0).trans rfl
     have ct1 : w5.cell? ⟨gt, 1, none⟩ = some (.slice (some ⟨g4, 0, none⟩) N N) := (Kc BT5.out 1).trans rfl
     have cz0 : w5.cell? ⟨gz, 0, none⟩ = some (.int .i64 0) := (Kc BZ5.out 0).trans rfl
     have cz1 : w5.cell? ⟨gz, 1, none⟩ = some (.slice none 0 0) := (Kc BZ5.out 1).trans rfl
     have fgt0 : w5.frozen? ⟨gt, 0, none⟩ = false := Kz BT5.out 0
     have fgt1 : w5.frozen? ⟨gt, 1, none⟩ = false := Kz BT5.out 1
     have fgz0 : w5.frozen? ⟨gz, 0, none⟩ = false := Kz BZ5.out 0
     have fgz1 : w5.frozen? ⟨gz, 1, none⟩ = false := Kz BZ5.out 1
     have hzt := HZT.out
     have htz := HZT.out.symm
     go_wp2
     refine bodyPost_ret (results_cell_row rfl _ _ gz 26 #[.int .i64 (N : Int), .slice (some ⟨g4, 0, none⟩) N N] (0, 0) _ rfl (blk_put (cs := #[.int .i64 (N : Int), .slice none 0 0]) (blk_put (cs := #[.int .i64 0, .slice none 0 0]) BZ5.out 0 _ rfl) 1 _ rfl) Try.underlying26 rfl (by kernel_rfl)) rfl ?_
     obtain ⟨y1, y2, y3, y4, y5⟩ := spec_l1Cur_table.set (j := 0) (u := .int .i64 (N : Int)) BZ5.out GZ.out HWS.out HW5.out HL5.out HI5.out HB5.out HK5.out
     obtain ⟨y1, y2, y3, y4, y5⟩ := spec_l1Cur_table.set (j := 1) (u := .slice (some ⟨g4, 0, none⟩) N N) (blk_put (cs := #[.int .i64 0, .slice none 0 0]) BZ5.out 0 (.int .i64 (N : Int)) rfl) GZ.out HWS.out y1 y2 y3 y4 y5
     have hpl' : ps.length = N := by (try simp only [List.length_set]); exact hpl
     exact ⟨some ⟨g4, 0, none⟩, ps, by rw [hpl'], rfl, by rw [hpl']; exact y2, y1, y3, y4, y5⟩
end Go.Proofs.Ytilmcfdhijdhpaa.QFnAttrFor
