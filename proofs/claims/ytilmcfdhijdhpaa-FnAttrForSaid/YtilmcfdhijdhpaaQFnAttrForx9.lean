-- Written by a program of this session (wip/mk.py) over the kit's print: Lean checks it.
import Derived.Test.YtilmcfdhijdhpaaQFnAttrForx0
import Derived.Test.YtilmcfdhijdhpaaQFnAttrForx1
import Derived.Test.YtilmcfdhijdhpaaQFnAttrForx5
import Derived.Test.YtilmcfdhijdhpaaQFnAttrForx6
import Derived.Test.YtilmcfdhijdhpaaQFnAttrForx8
namespace Go.Proofs.Ytilmcfdhijdhpaa.QFnAttrFor
open Go.Proofs.YtilmcfdhijdhpaaW.PrintWords.Kd renaming R_drew → Rd
open Go.Proofs.YtilmcfdhijdhpaaW.PrintWords renaming below_alloc → Ba, pw_below_drewN → Bn, below_drew1 → Bd, below_set → Bs, below_size → Bz, below_step → Bt, gate_dst → Gd, gate_callee → Gc, box_event → Be, blk_alloc → Ka, blk_drewN → Kn, blk_drew → Ke, blk_below → Kb, blk_cell → Kc, blk_far → Kf, blk_frozen → Kz
open Go.Proofs.YtilmcfdhijdhpaaW.PrintWords.Aside0 renaming mk → Am
open Go.Proofs.YtilmcfdhijdhpaaW.PrintWords renaming Aside0 → Ad
open Go.RowKit Go.Proofs.YtilmcfdhijdhpaaW.PrintWords Go.Proofs.YtilmcfdhijdhpaaW.PrintLast Go.Proofs.YtilmcfdhijdhpaaW.PrintMore
attribute [local go_sem] max2_int min2_int max_two min_two max_three min_three max_four min_four   -- for this text's walks alone
set_option linter.unusedVariables false
set_option linter.unusedSimpArgs false
attribute [local go_sem high] eqA28
def impl_Table_attrFor.f (K : Nat) (n : Int) (l : List (List S39)) (c0 c1 c2 c3 c4 : Int) (rep no : Int) : Option (Int × List Int × Bool) :=
 (impl_noneAttr.f n).bind fun bt => (impl_Table_each.allO (impl_Table_attrFor_1.stepA K rep no ⟨c0, c1, c2, c3, c4⟩) l 0 (bt.1, bt.2)).bind fun s => some (wrap64 (s.1 + 1), s.2, decide (wrap64 (s.1 + 1) ≤ 999))
set_option maxHeartbeats 4000000 in
set_option maxRecDepth 100000 in
theorem impl_Table_attrFor.calls (K : Nat) (n : Int) (A : Option Addr) (cl : Nat) (l : List (List S39)) (c0 c1 c2 c3 c4 : Int) (rep no : Int) (r1 : Int) (r2 : List Int) (r3 : Bool) (w : World) (hr : Kd.C (Kd.slice 39 k39) w A l.length l) (hcl : l.length ≤ cl) (h : impl_Table_attrFor.f K n l c0 c1 c2 c3 c4 rep no = some (r1, r2, r3)) :
  Calls Try.prog 23 #[.agg #[.int .i64 n, .slice A l.length cl], .agg #[.int .i64 c0, .int .i64 c1, .int .i64 c2, .int .i64 c3, .int .i64 c4], .int .i64 rep, .int .i64 no] w fun e w' => ∃ v1_ : Value, e = .returned (.tuple #[.agg #[.int .i64 r1, v1_], .bool r3]) ∧ Kd.R (Kd.int .i64) 3 w' w.heap.size (fun _ => True) v1_ r2 ∧ Below w.heap.size w w' := by
 have hu2 := Try.underlying28
 have hu3 := Try.underlying26
 have hu4 := Try.underlying33
 obtain ⟨c, hcc⟩ : ∃ c : S28, c = ⟨c0, c1, c2, c3, c4⟩ := ⟨_, rfl⟩
 have e0 : c0 = c.f0 := by rw [hcc]
 have e1 : c1 = c.f1 := by rw [hcc]
 have e2 : c2 = c.f2 := by rw [hcc]
 have e3 : c3 = c.f3 := by rw [hcc]
 have e4 : c4 = c.f4 := by rw [hcc]
 unfold impl_Table_attrFor.f at h
 rw [← hcc] at h
 rw [e0, e1, e2, e3, e4]
 clear hcc e0 e1 e2 e3 e4 hcl
 cases hn : impl_noneAttr.f n with
 | none => rw [hn] at h; cases h
 | some bt =>
 obtain ⟨b1, b2⟩ := bt
 rw [hn, Option.bind_some] at h
 dsimp only at h
 cases ha : impl_Table_each.allO (impl_Table_attrFor_1.stepA K rep no c) l 0 (b1, b2) with
 | none => rw [ha] at h; cases h
 | some sr =>
 have HE : Ad (wrap64 (sr.1 + 1) = r1 ∧ sr.2 = r2 ∧ decide (wrap64 (sr.1 + 1) ≤ 999) = r3) := ⟨by rw [ha, Option.bind_some] at h; simpa using h⟩
 have HR := Am hr
 have HN := Am hn
 have HA := Am ha
 clear h hn ha hr
 go_enter Try.func23, Try.ntmps23
 go_upto_region 1 with (fail)
 refine letC (fun W_ => Below w.heap.size w W_ ∧ W_.heap[w.heap.size]? = some (.cells #[.int .i64 n, .slice A l.length cl] 26 (0, 0)) ∧ W_.heap[w.heap.size + 1]? = some (.cells #[.int .i64 c.f0, .int .i64 c.f1, .int .i64 c.f2, .int .i64 c.f3, .int .i64 c.f4] 28 (0, 0)) ∧ W_.heap[w.heap.size + 2]? = some (.cells #[.int .i64 rep] 3 (0, 0)) ∧ W_.heap[w.heap.size + 3]? = some (.cells #[.int .i64 no] 3 (0, 0)) ∧ W_.heap[w.heap.size + 4]? = some (.cells #[.int .i64 0, .slice none 0 0] 33 (0, 0))) ⟨Ba (Ba (Ba (Ba (Ba (Below.refl _ _) _) _) _) _) _, ?_, ?_, ?_, ?_, ?_⟩ ?_
 ·simpa using Ka (Ka (Ka (Ka (blk_new w (.cells #[.int .i64 n, .slice A l.length cl] 26)) (.cells #[.int .i64 c.f0, .int .i64 c.f1, .int .i64 c.f2, .int .i64 c.f3, .int .i64 c.f4] 28)) (.cells #[.int .i64 rep] 3)) (.cells #[.int .i64 no] 3)) (.cells #[.int .i64 0, .slice none 0 0] 33)
 ·simpa using Ka (Ka (Ka (blk_new (w.alloc (.cells #[.int .i64 n, .slice A l.length cl] 26)) (.cells #[.int .i64 c.f0, .int .i64 c.f1, .int .i64 c.f2, .int .i64 c.f3, .int .i64 c.f4] 28)) (.cells #[.int .i64 rep] 3)) (.cells #[.int .i64 no] 3)) (.cells #[.int .i64 0, .slice none 0 0] 33)
 ·simpa using Ka (Ka (blk_new ((w.alloc (.cells #[.int .i64 n, .slice A l.length cl] 26)).alloc (.cells #[.int .i64 c.f0, .int .i64 c.f1, .int .i64 c.f2, .int .i64 c.f3, .int .i64 c.f4] 28)) (.cells #[.int .i64 rep] 3)) (.cells #[.int .i64 no] 3)) (.cells #[.int .i64 0, .slice none 0 0] 33)
 ·simpa using Ka (blk_new (((w.alloc (.cells #[.int .i64 n, .slice A l.length cl] 26)).alloc (.cells #[.int .i64 c.f0, .int .i64 c.f1, .int .i64 c.f2, .int .i64 c.f3, .int .i64 c.f4] 28)).alloc (.cells #[.int .i64 rep] 3)) (.cells #[.int .i64 no] 3)) (.cells #[.int .i64 0, .slice none 0 0] 33)
 ·simpa using blk_new ((((w.alloc (.cells #[.int .i64 n, .slice A l.length cl] 26)).alloc (.cells #[.int .i64 c.f0, .int .i64 c.f1, .int .i64 c.f2, .int .i64 c.f3, .int .i64 c.f4] 28)).alloc (.cells #[.int .i64 rep] 3)).alloc (.cells #[.int .i64 no] 3)) (.cells #[.int .i64 0, .slice none 0 0] 33)
 rintro W1 ⟨hb, ht, hc, hrp, hnp, h8⟩
 have HB1 := Am hb
 have HT1 := Am ht
 have HC1 := Am hc
 have HP1 := Am hrp
 have HQ1 := Am hnp
 have H81 := Am h8
 have q0 : W1.cell? ⟨w.heap.size, 0, none⟩ = some (.int .i64 n) := (Kc ht 0).trans rfl
 have HLB := Am (blk_lt hnp)
 clear hb ht hc hrp hnp h8
 go_wp2_with fail
 refine (impl_noneAttr.calls n b1 b2 W1 HN.out).mono ?_
 rintro e W2 ⟨v1, rfl, hR, hb⟩
 have HR2 := Am hR
 have HB2 := Am (below_then HB1.out HB1.out.size hb)
 have HT2 := Am (Kb HT1.out hb)
 have HC2 := Am (Kb HC1.out hb)
 have HP2 := Am (Kb HP1.out hb)
 have HQ2 := Am (Kb HQ1.out hb)
 have H82 := Am (Kb H81.out hb)
 have HLT := Am (blk_lt H82.out)
 have HBB := Am HB1.out.size
 clear hR hb q0 HT1 HC1 HP1 HQ1 H81 HB1
 obtain ⟨Av, cv, rfl⟩ := Kd.R_slice HR2.out
 generalize W1.heap.size = B at HR2 HBB HLB
 go_upto_region 2 with (fail)
 refine letC (fun W_ => Below W2.heap.size W2 W_ ∧ W_.heap[W2.heap.size]? = some (.cells #[.int .i64 b1, .slice Av b2.length cv] 33 (0, 0))) ⟨Ba (Below.refl _ _) _, blk_new W2 (.cells #[.int .i64 b1, .slice Av b2.length cv] 33)⟩ ?_
 rintro W3 ⟨hb, ho⟩
 have HREL : Ad (impl_Table_attrFor_1.Rel W2.heap.size (w.heap.size + 2) (w.heap.size + 3) (w.heap.size + 1) (w.heap.size + 4) B rep no c w (b1, b2) W3) := ⟨_, ho, Kd.R_below HR2.out hb, Kb HP2.out hb, Kb HQ2.out hb, Kb HC2.out hb, Kb H82.out hb, below_then HB2.out HB2.out.size hb, by have := HLB.out; omega, HLB.out, HBB.out, HB2.out.size, Nat.ne_of_lt HLT.out⟩
 have q0 : W3.cell? ⟨w.heap.size, 0, none⟩ = some (.int .i64 n) := (Kc (Kb HT2.out hb) 0).trans rfl
 have q1 : W3.cell? ⟨w.heap.size, 1, none⟩ = some (.slice A l.length cl) := (Kc (Kb HT2.out hb) 1).trans rfl
 have HG8 : Ad (w.heap.size ≤ w.heap.size + 4) := ⟨by omega⟩
 clear hb ho HR2 HB2 HT2 HC2 HP2 HQ2 H82 HLT HBB HLB
 generalize W2.heap.size = go at HREL
 go_wp2_with fail
 refine (impl_Table_each.gen 56 #[.pointer (some ⟨w.heap.size + 2, 0, none⟩), .pointer (some ⟨w.heap.size + 3, 0, none⟩), .pointer (some ⟨w.heap.size + 1, 0, none⟩), .pointer (some ⟨go, 0, none⟩)] (impl_Table_attrFor_1.Rel go (w.heap.size + 2) (w.heap.size + 3) (w.heap.size + 1) (w.heap.size + 4) B rep no c w) (impl_Table_attrFor_1.stepA K rep no c) n A cl l (b1, b2) sr w W3 (fun args w => enters_ Try.func56 (by kernel_rfl) rfl args w) HR.out (fun s W hR => by obtain ⟨_, _, _, _, _, _, _, hB, _⟩ := hR; exact hB) (fun s W W' hR hb => impl_Table_attrFor_1.mono hR hb) (fun s s' i j x A9 c9 W hR hs => impl_Table_attrFor_1.closed K go _ _ _ _ B rep no c w s s' i j x A9 c9 W hR hs) HREL.out HA.out).mono ?_
 rintro e W4 ⟨rfl, hrel⟩
 clear q0 q1 HREL HA
 obtain ⟨v, ho, hr, hgr, hgn, hgc, hg8, hB, hbase⟩ := hrel
 have hs0 : W4.cell? ⟨go, 0, none⟩ = some (.int .i64 sr.1) := (Kc ho 0).trans rfl
 have hsf : W4.frozen? ⟨go, 0, none⟩ = false := Kz ho 0
 have HNEW : Ad (∃ v, (W4.setCell ⟨go, 0, none⟩ (.int .i64 (wrap64 (sr.1 + 1)))).heap[go]? = some (.cells #[.int .i64 (wrap64 (sr.1 + 1)), v] 33 (0, 0)) ∧ Kd.R (Kd.int .i64) 3 (W4.setCell ⟨go, 0, none⟩ (.int .i64 (wrap64 (sr.1 + 1)))) B (fun _ => True) v sr.2 ∧ (W4.setCell ⟨go, 0, none⟩ (.int .i64 (wrap64 (sr.1 + 1)))).heap[w.heap.size + 4]? = some (.cells #[.int .i64 0, .slice none 0 0] 33 (0, 0)) ∧ Below w.heap.size w (W4.setCell ⟨go, 0, none⟩ (.int .i64 (wrap64 (sr.1 + 1))))) := ⟨_, blk_put ho 0 _ rfl, Kd.R_set hr ho (by decide) 0 _, Kf hg8 hbase.2.2.2.2 _, Bs hB hbase.2.2.2.1⟩
 have HBS : Ad (w.heap.size ≤ B ∧ w.heap.size + 4 ≠ go) := ⟨hbase.2.2.1, hbase.2.2.2.2⟩
 clear ho hr hgr hgn hgc hg8 hB hbase
 go_upto_region 4 with (fail)
 refine letC (fun W_ => ∃ v, W_.heap[go]? = some (.cells #[.int .i64 (wrap64 (sr.1 + 1)), v] 33 (0, 0)) ∧ Kd.R (Kd.int .i64) 3 W_ B (fun _ => True) v sr.2 ∧ W_.heap[w.heap.size + 4]? = some (.cells #[.int .i64 0, .slice none 0 0] 33 (0, 0)) ∧ Below w.heap.size w W_) HNEW.out ?_
 rintro W5 ⟨v, ho, hr, hg8, hB⟩
 clear HNEW hs0 hsf
 obtain ⟨Ae, ce, rfl⟩ := Kd.R_slice hr
 obtain ⟨g8, hg⟩ : ∃ g8, g8 = w.heap.size + 4 := ⟨_, rfl⟩
 rw [← hg] at hg8 HBS HG8 ⊢
 clear hg
 have qo0 : W5.cell? ⟨go, 0, none⟩ = some (.int .i64 (wrap64 (sr.1 + 1))) := (Kc ho 0).trans rfl
 have qo1 : W5.cell? ⟨go, 1, none⟩ = some (.slice Ae sr.2.length ce) := (Kc ho 1).trans rfl
 have HFIN : Ad (((W5.setCell ⟨g8, 0, none⟩ (.int .i64 (wrap64 (sr.1 + 1)))).setCell ⟨g8, 1, none⟩ (.slice Ae sr.2.length ce)).heap[g8]? = some (.cells #[.int .i64 (wrap64 (sr.1 + 1)), .slice Ae sr.2.length ce] 33 (0, 0))) := ⟨blk_put (cs := #[.int .i64 (wrap64 (sr.1 + 1)), .slice none 0 0]) (blk_put hg8 0 _ rfl) 1 _ rfl⟩
 have q80 : W5.cell? ⟨g8, 0, none⟩ = some (.int .i64 0) := (Kc hg8 0).trans rfl
 have q81 : W5.cell? ⟨g8, 1, none⟩ = some (.slice none 0 0) := (Kc hg8 1).trans rfl
 have f80 := Kz hg8 0
 have f81 := Kz hg8 1
 have hne : g8 ≠ go := HBS.out.2
 have hne' : go ≠ g8 := fun e => hne e.symm
 have HRR := Am (Kd.R_set (Kd.R_set hr hg8 (by decide) 0 (.int .i64 (wrap64 (sr.1 + 1)))) (blk_put hg8 0 _ rfl) (by decide) 1 (.slice Ae sr.2.length ce))
 have HBB := Am hB
 clear ho hr hg8 hB
 go_wp2
 go_region
 go_wp2
 (try simp only [Exit.inBlock, Exit.then])
 refine bodyPost_ret (results_ct rfl _ _ g8 33 #[.int .i64 (wrap64 (sr.1 + 1)), .slice Ae sr.2.length ce] (0, 0) _ rfl (Ke HFIN.out) Try.underlying33 rfl (by kernel_rfl)) rfl ?_
 obtain ⟨h1, h2, h3⟩ := HE.out
 rw [← h1, ← h2, ← h3]
 exact ⟨_, rfl, Rd (Kd.R_lower HRR.out HBS.out.1), below_drew (Bs (Bs HBB.out HG8.out) HG8.out)⟩
def impl_AttrFor.f (K : Nat) (n : Int) (l : List (List S39)) (c0 c1 c2 c3 c4 : Int) (rep no : Int) : Option (Int × List Int × Bool) :=
 (impl_GoodTable.f K n l).bind fun b => if b = true then ((impl_GoodCmd.f c0 c1 c2 c3 c4).bind fun b2 => if b2 = true then ((impl_isInstance.f n rep no).bind fun b3 => if b3 = true then ((impl_Table_attrFor.f K n l c0 c1 c2 c3 c4 rep no).bind fun bt => if bt.2.2 = true then some (bt.1, bt.2.1, true) else some (0, [], false)) else some (0, [], false)) else some (0, [], false)) else some (0, [], false)
set_option maxHeartbeats 4000000 in
set_option maxRecDepth 100000 in
theorem impl_AttrFor.calls (K : Nat) (n : Int) (A : Option Addr) (cl : Nat) (l : List (List S39)) (c0 c1 c2 c3 c4 : Int) (rep no : Int) (r1 : Int) (r2 : List Int) (r3 : Bool) (w : World) (hr : Kd.C (Kd.slice 39 k39) w A l.length l) (hcl : l.length ≤ cl) (h : impl_AttrFor.f K n l c0 c1 c2 c3 c4 rep no = some (r1, r2, r3)) :
  Calls Try.prog 7 #[.agg #[.int .i64 n, .slice A l.length cl], .agg #[.int .i64 c0, .int .i64 c1, .int .i64 c2, .int .i64 c3, .int .i64 c4], .int .i64 rep, .int .i64 no] w fun e w' => ∃ v1_ : Value, e = .returned (.tuple #[.agg #[.int .i64 r1, v1_], .bool r3]) ∧ Kd.R (Kd.int .i64) 3 w' w.heap.size (fun _ => True) v1_ r2 ∧ Below w.heap.size w w' := by
 have hu2 := Try.underlying28
 have hu3 := Try.underlying26
 have hu4 := Try.underlying33
 obtain ⟨c, hcc⟩ : ∃ c : S28, c = ⟨c0, c1, c2, c3, c4⟩ := ⟨_, rfl⟩
 have e0 : c0 = c.f0 := by rw [hcc]
 have e1 : c1 = c.f1 := by rw [hcc]
 have e2 : c2 = c.f2 := by rw [hcc]
 have e3 : c3 = c.f3 := by rw [hcc]
 have e4 : c4 = c.f4 := by rw [hcc]
 unfold impl_AttrFor.f at h
 rw [e0, e1, e2, e3, e4] at h ⊢
 clear hcc e0 e1 e2 e3 e4 c0 c1 c2 c3 c4
 cases hg : impl_GoodTable.f K n l with
 | none => rw [hg] at h; cases h
 | some b =>
 rw [hg, Option.bind_some] at h
 have HR := Am hr
 have HCL := Am hcl
 have HG := Am hg
 have HF := Am h
 clear h hg hr hcl
 go_enter Try.func7, Try.ntmps7
 go_upto_region 1 with (fail)
 refine letC (fun W_ => Below w.heap.size w W_ ∧ W_.heap[w.heap.size]? = some (.cells #[.int .i64 n, .slice A l.length cl] 26 (0, 0)) ∧ W_.heap[w.heap.size + 1]? = some (.cells #[.int .i64 c.f0, .int .i64 c.f1, .int .i64 c.f2, .int .i64 c.f3, .int .i64 c.f4] 28 (0, 0)) ∧ W_.heap[w.heap.size + 2]? = some (.cells #[.int .i64 0, .slice none 0 0] 33 (0, 0))) ⟨Ba (Ba (Ba (Below.refl _ _) _) _) _, ?_, ?_, ?_⟩ ?_
 ·simpa using Ka (Ka (blk_new w (.cells #[.int .i64 n, .slice A l.length cl] 26)) (.cells #[.int .i64 c.f0, .int .i64 c.f1, .int .i64 c.f2, .int .i64 c.f3, .int .i64 c.f4] 28)) (.cells #[.int .i64 0, .slice none 0 0] 33)
 ·simpa using Ka (blk_new (w.alloc (.cells #[.int .i64 n, .slice A l.length cl] 26)) (.cells #[.int .i64 c.f0, .int .i64 c.f1, .int .i64 c.f2, .int .i64 c.f3, .int .i64 c.f4] 28)) (.cells #[.int .i64 0, .slice none 0 0] 33)
 ·simpa using blk_new ((w.alloc (.cells #[.int .i64 n, .slice A l.length cl] 26)).alloc (.cells #[.int .i64 c.f0, .int .i64 c.f1, .int .i64 c.f2, .int .i64 c.f3, .int .i64 c.f4] 28)) (.cells #[.int .i64 0, .slice none 0 0] 33)
 rintro W1 ⟨hb, ht, hc, h8⟩
 have HB1 := Am hb
 have HT1 := Am ht
 have HC1 := Am hc
 have H81 := Am h8
 clear hb ht hc h8
 have qt0 : W1.cell? ⟨w.heap.size, 0, none⟩ = some (.int .i64 n) := (Kc HT1.out 0).trans rfl
 have qt1 : W1.cell? ⟨w.heap.size, 1, none⟩ = some (.slice A l.length cl) := (Kc HT1.out 1).trans rfl
 have qc0 : W1.cell? ⟨w.heap.size + 1, 0, none⟩ = some (.int .i64 c.f0) := (Kc HC1.out 0).trans rfl
 have qc1 : W1.cell? ⟨w.heap.size + 1, 1, none⟩ = some (.int .i64 c.f1) := (Kc HC1.out 1).trans rfl
 have qc2 : W1.cell? ⟨w.heap.size + 1, 2, none⟩ = some (.int .i64 c.f2) := (Kc HC1.out 2).trans rfl
 have qc3 : W1.cell? ⟨w.heap.size + 1, 3, none⟩ = some (.int .i64 c.f3) := (Kc HC1.out 3).trans rfl
 have qc4 : W1.cell? ⟨w.heap.size + 1, 4, none⟩ = some (.int .i64 c.f4) := (Kc HC1.out 4).trans rfl
 go_wp2_with fail
 refine (impl_GoodTable.calls K n A cl l b W1 (Kd.C_below HR.out HB1.out) HCL.out HG.out).mono ?_
 rintro e W2 ⟨rfl, hb⟩
 have hb : Below W1.heap.size W1 W2 := by first | exact hb | exact hb.below
 have HB2 := Am (below_then HB1.out HB1.out.size hb)
 have HT2 := Am (Kb HT1.out hb)
 have HC2 := Am (Kb HC1.out hb)
 have H82 := Am (Kb H81.out hb)
 clear hb qt0 qt1 qc0 qc1 qc2 qc3 qc4 HB1 HT1 HC1 H81
 have qt0 : W2.cell? ⟨w.heap.size, 0, none⟩ = some (.int .i64 n) := (Kc HT2.out 0).trans rfl
 have qt1 : W2.cell? ⟨w.heap.size, 1, none⟩ = some (.slice A l.length cl) := (Kc HT2.out 1).trans rfl
 have qc0 : W2.cell? ⟨w.heap.size + 1, 0, none⟩ = some (.int .i64 c.f0) := (Kc HC2.out 0).trans rfl
 have qc1 : W2.cell? ⟨w.heap.size + 1, 1, none⟩ = some (.int .i64 c.f1) := (Kc HC2.out 1).trans rfl
 have qc2 : W2.cell? ⟨w.heap.size + 1, 2, none⟩ = some (.int .i64 c.f2) := (Kc HC2.out 2).trans rfl
 have qc3 : W2.cell? ⟨w.heap.size + 1, 3, none⟩ = some (.int .i64 c.f3) := (Kc HC2.out 3).trans rfl
 have qc4 : W2.cell? ⟨w.heap.size + 1, 4, none⟩ = some (.int .i64 c.f4) := (Kc HC2.out 4).trans rfl
 cases b with
 | false =>
  have HE : Ad (0 = r1 ∧ ([] : List Int) = r2 ∧ false = r3) := ⟨by simpa using HF.out⟩
  have q80 : W2.cell? ⟨w.heap.size + 2, 0, none⟩ = some (.int .i64 0) := (Kc H82.out 0).trans rfl
  have q81 : W2.cell? ⟨w.heap.size + 2, 1, none⟩ = some (.slice none 0 0) := (Kc H82.out 1).trans rfl
  have f80 := Kz H82.out 0
  have f81 := Kz H82.out 1
  have HG8 : Ad (w.heap.size ≤ w.heap.size + 2) := ⟨by omega⟩
  have HFIN : Ad (((W2.setCell ⟨w.heap.size + 2, 0, none⟩ (.int .i64 0)).setCell ⟨w.heap.size + 2, 1, none⟩ (.slice none 0 0)).heap[w.heap.size + 2]? = some (.cells #[.int .i64 0, .slice none 0 0] 33 (0, 0))) := ⟨blk_put (cs := #[.int .i64 0, .slice none 0 0]) (blk_put H82.out 0 _ rfl) 1 _ rfl⟩
  go_wp2
  (try simp only [Exit.inBlock, Exit.then])
  refine bodyPost_ret (results_ct rfl _ _ (w.heap.size + 2) 33 #[.int .i64 0, .slice none 0 0] (0, 0) _ rfl HFIN.out Try.underlying33 rfl (by kernel_rfl)) rfl ?_
  obtain ⟨h1, h2, h3⟩ := HE.out
  rw [← h1, ← h2, ← h3]
  exact ⟨_, rfl, Kd.R_nil _ _ _ _ _, Bs (Bs HB2.out HG8.out) HG8.out⟩
 | true =>
 cases hm : impl_GoodCmd.f c.f0 c.f1 c.f2 c.f3 c.f4 with
 | none => exact absurd HF.out (by rw [if_pos rfl, hm]; simp)
 | some b2 =>
 have HM := Am hm
 replace HF : Ad ((if b2 = true then ((impl_isInstance.f n rep no).bind fun b3 => if b3 = true then ((impl_Table_attrFor.f K n l c.f0 c.f1 c.f2 c.f3 c.f4 rep no).bind fun bt => if bt.2.2 = true then some (bt.1, bt.2.1, true) else some (0, [], false)) else some (0, [], false)) else some (0, [], false)) = some (r1, r2, r3)) := ⟨by have h_ := HF.out; rw [if_pos rfl, hm, Option.bind_some] at h_; exact h_⟩
 clear hm
 go_wp2_with fail
 refine (impl_GoodCmd.calls c.f0 c.f1 c.f2 c.f3 c.f4 b2 W2 HM.out).mono ?_
 rintro e W3 ⟨rfl, hb⟩
 have hb : Below W2.heap.size W2 W3 := by first | exact hb | exact hb.below
 have HB3 := Am (below_then HB2.out HB2.out.size hb)
 have HT3 := Am (Kb HT2.out hb)
 have HC3 := Am (Kb HC2.out hb)
 have H83 := Am (Kb H82.out hb)
 clear hb qt0 qt1 qc0 qc1 qc2 qc3 qc4 HB2 HT2 HC2 H82
 have qt0 : W3.cell? ⟨w.heap.size, 0, none⟩ = some (.int .i64 n) := (Kc HT3.out 0).trans rfl
 have qt1 : W3.cell? ⟨w.heap.size, 1, none⟩ = some (.slice A l.length cl) := (Kc HT3.out 1).trans rfl
 have qc0 : W3.cell? ⟨w.heap.size + 1, 0, none⟩ = some (.int .i64 c.f0) := (Kc HC3.out 0).trans rfl
 have qc1 : W3.cell? ⟨w.heap.size + 1, 1, none⟩ = some (.int .i64 c.f1) := (Kc HC3.out 1).trans rfl
 have qc2 : W3.cell? ⟨w.heap.size + 1, 2, none⟩ = some (.int .i64 c.f2) := (Kc HC3.out 2).trans rfl
 have qc3 : W3.cell? ⟨w.heap.size + 1, 3, none⟩ = some (.int .i64 c.f3) := (Kc HC3.out 3).trans rfl
 have qc4 : W3.cell? ⟨w.heap.size + 1, 4, none⟩ = some (.int .i64 c.f4) := (Kc HC3.out 4).trans rfl
 cases b2 with
 | false =>
  have HE : Ad (0 = r1 ∧ ([] : List Int) = r2 ∧ false = r3) := ⟨by simpa using HF.out⟩
  have q80 : W3.cell? ⟨w.heap.size + 2, 0, none⟩ = some (.int .i64 0) := (Kc H83.out 0).trans rfl
  have q81 : W3.cell? ⟨w.heap.size + 2, 1, none⟩ = some (.slice none 0 0) := (Kc H83.out 1).trans rfl
  have f80 := Kz H83.out 0
  have f81 := Kz H83.out 1
  have HG8 : Ad (w.heap.size ≤ w.heap.size + 2) := ⟨by omega⟩
  have HFIN : Ad (((W3.setCell ⟨w.heap.size + 2, 0, none⟩ (.int .i64 0)).setCell ⟨w.heap.size + 2, 1, none⟩ (.slice none 0 0)).heap[w.heap.size + 2]? = some (.cells #[.int .i64 0, .slice none 0 0] 33 (0, 0))) := ⟨blk_put (cs := #[.int .i64 0, .slice none 0 0]) (blk_put H83.out 0 _ rfl) 1 _ rfl⟩
  go_wp2
  (try simp only [Exit.inBlock, Exit.then])
  refine bodyPost_ret (results_ct rfl _ _ (w.heap.size + 2) 33 #[.int .i64 0, .slice none 0 0] (0, 0) _ rfl HFIN.out Try.underlying33 rfl (by kernel_rfl)) rfl ?_
  obtain ⟨h1, h2, h3⟩ := HE.out
  rw [← h1, ← h2, ← h3]
  exact ⟨_, rfl, Kd.R_nil _ _ _ _ _, Bs (Bs HB3.out HG8.out) HG8.out⟩
 | true =>
 cases hi : impl_isInstance.f n rep no with
 | none => exact absurd HF.out (by rw [if_pos rfl, hi]; simp)
 | some b3 =>
 have HI := Am hi
 replace HF : Ad ((if b3 = true then ((impl_Table_attrFor.f K n l c.f0 c.f1 c.f2 c.f3 c.f4 rep no).bind fun bt => if bt.2.2 = true then some (bt.1, bt.2.1, true) else some (0, [], false)) else some (0, [], false)) = some (r1, r2, r3)) := ⟨by have h_ := HF.out; rw [if_pos rfl, hi, Option.bind_some] at h_; exact h_⟩
 clear hi
 go_wp2_with fail
 refine (impl_isInstance.calls n rep no b3 W3 HI.out).mono ?_
 rintro e W4 ⟨rfl, hb⟩
 have hb : Below W3.heap.size W3 W4 := by first | exact hb | exact hb.below
 have HB4 := Am (below_then HB3.out HB3.out.size hb)
 have HT4 := Am (Kb HT3.out hb)
 have HC4 := Am (Kb HC3.out hb)
 have H84 := Am (Kb H83.out hb)
 clear hb qt0 qt1 qc0 qc1 qc2 qc3 qc4 HB3 HT3 HC3 H83
 have qt0 : W4.cell? ⟨w.heap.size, 0, none⟩ = some (.int .i64 n) := (Kc HT4.out 0).trans rfl
 have qt1 : W4.cell? ⟨w.heap.size, 1, none⟩ = some (.slice A l.length cl) := (Kc HT4.out 1).trans rfl
 have qc0 : W4.cell? ⟨w.heap.size + 1, 0, none⟩ = some (.int .i64 c.f0) := (Kc HC4.out 0).trans rfl
 have qc1 : W4.cell? ⟨w.heap.size + 1, 1, none⟩ = some (.int .i64 c.f1) := (Kc HC4.out 1).trans rfl
 have qc2 : W4.cell? ⟨w.heap.size + 1, 2, none⟩ = some (.int .i64 c.f2) := (Kc HC4.out 2).trans rfl
 have qc3 : W4.cell? ⟨w.heap.size + 1, 3, none⟩ = some (.int .i64 c.f3) := (Kc HC4.out 3).trans rfl
 have qc4 : W4.cell? ⟨w.heap.size + 1, 4, none⟩ = some (.int .i64 c.f4) := (Kc HC4.out 4).trans rfl
 cases b3 with
 | false =>
  have HE : Ad (0 = r1 ∧ ([] : List Int) = r2 ∧ false = r3) := ⟨by simpa using HF.out⟩
  have q80 : W4.cell? ⟨w.heap.size + 2, 0, none⟩ = some (.int .i64 0) := (Kc H84.out 0).trans rfl
  have q81 : W4.cell? ⟨w.heap.size + 2, 1, none⟩ = some (.slice none 0 0) := (Kc H84.out 1).trans rfl
  have f80 := Kz H84.out 0
  have f81 := Kz H84.out 1
  have HG8 : Ad (w.heap.size ≤ w.heap.size + 2) := ⟨by omega⟩
  have HFIN : Ad (((W4.setCell ⟨w.heap.size + 2, 0, none⟩ (.int .i64 0)).setCell ⟨w.heap.size + 2, 1, none⟩ (.slice none 0 0)).heap[w.heap.size + 2]? = some (.cells #[.int .i64 0, .slice none 0 0] 33 (0, 0))) := ⟨blk_put (cs := #[.int .i64 0, .slice none 0 0]) (blk_put H84.out 0 _ rfl) 1 _ rfl⟩
  go_wp2
  (try simp only [Exit.inBlock, Exit.then])
  refine bodyPost_ret (results_ct rfl _ _ (w.heap.size + 2) 33 #[.int .i64 0, .slice none 0 0] (0, 0) _ rfl HFIN.out Try.underlying33 rfl (by kernel_rfl)) rfl ?_
  obtain ⟨h1, h2, h3⟩ := HE.out
  rw [← h1, ← h2, ← h3]
  exact ⟨_, rfl, Kd.R_nil _ _ _ _ _, Bs (Bs HB4.out HG8.out) HG8.out⟩
 | true =>
 cases ha : impl_Table_attrFor.f K n l c.f0 c.f1 c.f2 c.f3 c.f4 rep no with
 | none => exact absurd HF.out (by rw [if_pos rfl, ha]; simp)
 | some bt =>
 obtain ⟨b1, bs, bo⟩ := bt
 have HA := Am ha
 replace HF : Ad ((if bo = true then some (b1, bs, true) else some (0, [], false)) = some (r1, r2, r3)) := ⟨by have h_ := HF.out; rw [if_pos rfl, ha, Option.bind_some] at h_; exact h_⟩
 clear ha
 go_wp2_with fail
 refine (impl_Table_attrFor.calls K n A cl l c.f0 c.f1 c.f2 c.f3 c.f4 rep no b1 bs bo W4 (Kd.C_below HR.out HB4.out) HCL.out HA.out).mono ?_
 rintro e W5 ⟨v, rfl, hR, hb⟩
 have HR5 := Am (Kd.R_lower hR HB4.out.size)
 have HB5 := Am (below_then HB4.out HB4.out.size hb)
 have H85 := Am (Kb H84.out hb)
 clear hR hb qt0 qt1 qc0 qc1 qc2 qc3 qc4
 obtain ⟨Av, cv, rfl⟩ := Kd.R_slice HR5.out
 have HLT := Am (blk_lt H85.out)
 go_upto_region 4 with (fail)
 refine letC (fun W_ => Below W5.heap.size W5 W_ ∧ W_.heap[W5.heap.size]? = some (.cells #[.int .i64 b1, .slice Av bs.length cv] 33 (0, 0))) ⟨Ba (Below.refl _ _) _, blk_new W5 (.cells #[.int .i64 b1, .slice Av bs.length cv] 33)⟩ ?_
 rintro W6 ⟨hb, ho⟩
 have HR6 := Am (Kd.R_below HR5.out hb)
 have HB6 := Am (below_then HB5.out HB5.out.size hb)
 have H86 := Am (Kb H85.out hb)
 have qo0 : W6.cell? ⟨W5.heap.size, 0, none⟩ = some (.int .i64 b1) := (Kc ho 0).trans rfl
 have qo1 : W6.cell? ⟨W5.heap.size, 1, none⟩ = some (.slice Av bs.length cv) := (Kc ho 1).trans rfl
 clear hb ho HR5 HB5 H85
 cases bo with
 | false =>
  have HE : Ad (0 = r1 ∧ ([] : List Int) = r2 ∧ false = r3) := ⟨by simpa using HF.out⟩
  have q80 : W6.cell? ⟨w.heap.size + 2, 0, none⟩ = some (.int .i64 0) := (Kc H86.out 0).trans rfl
  have q81 : W6.cell? ⟨w.heap.size + 2, 1, none⟩ = some (.slice none 0 0) := (Kc H86.out 1).trans rfl
  have f80 := Kz H86.out 0
  have f81 := Kz H86.out 1
  have HG8 : Ad (w.heap.size ≤ w.heap.size + 2) := ⟨by omega⟩
  have HFIN : Ad (((W6.setCell ⟨w.heap.size + 2, 0, none⟩ (.int .i64 0)).setCell ⟨w.heap.size + 2, 1, none⟩ (.slice none 0 0)).heap[w.heap.size + 2]? = some (.cells #[.int .i64 0, .slice none 0 0] 33 (0, 0))) := ⟨blk_put (cs := #[.int .i64 0, .slice none 0 0]) (blk_put H86.out 0 _ rfl) 1 _ rfl⟩
  go_wp2
  (try simp only [Exit.inBlock, Exit.then])
  refine bodyPost_ret (results_ct rfl _ _ (w.heap.size + 2) 33 #[.int .i64 0, .slice none 0 0] (0, 0) _ rfl HFIN.out Try.underlying33 rfl (by kernel_rfl)) rfl ?_
  obtain ⟨h1, h2, h3⟩ := HE.out
  rw [← h1, ← h2, ← h3]
  exact ⟨_, rfl, Kd.R_nil _ _ _ _ _, Bs (Bs HB6.out HG8.out) HG8.out⟩
 | true =>
  have HE : Ad (b1 = r1 ∧ bs = r2 ∧ true = r3) := ⟨by simpa using HF.out⟩
  have q80 : W6.cell? ⟨w.heap.size + 2, 0, none⟩ = some (.int .i64 0) := (Kc H86.out 0).trans rfl
  have q81 : W6.cell? ⟨w.heap.size + 2, 1, none⟩ = some (.slice none 0 0) := (Kc H86.out 1).trans rfl
  have f80 := Kz H86.out 0
  have f81 := Kz H86.out 1
  have HG8 : Ad (w.heap.size ≤ w.heap.size + 2) := ⟨by omega⟩
  have HFIN : Ad (((W6.setCell ⟨w.heap.size + 2, 0, none⟩ (.int .i64 b1)).setCell ⟨w.heap.size + 2, 1, none⟩ (.slice Av bs.length cv)).heap[w.heap.size + 2]? = some (.cells #[.int .i64 b1, .slice Av bs.length cv] 33 (0, 0))) := ⟨blk_put (cs := #[.int .i64 b1, .slice none 0 0]) (blk_put H86.out 0 _ rfl) 1 _ rfl⟩
  have HRR := Am (Kd.R_set (Kd.R_set HR6.out H86.out (by decide) 0 (.int .i64 b1)) (blk_put H86.out 0 _ rfl) (by decide) 1 (.slice Av bs.length cv))
  go_wp2
  (try simp only [Exit.inBlock, Exit.then])
  refine bodyPost_ret (results_ct rfl _ _ (w.heap.size + 2) 33 #[.int .i64 b1, .slice Av bs.length cv] (0, 0) _ rfl HFIN.out Try.underlying33 rfl (by kernel_rfl)) rfl ?_
  obtain ⟨h1, h2, h3⟩ := HE.out
  rw [← h1, ← h2, ← h3]
  exact ⟨_, rfl, HRR.out, Bs (Bs HB6.out HG8.out) HG8.out⟩
def spec_IsGroup.f (a0 : Int) : Option (Bool) := if a0 = 3 then (some true) else (some (a0 == 5))
set_option maxHeartbeats 8000000 in
set_option maxRecDepth 100000 in
theorem spec_IsGroup.calls (a0 : Int) (r : Bool) (w : World) (h : spec_IsGroup.f a0 = some r) :
  Calls Try.prog 69 #[.int .i64 a0] w fun e w' => e = .returned (.bool r) ∧ Drawn0 w w' := by
 have H : (if a0 = 3 then (some true) else (some (a0 == 5))) = some r := h
 clear h
 by_cases c2 : a0 = 3
 ·rw [if_pos c2] at H
  have c2b0 : (a0 == 3) = true := beq_iff_eq.mpr c2
  have c2b1 : (a0 != 3) = false := bne_eq_false_iff_eq.mpr c2
  clear c2
  obtain rfl := Option.some.inj H
  go_enter Try.func69, Try.ntmps69
  go_wp2
  go_ret
  exact ⟨by first | rfl | (simp; done) | (simp [*]; done), by repeat (first | exact Drawn0.refl _ | apply Drawn0.step)⟩
 ·rw [if_neg c2] at H
  have c2b0 : (a0 == 3) = false := beq_eq_false_iff_ne.mpr c2
  have c2b1 : (a0 != 3) = true := bne_iff_ne.mpr c2
  obtain rfl := Option.some.inj H
  go_enter Try.func69, Try.ntmps69
  go_wp2
  go_ret
  exact ⟨by first | rfl | (simp; done) | (simp [*]; done), by repeat (first | exact Drawn0.refl _ | apply Drawn0.step)⟩
def spec_l1In.f (a0 : Int) (a1 : Int) (a2 : Int) : Option (Bool) := if a0 ≥ a1 then (some (decide (a0 ≤ a2))) else (some false)
set_option maxHeartbeats 8000000 in
set_option maxRecDepth 100000 in
theorem spec_l1In.calls (a0 : Int) (a1 : Int) (a2 : Int) (r : Bool) (w : World) (h : spec_l1In.f a0 a1 a2 = some r) :
  Calls Try.prog 33 #[.int .i64 a0, .int .i64 a1, .int .i64 a2] w fun e w' => e = .returned (.bool r) ∧ Drawn0 w w' := by
 have H : (if a0 ≥ a1 then (some (decide (a0 ≤ a2))) else (some false)) = some r := h
 clear h
 by_cases c4 : a0 ≥ a1
 ·rw [if_pos c4] at H
  have c4b0 : decide (a1 ≤ a0) = true := decide_eq_true c4
  clear c4
  obtain rfl := Option.some.inj H
  go_enter Try.func33, Try.ntmps33
  go_wp2
  go_ret
  exact ⟨by first | rfl | (simp; done) | (simp [*]; done), by repeat (first | exact Drawn0.refl _ | apply Drawn0.step)⟩
 ·rw [if_neg c4] at H
  have c4b0 : decide (a1 ≤ a0) = false := decide_eq_false c4
  clear c4
  obtain rfl := Option.some.inj H
  go_enter Try.func33, Try.ntmps33
  go_wp2
  go_ret
  exact ⟨by first | rfl | (simp; done) | (simp [*]; done), by repeat (first | exact Drawn0.refl _ | apply Drawn0.step)⟩
def spec_l2Account.f (a0 : Int) : Option (Bool) := (spec_l1In.f a0 0 3).bind fun t281 => (some t281)
set_option maxHeartbeats 8000000 in
set_option maxRecDepth 100000 in
theorem spec_l2Account.calls (a0 : Int) (r : Bool) (w : World) (h : spec_l2Account.f a0 = some r) :
  Calls Try.prog 87 #[.int .i64 a0] w fun e w' => e = .returned (.bool r) ∧ Drawn0 w w' := by
 have H : ((spec_l1In.f a0 0 3).bind fun t281 => (some t281)) = some r := h
 clear h
 replace H := Option.bind_eq_some_iff.mp H
 obtain ⟨t281, A20, H⟩ := H
 replace H : (some t281) = some r := H
 have A2 := Am A20
 clear A20
 obtain rfl := Option.some.inj H
 go_enter Try.func87, Try.ntmps87
 go_wp2_with (first | ((refine Gc (f := 33) rfl ?_); refine goesL_ (some 4) rfl rfl Try.func33 (by kernel_rfl) rfl #[.int .i64 a0, .int .i64 0, .int .i64 3] rfl (by first | rfl | (simp only [List.map_toArray, List.map_cons, List.map_nil]; first | done | rfl)) ?_; (with_reducible refine (spec_l1In.calls a0 0 3 t281 _ A2.out).mono ?_); rintro e w' ⟨rfl, ⟨nd, rfl⟩⟩; refine ⟨_, rfl, ?_⟩))
 go_ret
 exact ⟨by first | rfl | (simp; done) | (simp [*]; done), by repeat (first | exact Drawn0.refl _ | apply Drawn0.step)⟩
def spec_l2Code.f (a0_0 : Int) (a0_1 : Int) (a0_2 : Int) (a0_3 : Int) (a0_4 : Int) : Option (Int) := (spec_l2Account.f a0_2).bind fun t283 => (if t283 = true then (if a0_0 = 1 then ((spec_l2Account.f a0_3).bind fun t284 => (if t284 = true then (if a0_2 = a0_3 then (some 5) else ((spec_l1In.f a0_1 1 999).bind fun t285 => (if t285 = true then ((spec_l1In.f a0_4 1 1000).bind fun t286 => (if t286 = true then (some 0) else (some 6))) else (some 6)))) else (some 4))) else ((spec_l1In.f a0_1 1 999).bind fun t287 => (if t287 = true then (some 0) else (some 6)))) else (some 4))
set_option maxHeartbeats 8000000 in
set_option maxRecDepth 100000 in
theorem spec_l2Code.calls (a0_0 : Int) (a0_1 : Int) (a0_2 : Int) (a0_3 : Int) (a0_4 : Int) (r : Int) (w : World) (h : spec_l2Code.f a0_0 a0_1 a0_2 a0_3 a0_4 = some r) :
  Calls Try.prog 58 #[.agg #[.int .i64 a0_0, .int .i64 a0_1, .int .i64 a0_2, .int .i64 a0_3, .int .i64 a0_4]] w fun e w' => e = .returned (.int .i64 r) ∧ Below w.heap.size w w' := by
 have hu28 := Try.underlying28
 have HB := Am (Below.refl w.heap.size w)
 have H : ((spec_l2Account.f a0_2).bind fun t283 => (if t283 = true then (if a0_0 = 1 then ((spec_l2Account.f a0_3).bind fun t284 => (if t284 = true then (if a0_2 = a0_3 then (some 5) else ((spec_l1In.f a0_1 1 999).bind fun t285 => (if t285 = true then ((spec_l1In.f a0_4 1 1000).bind fun t286 => (if t286 = true then (some 0) else (some 6))) else (some 6)))) else (some 4))) else ((spec_l1In.f a0_1 1 999).bind fun t287 => (if t287 = true then (some 0) else (some 6)))) else (some 4))) = some r := h
 clear h
 replace H := Option.bind_eq_some_iff.mp H
 obtain ⟨t283, A20, H⟩ := H
 replace H : (if t283 = true then (if a0_0 = 1 then ((spec_l2Account.f a0_3).bind fun t284 => (if t284 = true then (if a0_2 = a0_3 then (some 5) else ((spec_l1In.f a0_1 1 999).bind fun t285 => (if t285 = true then ((spec_l1In.f a0_4 1 1000).bind fun t286 => (if t286 = true then (some 0) else (some 6))) else (some 6)))) else (some 4))) else ((spec_l1In.f a0_1 1 999).bind fun t287 => (if t287 = true then (some 0) else (some 6)))) else (some 4)) = some r := H
 have A2 := Am A20
 clear A20
 by_cases c3 : t283 = true
 ·subst c3
  have H1 : (if a0_0 = 1 then ((spec_l2Account.f a0_3).bind fun t284 => (if t284 = true then (if a0_2 = a0_3 then (some 5) else ((spec_l1In.f a0_1 1 999).bind fun t285 => (if t285 = true then ((spec_l1In.f a0_4 1 1000).bind fun t286 => (if t286 = true then (some 0) else (some 6))) else (some 6)))) else (some 4))) else ((spec_l1In.f a0_1 1 999).bind fun t287 => (if t287 = true then (some 0) else (some 6)))) = some r := by rw [if_pos rfl] at H; exact H
  clear H
  have H := H1
  clear H1
  by_cases c4 : a0_0 = 1
  ·rw [if_pos c4] at H
   have c4b0 : (a0_0 == 1) = true := beq_iff_eq.mpr c4
   have c4b1 : (a0_0 != 1) = false := bne_eq_false_iff_eq.mpr c4
   clear c4
   replace H := Option.bind_eq_some_iff.mp H
   obtain ⟨t284, A50, H⟩ := H
   replace H : (if t284 = true then (if a0_2 = a0_3 then (some 5) else ((spec_l1In.f a0_1 1 999).bind fun t285 => (if t285 = true then ((spec_l1In.f a0_4 1 1000).bind fun t286 => (if t286 = true then (some 0) else (some 6))) else (some 6)))) else (some 4)) = some r := H
   have A5 := Am A50
   clear A50
   by_cases c6 : t284 = true
   ·subst c6
    have H1 : (if a0_2 = a0_3 then (some 5) else ((spec_l1In.f a0_1 1 999).bind fun t285 => (if t285 = true then ((spec_l1In.f a0_4 1 1000).bind fun t286 => (if t286 = true then (some 0) else (some 6))) else (some 6)))) = some r := by rw [if_pos rfl] at H; exact H
    clear H
    have H := H1
    clear H1
    by_cases c7 : a0_2 = a0_3
    ·rw [if_pos c7] at H
     have c7b0 : (a0_2 == a0_3) = true := beq_iff_eq.mpr c7
     have c7b1 : (a0_2 != a0_3) = false := bne_eq_false_iff_eq.mpr c7
     clear c7
     obtain rfl := Option.some.inj H
     go_enter Try.func58, Try.ntmps58
     go_wp2_with (first | ((refine Gd (N := 1) rfl ?_); refine Be ?hg (N := 1) ?hd (cs := #[.int .i64 a0_0, .int .i64 a0_1, .int .i64 a0_2, .int .i64 a0_3, .int .i64 a0_4]) (t := 28) ?hr ?_; (case hd | hg => rfl); (case hr => first | (go_simp; done) | (go_simp; rfl)); intro gb282 hg w8 hbox hb; have n0_ := Am (Bt (by repeat (first | exact HB.out | apply Ba | apply Bn | apply Bd)) hb); have n1_ := Am (hbox); have n2_ := Am ((by rw [hg]; exact (Bz (by repeat (first | exact HB.out | apply Ba | apply Bn | apply Bd))) : w.heap.size ≤ gb282)); have n3_ := Am ((by rw [hg]; exact (Bz (by repeat (first | exact HB.out | apply Ba | apply Bn | apply Bd))) : w.heap.size ≤ gb282)); clear HB; have HB := n0_; have BK282 := n1_; have GW282 := n2_; have GE282 := n3_; clear n0_ n1_ n2_ n3_; clear hb hbox hg; have hcz9_0 : w8.cell? ⟨gb282, 0, none⟩ = some (.int .i64 a0_0) := (Kc BK282.out 0).trans rfl; have hcz9_1 : w8.cell? ⟨gb282, 1, none⟩ = some (.int .i64 a0_1) := (Kc BK282.out 1).trans rfl; have hcz9_2 : w8.cell? ⟨gb282, 2, none⟩ = some (.int .i64 a0_2) := (Kc BK282.out 2).trans rfl; have hcz9_3 : w8.cell? ⟨gb282, 3, none⟩ = some (.int .i64 a0_3) := (Kc BK282.out 3).trans rfl; have hcz9_4 : w8.cell? ⟨gb282, 4, none⟩ = some (.int .i64 a0_4) := (Kc BK282.out 4).trans rfl; have hfz9_0 := Kz BK282.out 0; have hfz9_1 := Kz BK282.out 1; have hfz9_2 := Kz BK282.out 2; have hfz9_3 := Kz BK282.out 3; have hfz9_4 := Kz BK282.out 4) | ((refine Gc (f := 87) rfl ?_); refine goesL_ (some 10) rfl rfl Try.func87 (by kernel_rfl) rfl #[.int .i64 a0_2] rfl (by first | rfl | (simp only [List.map_toArray, List.map_cons, List.map_nil]; first | done | rfl)) ?_; (with_reducible refine (spec_l2Account.calls a0_2 true _ A2.out).mono ?_); rintro e w' ⟨rfl, ⟨nd, rfl⟩⟩; refine ⟨_, rfl, ?_⟩) | (go_at_call 87; (with_reducible refine (spec_l2Account.calls a0_3 true _ A5.out).mono ?_); rintro e w' ⟨rfl, ⟨nd, rfl⟩⟩))
     go_ret
     exact ⟨by first | rfl | (simp [*, errW_none, errW_some] <;> rfl), by repeat (first | (with_reducible first | exact HB.out | apply Ba | apply Bn | apply Bd | refine Bs ?_ GE282.out) | exact HB.out)⟩
    ·rw [if_neg c7] at H
     have c7b0 : (a0_2 == a0_3) = false := beq_eq_false_iff_ne.mpr c7
     have c7b1 : (a0_2 != a0_3) = true := bne_iff_ne.mpr c7
     replace H := Option.bind_eq_some_iff.mp H
     obtain ⟨t285, A100, H⟩ := H
     replace H : (if t285 = true then ((spec_l1In.f a0_4 1 1000).bind fun t286 => (if t286 = true then (some 0) else (some 6))) else (some 6)) = some r := H
     have A10 := Am A100
     clear A100
     by_cases c11 : t285 = true
     ·subst c11
      have H1 : ((spec_l1In.f a0_4 1 1000).bind fun t286 => (if t286 = true then (some 0) else (some 6))) = some r := by rw [if_pos rfl] at H; exact H
      clear H
      have H := H1
      clear H1
      replace H := Option.bind_eq_some_iff.mp H
      obtain ⟨t286, A120, H⟩ := H
      replace H : (if t286 = true then (some 0) else (some 6)) = some r := H
      have A12 := Am A120
      clear A120
      by_cases c13 : t286 = true
      ·subst c13
       have H1 : (some 0) = some r := by rw [if_pos rfl] at H; exact H
       clear H
       have H := H1
       clear H1
       obtain rfl := Option.some.inj H
       go_enter Try.func58, Try.ntmps58
       go_wp2_with (first | ((refine Gd (N := 1) rfl ?_); refine Be ?hg (N := 1) ?hd (cs := #[.int .i64 a0_0, .int .i64 a0_1, .int .i64 a0_2, .int .i64 a0_3, .int .i64 a0_4]) (t := 28) ?hr ?_; (case hd | hg => rfl); (case hr => first | (go_simp; done) | (go_simp; rfl)); intro gb282 hg w14 hbox hb; have n0_ := Am (Bt (by repeat (first | exact HB.out | apply Ba | apply Bn | apply Bd)) hb); have n1_ := Am (hbox); have n2_ := Am ((by rw [hg]; exact (Bz (by repeat (first | exact HB.out | apply Ba | apply Bn | apply Bd))) : w.heap.size ≤ gb282)); have n3_ := Am ((by rw [hg]; exact (Bz (by repeat (first | exact HB.out | apply Ba | apply Bn | apply Bd))) : w.heap.size ≤ gb282)); clear HB; have HB := n0_; have BK282 := n1_; have GW282 := n2_; have GE282 := n3_; clear n0_ n1_ n2_ n3_; clear hb hbox hg; have hcz15_0 : w14.cell? ⟨gb282, 0, none⟩ = some (.int .i64 a0_0) := (Kc BK282.out 0).trans rfl; have hcz15_1 : w14.cell? ⟨gb282, 1, none⟩ = some (.int .i64 a0_1) := (Kc BK282.out 1).trans rfl; have hcz15_2 : w14.cell? ⟨gb282, 2, none⟩ = some (.int .i64 a0_2) := (Kc BK282.out 2).trans rfl; have hcz15_3 : w14.cell? ⟨gb282, 3, none⟩ = some (.int .i64 a0_3) := (Kc BK282.out 3).trans rfl; have hcz15_4 : w14.cell? ⟨gb282, 4, none⟩ = some (.int .i64 a0_4) := (Kc BK282.out 4).trans rfl; have hfz15_0 := Kz BK282.out 0; have hfz15_1 := Kz BK282.out 1; have hfz15_2 := Kz BK282.out 2; have hfz15_3 := Kz BK282.out 3; have hfz15_4 := Kz BK282.out 4) | ((refine Gc (f := 87) rfl ?_); refine goesL_ (some 10) rfl rfl Try.func87 (by kernel_rfl) rfl #[.int .i64 a0_2] rfl (by first | rfl | (simp only [List.map_toArray, List.map_cons, List.map_nil]; first | done | rfl)) ?_; (with_reducible refine (spec_l2Account.calls a0_2 true _ A2.out).mono ?_); rintro e w' ⟨rfl, ⟨nd, rfl⟩⟩; refine ⟨_, rfl, ?_⟩) | (go_at_call 87; (with_reducible refine (spec_l2Account.calls a0_3 true _ A5.out).mono ?_); rintro e w' ⟨rfl, ⟨nd, rfl⟩⟩) | ((refine Gc (f := 33) rfl ?_); refine goesL_ (some 33) rfl rfl Try.func33 (by kernel_rfl) rfl #[.int .i64 a0_1, .int .i64 1, .int .i64 999] rfl (by first | rfl | (simp only [List.map_toArray, List.map_cons, List.map_nil]; first | done | rfl)) ?_; (with_reducible refine (spec_l1In.calls a0_1 1 999 true _ A10.out).mono ?_); rintro e w' ⟨rfl, ⟨nd, rfl⟩⟩; refine ⟨_, rfl, ?_⟩) | (go_at_call 33; (with_reducible refine (spec_l1In.calls a0_4 1 1000 true _ A12.out).mono ?_); rintro e w' ⟨rfl, ⟨nd, rfl⟩⟩))
       go_ret
       exact ⟨by first | rfl | (simp [*, errW_none, errW_some] <;> rfl), by repeat (first | (with_reducible first | exact HB.out | apply Ba | apply Bn | apply Bd | refine Bs ?_ GE282.out) | exact HB.out)⟩
      ·replace c13 := Bool.eq_false_iff.mpr c13
       subst c13
       have H1 : (some 6) = some r := by rw [if_neg (show ¬ (false = true) by decide)] at H; exact H
       clear H
       have H := H1
       clear H1
       obtain rfl := Option.some.inj H
       go_enter Try.func58, Try.ntmps58
       go_wp2_with (first | ((refine Gd (N := 1) rfl ?_); refine Be ?hg (N := 1) ?hd (cs := #[.int .i64 a0_0, .int .i64 a0_1, .int .i64 a0_2, .int .i64 a0_3, .int .i64 a0_4]) (t := 28) ?hr ?_; (case hd | hg => rfl); (case hr => first | (go_simp; done) | (go_simp; rfl)); intro gb282 hg w16 hbox hb; have n0_ := Am (Bt (by repeat (first | exact HB.out | apply Ba | apply Bn | apply Bd)) hb); have n1_ := Am (hbox); have n2_ := Am ((by rw [hg]; exact (Bz (by repeat (first | exact HB.out | apply Ba | apply Bn | apply Bd))) : w.heap.size ≤ gb282)); have n3_ := Am ((by rw [hg]; exact (Bz (by repeat (first | exact HB.out | apply Ba | apply Bn | apply Bd))) : w.heap.size ≤ gb282)); clear HB; have HB := n0_; have BK282 := n1_; have GW282 := n2_; have GE282 := n3_; clear n0_ n1_ n2_ n3_; clear hb hbox hg; have hcz17_0 : w16.cell? ⟨gb282, 0, none⟩ = some (.int .i64 a0_0) := (Kc BK282.out 0).trans rfl; have hcz17_1 : w16.cell? ⟨gb282, 1, none⟩ = some (.int .i64 a0_1) := (Kc BK282.out 1).trans rfl; have hcz17_2 : w16.cell? ⟨gb282, 2, none⟩ = some (.int .i64 a0_2) := (Kc BK282.out 2).trans rfl; have hcz17_3 : w16.cell? ⟨gb282, 3, none⟩ = some (.int .i64 a0_3) := (Kc BK282.out 3).trans rfl; have hcz17_4 : w16.cell? ⟨gb282, 4, none⟩ = some (.int .i64 a0_4) := (Kc BK282.out 4).trans rfl; have hfz17_0 := Kz BK282.out 0; have hfz17_1 := Kz BK282.out 1; have hfz17_2 := Kz BK282.out 2; have hfz17_3 := Kz BK282.out 3; have hfz17_4 := Kz BK282.out 4) | ((refine Gc (f := 87) rfl ?_); refine goesL_ (some 10) rfl rfl Try.func87 (by kernel_rfl) rfl #[.int .i64 a0_2] rfl (by first | rfl | (simp only [List.map_toArray, List.map_cons, List.map_nil]; first | done | rfl)) ?_; (with_reducible refine (spec_l2Account.calls a0_2 true _ A2.out).mono ?_); rintro e w' ⟨rfl, ⟨nd, rfl⟩⟩; refine ⟨_, rfl, ?_⟩) | (go_at_call 87; (with_reducible refine (spec_l2Account.calls a0_3 true _ A5.out).mono ?_); rintro e w' ⟨rfl, ⟨nd, rfl⟩⟩) | ((refine Gc (f := 33) rfl ?_); refine goesL_ (some 33) rfl rfl Try.func33 (by kernel_rfl) rfl #[.int .i64 a0_1, .int .i64 1, .int .i64 999] rfl (by first | rfl | (simp only [List.map_toArray, List.map_cons, List.map_nil]; first | done | rfl)) ?_; (with_reducible refine (spec_l1In.calls a0_1 1 999 true _ A10.out).mono ?_); rintro e w' ⟨rfl, ⟨nd, rfl⟩⟩; refine ⟨_, rfl, ?_⟩) | (go_at_call 33; (with_reducible refine (spec_l1In.calls a0_4 1 1000 false _ A12.out).mono ?_); rintro e w' ⟨rfl, ⟨nd, rfl⟩⟩))
       go_ret
       exact ⟨by first | rfl | (simp [*, errW_none, errW_some] <;> rfl), by repeat (first | (with_reducible first | exact HB.out | apply Ba | apply Bn | apply Bd | refine Bs ?_ GE282.out) | exact HB.out)⟩
     ·replace c11 := Bool.eq_false_iff.mpr c11
      subst c11
      have H1 : (some 6) = some r := by rw [if_neg (show ¬ (false = true) by decide)] at H; exact H
      clear H
      have H := H1
      clear H1
      obtain rfl := Option.some.inj H
      go_enter Try.func58, Try.ntmps58
      go_wp2_with (first | ((refine Gd (N := 1) rfl ?_); refine Be ?hg (N := 1) ?hd (cs := #[.int .i64 a0_0, .int .i64 a0_1, .int .i64 a0_2, .int .i64 a0_3, .int .i64 a0_4]) (t := 28) ?hr ?_; (case hd | hg => rfl); (case hr => first | (go_simp; done) | (go_simp; rfl)); intro gb282 hg w18 hbox hb; have n0_ := Am (Bt (by repeat (first | exact HB.out | apply Ba | apply Bn | apply Bd)) hb); have n1_ := Am (hbox); have n2_ := Am ((by rw [hg]; exact (Bz (by repeat (first | exact HB.out | apply Ba | apply Bn | apply Bd))) : w.heap.size ≤ gb282)); have n3_ := Am ((by rw [hg]; exact (Bz (by repeat (first | exact HB.out | apply Ba | apply Bn | apply Bd))) : w.heap.size ≤ gb282)); clear HB; have HB := n0_; have BK282 := n1_; have GW282 := n2_; have GE282 := n3_; clear n0_ n1_ n2_ n3_; clear hb hbox hg; have hcz19_0 : w18.cell? ⟨gb282, 0, none⟩ = some (.int .i64 a0_0) := (Kc BK282.out 0).trans rfl; have hcz19_1 : w18.cell? ⟨gb282, 1, none⟩ = some (.int .i64 a0_1) := (Kc BK282.out 1).trans rfl; have hcz19_2 : w18.cell? ⟨gb282, 2, none⟩ = some (.int .i64 a0_2) := (Kc BK282.out 2).trans rfl; have hcz19_3 : w18.cell? ⟨gb282, 3, none⟩ = some (.int .i64 a0_3) := (Kc BK282.out 3).trans rfl; have hcz19_4 : w18.cell? ⟨gb282, 4, none⟩ = some (.int .i64 a0_4) := (Kc BK282.out 4).trans rfl; have hfz19_0 := Kz BK282.out 0; have hfz19_1 := Kz BK282.out 1; have hfz19_2 := Kz BK282.out 2; have hfz19_3 := Kz BK282.out 3; have hfz19_4 := Kz BK282.out 4) | ((refine Gc (f := 87) rfl ?_); refine goesL_ (some 10) rfl rfl Try.func87 (by kernel_rfl) rfl #[.int .i64 a0_2] rfl (by first | rfl | (simp only [List.map_toArray, List.map_cons, List.map_nil]; first | done | rfl)) ?_; (with_reducible refine (spec_l2Account.calls a0_2 true _ A2.out).mono ?_); rintro e w' ⟨rfl, ⟨nd, rfl⟩⟩; refine ⟨_, rfl, ?_⟩) | (go_at_call 87; (with_reducible refine (spec_l2Account.calls a0_3 true _ A5.out).mono ?_); rintro e w' ⟨rfl, ⟨nd, rfl⟩⟩) | ((refine Gc (f := 33) rfl ?_); refine goesL_ (some 33) rfl rfl Try.func33 (by kernel_rfl) rfl #[.int .i64 a0_1, .int .i64 1, .int .i64 999] rfl (by first | rfl | (simp only [List.map_toArray, List.map_cons, List.map_nil]; first | done | rfl)) ?_; (with_reducible refine (spec_l1In.calls a0_1 1 999 false _ A10.out).mono ?_); rintro e w' ⟨rfl, ⟨nd, rfl⟩⟩; refine ⟨_, rfl, ?_⟩))
      go_ret
      exact ⟨by first | rfl | (simp [*, errW_none, errW_some] <;> rfl), by repeat (first | (with_reducible first | exact HB.out | apply Ba | apply Bn | apply Bd | refine Bs ?_ GE282.out) | exact HB.out)⟩
   ·replace c6 := Bool.eq_false_iff.mpr c6
    subst c6
    have H1 : (some 4) = some r := by rw [if_neg (show ¬ (false = true) by decide)] at H; exact H
    clear H
    have H := H1
    clear H1
    obtain rfl := Option.some.inj H
    go_enter Try.func58, Try.ntmps58
    go_wp2_with (first | ((refine Gd (N := 1) rfl ?_); refine Be ?hg (N := 1) ?hd (cs := #[.int .i64 a0_0, .int .i64 a0_1, .int .i64 a0_2, .int .i64 a0_3, .int .i64 a0_4]) (t := 28) ?hr ?_; (case hd | hg => rfl); (case hr => first | (go_simp; done) | (go_simp; rfl)); intro gb282 hg w20 hbox hb; have n0_ := Am (Bt (by repeat (first | exact HB.out | apply Ba | apply Bn | apply Bd)) hb); have n1_ := Am (hbox); have n2_ := Am ((by rw [hg]; exact (Bz (by repeat (first | exact HB.out | apply Ba | apply Bn | apply Bd))) : w.heap.size ≤ gb282)); have n3_ := Am ((by rw [hg]; exact (Bz (by repeat (first | exact HB.out | apply Ba | apply Bn | apply Bd))) : w.heap.size ≤ gb282)); clear HB; have HB := n0_; have BK282 := n1_; have GW282 := n2_; have GE282 := n3_; clear n0_ n1_ n2_ n3_; clear hb hbox hg; have hcz21_0 : w20.cell? ⟨gb282, 0, none⟩ = some (.int .i64 a0_0) := (Kc BK282.out 0).trans rfl; have hcz21_1 : w20.cell? ⟨gb282, 1, none⟩ = some (.int .i64 a0_1) := (Kc BK282.out 1).trans rfl; have hcz21_2 : w20.cell? ⟨gb282, 2, none⟩ = some (.int .i64 a0_2) := (Kc BK282.out 2).trans rfl; have hcz21_3 : w20.cell? ⟨gb282, 3, none⟩ = some (.int .i64 a0_3) := (Kc BK282.out 3).trans rfl; have hcz21_4 : w20.cell? ⟨gb282, 4, none⟩ = some (.int .i64 a0_4) := (Kc BK282.out 4).trans rfl; have hfz21_0 := Kz BK282.out 0; have hfz21_1 := Kz BK282.out 1; have hfz21_2 := Kz BK282.out 2; have hfz21_3 := Kz BK282.out 3; have hfz21_4 := Kz BK282.out 4) | ((refine Gc (f := 87) rfl ?_); refine goesL_ (some 10) rfl rfl Try.func87 (by kernel_rfl) rfl #[.int .i64 a0_2] rfl (by first | rfl | (simp only [List.map_toArray, List.map_cons, List.map_nil]; first | done | rfl)) ?_; (with_reducible refine (spec_l2Account.calls a0_2 true _ A2.out).mono ?_); rintro e w' ⟨rfl, ⟨nd, rfl⟩⟩; refine ⟨_, rfl, ?_⟩) | (go_at_call 87; (with_reducible refine (spec_l2Account.calls a0_3 false _ A5.out).mono ?_); rintro e w' ⟨rfl, ⟨nd, rfl⟩⟩))
    go_ret
    exact ⟨by first | rfl | (simp [*, errW_none, errW_some] <;> rfl), by repeat (first | (with_reducible first | exact HB.out | apply Ba | apply Bn | apply Bd | refine Bs ?_ GE282.out) | exact HB.out)⟩
  ·rw [if_neg c4] at H
   have c4b0 : (a0_0 == 1) = false := beq_eq_false_iff_ne.mpr c4
   have c4b1 : (a0_0 != 1) = true := bne_iff_ne.mpr c4
   replace H := Option.bind_eq_some_iff.mp H
   obtain ⟨t287, A220, H⟩ := H
   replace H : (if t287 = true then (some 0) else (some 6)) = some r := H
   have A22 := Am A220
   clear A220
   by_cases c23 : t287 = true
   ·subst c23
    have H1 : (some 0) = some r := by rw [if_pos rfl] at H; exact H
    clear H
    have H := H1
    clear H1
    obtain rfl := Option.some.inj H
    go_enter Try.func58, Try.ntmps58
    go_wp2_with (first | ((refine Gd (N := 1) rfl ?_); refine Be ?hg (N := 1) ?hd (cs := #[.int .i64 a0_0, .int .i64 a0_1, .int .i64 a0_2, .int .i64 a0_3, .int .i64 a0_4]) (t := 28) ?hr ?_; (case hd | hg => rfl); (case hr => first | (go_simp; done) | (go_simp; rfl)); intro gb282 hg w24 hbox hb; have n0_ := Am (Bt (by repeat (first | exact HB.out | apply Ba | apply Bn | apply Bd)) hb); have n1_ := Am (hbox); have n2_ := Am ((by rw [hg]; exact (Bz (by repeat (first | exact HB.out | apply Ba | apply Bn | apply Bd))) : w.heap.size ≤ gb282)); have n3_ := Am ((by rw [hg]; exact (Bz (by repeat (first | exact HB.out | apply Ba | apply Bn | apply Bd))) : w.heap.size ≤ gb282)); clear HB; have HB := n0_; have BK282 := n1_; have GW282 := n2_; have GE282 := n3_; clear n0_ n1_ n2_ n3_; clear hb hbox hg; have hcz25_0 : w24.cell? ⟨gb282, 0, none⟩ = some (.int .i64 a0_0) := (Kc BK282.out 0).trans rfl; have hcz25_1 : w24.cell? ⟨gb282, 1, none⟩ = some (.int .i64 a0_1) := (Kc BK282.out 1).trans rfl; have hcz25_2 : w24.cell? ⟨gb282, 2, none⟩ = some (.int .i64 a0_2) := (Kc BK282.out 2).trans rfl; have hcz25_3 : w24.cell? ⟨gb282, 3, none⟩ = some (.int .i64 a0_3) := (Kc BK282.out 3).trans rfl; have hcz25_4 : w24.cell? ⟨gb282, 4, none⟩ = some (.int .i64 a0_4) := (Kc BK282.out 4).trans rfl; have hfz25_0 := Kz BK282.out 0; have hfz25_1 := Kz BK282.out 1; have hfz25_2 := Kz BK282.out 2; have hfz25_3 := Kz BK282.out 3; have hfz25_4 := Kz BK282.out 4) | ((refine Gc (f := 87) rfl ?_); refine goesL_ (some 10) rfl rfl Try.func87 (by kernel_rfl) rfl #[.int .i64 a0_2] rfl (by first | rfl | (simp only [List.map_toArray, List.map_cons, List.map_nil]; first | done | rfl)) ?_; (with_reducible refine (spec_l2Account.calls a0_2 true _ A2.out).mono ?_); rintro e w' ⟨rfl, ⟨nd, rfl⟩⟩; refine ⟨_, rfl, ?_⟩) | ((refine Gc (f := 33) rfl ?_); refine goesL_ (some 33) rfl rfl Try.func33 (by kernel_rfl) rfl #[.int .i64 a0_1, .int .i64 1, .int .i64 999] rfl (by first | rfl | (simp only [List.map_toArray, List.map_cons, List.map_nil]; first | done | rfl)) ?_; (with_reducible refine (spec_l1In.calls a0_1 1 999 true _ A22.out).mono ?_); rintro e w' ⟨rfl, ⟨nd, rfl⟩⟩; refine ⟨_, rfl, ?_⟩))
    go_ret
    exact ⟨by first | rfl | (simp [*, errW_none, errW_some] <;> rfl), by repeat (first | (with_reducible first | exact HB.out | apply Ba | apply Bn | apply Bd | refine Bs ?_ GE282.out) | exact HB.out)⟩
   ·replace c23 := Bool.eq_false_iff.mpr c23
    subst c23
    have H1 : (some 6) = some r := by rw [if_neg (show ¬ (false = true) by decide)] at H; exact H
    clear H
    have H := H1
    clear H1
    obtain rfl := Option.some.inj H
    go_enter Try.func58, Try.ntmps58
    go_wp2_with (first | ((refine Gd (N := 1) rfl ?_); refine Be ?hg (N := 1) ?hd (cs := #[.int .i64 a0_0, .int .i64 a0_1, .int .i64 a0_2, .int .i64 a0_3, .int .i64 a0_4]) (t := 28) ?hr ?_; (case hd | hg => rfl); (case hr => first | (go_simp; done) | (go_simp; rfl)); intro gb282 hg w26 hbox hb; have n0_ := Am (Bt (by repeat (first | exact HB.out | apply Ba | apply Bn | apply Bd)) hb); have n1_ := Am (hbox); have n2_ := Am ((by rw [hg]; exact (Bz (by repeat (first | exact HB.out | apply Ba | apply Bn | apply Bd))) : w.heap.size ≤ gb282)); have n3_ := Am ((by rw [hg]; exact (Bz (by repeat (first | exact HB.out | apply Ba | apply Bn | apply Bd))) : w.heap.size ≤ gb282)); clear HB; have HB := n0_; have BK282 := n1_; have GW282 := n2_; have GE282 := n3_; clear n0_ n1_ n2_ n3_; clear hb hbox hg; have hcz27_0 : w26.cell? ⟨gb282, 0, none⟩ = some (.int .i64 a0_0) := (Kc BK282.out 0).trans rfl; have hcz27_1 : w26.cell? ⟨gb282, 1, none⟩ = some (.int .i64 a0_1) := (Kc BK282.out 1).trans rfl; have hcz27_2 : w26.cell? ⟨gb282, 2, none⟩ = some (.int .i64 a0_2) := (Kc BK282.out 2).trans rfl; have hcz27_3 : w26.cell? ⟨gb282, 3, none⟩ = some (.int .i64 a0_3) := (Kc BK282.out 3).trans rfl; have hcz27_4 : w26.cell? ⟨gb282, 4, none⟩ = some (.int .i64 a0_4) := (Kc BK282.out 4).trans rfl; have hfz27_0 := Kz BK282.out 0; have hfz27_1 := Kz BK282.out 1; have hfz27_2 := Kz BK282.out 2; have hfz27_3 := Kz BK282.out 3; have hfz27_4 := Kz BK282.out 4) | ((refine Gc (f := 87) rfl ?_); refine goesL_ (some 10) rfl rfl Try.func87 (by kernel_rfl) rfl #[.int .i64 a0_2] rfl (by first | rfl | (simp only [List.map_toArray, List.map_cons, List.map_nil]; first | done | rfl)) ?_; (with_reducible refine (spec_l2Account.calls a0_2 true _ A2.out).mono ?_); rintro e w' ⟨rfl, ⟨nd, rfl⟩⟩; refine ⟨_, rfl, ?_⟩) | ((refine Gc (f := 33) rfl ?_); refine goesL_ (some 33) rfl rfl Try.func33 (by kernel_rfl) rfl #[.int .i64 a0_1, .int .i64 1, .int .i64 999] rfl (by first | rfl | (simp only [List.map_toArray, List.map_cons, List.map_nil]; first | done | rfl)) ?_; (with_reducible refine (spec_l1In.calls a0_1 1 999 false _ A22.out).mono ?_); rintro e w' ⟨rfl, ⟨nd, rfl⟩⟩; refine ⟨_, rfl, ?_⟩))
    go_ret
    exact ⟨by first | rfl | (simp [*, errW_none, errW_some] <;> rfl), by repeat (first | (with_reducible first | exact HB.out | apply Ba | apply Bn | apply Bd | refine Bs ?_ GE282.out) | exact HB.out)⟩
 ·replace c3 := Bool.eq_false_iff.mpr c3
  subst c3
  have H1 : (some 4) = some r := by rw [if_neg (show ¬ (false = true) by decide)] at H; exact H
  clear H
  have H := H1
  clear H1
  obtain rfl := Option.some.inj H
  go_enter Try.func58, Try.ntmps58
  go_wp2_with (first | ((refine Gd (N := 1) rfl ?_); refine Be ?hg (N := 1) ?hd (cs := #[.int .i64 a0_0, .int .i64 a0_1, .int .i64 a0_2, .int .i64 a0_3, .int .i64 a0_4]) (t := 28) ?hr ?_; (case hd | hg => rfl); (case hr => first | (go_simp; done) | (go_simp; rfl)); intro gb282 hg w28 hbox hb; have n0_ := Am (Bt (by repeat (first | exact HB.out | apply Ba | apply Bn | apply Bd)) hb); have n1_ := Am (hbox); have n2_ := Am ((by rw [hg]; exact (Bz (by repeat (first | exact HB.out | apply Ba | apply Bn | apply Bd))) : w.heap.size ≤ gb282)); have n3_ := Am ((by rw [hg]; exact (Bz (by repeat (first | exact HB.out | apply Ba | apply Bn | apply Bd))) : w.heap.size ≤ gb282)); clear HB; have HB := n0_; have BK282 := n1_; have GW282 := n2_; have GE282 := n3_; clear n0_ n1_ n2_ n3_; clear hb hbox hg; have hcz29_0 : w28.cell? ⟨gb282, 0, none⟩ = some (.int .i64 a0_0) := (Kc BK282.out 0).trans rfl; have hcz29_1 : w28.cell? ⟨gb282, 1, none⟩ = some (.int .i64 a0_1) := (Kc BK282.out 1).trans rfl; have hcz29_2 : w28.cell? ⟨gb282, 2, none⟩ = some (.int .i64 a0_2) := (Kc BK282.out 2).trans rfl; have hcz29_3 : w28.cell? ⟨gb282, 3, none⟩ = some (.int .i64 a0_3) := (Kc BK282.out 3).trans rfl; have hcz29_4 : w28.cell? ⟨gb282, 4, none⟩ = some (.int .i64 a0_4) := (Kc BK282.out 4).trans rfl; have hfz29_0 := Kz BK282.out 0; have hfz29_1 := Kz BK282.out 1; have hfz29_2 := Kz BK282.out 2; have hfz29_3 := Kz BK282.out 3; have hfz29_4 := Kz BK282.out 4) | ((refine Gc (f := 87) rfl ?_); refine goesL_ (some 10) rfl rfl Try.func87 (by kernel_rfl) rfl #[.int .i64 a0_2] rfl (by first | rfl | (simp only [List.map_toArray, List.map_cons, List.map_nil]; first | done | rfl)) ?_; (with_reducible refine (spec_l2Account.calls a0_2 false _ A2.out).mono ?_); rintro e w' ⟨rfl, ⟨nd, rfl⟩⟩; refine ⟨_, rfl, ?_⟩))
  go_ret
  exact ⟨by first | rfl | (simp [*, errW_none, errW_some] <;> rfl), by repeat (first | (with_reducible first | exact HB.out | apply Ba | apply Bn | apply Bd | refine Bs ?_ GE282.out) | exact HB.out)⟩
def spec_GoodCmd.f (a0_0 : Int) (a0_1 : Int) (a0_2 : Int) (a0_3 : Int) (a0_4 : Int) : Option (Bool) := if a0_0 = 0 then (some (a0_0 == 0 && (a0_1 == 0 && (a0_2 == 0 && (a0_3 == 0 && (a0_4 == 0)))))) else (if a0_0 = 1 then ((spec_l2Code.f a0_0 a0_1 a0_2 a0_3 a0_4).bind fun t289 => (some (t289 == 0))) else (if a0_0 = 2 then ((spec_l2Code.f a0_0 a0_1 a0_2 a0_3 a0_4).bind fun t290 => (if t290 = 0 then (if a0_3 = 0 then (some (a0_4 == 0)) else (some false)) else (some false))) else (some false)))
set_option maxHeartbeats 8000000 in
set_option maxRecDepth 100000 in
theorem spec_GoodCmd.calls (a0_0 : Int) (a0_1 : Int) (a0_2 : Int) (a0_3 : Int) (a0_4 : Int) (r : Bool) (w : World) (h : spec_GoodCmd.f a0_0 a0_1 a0_2 a0_3 a0_4 = some r) :
  Calls Try.prog 25 #[.agg #[.int .i64 a0_0, .int .i64 a0_1, .int .i64 a0_2, .int .i64 a0_3, .int .i64 a0_4]] w fun e w' => e = .returned (.bool r) ∧ Below w.heap.size w w' := by
 have hu28 := Try.underlying28
 have HB := Am (Below.refl w.heap.size w)
 have H : (if a0_0 = 0 then (some (a0_0 == 0 && (a0_1 == 0 && (a0_2 == 0 && (a0_3 == 0 && (a0_4 == 0)))))) else (if a0_0 = 1 then ((spec_l2Code.f a0_0 a0_1 a0_2 a0_3 a0_4).bind fun t289 => (some (t289 == 0))) else (if a0_0 = 2 then ((spec_l2Code.f a0_0 a0_1 a0_2 a0_3 a0_4).bind fun t290 => (if t290 = 0 then (if a0_3 = 0 then (some (a0_4 == 0)) else (some false)) else (some false))) else (some false)))) = some r := h
 clear h
 by_cases c2 : a0_0 = 0
 ·rw [if_pos c2] at H
  have c2b0 : (a0_0 == 0) = true := beq_iff_eq.mpr c2
  have c2b1 : (a0_0 != 0) = false := bne_eq_false_iff_eq.mpr c2
  clear c2
  obtain rfl := Option.some.inj H
  go_enter Try.func25, Try.ntmps25
  go_wp2_with (first | ((refine Gd (N := 1) rfl ?_); refine Be ?hg (N := 1) ?hd (cs := #[.int .i64 a0_0, .int .i64 a0_1, .int .i64 a0_2, .int .i64 a0_3, .int .i64 a0_4]) (t := 28) ?hr ?_; (case hd | hg => rfl); (case hr => first | (go_simp; done) | (go_simp; rfl)); intro gb288 hg w3 hbox hb; have n0_ := Am (Bt (by repeat (first | exact HB.out | apply Ba | apply Bn | apply Bd)) hb); have n1_ := Am (hbox); have n2_ := Am ((by rw [hg]; exact (Bz (by repeat (first | exact HB.out | apply Ba | apply Bn | apply Bd))) : w.heap.size ≤ gb288)); have n3_ := Am ((by rw [hg]; exact (Bz (by repeat (first | exact HB.out | apply Ba | apply Bn | apply Bd))) : w.heap.size ≤ gb288)); clear HB; have HB := n0_; have BK288 := n1_; have GW288 := n2_; have GE288 := n3_; clear n0_ n1_ n2_ n3_; clear hb hbox hg; have hcz4_0 : w3.cell? ⟨gb288, 0, none⟩ = some (.int .i64 a0_0) := (Kc BK288.out 0).trans rfl; have hcz4_1 : w3.cell? ⟨gb288, 1, none⟩ = some (.int .i64 a0_1) := (Kc BK288.out 1).trans rfl; have hcz4_2 : w3.cell? ⟨gb288, 2, none⟩ = some (.int .i64 a0_2) := (Kc BK288.out 2).trans rfl; have hcz4_3 : w3.cell? ⟨gb288, 3, none⟩ = some (.int .i64 a0_3) := (Kc BK288.out 3).trans rfl; have hcz4_4 : w3.cell? ⟨gb288, 4, none⟩ = some (.int .i64 a0_4) := (Kc BK288.out 4).trans rfl; have hfz4_0 := Kz BK288.out 0; have hfz4_1 := Kz BK288.out 1; have hfz4_2 := Kz BK288.out 2; have hfz4_3 := Kz BK288.out 3; have hfz4_4 := Kz BK288.out 4))
  go_ret
  exact ⟨by first | rfl | (simp [*, errW_none, errW_some] <;> rfl), by repeat (first | (with_reducible first | exact HB.out | apply Ba | apply Bn | apply Bd | refine Bs ?_ GE288.out) | exact HB.out)⟩
 ·rw [if_neg c2] at H
  have c2b0 : (a0_0 == 0) = false := beq_eq_false_iff_ne.mpr c2
  have c2b1 : (a0_0 != 0) = true := bne_iff_ne.mpr c2
  by_cases c5 : a0_0 = 1
  ·rw [if_pos c5] at H
   have c5b0 : (a0_0 == 1) = true := beq_iff_eq.mpr c5
   have c5b1 : (a0_0 != 1) = false := bne_eq_false_iff_eq.mpr c5
   clear c5
   replace H := Option.bind_eq_some_iff.mp H
   obtain ⟨t289, A60, H⟩ := H
   replace H : (some (t289 == 0)) = some r := H
   have A6 := Am A60
   clear A60
   obtain rfl := Option.some.inj H
   go_enter Try.func25, Try.ntmps25
   go_wp2_with (first | ((refine Gd (N := 1) rfl ?_); refine Be ?hg (N := 1) ?hd (cs := #[.int .i64 a0_0, .int .i64 a0_1, .int .i64 a0_2, .int .i64 a0_3, .int .i64 a0_4]) (t := 28) ?hr ?_; (case hd | hg => rfl); (case hr => first | (go_simp; done) | (go_simp; rfl)); intro gb288 hg w7 hbox hb; have n0_ := Am (Bt (by repeat (first | exact HB.out | apply Ba | apply Bn | apply Bd)) hb); have n1_ := Am (hbox); have n2_ := Am ((by rw [hg]; exact (Bz (by repeat (first | exact HB.out | apply Ba | apply Bn | apply Bd))) : w.heap.size ≤ gb288)); have n3_ := Am ((by rw [hg]; exact (Bz (by repeat (first | exact HB.out | apply Ba | apply Bn | apply Bd))) : w.heap.size ≤ gb288)); clear HB; have HB := n0_; have BK288 := n1_; have GW288 := n2_; have GE288 := n3_; clear n0_ n1_ n2_ n3_; clear hb hbox hg; have hcz8_0 : w7.cell? ⟨gb288, 0, none⟩ = some (.int .i64 a0_0) := (Kc BK288.out 0).trans rfl; have hcz8_1 : w7.cell? ⟨gb288, 1, none⟩ = some (.int .i64 a0_1) := (Kc BK288.out 1).trans rfl; have hcz8_2 : w7.cell? ⟨gb288, 2, none⟩ = some (.int .i64 a0_2) := (Kc BK288.out 2).trans rfl; have hcz8_3 : w7.cell? ⟨gb288, 3, none⟩ = some (.int .i64 a0_3) := (Kc BK288.out 3).trans rfl; have hcz8_4 : w7.cell? ⟨gb288, 4, none⟩ = some (.int .i64 a0_4) := (Kc BK288.out 4).trans rfl; have hfz8_0 := Kz BK288.out 0; have hfz8_1 := Kz BK288.out 1; have hfz8_2 := Kz BK288.out 2; have hfz8_3 := Kz BK288.out 3; have hfz8_4 := Kz BK288.out 4) | ((refine Gc (f := 58) rfl ?_); refine goesL_ (some 13) rfl rfl Try.func58 (by kernel_rfl) rfl #[.agg #[.int .i64 a0_0, .int .i64 a0_1, .int .i64 a0_2, .int .i64 a0_3, .int .i64 a0_4]] rfl (by first | rfl | (simp only [List.map_toArray, List.map_cons, List.map_nil]; first | done | rfl)) ?_; (with_reducible refine (spec_l2Code.calls a0_0 a0_1 a0_2 a0_3 a0_4 t289 _ A6.out).mono ?_); rintro e w9 ⟨rfl, hb⟩; refine ⟨_, rfl, ?_⟩; have n0_ := Am (Kb (g := gb288) (o := .cells #[.int .i64 a0_0, .int .i64 a0_1, .int .i64 a0_2, .int .i64 a0_3, .int .i64 a0_4] 28 (0, 0)) (by (with_reducible repeat (first | refine Kn ?_ _ | refine Ke ?_ | refine Ka ?_ _)); exact BK288.out) hb); have n1_ := Am (Bt (by repeat (first | (with_reducible first | exact HB.out | apply Ba | apply Bn | apply Bd | refine Bs ?_ GE288.out) | exact HB.out)) hb); clear BK288; clear HB; have BK288 := n0_; have HB := n1_; clear n0_ n1_; (try clear hb); (try clear hb2); (try clear hk); (try clear hi)))
   go_ret
   exact ⟨by first | rfl | (simp [*, errW_none, errW_some] <;> rfl), by repeat (first | (with_reducible first | exact HB.out | apply Ba | apply Bn | apply Bd | refine Bs ?_ GE288.out) | exact HB.out)⟩
  ·rw [if_neg c5] at H
   have c5b0 : (a0_0 == 1) = false := beq_eq_false_iff_ne.mpr c5
   have c5b1 : (a0_0 != 1) = true := bne_iff_ne.mpr c5
   by_cases c10 : a0_0 = 2
   ·rw [if_pos c10] at H
    have c10b0 : (a0_0 == 2) = true := beq_iff_eq.mpr c10
    have c10b1 : (a0_0 != 2) = false := bne_eq_false_iff_eq.mpr c10
    clear c10
    replace H := Option.bind_eq_some_iff.mp H
    obtain ⟨t290, A110, H⟩ := H
    replace H : (if t290 = 0 then (if a0_3 = 0 then (some (a0_4 == 0)) else (some false)) else (some false)) = some r := H
    have A11 := Am A110
    clear A110
    by_cases c12 : t290 = 0
    ·rw [if_pos c12] at H
     have c12b0 : (t290 == 0) = true := beq_iff_eq.mpr c12
     have c12b1 : (t290 != 0) = false := bne_eq_false_iff_eq.mpr c12
     clear c12
     by_cases c13 : a0_3 = 0
     ·rw [if_pos c13] at H
      have c13b0 : (a0_3 == 0) = true := beq_iff_eq.mpr c13
      have c13b1 : (a0_3 != 0) = false := bne_eq_false_iff_eq.mpr c13
      clear c13
      obtain rfl := Option.some.inj H
      go_enter Try.func25, Try.ntmps25
      go_wp2_with (first | ((refine Gd (N := 1) rfl ?_); refine Be ?hg (N := 1) ?hd (cs := #[.int .i64 a0_0, .int .i64 a0_1, .int .i64 a0_2, .int .i64 a0_3, .int .i64 a0_4]) (t := 28) ?hr ?_; (case hd | hg => rfl); (case hr => first | (go_simp; done) | (go_simp; rfl)); intro gb288 hg w14 hbox hb; have n0_ := Am (Bt (by repeat (first | exact HB.out | apply Ba | apply Bn | apply Bd)) hb); have n1_ := Am (hbox); have n2_ := Am ((by rw [hg]; exact (Bz (by repeat (first | exact HB.out | apply Ba | apply Bn | apply Bd))) : w.heap.size ≤ gb288)); have n3_ := Am ((by rw [hg]; exact (Bz (by repeat (first | exact HB.out | apply Ba | apply Bn | apply Bd))) : w.heap.size ≤ gb288)); clear HB; have HB := n0_; have BK288 := n1_; have GW288 := n2_; have GE288 := n3_; clear n0_ n1_ n2_ n3_; clear hb hbox hg; have hcz15_0 : w14.cell? ⟨gb288, 0, none⟩ = some (.int .i64 a0_0) := (Kc BK288.out 0).trans rfl; have hcz15_1 : w14.cell? ⟨gb288, 1, none⟩ = some (.int .i64 a0_1) := (Kc BK288.out 1).trans rfl; have hcz15_2 : w14.cell? ⟨gb288, 2, none⟩ = some (.int .i64 a0_2) := (Kc BK288.out 2).trans rfl; have hcz15_3 : w14.cell? ⟨gb288, 3, none⟩ = some (.int .i64 a0_3) := (Kc BK288.out 3).trans rfl; have hcz15_4 : w14.cell? ⟨gb288, 4, none⟩ = some (.int .i64 a0_4) := (Kc BK288.out 4).trans rfl; have hfz15_0 := Kz BK288.out 0; have hfz15_1 := Kz BK288.out 1; have hfz15_2 := Kz BK288.out 2; have hfz15_3 := Kz BK288.out 3; have hfz15_4 := Kz BK288.out 4) | ((refine Gc (f := 58) rfl ?_); refine goesL_ (some 18) rfl rfl Try.func58 (by kernel_rfl) rfl #[.agg #[.int .i64 a0_0, .int .i64 a0_1, .int .i64 a0_2, .int .i64 a0_3, .int .i64 a0_4]] rfl (by first | rfl | (simp only [List.map_toArray, List.map_cons, List.map_nil]; first | done | rfl)) ?_; (with_reducible refine (spec_l2Code.calls a0_0 a0_1 a0_2 a0_3 a0_4 t290 _ A11.out).mono ?_); rintro e w16 ⟨rfl, hb⟩; refine ⟨_, rfl, ?_⟩; have n0_ := Am (Kb (g := gb288) (o := .cells #[.int .i64 a0_0, .int .i64 a0_1, .int .i64 a0_2, .int .i64 a0_3, .int .i64 a0_4] 28 (0, 0)) (by (with_reducible repeat (first | refine Kn ?_ _ | refine Ke ?_ | refine Ka ?_ _)); exact BK288.out) hb); have n1_ := Am (Bt (by repeat (first | (with_reducible first | exact HB.out | apply Ba | apply Bn | apply Bd | refine Bs ?_ GE288.out) | exact HB.out)) hb); clear BK288; clear HB; have BK288 := n0_; have HB := n1_; clear n0_ n1_; (try clear hb); (try clear hb2); (try clear hk); (try clear hi); have hcz17_0 : w16.cell? ⟨gb288, 0, none⟩ = some (.int .i64 a0_0) := (Kc BK288.out 0).trans rfl; have hcz17_1 : w16.cell? ⟨gb288, 1, none⟩ = some (.int .i64 a0_1) := (Kc BK288.out 1).trans rfl; have hcz17_2 : w16.cell? ⟨gb288, 2, none⟩ = some (.int .i64 a0_2) := (Kc BK288.out 2).trans rfl; have hcz17_3 : w16.cell? ⟨gb288, 3, none⟩ = some (.int .i64 a0_3) := (Kc BK288.out 3).trans rfl; have hcz17_4 : w16.cell? ⟨gb288, 4, none⟩ = some (.int .i64 a0_4) := (Kc BK288.out 4).trans rfl; have hfz17_0 := Kz BK288.out 0; have hfz17_1 := Kz BK288.out 1; have hfz17_2 := Kz BK288.out 2; have hfz17_3 := Kz BK288.out 3; have hfz17_4 := Kz BK288.out 4))
      go_ret
      exact ⟨by first | rfl | (simp [*, errW_none, errW_some] <;> rfl), by repeat (first | (with_reducible first | exact HB.out | apply Ba | apply Bn | apply Bd | refine Bs ?_ GE288.out) | exact HB.out)⟩
     ·rw [if_neg c13] at H
      have c13b0 : (a0_3 == 0) = false := beq_eq_false_iff_ne.mpr c13
      have c13b1 : (a0_3 != 0) = true := bne_iff_ne.mpr c13
      obtain rfl := Option.some.inj H
      go_enter Try.func25, Try.ntmps25
      go_wp2_with (first | ((refine Gd (N := 1) rfl ?_); refine Be ?hg (N := 1) ?hd (cs := #[.int .i64 a0_0, .int .i64 a0_1, .int .i64 a0_2, .int .i64 a0_3, .int .i64 a0_4]) (t := 28) ?hr ?_; (case hd | hg => rfl); (case hr => first | (go_simp; done) | (go_simp; rfl)); intro gb288 hg w18 hbox hb; have n0_ := Am (Bt (by repeat (first | exact HB.out | apply Ba | apply Bn | apply Bd)) hb); have n1_ := Am (hbox); have n2_ := Am ((by rw [hg]; exact (Bz (by repeat (first | exact HB.out | apply Ba | apply Bn | apply Bd))) : w.heap.size ≤ gb288)); have n3_ := Am ((by rw [hg]; exact (Bz (by repeat (first | exact HB.out | apply Ba | apply Bn | apply Bd))) : w.heap.size ≤ gb288)); clear HB; have HB := n0_; have BK288 := n1_; have GW288 := n2_; have GE288 := n3_; clear n0_ n1_ n2_ n3_; clear hb hbox hg; have hcz19_0 : w18.cell? ⟨gb288, 0, none⟩ = some (.int .i64 a0_0) := (Kc BK288.out 0).trans rfl; have hcz19_1 : w18.cell? ⟨gb288, 1, none⟩ = some (.int .i64 a0_1) := (Kc BK288.out 1).trans rfl; have hcz19_2 : w18.cell? ⟨gb288, 2, none⟩ = some (.int .i64 a0_2) := (Kc BK288.out 2).trans rfl; have hcz19_3 : w18.cell? ⟨gb288, 3, none⟩ = some (.int .i64 a0_3) := (Kc BK288.out 3).trans rfl; have hcz19_4 : w18.cell? ⟨gb288, 4, none⟩ = some (.int .i64 a0_4) := (Kc BK288.out 4).trans rfl; have hfz19_0 := Kz BK288.out 0; have hfz19_1 := Kz BK288.out 1; have hfz19_2 := Kz BK288.out 2; have hfz19_3 := Kz BK288.out 3; have hfz19_4 := Kz BK288.out 4) | ((refine Gc (f := 58) rfl ?_); refine goesL_ (some 18) rfl rfl Try.func58 (by kernel_rfl) rfl #[.agg #[.int .i64 a0_0, .int .i64 a0_1, .int .i64 a0_2, .int .i64 a0_3, .int .i64 a0_4]] rfl (by first | rfl | (simp only [List.map_toArray, List.map_cons, List.map_nil]; first | done | rfl)) ?_; (with_reducible refine (spec_l2Code.calls a0_0 a0_1 a0_2 a0_3 a0_4 t290 _ A11.out).mono ?_); rintro e w20 ⟨rfl, hb⟩; refine ⟨_, rfl, ?_⟩; have n0_ := Am (Kb (g := gb288) (o := .cells #[.int .i64 a0_0, .int .i64 a0_1, .int .i64 a0_2, .int .i64 a0_3, .int .i64 a0_4] 28 (0, 0)) (by (with_reducible repeat (first | refine Kn ?_ _ | refine Ke ?_ | refine Ka ?_ _)); exact BK288.out) hb); have n1_ := Am (Bt (by repeat (first | (with_reducible first | exact HB.out | apply Ba | apply Bn | apply Bd | refine Bs ?_ GE288.out) | exact HB.out)) hb); clear BK288; clear HB; have BK288 := n0_; have HB := n1_; clear n0_ n1_; (try clear hb); (try clear hb2); (try clear hk); (try clear hi); have hcz21_0 : w20.cell? ⟨gb288, 0, none⟩ = some (.int .i64 a0_0) := (Kc BK288.out 0).trans rfl; have hcz21_1 : w20.cell? ⟨gb288, 1, none⟩ = some (.int .i64 a0_1) := (Kc BK288.out 1).trans rfl; have hcz21_2 : w20.cell? ⟨gb288, 2, none⟩ = some (.int .i64 a0_2) := (Kc BK288.out 2).trans rfl; have hcz21_3 : w20.cell? ⟨gb288, 3, none⟩ = some (.int .i64 a0_3) := (Kc BK288.out 3).trans rfl; have hcz21_4 : w20.cell? ⟨gb288, 4, none⟩ = some (.int .i64 a0_4) := (Kc BK288.out 4).trans rfl; have hfz21_0 := Kz BK288.out 0; have hfz21_1 := Kz BK288.out 1; have hfz21_2 := Kz BK288.out 2; have hfz21_3 := Kz BK288.out 3; have hfz21_4 := Kz BK288.out 4))
      go_ret
      exact ⟨by first | rfl | (simp [*, errW_none, errW_some] <;> rfl), by repeat (first | (with_reducible first | exact HB.out | apply Ba | apply Bn | apply Bd | refine Bs ?_ GE288.out) | exact HB.out)⟩
    ·rw [if_neg c12] at H
     have c12b0 : (t290 == 0) = false := beq_eq_false_iff_ne.mpr c12
     have c12b1 : (t290 != 0) = true := bne_iff_ne.mpr c12
     obtain rfl := Option.some.inj H
     go_enter Try.func25, Try.ntmps25
     go_wp2_with (first | ((refine Gd (N := 1) rfl ?_); refine Be ?hg (N := 1) ?hd (cs := #[.int .i64 a0_0, .int .i64 a0_1, .int .i64 a0_2, .int .i64 a0_3, .int .i64 a0_4]) (t := 28) ?hr ?_; (case hd | hg => rfl); (case hr => first | (go_simp; done) | (go_simp; rfl)); intro gb288 hg w22 hbox hb; have n0_ := Am (Bt (by repeat (first | exact HB.out | apply Ba | apply Bn | apply Bd)) hb); have n1_ := Am (hbox); have n2_ := Am ((by rw [hg]; exact (Bz (by repeat (first | exact HB.out | apply Ba | apply Bn | apply Bd))) : w.heap.size ≤ gb288)); have n3_ := Am ((by rw [hg]; exact (Bz (by repeat (first | exact HB.out | apply Ba | apply Bn | apply Bd))) : w.heap.size ≤ gb288)); clear HB; have HB := n0_; have BK288 := n1_; have GW288 := n2_; have GE288 := n3_; clear n0_ n1_ n2_ n3_; clear hb hbox hg; have hcz23_0 : w22.cell? ⟨gb288, 0, none⟩ = some (.int .i64 a0_0) := (Kc BK288.out 0).trans rfl; have hcz23_1 : w22.cell? ⟨gb288, 1, none⟩ = some (.int .i64 a0_1) := (Kc BK288.out 1).trans rfl; have hcz23_2 : w22.cell? ⟨gb288, 2, none⟩ = some (.int .i64 a0_2) := (Kc BK288.out 2).trans rfl; have hcz23_3 : w22.cell? ⟨gb288, 3, none⟩ = some (.int .i64 a0_3) := (Kc BK288.out 3).trans rfl; have hcz23_4 : w22.cell? ⟨gb288, 4, none⟩ = some (.int .i64 a0_4) := (Kc BK288.out 4).trans rfl; have hfz23_0 := Kz BK288.out 0; have hfz23_1 := Kz BK288.out 1; have hfz23_2 := Kz BK288.out 2; have hfz23_3 := Kz BK288.out 3; have hfz23_4 := Kz BK288.out 4) | ((refine Gc (f := 58) rfl ?_); refine goesL_ (some 18) rfl rfl Try.func58 (by kernel_rfl) rfl #[.agg #[.int .i64 a0_0, .int .i64 a0_1, .int .i64 a0_2, .int .i64 a0_3, .int .i64 a0_4]] rfl (by first | rfl | (simp only [List.map_toArray, List.map_cons, List.map_nil]; first | done | rfl)) ?_; (with_reducible refine (spec_l2Code.calls a0_0 a0_1 a0_2 a0_3 a0_4 t290 _ A11.out).mono ?_); rintro e w24 ⟨rfl, hb⟩; refine ⟨_, rfl, ?_⟩; have n0_ := Am (Kb (g := gb288) (o := .cells #[.int .i64 a0_0, .int .i64 a0_1, .int .i64 a0_2, .int .i64 a0_3, .int .i64 a0_4] 28 (0, 0)) (by (with_reducible repeat (first | refine Kn ?_ _ | refine Ke ?_ | refine Ka ?_ _)); exact BK288.out) hb); have n1_ := Am (Bt (by repeat (first | (with_reducible first | exact HB.out | apply Ba | apply Bn | apply Bd | refine Bs ?_ GE288.out) | exact HB.out)) hb); clear BK288; clear HB; have BK288 := n0_; have HB := n1_; clear n0_ n1_; (try clear hb); (try clear hb2); (try clear hk); (try clear hi)))
     go_ret
     exact ⟨by first | rfl | (simp [*, errW_none, errW_some] <;> rfl), by repeat (first | (with_reducible first | exact HB.out | apply Ba | apply Bn | apply Bd | refine Bs ?_ GE288.out) | exact HB.out)⟩
   ·rw [if_neg c10] at H
    have c10b0 : (a0_0 == 2) = false := beq_eq_false_iff_ne.mpr c10
    have c10b1 : (a0_0 != 2) = true := bne_iff_ne.mpr c10
    obtain rfl := Option.some.inj H
    go_enter Try.func25, Try.ntmps25
    go_wp2_with (first | ((refine Gd (N := 1) rfl ?_); refine Be ?hg (N := 1) ?hd (cs := #[.int .i64 a0_0, .int .i64 a0_1, .int .i64 a0_2, .int .i64 a0_3, .int .i64 a0_4]) (t := 28) ?hr ?_; (case hd | hg => rfl); (case hr => first | (go_simp; done) | (go_simp; rfl)); intro gb288 hg w25 hbox hb; have n0_ := Am (Bt (by repeat (first | exact HB.out | apply Ba | apply Bn | apply Bd)) hb); have n1_ := Am (hbox); have n2_ := Am ((by rw [hg]; exact (Bz (by repeat (first | exact HB.out | apply Ba | apply Bn | apply Bd))) : w.heap.size ≤ gb288)); have n3_ := Am ((by rw [hg]; exact (Bz (by repeat (first | exact HB.out | apply Ba | apply Bn | apply Bd))) : w.heap.size ≤ gb288)); clear HB; have HB := n0_; have BK288 := n1_; have GW288 := n2_; have GE288 := n3_; clear n0_ n1_ n2_ n3_; clear hb hbox hg; have hcz26_0 : w25.cell? ⟨gb288, 0, none⟩ = some (.int .i64 a0_0) := (Kc BK288.out 0).trans rfl; have hcz26_1 : w25.cell? ⟨gb288, 1, none⟩ = some (.int .i64 a0_1) := (Kc BK288.out 1).trans rfl; have hcz26_2 : w25.cell? ⟨gb288, 2, none⟩ = some (.int .i64 a0_2) := (Kc BK288.out 2).trans rfl; have hcz26_3 : w25.cell? ⟨gb288, 3, none⟩ = some (.int .i64 a0_3) := (Kc BK288.out 3).trans rfl; have hcz26_4 : w25.cell? ⟨gb288, 4, none⟩ = some (.int .i64 a0_4) := (Kc BK288.out 4).trans rfl; have hfz26_0 := Kz BK288.out 0; have hfz26_1 := Kz BK288.out 1; have hfz26_2 := Kz BK288.out 2; have hfz26_3 := Kz BK288.out 3; have hfz26_4 := Kz BK288.out 4))
    go_ret
    exact ⟨by first | rfl | (simp [*, errW_none, errW_some] <;> rfl), by repeat (first | (with_reducible first | exact HB.out | apply Ba | apply Bn | apply Bd | refine Bs ?_ GE288.out) | exact HB.out)⟩
def spec_l1All.l0 : Nat → Int → Int → List Int → Int → Int → Option (Bool)
 | 0, _, _, _, _, _ => none
 | k + 1, x1, x2, x9, x10, x11 => if x11 < x10 then (if 0 ≤ x11 then (if x11 < (x9.length : Int) then ((spec_l1In.f (rd x9 x11) x1 x2).bind fun t292 => (if t292 = true then (spec_l1All.l0 k x1 x2 x9 x10 (wrap64 (x11 + 1))) else (some false))) else (none)) else (none)) else (some true)
def spec_l1All.f (k : Nat) (l0 : List Int) (a1 : Int) (a2 : Int) : Option (Bool) := spec_l1All.l0 k a1 a2 l0 (l0.length : Int) 0
theorem spec_l1All.mono_l : ∀ k, (∀ y0 y1 y2 y3 y4, LeO (spec_l1All.l0 k y0 y1 y2 y3 y4) (spec_l1All.l0 (k + 1) y0 y1 y2 y3 y4))
 | 0 => fun _ _ _ _ _ r h => by simp [spec_l1All.l0] at h
 | k + 1 => by
  have ih0 := spec_l1All.mono_l k
  ·intro y0 y1 y2 y3 y4
   unfold spec_l1All.l0
   repeat' first
   | (with_reducible exact ih0 _ _ _ _ _)
   | (with_reducible exact LeO.refl _)
   | (with_reducible exact LeO.none _)
   | (with_reducible refine LeO.ite ?_ ?_)
   | (with_reducible refine LeO.bind ?_ (fun _ => ?_))
   | exact ih0 _ _ _ _ _
   | exact LeO.none _
   | refine LeO.ite ?_ ?_
   | refine LeO.bind ?_ (fun _ => ?_)
theorem spec_l1All.mono : ∀ a0 a1 a2 k, LeO (spec_l1All.f k a0 a1 a2) (spec_l1All.f (k + 1) a0 a1 a2) := by
 intro a0 a1 a2 k
 have ih0 := spec_l1All.mono_l k
 unfold spec_l1All.f
 repeat' first
   | (with_reducible exact ih0 _ _ _ _ _)
   | (with_reducible exact LeO.refl _)
   | (with_reducible exact LeO.none _)
   | (with_reducible refine LeO.ite ?_ ?_)
   | (with_reducible refine LeO.bind ?_ (fun _ => ?_))
   | exact ih0 _ _ _ _ _
   | exact LeO.none _
   | refine LeO.ite ?_ ?_
   | refine LeO.bind ?_ (fun _ => ?_)
set_option maxHeartbeats 8000000 in
set_option maxRecDepth 100000 in
theorem spec_l1All.calls (k : Nat) (A0 : Option Addr) (c0 : Nat) (l0 : List Int) (a1 : Int) (a2 : Int) (r : Bool) (w : World) (hr0 : Kd.C (Kd.int .i64) w A0 l0.length l0) (hc0 : l0.length ≤ c0) (h : spec_l1All.f k l0 a1 a2 = some r) :
  Calls Try.prog 94 #[.slice A0 l0.length c0, .int .i64 a1, .int .i64 a2] w fun e w' => e = .returned (.bool r) ∧ Drawn0 w w' := by
 have HR0 := Am hr0
 have HC0 := Am hc0
 clear hr0 hc0
 have H : (spec_l1All.l0 k a1 a2 l0 (l0.length : Int) 0) = some r := h
 clear h
 have H' := Am H
 clear H
 go_enter Try.func94, Try.ntmps94
 go_wp2
 go_loopg [11] k (fun kq v11 w' => ∃ (x11_1 : Int), v11 = .int .i64 x11_1 ∧ Ad (spec_l1All.l0 kq a1 a2 l0 (l0.length : Int) x11_1 = some r) ∧ Ad (kq ≤ k) ∧ Drawn0 w w')
 case atStart => exact ⟨(0), (by first | rfl | (simp; done) | (simp [*]; done)), H', ⟨Nat.le_refl _⟩, by repeat (first | exact Drawn0.refl _ | apply Drawn0.step)⟩
 case round =>
  clear H'
  try clear p2
  obtain ⟨x11_1, rfl, HA, HK1, ⟨m1, rfl⟩⟩ := hrel
  cases gk with
  | zero => exact absurd HA.out (by simp [spec_l1All.l0])
  | succ k1 =>
   have H := HA.out
   clear HA
   simp only [spec_l1All.l0] at H
   by_cases c4 : x11_1 < (l0.length : Int)
   ·rw [if_pos c4] at H
    have c4b0 : decide (x11_1 < (l0.length : Int)) = true := decide_eq_true c4
    clear c4
    by_cases c5 : 0 ≤ x11_1
    ·rw [if_pos c5] at H
     have c5b0 : decide (0 ≤ x11_1) = true := decide_eq_true c5
     clear c5
     by_cases c6 : x11_1 < (l0.length : Int)
     ·rw [if_pos c6] at H
      have c6b0 : decide (x11_1 < (l0.length : Int)) = true := decide_eq_true c6
      clear c6
      replace H := Option.bind_eq_some_iff.mp H
      obtain ⟨t292, A70, H⟩ := H
      replace H : (if t292 = true then (spec_l1All.l0 k1 a1 a2 l0 (l0.length : Int) (wrap64 (x11_1 + 1))) else (some false)) = some r := H
      have A7 := Am A70
      clear A70
      by_cases c8 : t292 = true
      ·subst c8
       have H1 : (spec_l1All.l0 k1 a1 a2 l0 (l0.length : Int) (wrap64 (x11_1 + 1))) = some r := by rw [if_pos rfl] at H; exact H
       clear H
       have H := H1
       clear H1
       have H' := Am H
       clear H
       have p291 : 0 ≤ (x11_1 : Int) := of_decide_eq_true (by assumption)
       have q291 : x11_1 < (l0.length : Int) := of_decide_eq_true (by assumption)
       obtain ⟨ad291, e291, hx291_0⟩ := Kd.at_int HR0.out x11_1 p291 q291
       cases e291
       replace p291 := eq_true p291
       replace q291 := eq_true q291
       go_wp2_with (first | ((refine Gc (f := 33) rfl ?_); refine goesL_ (some 18) rfl rfl Try.func33 (by kernel_rfl) rfl #[.int .i64 (rd l0 x11_1), .int .i64 a1, .int .i64 a2] rfl (by first | rfl | (simp only [List.map_toArray, List.map_cons, List.map_nil]; first | done | rfl)) ?_; (with_reducible refine (spec_l1In.calls (rd l0 x11_1) a1 a2 true _ A7.out).mono ?_); rintro e w' ⟨rfl, ⟨nd, rfl⟩⟩; refine ⟨_, rfl, ?_⟩))
       go_roundg k1
       case measure => have := HK1.out; omega
       case rel => exact ⟨(wrap64 (x11_1 + 1)), (by first | rfl | (simp; done) | (simp [*]; done)), H', ⟨by have := HK1.out; omega⟩, by repeat (first | exact Drawn0.refl _ | apply Drawn0.step)⟩
      ·replace c8 := Bool.eq_false_iff.mpr c8
       subst c8
       have H1 : (some false) = some r := by rw [if_neg (show ¬ (false = true) by decide)] at H; exact H
       clear H
       have H := H1
       clear H1
       obtain rfl := Option.some.inj H
       have p291 : 0 ≤ (x11_1 : Int) := of_decide_eq_true (by assumption)
       have q291 : x11_1 < (l0.length : Int) := of_decide_eq_true (by assumption)
       obtain ⟨ad291, e291, hx291_0⟩ := Kd.at_int HR0.out x11_1 p291 q291
       cases e291
       replace p291 := eq_true p291
       replace q291 := eq_true q291
       go_wp2_with (first | ((refine Gc (f := 33) rfl ?_); refine goesL_ (some 18) rfl rfl Try.func33 (by kernel_rfl) rfl #[.int .i64 (rd l0 x11_1), .int .i64 a1, .int .i64 a2] rfl (by first | rfl | (simp only [List.map_toArray, List.map_cons, List.map_nil]; first | done | rfl)) ?_; (with_reducible refine (spec_l1In.calls (rd l0 x11_1) a1 a2 false _ A7.out).mono ?_); rintro e w' ⟨rfl, ⟨nd, rfl⟩⟩; refine ⟨_, rfl, ?_⟩))
       go_ret
       exact ⟨by first | rfl | (simp; done) | (simp [*]; done), by repeat (first | exact Drawn0.refl _ | apply Drawn0.step)⟩
     ·rw [if_neg c6] at H
      exact absurd H (by simp)
    ·rw [if_neg c5] at H
     exact absurd H (by simp)
   ·rw [if_neg c4] at H
    have c4b0 : decide (x11_1 < (l0.length : Int)) = false := decide_eq_false c4
    clear c4
    obtain rfl := Option.some.inj H
    go_wp2
    go_ret
    exact ⟨by first | rfl | (simp; done) | (simp [*]; done), by repeat (first | exact Drawn0.refl _ | apply Drawn0.step)⟩
def spec_l3Attr.f (k : Nat) (a0 : Int) (a1_0 : Int) (l1_1 : List Int) : Option (Bool) := (spec_l1In.f a1_0 0 999).bind fun t294 => (if t294 = true then (if (l1_1.length : Int) = a0 then ((spec_l1All.f k l1_1 0 6).bind fun t295 => (some t295)) else (some false)) else (some false))
theorem spec_l3Attr.mono : ∀ a0 a1 a2 k, LeO (spec_l3Attr.f k a0 a1 a2) (spec_l3Attr.f (k + 1) a0 a1 a2) := by
 intro a0 a1 a2 k
 unfold spec_l3Attr.f
 repeat' first
   | (with_reducible exact spec_l1All.mono _ _ _ _)
   | (with_reducible exact LeO.refl _)
   | (with_reducible exact LeO.none _)
   | (with_reducible refine LeO.ite ?_ ?_)
   | (with_reducible refine LeO.bind ?_ (fun _ => ?_))
   | exact spec_l1All.mono _ _ _ _
   | exact LeO.none _
   | refine LeO.ite ?_ ?_
   | refine LeO.bind ?_ (fun _ => ?_)
set_option maxHeartbeats 8000000 in
set_option maxRecDepth 100000 in
theorem spec_l3Attr.calls (k : Nat) (a0 : Int) (a1_0 : Int) (A1_1 : Option Addr) (c1_1 : Nat) (l1_1 : List Int) (r : Bool) (w : World) (hr1_1 : Kd.C (Kd.int .i64) w A1_1 l1_1.length l1_1) (hc1_1 : l1_1.length ≤ c1_1) (h : spec_l3Attr.f k a0 a1_0 l1_1 = some r) :
  Calls Try.prog 73 #[.int .i64 a0, .agg #[.int .i64 a1_0, .slice A1_1 l1_1.length c1_1]] w fun e w' => e = .returned (.bool r) ∧ Below w.heap.size w w' := by
 have hu33 := Try.underlying33
 have HR1_1 := Am hr1_1
 have HC1_1 := Am hc1_1
 clear hr1_1 hc1_1
 have HB := Am (Below.refl w.heap.size w)
 have H : ((spec_l1In.f a1_0 0 999).bind fun t294 => (if t294 = true then (if (l1_1.length : Int) = a0 then ((spec_l1All.f k l1_1 0 6).bind fun t295 => (some t295)) else (some false)) else (some false))) = some r := h
 clear h
 replace H := Option.bind_eq_some_iff.mp H
 obtain ⟨t294, A30, H⟩ := H
 replace H : (if t294 = true then (if (l1_1.length : Int) = a0 then ((spec_l1All.f k l1_1 0 6).bind fun t295 => (some t295)) else (some false)) else (some false)) = some r := H
 have A3 := Am A30
 clear A30
 by_cases c4 : t294 = true
 ·subst c4
  have H1 : (if (l1_1.length : Int) = a0 then ((spec_l1All.f k l1_1 0 6).bind fun t295 => (some t295)) else (some false)) = some r := by rw [if_pos rfl] at H; exact H
  clear H
  have H := H1
  clear H1
  by_cases c5 : (l1_1.length : Int) = a0
  ·rw [if_pos c5] at H
   have c5b0 : ((l1_1.length : Int) == a0) = true := beq_iff_eq.mpr c5
   have c5b1 : ((l1_1.length : Int) != a0) = false := bne_eq_false_iff_eq.mpr c5
   clear c5
   replace H := Option.bind_eq_some_iff.mp H
   obtain ⟨t295, A60, H⟩ := H
   replace H : (some t295) = some r := H
   have A6 := Am A60
   clear A60
   obtain rfl := Option.some.inj H
   go_enter Try.func73, Try.ntmps73
   go_wp2_with (first | ((refine Gd (N := 3) rfl ?_); (try (refine gate_guard (by rfl) ?_; dsimp only)); refine Be ?hg (N := 3) ?hd (cs := #[.int .i64 a1_0, .slice A1_1 l1_1.length c1_1]) (t := 33) ?hr ?_; (case hd | hg => rfl); (case hr => first | (go_simp; done) | (go_simp; rfl)); intro gb293 hg w7 hbox hb; have n0_ := Am (Bt (by repeat (first | exact HB.out | apply Ba | apply Bn | apply Bd)) hb); have n1_ := Am (hbox); have n2_ := Am ((by rw [hg]; exact (Bz (by repeat (first | exact HB.out | apply Ba | apply Bn | apply Bd))) : w.heap.size ≤ gb293)); have n3_ := Am ((by rw [hg]; exact (Bz (by repeat (first | exact HB.out | apply Ba | apply Bn | apply Bd))) : w.heap.size ≤ gb293)); clear HB; have HB := n0_; have BK293 := n1_; have GW293 := n2_; have GE293 := n3_; clear n0_ n1_ n2_ n3_; clear hb hbox hg; have hcz8_0 : w7.cell? ⟨gb293, 0, none⟩ = some (.int .i64 a1_0) := (Kc BK293.out 0).trans rfl; have hcz8_1 : w7.cell? ⟨gb293, 1, none⟩ = some (.slice A1_1 l1_1.length c1_1) := (Kc BK293.out 1).trans rfl; have hfz8_0 := Kz BK293.out 0; have hfz8_1 := Kz BK293.out 1) | ((refine Gc (f := 33) rfl ?_); refine goesL_ (some 7) rfl rfl Try.func33 (by kernel_rfl) rfl #[.int .i64 a1_0, .int .i64 0, .int .i64 999] rfl (by first | rfl | (simp only [List.map_toArray, List.map_cons, List.map_nil]; first | done | rfl)) ?_; (with_reducible refine (spec_l1In.calls a1_0 0 999 true _ A3.out).mono ?_); rintro e w' ⟨rfl, ⟨nd, rfl⟩⟩; refine ⟨_, rfl, ?_⟩) | (go_at_call 94; (with_reducible refine (spec_l1All.calls k _ _ l1_1 0 6 t295 _ ?side1 ?side2 A6.out).mono ?_); (case side1 => repeat (first | exact (Kd.C_below HR1_1.out (by repeat (first | (with_reducible first | exact HB.out | apply Ba | apply Bn | apply Bd | refine Bs ?_ GE293.out) | exact HB.out))) | (with_reducible refine Kd.C_alloc ?_ _) | (with_reducible refine Kd.C_drewN ?_ _) | (with_reducible refine Kd.C_drew ?_))); (case side2 => exact HC1_1.out); rintro e w' ⟨rfl, ⟨nd, rfl⟩⟩))
   go_ret
   exact ⟨by first | rfl | (simp [*, errW_none, errW_some] <;> rfl), by repeat (first | (with_reducible first | exact HB.out | apply Ba | apply Bn | apply Bd | refine Bs ?_ GE293.out) | exact HB.out)⟩
  ·rw [if_neg c5] at H
   have c5b0 : ((l1_1.length : Int) == a0) = false := beq_eq_false_iff_ne.mpr c5
   have c5b1 : ((l1_1.length : Int) != a0) = true := bne_iff_ne.mpr c5
   obtain rfl := Option.some.inj H
   go_enter Try.func73, Try.ntmps73
   go_wp2_with (first | ((refine Gd (N := 3) rfl ?_); (try (refine gate_guard (by rfl) ?_; dsimp only)); refine Be ?hg (N := 3) ?hd (cs := #[.int .i64 a1_0, .slice A1_1 l1_1.length c1_1]) (t := 33) ?hr ?_; (case hd | hg => rfl); (case hr => first | (go_simp; done) | (go_simp; rfl)); intro gb293 hg w9 hbox hb; have n0_ := Am (Bt (by repeat (first | exact HB.out | apply Ba | apply Bn | apply Bd)) hb); have n1_ := Am (hbox); have n2_ := Am ((by rw [hg]; exact (Bz (by repeat (first | exact HB.out | apply Ba | apply Bn | apply Bd))) : w.heap.size ≤ gb293)); have n3_ := Am ((by rw [hg]; exact (Bz (by repeat (first | exact HB.out | apply Ba | apply Bn | apply Bd))) : w.heap.size ≤ gb293)); clear HB; have HB := n0_; have BK293 := n1_; have GW293 := n2_; have GE293 := n3_; clear n0_ n1_ n2_ n3_; clear hb hbox hg; have hcz10_0 : w9.cell? ⟨gb293, 0, none⟩ = some (.int .i64 a1_0) := (Kc BK293.out 0).trans rfl; have hcz10_1 : w9.cell? ⟨gb293, 1, none⟩ = some (.slice A1_1 l1_1.length c1_1) := (Kc BK293.out 1).trans rfl; have hfz10_0 := Kz BK293.out 0; have hfz10_1 := Kz BK293.out 1) | ((refine Gc (f := 33) rfl ?_); refine goesL_ (some 7) rfl rfl Try.func33 (by kernel_rfl) rfl #[.int .i64 a1_0, .int .i64 0, .int .i64 999] rfl (by first | rfl | (simp only [List.map_toArray, List.map_cons, List.map_nil]; first | done | rfl)) ?_; (with_reducible refine (spec_l1In.calls a1_0 0 999 true _ A3.out).mono ?_); rintro e w' ⟨rfl, ⟨nd, rfl⟩⟩; refine ⟨_, rfl, ?_⟩))
   go_ret
   exact ⟨by first | rfl | (simp [*, errW_none, errW_some] <;> rfl), by repeat (first | (with_reducible first | exact HB.out | apply Ba | apply Bn | apply Bd | refine Bs ?_ GE293.out) | exact HB.out)⟩
 ·replace c4 := Bool.eq_false_iff.mpr c4
  subst c4
  have H1 : (some false) = some r := by rw [if_neg (show ¬ (false = true) by decide)] at H; exact H
  clear H
  have H := H1
  clear H1
  obtain rfl := Option.some.inj H
  go_enter Try.func73, Try.ntmps73
  go_wp2_with (first | ((refine Gd (N := 3) rfl ?_); (try (refine gate_guard (by rfl) ?_; dsimp only)); refine Be ?hg (N := 3) ?hd (cs := #[.int .i64 a1_0, .slice A1_1 l1_1.length c1_1]) (t := 33) ?hr ?_; (case hd | hg => rfl); (case hr => first | (go_simp; done) | (go_simp; rfl)); intro gb293 hg w11 hbox hb; have n0_ := Am (Bt (by repeat (first | exact HB.out | apply Ba | apply Bn | apply Bd)) hb); have n1_ := Am (hbox); have n2_ := Am ((by rw [hg]; exact (Bz (by repeat (first | exact HB.out | apply Ba | apply Bn | apply Bd))) : w.heap.size ≤ gb293)); have n3_ := Am ((by rw [hg]; exact (Bz (by repeat (first | exact HB.out | apply Ba | apply Bn | apply Bd))) : w.heap.size ≤ gb293)); clear HB; have HB := n0_; have BK293 := n1_; have GW293 := n2_; have GE293 := n3_; clear n0_ n1_ n2_ n3_; clear hb hbox hg; have hcz12_0 : w11.cell? ⟨gb293, 0, none⟩ = some (.int .i64 a1_0) := (Kc BK293.out 0).trans rfl; have hcz12_1 : w11.cell? ⟨gb293, 1, none⟩ = some (.slice A1_1 l1_1.length c1_1) := (Kc BK293.out 1).trans rfl; have hfz12_0 := Kz BK293.out 0; have hfz12_1 := Kz BK293.out 1) | ((refine Gc (f := 33) rfl ?_); refine goesL_ (some 7) rfl rfl Try.func33 (by kernel_rfl) rfl #[.int .i64 a1_0, .int .i64 0, .int .i64 999] rfl (by first | rfl | (simp only [List.map_toArray, List.map_cons, List.map_nil]; first | done | rfl)) ?_; (with_reducible refine (spec_l1In.calls a1_0 0 999 false _ A3.out).mono ?_); rintro e w' ⟨rfl, ⟨nd, rfl⟩⟩; refine ⟨_, rfl, ?_⟩))
  go_ret
  exact ⟨by first | rfl | (simp [*, errW_none, errW_some] <;> rfl), by repeat (first | (with_reducible first | exact HB.out | apply Ba | apply Bn | apply Bd | refine Bs ?_ GE293.out) | exact HB.out)⟩
end Go.Proofs.Ytilmcfdhijdhpaa.QFnAttrFor
