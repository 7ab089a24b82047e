-- Written by a program of this session (wip/mk.py) over the kit's print: Lean checks it.
import Derived.Test.YtilmcfdhijdhpaaQFnExactGoodReplicax0
import Derived.Test.YtilmcfdhijdhpaaQFnExactGoodReplicax1
import Derived.Test.YtilmcfdhijdhpaaQFnExactGoodReplicax8
import Derived.Test.YtilmcfdhijdhpaaQFnExactGoodReplicax10
import Derived.Test.YtilmcfdhijdhpaaQFnExactGoodReplicax11
namespace Go.Proofs.Ytilmcfdhijdhpaa.QFnExactGoodReplica
open Go.Proofs.YtilmcfdhijdhpaaW.PrintWords renaming below_alloc → Ba, gate_dst → Gd, blk_below → Kb, blk_cell → Kc
open List renaming setIfInBounds_toArray → Lt, set_cons_zero → Lz, set_cons_succ → Ls
open Go.World renaming block_lt_of_cell? → bl_
open Go.Proofs.YtilmcfdhijdhpaaW.PrintWords.Aside0 renaming mk → Am
open Go.Proofs.YtilmcfdhijdhpaaW.PrintWords renaming Aside0 → Ad
open Go.RowKit Go.Proofs.YtilmcfdhijdhpaaW.PrintWords Go.Proofs.YtilmcfdhijdhpaaW.PrintLast Go.Proofs.YtilmcfdhijdhpaaW.PrintMore
attribute [local go_sem] max2_int min2_int max_two min_two max_three min_three max_four min_four   -- for this text's walks alone
open Go.Proofs.YtilmcfdhijdhpaaW.PrintWords.Kd renaming C_below → Cb
open Go.Proofs.YtilmcfdhijdhpaaW.PrintWords renaming below_then → Bh
set_option linter.unusedVariables false
set_option linter.unusedSimpArgs false
attribute [local go_sem high] eqA28
theorem impl_GoodReplica.two {o : Option Bool} {t e : Option Bool} {r : Bool} (h : (o.bind fun b => if b = true then t else e) = some r) : ∃ b, Ad (o = some b) ∧ Ad ((if b = true then t else e) = some r) := by
 obtain ⟨b, h1, h2⟩ := Option.bind_eq_some_iff.1 h
 exact ⟨b, ⟨h1⟩, ⟨h2⟩⟩
theorem impl_GoodReplica.load1 {P : Program} {o : Oper} {a : Act} {W : World} {g : Nat} {cs : Array Value} {t : TypeId} (hg : W.heap[g]? = some (.cells cs t (0, 0))) (n : Nat) (hn : cs.size = n) (ty : TypeId) (x : Operand) (ho : o.op = .load ty x)
  (hx : a.eval x = .pointer (some ⟨g, 0, none⟩)) (d : TypeDesc) (hu : P.underlying ty = some d) (hd : (match d with | .struct _ | .array _ _ => true | _ => false) = true) (hi : (P.info? ty).map (·.size) = some n) :
  (execOp a.eval o).run P W = .ok (.value (.agg cs)) W := by
 subst hn
 unfold execOp
 simp only [ho, hx, Instr.loadAt, Instr.sureAddr, Sem.run_bind, Sem.run_pure, Result.andThen_ok, run_loadVar_row W g t ty cs (0, 0) d hg hu hd hi]
def impl_GoodReplica.Cs (W : World) (b : Nat) : Nat → List Value → Prop
 | _, [] => True
 | o, v :: vs => W.cell? ⟨b, o, none⟩ = some v ∧ impl_GoodReplica.Cs W b (o + 1) vs
theorem impl_GoodReplica.cs_at {W : World} {b : Nat} : ∀ (cs : List Value) (o : Nat), impl_GoodReplica.Cs W b o cs → ∀ j v, cs[j]? = some v → W.cell? ⟨b, o + j, none⟩ = some v
 | [], _, _, j, v, h => by simp at h
 | u :: us, o, hc, 0, v, h => by
  obtain rfl : u = v := by simpa using h
  exact hc.1
 | u :: us, o, hc, j + 1, v, h => by rw [show o + (j + 1) = o + 1 + j by omega]; exact impl_GoodReplica.cs_at us (o + 1) hc.2 j v (by simpa using h)
theorem impl_GoodReplica.spot {W : World} {q : Addr} {v : Value} (h : W.cell? q = some v) : q = ⟨q.block, q.off, none⟩ := by
 obtain ⟨b, o, s⟩ := q
 cases s with
 | none => rfl
 | some s => unfold World.cell? at h; split at h <;> simp at h
theorem impl_GoodReplica.mid {P : Program} {o : Oper} {a : Act} {W : World} {q : Addr} {v : Value} {cs : List Value} (hc : impl_GoodReplica.Cs W q.block q.off (v :: cs)) (h0 : W.cell? q = some v) (n : Nat) (hn : (v :: cs).length = n) (ty : TypeId) (x : Operand) (ho : o.op = .load ty x)
  (hx : a.eval x = .pointer (some q)) (d : TypeDesc) (hu : P.underlying ty = some d) (hd : d.isRow = true) (hi : (P.info? ty).map (·.size) = some n) :
  (execOp a.eval o).run P W = .ok (.value (.agg (v :: cs).toArray)) W := by
 subst hn
 have hq := impl_GoodReplica.spot h0
 unfold execOp
 rw [hq] at hx
 simp only [ho, hx]
 have := run_loadAt_mid (P := P) W q.block q.off ty (v :: cs) d (impl_GoodReplica.cs_at _ _ hc) hu hd hi
 simp only [Sem.run_bind, this, Result.andThen_ok, Sem.run_pure]
def impl_GoodReplica.T6 : Bool × List (List Nat × List Nat) := (true, [([], []), ([0], [0]), ([1], [1]), ([], []), ([3], [3]), ([], []), ([2, 4, 5], [2, 4, 5]), ([6], [6]), ([7, 6], [7]), ([8], [8]), ([9, 8], [8, 9]), ([10, 8, 8], [8, 10]), ([11], [11]), ([12, 11], [11, 12]), ([11], [11]), ([14, 11], [11, 14]), ([13, 15, 11], [11, 13, 15]), ([11], [11]), ([17, 11], [11, 17]), ([11], [11]), ([19, 11], [11, 19]), ([18, 20, 11], [11, 18, 20]), ([21, 11], [11, 21]), ([22, 11], [11, 22]), ([11], [11]), ([24, 11], [11, 24]), ([11], [11]), ([26, 11], [11, 26]), ([25, 27, 11], [11, 25, 27]), ([28, 11], [11, 28]), ([29, 11], [11, 29]), ([23, 30, 11], [11, 23, 30]), ([16, 31, 11, 11], [11, 16, 31]), ([32, 11], [11, 32]), ([11, 33, 8], [8, 11, 33]), ([8, 34], [8, 34])])
def impl_GoodReplica.B6 : List Nat := [0, 1, 3, 0, 8, 0, 63, 127, 255, 511, 1023, 2047, 4095, 8191, 4095, 20479, 65535, 4095, 135167, 4095, 528383, 1970175, 4067327, 8261631, 4095, 16781311, 4095, 67112959, 251662335, 520097791, 1056968703, 2147356671, 4294967295, 8589934591, 17179869183, 34359738367]
theorem impl_GoodReplica.tab6 : rtab .any (opsOf Try.f15 6) = impl_GoodReplica.T6 := by kernel_rfl
theorem impl_GoodReplica.bits6 : waitsOk impl_GoodReplica.T6.2 impl_GoodReplica.B6 = true := by kernel_rfl
def impl_GoodReplica.nx (K : Nat) (p : Option (Int × Int)) (x : S77) (t : Option Bool) : Option Bool := match p with
 | none => t
 | some q => (slices_Compare_int_int.f K [x.f0, x.f1] [q.1, q.2]).bind fun m => if m ≤ 0 then some false else t
def impl_GoodReplica.o (K : Nat) (n me : Int) : Option (Int × Int) → List S77 → Option Bool
 | _, [] => some true
 | p, x :: xs => (impl_goodLead.f K n me x).bind fun b => if b = true then impl_GoodReplica.nx K p x (impl_GoodReplica.o K n me (some (x.f0, x.f1)) xs) else some false
def impl_GoodReplica.s2 (K : Nat) (me n : Int) (l2 : List S77) : Option Bool := (impl_within.f me 0 (wrap64 (n - 1))).bind fun b => if b = true then impl_GoodReplica.o K n me none l2 else some false
def impl_GoodReplica.f (K : Nat) (me n : Int) (l1 : List (List S39)) (l2 : List S77) : Option Bool := (impl_GoodTable.f K n l1).bind fun b => if b = true then impl_GoodReplica.s2 K me n l2 else some false
def impl_GoodReplica.pv (l : List S77) (i : Nat) : Option (Int × Int) := if i = 0 then none else some ((l.getD (i - 1) z77).f0, (l.getD (i - 1) z77).f1)
theorem impl_GoodReplica.pv0 (l : List S77) : impl_GoodReplica.pv l 0 = none := rfl
theorem impl_GoodReplica.pvs (l : List S77) (i : Nat) : impl_GoodReplica.pv l (i + 1) = some ((l.getD i z77).f0, (l.getD i z77).f1) := rfl
set_option maxHeartbeats 4000000 in
set_option maxRecDepth 100000 in
theorem impl_GoodReplica.calls (K : Nat) (me n : Int) (A1 : Option Addr) (c1 : Nat) (l1 : List (List S39)) (A2 : Option Addr) (c2 : Nat) (l2 : List S77) (r : Bool) (w : World) (hr1 : Kd.C (Kd.slice 39 k39) w A1 l1.length l1) (hc1 : l1.length ≤ c1) (hr2 : Kd.C k77 w A2 l2.length l2) (hc2 : l2.length ≤ c2) (h : impl_GoodReplica.f K me n l1 l2 = some r) :
  Calls Try.prog 15 #[.agg #[.int .i64 me, .int .i64 n, .slice A1 l1.length c1, .slice A2 l2.length c2]] w fun e w' => e = .returned (.bool r) ∧ Below w.heap.size w w' := by
 have hu := Try.underlying77
 have hu2 := Try.underlying26
 have hu3 := Try.underlying53
 have H1 := Am hr1
 have H2 := Am hr2
 have HI := Am h
 clear hr1 hr2 h
 go_enter Try.func15, Try.ntmps15
 go_upto_region 1 with (fail)
 refine letC (fun W_ => ∃ gr : Nat, gr = w.heap.size ∧ Below w.heap.size w W_ ∧ W_.heap[gr]? = some (.cells #[.int .i64 me, .int .i64 n, .slice A1 l1.length c1, .slice A2 l2.length c2] 53 (0, 0))) ⟨_, rfl, Ba (Below.refl _ _) _, by simpa using blk_new w (.cells #[.int .i64 me, .int .i64 n, .slice A1 l1.length c1, .slice A2 l2.length c2] 53)⟩ ?_
 rintro W0 ⟨gr, e_gr, hb, x_gr⟩
 have HZ := Am hb
 have BR := Am x_gr
 have HB : Ad (Below W0.heap.size W0 W0) := ⟨Below.refl _ _⟩
 rw [← e_gr]
 clear hb x_gr e_gr
 obtain ⟨b, HF, HJ⟩ := impl_GoodReplica.two HI.out
 clear HI
 have qr1 : W0.cell? ⟨gr, 1, none⟩ = some (.int .i64 n) := (Kc (Kb BR.out HB.out) 1).trans rfl
 have qr2 : W0.cell? ⟨gr, 2, none⟩ = some (.slice A1 l1.length c1) := (Kc (Kb BR.out HB.out) 2).trans rfl
 go_wp2_with fail
 refine (impl_GoodTable.calls K n A1 c1 l1 b W0 (Cb H1.out (Bh HZ.out HZ.out.size HB.out)) hc1 HF.out).mono ?_
 rintro e W1 ⟨rfl, hb⟩
 replace HB := Am (Bh HB.out HB.out.size hb)
 clear hb HF qr1 qr2
 cases b with
 | false =>
  obtain rfl : false = r := Option.some.inj HJ.out
  clear HJ
  go_wp2
  go_ret
  exact ⟨rfl, Bh HZ.out HZ.out.size HB.out⟩
 | true =>
  have HI : Ad (impl_GoodReplica.s2 K me n l2 = some r) := ⟨HJ.out⟩
  clear HJ
  obtain ⟨b, HF, HJ⟩ := impl_GoodReplica.two HI.out
  clear HI
  have qr0 : W1.cell? ⟨gr, 0, none⟩ = some (.int .i64 me) := (Kc (Kb BR.out HB.out) 0).trans rfl
  have qr1 : W1.cell? ⟨gr, 1, none⟩ = some (.int .i64 n) := (Kc (Kb BR.out HB.out) 1).trans rfl
  go_wp2_with fail
  refine (impl_within.calls me 0 (wrap64 (n - 1)) b W1  HF.out).mono ?_
  rintro e W2 ⟨rfl, hd⟩
  have hb := hd.below
  replace HB := Am (Bh HB.out HB.out.size hb)
  clear hb hd HF qr0 qr1
  cases b with
  | false =>
   obtain rfl : false = r := Option.some.inj HJ.out
   clear HJ
   go_wp2
   go_ret
   exact ⟨rfl, Bh HZ.out HZ.out.size HB.out⟩
  | true =>
   have HI : Ad (impl_GoodReplica.o K n me none l2 = some r) := ⟨HJ.out⟩
   clear HJ
   have qr3 : W2.cell? ⟨gr, 3, none⟩ = some (.slice A2 l2.length c2) := (Kc (Kb BR.out HB.out) 3).trans rfl
   have hml : l2.length ≤ 9223372036854775807 := H2.out.2.1
   go_wp2
   clear qr3
   go_loopg [22] l2.length (fun gg v wr => ∃ i : Nat, i ≤ l2.length ∧ l2.length - i ≤ gg ∧ v = .int .i64 i ∧ Ad (Below W0.heap.size W0 wr) ∧ Ad (impl_GoodReplica.o K n me (impl_GoodReplica.pv l2 i) (l2.drop i) = some r))
   case atStart => exact ⟨0, Nat.zero_le _, by omega, by first | rfl | simp, HB, ⟨by rw [List.drop_zero]; exact HI.out⟩⟩
   case round =>
    clear HB HI
    obtain ⟨i, hi, hgg, rfl, HB, HI⟩ := hrel
    by_cases hlt : i < l2.length
    ·have hltz : (i : Int) < (l2.length : Int) := by omega
     obtain ⟨ad, A10, c10, A12, c12, A14, c14, A15, c15, e9, hx0, hx1, hx2, hx3, hx4, hx5, hx6, hx7, hx8, hx9, hx10, hx11, hx12, hx13, hx14, hx15, m10, h10, m12, h12, m14, h14, m15, h15⟩ := at_T77 (Cb H2.out (Bh HZ.out HZ.out.size HB.out)) (i : Int) (by omega) hltz
     subst e9
     simp only [Int.toNat_natCast] at hx0 hx1 hx2 hx3 hx4 hx5 hx6 hx7 hx8 hx9 hx10 hx11 hx12 hx13 hx14 hx15
     have he : l2.getD i z77 = rd_T77 l2 (i : Int) := by unfold rd_T77; rw [Int.toNat_natCast]
     have hI := HI.out
     rw [Mine.drop_at l2 z77 i hlt, he] at hI
     have hpv := impl_GoodReplica.pvs l2 i
     rw [he] at hpv
     clear HI he
     generalize rd_T77 l2 (i : Int) = x at hx0 hx1 hx2 hx3 hx4 hx5 hx6 hx7 hx8 hx9 hx10 hx11 hx12 hx13 hx14 hx15 hI hpv m10 h10 m12 h12 m14 h14 m15 h15
     have HPV := Am hpv
     have HI := Am hI
     have H10 := Am h10
     have H12 := Am h12
     have H14 := Am h14
     have H15 := Am h15
     have HCS : Ad (impl_GoodReplica.Cs wr (ad.add (i * 16)).block (ad.add (i * 16)).off [.int .i64 x.f0, .int .i64 x.f1, .int .i64 x.f2, .int .i64 x.f3, .int .i64 x.f4.f0, .int .i64 x.f4.f1, .int .i64 x.f4.f2, .int .i64 x.f4.f3, .int .i64 x.f4.f4, .int .i64 x.f5.f0, .slice A10 x.f5.f1.length c10, .int .i64 x.f6.f0, .slice A12 x.f6.f1.length c12, .bool x.f7, .slice A14 x.f8.length c14, .slice A15 x.f9.length c15]) := ⟨(by rw [← impl_GoodReplica.spot hx0]; exact hx0), hx1, hx2, hx3, hx4, hx5, hx6, hx7, hx8, hx9, hx10, hx11, hx12, hx13, hx14, hx15, trivial⟩
     have HX0 := Am hx0
     clear hI hpv hx0 hx1 hx2 hx3 hx4 hx5 hx6 hx7 hx8 hx9 hx10 hx11 hx12 hx13 hx14 hx15 h10 h12 h14 h15
     go_upto_region 6 with ((refine Gd (N := 26) rfl ?_); refine Kd.event_run rfl (impl_GoodReplica.mid HCS.out HX0.out 16 rfl 77 _ (by rfl) (by rfl) _ Try.underlying77 rfl (by kernel_rfl)) ?_)
     refine letC (fun W_ => ∃ gl : Nat, gl = wr.heap.size ∧ Below wr.heap.size wr W_ ∧ W_.heap[gl]? = some (.cells #[.int .i64 x.f0, .int .i64 x.f1, .int .i64 x.f2, .int .i64 x.f3, .int .i64 x.f4.f0, .int .i64 x.f4.f1, .int .i64 x.f4.f2, .int .i64 x.f4.f3, .int .i64 x.f4.f4, .int .i64 x.f5.f0, .slice A10 x.f5.f1.length c10, .int .i64 x.f6.f0, .slice A12 x.f6.f1.length c12, .bool x.f7, .slice A14 x.f8.length c14, .slice A15 x.f9.length c15] 77 (0, 0))) ⟨_, rfl, Ba (Below.refl _ _) _, by simpa using blk_new wr (.cells #[.int .i64 x.f0, .int .i64 x.f1, .int .i64 x.f2, .int .i64 x.f3, .int .i64 x.f4.f0, .int .i64 x.f4.f1, .int .i64 x.f4.f2, .int .i64 x.f4.f3, .int .i64 x.f4.f4, .int .i64 x.f5.f0, .slice A10 x.f5.f1.length c10, .int .i64 x.f6.f0, .slice A12 x.f6.f1.length c12, .bool x.f7, .slice A14 x.f8.length c14, .slice A15 x.f9.length c15] 77)⟩ ?_
     rintro W3 ⟨gl, e_gl, hb, x_gl⟩
     replace HB := Am (Bh HB.out HB.out.size hb)
     replace H10 := Am (Cb H10.out hb)
     replace H12 := Am (Cb H12.out hb)
     replace H14 := Am (Cb H14.out hb)
     replace H15 := Am (Cb H15.out hb)
     have BL := Am x_gl
     rw [← e_gl]
     clear hb x_gl e_gl HCS HX0
     obtain ⟨b, HF, HJ⟩ := impl_GoodReplica.two (show ((impl_goodLead.f K n me x).bind fun b => if b = true then impl_GoodReplica.nx K (impl_GoodReplica.pv l2 i) x (impl_GoodReplica.o K n me (some (x.f0, x.f1)) (l2.drop (i + 1))) else some false) = some r from HI.out)
     clear HI
     cases b with
     | false =>
      go_wp2_with fail
      have hbd : Below W3.heap.size W3 W3.drew := below_drew (Below.refl _ _)
      refine start_ (n := 36) (S := fun w' => w'.heap[gr]? = some (.cells #[.int .i64 me, .int .i64 n, .slice A1 l1.length c1, .slice (some ad) l2.length c2] 53 (0, 0)) ∧ w'.heap[gl]? = some (.cells #[.int .i64 x.f0, .int .i64 x.f1, .int .i64 x.f2, .int .i64 x.f3, .int .i64 x.f4.f0, .int .i64 x.f4.f1, .int .i64 x.f4.f2, .int .i64 x.f4.f3, .int .i64 x.f4.f4, .int .i64 x.f5.f0, .slice A10 x.f5.f1.length c10, .int .i64 x.f6.f0, .slice A12 x.f6.f1.length c12, .bool x.f7, .slice A14 x.f8.length c14, .slice A15 x.f9.length c15] 77 (0, 0))) (ds := []) #[false, false, false, false, false, false, false, false, false, false, false, false, false, false, false, false, false, false, false, false, false, false, false, false, false, false, false, false, false, false, false, false, false, false, false, false] (by kernel_rfl) rfl rfl ⟨Kb (Kb BR.out HB.out) hbd, Kb BL.out hbd⟩ (fun hHeld => ?_); refine with_tabW impl_GoodReplica.tab6 impl_GoodReplica.bits6 (fun HT_ HW_ => ?_)
      have hb := hbd
      clear hbd
      generalize W3.drew = W4 at hb hHeld ⊢
      replace HB := Am (Bh HB.out HB.out.size hb)
      replace BL := Am (Kb BL.out hb)
      replace H10 := Am (Cb H10.out hb)
      replace H12 := Am (Cb H12.out hb)
      replace H14 := Am (Cb H14.out hb)
      replace H15 := Am (Cb H15.out hb)
      clear hb
      refine pure_ (i := 0) (N := some 27) (v := ?_) (a' := ?_) #[true, false, false, false, false, false, false, false, false, false, false, false, false, false, false, false, false, false, false, false, false, false, false, false, false, false, false, false, false, false, false, false, false, false, false, false] rfl rfl (any_of HT_.out (by kernel_rfl)) (fun _ _ _ h => h) (Or.inl ⟨by rfl, ?_⟩) ?_ ?_
      rotate_left
      ·intro w'
       go_simp
       with_reducible rfl
      rotate_left
      ·simp only [Act.put, Lt, Lz, Ls, i64_w, i32_w]
       rfl
      refine pure_ (i := 1) (N := some 28) (v := ?_) (a' := ?_) #[true, true, false, false, false, false, false, false, false, false, false, false, false, false, false, false, false, false, false, false, false, false, false, false, false, false, false, false, false, false, false, false, false, false, false, false] rfl rfl (any_of HT_.out (by kernel_rfl)) (fun _ _ _ h => h) (Or.inl ⟨by rfl, ?_⟩) ?_ ?_
      rotate_left
      ·intro w'
       go_simp
       with_reducible rfl
      rotate_left
      ·simp only [Act.put, Lt, Lz, Ls, i64_w, i32_w]
       rfl
      refine pure_ (i := 3) (N := some 30) (v := ?_) (a' := ?_) #[true, true, false, true, false, false, false, false, false, false, false, false, false, false, false, false, false, false, false, false, false, false, false, false, false, false, false, false, false, false, false, false, false, false, false, false] rfl rfl (any_of HT_.out (by kernel_rfl)) (fun _ _ _ h => h) (Or.inl ⟨by rfl, ?_⟩) ?_ ?_
      rotate_left
      ·intro w'
       go_simp
       with_reducible rfl
      rotate_left
      ·simp only [Act.put, Lt, Lz, Ls, i64_w, i32_w]
       rfl
      refine take_ (i := 2) (N := some 29) (v := ?_) (a' := ?_) #[true, true, true, true, false, false, false, false, false, false, false, false, false, false, false, false, false, false, false, false, false, false, false, false, false, false, false, false, false, false, false, false, false, false, false, false] rfl rfl (take_ofW HT_.out HW_.out (by kernel_rfl)) (fun _ _ _ h => h) (Or.inl ⟨by rfl, ?_⟩) hHeld ?_ ?_
      rotate_left
      ·rintro w' ⟨s0, s1⟩
       have q_ : w'.cell? ⟨gr, 1, none⟩ = some (.int .i64 n) := (Kc s0 1).trans rfl
       go_simp
       with_reducible rfl
      rotate_left
      ·simp only [Act.put, Lt, Lz, Ls, i64_w, i32_w]
       rfl
      refine take_ (i := 4) (N := some 31) (v := ?_) (a' := ?_) #[true, true, true, true, true, false, false, false, false, false, false, false, false, false, false, false, false, false, false, false, false, false, false, false, false, false, false, false, false, false, false, false, false, false, false, false] rfl rfl (take_ofW HT_.out HW_.out (by kernel_rfl)) (fun _ _ _ h => h) (Or.inl ⟨by rfl, ?_⟩) hHeld ?_ ?_
      rotate_left
      ·rintro w' ⟨s0, s1⟩
       have q_ : w'.cell? ⟨gr, 0, none⟩ = some (.int .i64 me) := (Kc s0 0).trans rfl
       go_simp
       with_reducible rfl
      rotate_left
      ·simp only [Act.put, Lt, Lz, Ls, i64_w, i32_w]
       rfl
      refine take_ (i := 5) (N := some 32) (v := ?_) (a' := ?_) #[true, true, true, true, true, true, false, false, false, false, false, false, false, false, false, false, false, false, false, false, false, false, false, false, false, false, false, false, false, false, false, false, false, false, false, false] rfl rfl (take_ofW HT_.out HW_.out (by kernel_rfl)) (fun _ _ _ h => h) (Or.inl ⟨by rfl, ?_⟩) hHeld ?_ ?_
      rotate_left
      ·rintro w' ⟨s0, s1⟩
       refine Eq.trans (impl_GoodReplica.load1 s1 16 rfl 77 _ (by rfl) (by rfl) _ Try.underlying77 rfl (by kernel_rfl)) ?_
       with_reducible rfl
      rotate_left
      ·simp only [Act.put, Lt, Lz, Ls, i64_w, i32_w]
       rfl
      refine one_ (i := 6) (N := some 33) #[true, true, true, true, true, true, true, false, false, false, false, false, false, false, false, false, false, false, false, false, false, false, false, false, false, false, false, false, false, false, false, false, false, false, false, false] rfl rfl (one_of HT_.out (by kernel_rfl)) (by decide) (fun Kc hK => ?_)
      refine goes_ Try.func38 (by kernel_rfl) rfl #[.int .i64 n, .int .i64 me, .agg #[.int .i64 x.f0, .int .i64 x.f1, .int .i64 x.f2, .int .i64 x.f3, .int .i64 x.f4.f0, .int .i64 x.f4.f1, .int .i64 x.f4.f2, .int .i64 x.f4.f3, .int .i64 x.f4.f4, .int .i64 x.f5.f0, .slice A10 x.f5.f1.length c10, .int .i64 x.f6.f0, .slice A12 x.f6.f1.length c12, .bool x.f7, .slice A14 x.f8.length c14, .slice A15 x.f9.length c15]] (by rfl) rfl rfl (by (try simp only [List.map_toArray, List.map_cons, List.map_nil]); first | done | rfl) ?_
      (refine (impl_goodLead.calls K n me x A10 c10 A12 c12 A14 c14 A15 c15 false W4 H10.out m10 H12.out m12 H14.out m14 H15.out m15 HF.out).mono ?_)
      rintro e W5 ⟨rfl, hb⟩
      refine ⟨_, rfl, ?_⟩
      replace HB := Am (Bh HB.out HB.out.size hb)
      replace BL := Am (Kb BL.out hb)
      clear hb
      clear H10 H12 H14 H15
      refine hK.out _ _ ⟨Kb BR.out HB.out, BL.out⟩ (fun hHeld => ?_)
      clear hK Kc
      refine norm_ (a' := ?_) ?_ ?_
      rotate_left
      ·show Act.put _ (some 33) _ = _
       simp only [Act.put, Lt, Lz, Ls, i64_w, i32_w]
       rfl
      refine pure_ (i := 7) (N := some 34) (v := ?_) (a' := ?_) #[true, true, true, true, true, true, true, true, false, false, false, false, false, false, false, false, false, false, false, false, false, false, false, false, false, false, false, false, false, false, false, false, false, false, false, false] rfl rfl (any_of HT_.out (by kernel_rfl)) (fun _ _ _ h => h) (Or.inl ⟨by rfl, ?_⟩) ?_ ?_
      rotate_left
      ·intro w'
       go_simp
       with_reducible rfl
      rotate_left
      ·simp only [Act.put, Lt, Lz, Ls, i64_w, i32_w]
       rfl
      refine pure_ (i := 8) (N := some 35) (v := ?_) (a' := ?_) #[true, true, true, true, true, true, true, true, true, false, false, false, false, false, false, false, false, false, false, false, false, false, false, false, false, false, false, false, false, false, false, false, false, false, false, false] rfl rfl (any_of HT_.out (by kernel_rfl)) (fun _ _ _ h => h) (Or.inl ⟨by rfl, ?_⟩) ?_ ?_
      rotate_left
      ·intro w'
       go_simp
       with_reducible rfl
      rotate_left
      ·simp only [Act.put, Lt, Lz, Ls, i64_w, i32_w]
       rfl
      refine pure_ (i := 9) (N := some 36) (v := undef) (a' := ?_) #[true, true, true, true, true, true, true, true, true, true, false, false, false, false, false, false, false, false, false, false, false, false, false, false, false, false, false, false, false, false, false, false, false, false, false, false] rfl rfl (any_of HT_.out (by kernel_rfl)) (fun _ _ _ h => h) (Or.inr ⟨by rfl, rfl⟩) ?_ ?_
      rotate_left
      ·simp only [Act.put, Lt, Lz, Ls, i64_w, i32_w]
       rfl
      refine pure_ (i := 10) (N := some 37) (v := undef) (a' := ?_) #[true, true, true, true, true, true, true, true, true, true, true, false, false, false, false, false, false, false, false, false, false, false, false, false, false, false, false, false, false, false, false, false, false, false, false, false] rfl rfl (any_of HT_.out (by kernel_rfl)) (fun _ _ _ h => h) (Or.inr ⟨by rfl, rfl⟩) ?_ ?_
      rotate_left
      ·simp only [Act.put, Lt, Lz, Ls, i64_w, i32_w]
       rfl
      refine pure_ (i := 11) (N := some 38) (v := undef) (a' := ?_) #[true, true, true, true, true, true, true, true, true, true, true, true, false, false, false, false, false, false, false, false, false, false, false, false, false, false, false, false, false, false, false, false, false, false, false, false] rfl rfl (any_of HT_.out (by kernel_rfl)) (fun _ _ _ h => h) (Or.inr ⟨by rfl, rfl⟩) ?_ ?_
      rotate_left
      ·simp only [Act.put, Lt, Lz, Ls, i64_w, i32_w]
       rfl
      refine pure_ (i := 12) (N := some 39) (v := undef) (a' := ?_) #[true, true, true, true, true, true, true, true, true, true, true, true, true, false, false, false, false, false, false, false, false, false, false, false, false, false, false, false, false, false, false, false, false, false, false, false] rfl rfl (any_of HT_.out (by kernel_rfl)) (fun _ _ _ h => h) (Or.inr ⟨by rfl, rfl⟩) ?_ ?_
      rotate_left
      ·simp only [Act.put, Lt, Lz, Ls, i64_w, i32_w]
       rfl
      refine pure_ (i := 13) (N := some 40) (v := undef) (a' := ?_) #[true, true, true, true, true, true, true, true, true, true, true, true, true, true, false, false, false, false, false, false, false, false, false, false, false, false, false, false, false, false, false, false, false, false, false, false] rfl rfl (any_of HT_.out (by kernel_rfl)) (fun _ _ _ h => h) (Or.inr ⟨by rfl, rfl⟩) ?_ ?_
      rotate_left
      ·simp only [Act.put, Lt, Lz, Ls, i64_w, i32_w]
       rfl
      refine pure_ (i := 14) (N := some 41) (v := undef) (a' := ?_) #[true, true, true, true, true, true, true, true, true, true, true, true, true, true, true, false, false, false, false, false, false, false, false, false, false, false, false, false, false, false, false, false, false, false, false, false] rfl rfl (any_of HT_.out (by kernel_rfl)) (fun _ _ _ h => h) (Or.inr ⟨by rfl, rfl⟩) ?_ ?_
      rotate_left
      ·simp only [Act.put, Lt, Lz, Ls, i64_w, i32_w]
       rfl
      refine pure_ (i := 15) (N := some 42) (v := undef) (a' := ?_) #[true, true, true, true, true, true, true, true, true, true, true, true, true, true, true, true, false, false, false, false, false, false, false, false, false, false, false, false, false, false, false, false, false, false, false, false] rfl rfl (any_of HT_.out (by kernel_rfl)) (fun _ _ _ h => h) (Or.inr ⟨by rfl, rfl⟩) ?_ ?_
      rotate_left
      ·simp only [Act.put, Lt, Lz, Ls, i64_w, i32_w]
       rfl
      refine pure_ (i := 16) (N := some 43) (v := undef) (a' := ?_) #[true, true, true, true, true, true, true, true, true, true, true, true, true, true, true, true, true, false, false, false, false, false, false, false, false, false, false, false, false, false, false, false, false, false, false, false] rfl rfl (any_of HT_.out (by kernel_rfl)) (fun _ _ _ h => h) (Or.inr ⟨by rfl, rfl⟩) ?_ ?_
      rotate_left
      ·simp only [Act.put, Lt, Lz, Ls, i64_w, i32_w]
       rfl
      refine pure_ (i := 17) (N := some 44) (v := undef) (a' := ?_) #[true, true, true, true, true, true, true, true, true, true, true, true, true, true, true, true, true, true, false, false, false, false, false, false, false, false, false, false, false, false, false, false, false, false, false, false] rfl rfl (any_of HT_.out (by kernel_rfl)) (fun _ _ _ h => h) (Or.inr ⟨by rfl, rfl⟩) ?_ ?_
      rotate_left
      ·simp only [Act.put, Lt, Lz, Ls, i64_w, i32_w]
       rfl
      refine pure_ (i := 18) (N := some 45) (v := undef) (a' := ?_) #[true, true, true, true, true, true, true, true, true, true, true, true, true, true, true, true, true, true, true, false, false, false, false, false, false, false, false, false, false, false, false, false, false, false, false, false] rfl rfl (any_of HT_.out (by kernel_rfl)) (fun _ _ _ h => h) (Or.inr ⟨by rfl, rfl⟩) ?_ ?_
      rotate_left
      ·simp only [Act.put, Lt, Lz, Ls, i64_w, i32_w]
       rfl
      refine pure_ (i := 19) (N := some 46) (v := undef) (a' := ?_) #[true, true, true, true, true, true, true, true, true, true, true, true, true, true, true, true, true, true, true, true, false, false, false, false, false, false, false, false, false, false, false, false, false, false, false, false] rfl rfl (any_of HT_.out (by kernel_rfl)) (fun _ _ _ h => h) (Or.inr ⟨by rfl, rfl⟩) ?_ ?_
      rotate_left
      ·simp only [Act.put, Lt, Lz, Ls, i64_w, i32_w]
       rfl
      refine pure_ (i := 20) (N := some 47) (v := undef) (a' := ?_) #[true, true, true, true, true, true, true, true, true, true, true, true, true, true, true, true, true, true, true, true, true, false, false, false, false, false, false, false, false, false, false, false, false, false, false, false] rfl rfl (any_of HT_.out (by kernel_rfl)) (fun _ _ _ h => h) (Or.inr ⟨by rfl, rfl⟩) ?_ ?_
      rotate_left
      ·simp only [Act.put, Lt, Lz, Ls, i64_w, i32_w]
       rfl
      refine pure_ (i := 21) (N := some 48) (v := undef) (a' := ?_) #[true, true, true, true, true, true, true, true, true, true, true, true, true, true, true, true, true, true, true, true, true, true, false, false, false, false, false, false, false, false, false, false, false, false, false, false] rfl rfl (any_of HT_.out (by kernel_rfl)) (fun _ _ _ h => h) (Or.inr ⟨by rfl, rfl⟩) ?_ ?_
      rotate_left
      ·simp only [Act.put, Lt, Lz, Ls, i64_w, i32_w]
       rfl
      refine pure_ (i := 22) (N := some 49) (v := undef) (a' := ?_) #[true, true, true, true, true, true, true, true, true, true, true, true, true, true, true, true, true, true, true, true, true, true, true, false, false, false, false, false, false, false, false, false, false, false, false, false] rfl rfl (any_of HT_.out (by kernel_rfl)) (fun _ _ _ h => h) (Or.inr ⟨by rfl, rfl⟩) ?_ ?_
      rotate_left
      ·simp only [Act.put, Lt, Lz, Ls, i64_w, i32_w]
       rfl
      refine pure_ (i := 23) (N := some 50) (v := undef) (a' := ?_) #[true, true, true, true, true, true, true, true, true, true, true, true, true, true, true, true, true, true, true, true, true, true, true, true, false, false, false, false, false, false, false, false, false, false, false, false] rfl rfl (any_of HT_.out (by kernel_rfl)) (fun _ _ _ h => h) (Or.inr ⟨by rfl, rfl⟩) ?_ ?_
      rotate_left
      ·simp only [Act.put, Lt, Lz, Ls, i64_w, i32_w]
       rfl
      refine pure_ (i := 24) (N := some 51) (v := undef) (a' := ?_) #[true, true, true, true, true, true, true, true, true, true, true, true, true, true, true, true, true, true, true, true, true, true, true, true, true, false, false, false, false, false, false, false, false, false, false, false] rfl rfl (any_of HT_.out (by kernel_rfl)) (fun _ _ _ h => h) (Or.inr ⟨by rfl, rfl⟩) ?_ ?_
      rotate_left
      ·simp only [Act.put, Lt, Lz, Ls, i64_w, i32_w]
       rfl
      refine pure_ (i := 25) (N := some 52) (v := undef) (a' := ?_) #[true, true, true, true, true, true, true, true, true, true, true, true, true, true, true, true, true, true, true, true, true, true, true, true, true, true, false, false, false, false, false, false, false, false, false, false] rfl rfl (any_of HT_.out (by kernel_rfl)) (fun _ _ _ h => h) (Or.inr ⟨by rfl, rfl⟩) ?_ ?_
      rotate_left
      ·simp only [Act.put, Lt, Lz, Ls, i64_w, i32_w]
       rfl
      refine pure_ (i := 26) (N := some 53) (v := undef) (a' := ?_) #[true, true, true, true, true, true, true, true, true, true, true, true, true, true, true, true, true, true, true, true, true, true, true, true, true, true, true, false, false, false, false, false, false, false, false, false] rfl rfl (any_of HT_.out (by kernel_rfl)) (fun _ _ _ h => h) (Or.inr ⟨by rfl, rfl⟩) ?_ ?_
      rotate_left
      ·simp only [Act.put, Lt, Lz, Ls, i64_w, i32_w]
       rfl
      refine pure_ (i := 27) (N := some 54) (v := undef) (a' := ?_) #[true, true, true, true, true, true, true, true, true, true, true, true, true, true, true, true, true, true, true, true, true, true, true, true, true, true, true, true, false, false, false, false, false, false, false, false] rfl rfl (any_of HT_.out (by kernel_rfl)) (fun _ _ _ h => h) (Or.inr ⟨by rfl, rfl⟩) ?_ ?_
      rotate_left
      ·simp only [Act.put, Lt, Lz, Ls, i64_w, i32_w]
       rfl
      refine pure_ (i := 28) (N := some 55) (v := undef) (a' := ?_) #[true, true, true, true, true, true, true, true, true, true, true, true, true, true, true, true, true, true, true, true, true, true, true, true, true, true, true, true, true, false, false, false, false, false, false, false] rfl rfl (any_of HT_.out (by kernel_rfl)) (fun _ _ _ h => h) (Or.inr ⟨by rfl, rfl⟩) ?_ ?_
      rotate_left
      ·simp only [Act.put, Lt, Lz, Ls, i64_w, i32_w]
       rfl
      refine pure_ (i := 29) (N := some 56) (v := undef) (a' := ?_) #[true, true, true, true, true, true, true, true, true, true, true, true, true, true, true, true, true, true, true, true, true, true, true, true, true, true, true, true, true, true, false, false, false, false, false, false] rfl rfl (any_of HT_.out (by kernel_rfl)) (fun _ _ _ h => h) (Or.inr ⟨by rfl, rfl⟩) ?_ ?_
      rotate_left
      ·simp only [Act.put, Lt, Lz, Ls, i64_w, i32_w]
       rfl
      refine pure_ (i := 30) (N := some 57) (v := undef) (a' := ?_) #[true, true, true, true, true, true, true, true, true, true, true, true, true, true, true, true, true, true, true, true, true, true, true, true, true, true, true, true, true, true, true, false, false, false, false, false] rfl rfl (any_of HT_.out (by kernel_rfl)) (fun _ _ _ h => h) (Or.inr ⟨by rfl, rfl⟩) ?_ ?_
      rotate_left
      ·simp only [Act.put, Lt, Lz, Ls, i64_w, i32_w]
       rfl
      refine pure_ (i := 31) (N := some 58) (v := undef) (a' := ?_) #[true, true, true, true, true, true, true, true, true, true, true, true, true, true, true, true, true, true, true, true, true, true, true, true, true, true, true, true, true, true, true, true, false, false, false, false] rfl rfl (any_of HT_.out (by kernel_rfl)) (fun _ _ _ h => h) (Or.inr ⟨by rfl, rfl⟩) ?_ ?_
      rotate_left
      ·simp only [Act.put, Lt, Lz, Ls, i64_w, i32_w]
       rfl
      refine pure_ (i := 32) (N := some 59) (v := undef) (a' := ?_) #[true, true, true, true, true, true, true, true, true, true, true, true, true, true, true, true, true, true, true, true, true, true, true, true, true, true, true, true, true, true, true, true, true, false, false, false] rfl rfl (any_of HT_.out (by kernel_rfl)) (fun _ _ _ h => h) (Or.inr ⟨by rfl, rfl⟩) ?_ ?_
      rotate_left
      ·simp only [Act.put, Lt, Lz, Ls, i64_w, i32_w]
       rfl
      refine pure_ (i := 33) (N := some 60) (v := undef) (a' := ?_) #[true, true, true, true, true, true, true, true, true, true, true, true, true, true, true, true, true, true, true, true, true, true, true, true, true, true, true, true, true, true, true, true, true, true, false, false] rfl rfl (any_of HT_.out (by kernel_rfl)) (fun _ _ _ h => h) (Or.inr ⟨by rfl, rfl⟩) ?_ ?_
      rotate_left
      ·simp only [Act.put, Lt, Lz, Ls, i64_w, i32_w]
       rfl
      refine pure_ (i := 34) (N := some 61) (v := undef) (a' := ?_) #[true, true, true, true, true, true, true, true, true, true, true, true, true, true, true, true, true, true, true, true, true, true, true, true, true, true, true, true, true, true, true, true, true, true, true, false] rfl rfl (any_of HT_.out (by kernel_rfl)) (fun _ _ _ h => h) (Or.inr ⟨by rfl, rfl⟩) ?_ ?_
      rotate_left
      ·simp only [Act.put, Lt, Lz, Ls, i64_w, i32_w]
       rfl
      refine pure_ (i := 35) (N := some 62) (v := ?_) (a' := ?_) #[true, true, true, true, true, true, true, true, true, true, true, true, true, true, true, true, true, true, true, true, true, true, true, true, true, true, true, true, true, true, true, true, true, true, true, true] rfl rfl (any_of HT_.out (by kernel_rfl)) (fun _ _ _ h => h) (Or.inl ⟨by rfl, ?_⟩) ?_ ?_
      rotate_left
      ·intro w'
       go_simp
       with_reducible rfl
      rotate_left
      ·simp only [Act.put, Lt, Lz, Ls, i64_w, i32_w]
       rfl
      refine done_ (done_of HT_.out (by kernel_rfl)) ?_
      clear hHeld HT_ HW_
      obtain rfl : false = r := Option.some.inj HJ.out
      clear HJ
      go_wp2
      go_ret
      exact ⟨rfl, Bh HZ.out HZ.out.size HB.out⟩
     | true =>
      have HI : Ad (impl_GoodReplica.nx K (impl_GoodReplica.pv l2 i) x (impl_GoodReplica.o K n me (some (x.f0, x.f1)) (l2.drop (i + 1))) = some r) := ⟨HJ.out⟩
      rw [← HPV.out] at HI
      clear HJ
      by_cases hi0 : i = 0
      ·skip
       subst hi0
       have HI : Ad (impl_GoodReplica.o K n me (impl_GoodReplica.pv l2 (0 + 1)) (l2.drop (0 + 1)) = some r) := ⟨HI.out⟩
       go_wp2_with fail
       have hbd : Below W3.heap.size W3 W3.drew := below_drew (Below.refl _ _)
       refine start_ (n := 36) (S := fun w' => w'.heap[gr]? = some (.cells #[.int .i64 me, .int .i64 n, .slice A1 l1.length c1, .slice (some ad) l2.length c2] 53 (0, 0)) ∧ w'.heap[gl]? = some (.cells #[.int .i64 x.f0, .int .i64 x.f1, .int .i64 x.f2, .int .i64 x.f3, .int .i64 x.f4.f0, .int .i64 x.f4.f1, .int .i64 x.f4.f2, .int .i64 x.f4.f3, .int .i64 x.f4.f4, .int .i64 x.f5.f0, .slice A10 x.f5.f1.length c10, .int .i64 x.f6.f0, .slice A12 x.f6.f1.length c12, .bool x.f7, .slice A14 x.f8.length c14, .slice A15 x.f9.length c15] 77 (0, 0))) (ds := []) #[false, false, false, false, false, false, false, false, false, false, false, false, false, false, false, false, false, false, false, false, false, false, false, false, false, false, false, false, false, false, false, false, false, false, false, false] (by kernel_rfl) rfl rfl ⟨Kb (Kb BR.out HB.out) hbd, Kb BL.out hbd⟩ (fun hHeld => ?_); refine with_tabW impl_GoodReplica.tab6 impl_GoodReplica.bits6 (fun HT_ HW_ => ?_)
       have hb := hbd
       clear hbd
       generalize W3.drew = W6 at hb hHeld ⊢
       replace HB := Am (Bh HB.out HB.out.size hb)
       replace BL := Am (Kb BL.out hb)
       replace H10 := Am (Cb H10.out hb)
       replace H12 := Am (Cb H12.out hb)
       replace H14 := Am (Cb H14.out hb)
       replace H15 := Am (Cb H15.out hb)
       clear hb
       refine pure_ (i := 0) (N := some 27) (v := ?_) (a' := ?_) #[true, false, false, false, false, false, false, false, false, false, false, false, false, false, false, false, false, false, false, false, false, false, false, false, false, false, false, false, false, false, false, false, false, false, false, false] rfl rfl (any_of HT_.out (by kernel_rfl)) (fun _ _ _ h => h) (Or.inl ⟨by rfl, ?_⟩) ?_ ?_
       rotate_left
       ·intro w'
        go_simp
        with_reducible rfl
       rotate_left
       ·simp only [Act.put, Lt, Lz, Ls, i64_w, i32_w]
        rfl
       refine pure_ (i := 1) (N := some 28) (v := ?_) (a' := ?_) #[true, true, false, false, false, false, false, false, false, false, false, false, false, false, false, false, false, false, false, false, false, false, false, false, false, false, false, false, false, false, false, false, false, false, false, false] rfl rfl (any_of HT_.out (by kernel_rfl)) (fun _ _ _ h => h) (Or.inl ⟨by rfl, ?_⟩) ?_ ?_
       rotate_left
       ·intro w'
        go_simp
        with_reducible rfl
       rotate_left
       ·simp only [Act.put, Lt, Lz, Ls, i64_w, i32_w]
        rfl
       refine pure_ (i := 3) (N := some 30) (v := ?_) (a' := ?_) #[true, true, false, true, false, false, false, false, false, false, false, false, false, false, false, false, false, false, false, false, false, false, false, false, false, false, false, false, false, false, false, false, false, false, false, false] rfl rfl (any_of HT_.out (by kernel_rfl)) (fun _ _ _ h => h) (Or.inl ⟨by rfl, ?_⟩) ?_ ?_
       rotate_left
       ·intro w'
        go_simp
        with_reducible rfl
       rotate_left
       ·simp only [Act.put, Lt, Lz, Ls, i64_w, i32_w]
        rfl
       refine take_ (i := 2) (N := some 29) (v := ?_) (a' := ?_) #[true, true, true, true, false, false, false, false, false, false, false, false, false, false, false, false, false, false, false, false, false, false, false, false, false, false, false, false, false, false, false, false, false, false, false, false] rfl rfl (take_ofW HT_.out HW_.out (by kernel_rfl)) (fun _ _ _ h => h) (Or.inl ⟨by rfl, ?_⟩) hHeld ?_ ?_
       rotate_left
       ·rintro w' ⟨s0, s1⟩
        have q_ : w'.cell? ⟨gr, 1, none⟩ = some (.int .i64 n) := (Kc s0 1).trans rfl
        go_simp
        with_reducible rfl
       rotate_left
       ·simp only [Act.put, Lt, Lz, Ls, i64_w, i32_w]
        rfl
       refine take_ (i := 4) (N := some 31) (v := ?_) (a' := ?_) #[true, true, true, true, true, false, false, false, false, false, false, false, false, false, false, false, false, false, false, false, false, false, false, false, false, false, false, false, false, false, false, false, false, false, false, false] rfl rfl (take_ofW HT_.out HW_.out (by kernel_rfl)) (fun _ _ _ h => h) (Or.inl ⟨by rfl, ?_⟩) hHeld ?_ ?_
       rotate_left
       ·rintro w' ⟨s0, s1⟩
        have q_ : w'.cell? ⟨gr, 0, none⟩ = some (.int .i64 me) := (Kc s0 0).trans rfl
        go_simp
        with_reducible rfl
       rotate_left
       ·simp only [Act.put, Lt, Lz, Ls, i64_w, i32_w]
        rfl
       refine take_ (i := 5) (N := some 32) (v := ?_) (a' := ?_) #[true, true, true, true, true, true, false, false, false, false, false, false, false, false, false, false, false, false, false, false, false, false, false, false, false, false, false, false, false, false, false, false, false, false, false, false] rfl rfl (take_ofW HT_.out HW_.out (by kernel_rfl)) (fun _ _ _ h => h) (Or.inl ⟨by rfl, ?_⟩) hHeld ?_ ?_
       rotate_left
       ·rintro w' ⟨s0, s1⟩
        refine Eq.trans (impl_GoodReplica.load1 s1 16 rfl 77 _ (by rfl) (by rfl) _ Try.underlying77 rfl (by kernel_rfl)) ?_
        with_reducible rfl
       rotate_left
       ·simp only [Act.put, Lt, Lz, Ls, i64_w, i32_w]
        rfl
       refine one_ (i := 6) (N := some 33) #[true, true, true, true, true, true, true, false, false, false, false, false, false, false, false, false, false, false, false, false, false, false, false, false, false, false, false, false, false, false, false, false, false, false, false, false] rfl rfl (one_of HT_.out (by kernel_rfl)) (by decide) (fun Kc hK => ?_)
       refine goes_ Try.func38 (by kernel_rfl) rfl #[.int .i64 n, .int .i64 me, .agg #[.int .i64 x.f0, .int .i64 x.f1, .int .i64 x.f2, .int .i64 x.f3, .int .i64 x.f4.f0, .int .i64 x.f4.f1, .int .i64 x.f4.f2, .int .i64 x.f4.f3, .int .i64 x.f4.f4, .int .i64 x.f5.f0, .slice A10 x.f5.f1.length c10, .int .i64 x.f6.f0, .slice A12 x.f6.f1.length c12, .bool x.f7, .slice A14 x.f8.length c14, .slice A15 x.f9.length c15]] (by rfl) rfl rfl (by (try simp only [List.map_toArray, List.map_cons, List.map_nil]); first | done | rfl) ?_
       (refine (impl_goodLead.calls K n me x A10 c10 A12 c12 A14 c14 A15 c15 true W6 H10.out m10 H12.out m12 H14.out m14 H15.out m15 HF.out).mono ?_)
       rintro e W7 ⟨rfl, hb⟩
       refine ⟨_, rfl, ?_⟩
       replace HB := Am (Bh HB.out HB.out.size hb)
       replace BL := Am (Kb BL.out hb)
       clear hb
       clear H10 H12 H14 H15
       refine hK.out _ _ ⟨Kb BR.out HB.out, BL.out⟩ (fun hHeld => ?_)
       clear hK Kc
       refine norm_ (a' := ?_) ?_ ?_
       rotate_left
       ·show Act.put _ (some 33) _ = _
        simp only [Act.put, Lt, Lz, Ls, i64_w, i32_w]
        rfl
       refine pure_ (i := 7) (N := some 34) (v := ?_) (a' := ?_) #[true, true, true, true, true, true, true, true, false, false, false, false, false, false, false, false, false, false, false, false, false, false, false, false, false, false, false, false, false, false, false, false, false, false, false, false] rfl rfl (any_of HT_.out (by kernel_rfl)) (fun _ _ _ h => h) (Or.inl ⟨by rfl, ?_⟩) ?_ ?_
       rotate_left
       ·intro w'
        go_simp
        with_reducible rfl
       rotate_left
       ·simp only [Act.put, Lt, Lz, Ls, i64_w, i32_w]
        rfl
       refine pure_ (i := 8) (N := some 35) (v := ?_) (a' := ?_) #[true, true, true, true, true, true, true, true, true, false, false, false, false, false, false, false, false, false, false, false, false, false, false, false, false, false, false, false, false, false, false, false, false, false, false, false] rfl rfl (any_of HT_.out (by kernel_rfl)) (fun _ _ _ h => h) (Or.inl ⟨by rfl, ?_⟩) ?_ ?_
       rotate_left
       ·intro w'
        go_simp
        with_reducible rfl
       rotate_left
       ·simp only [Act.put, Lt, Lz, Ls, i64_w, i32_w]
        rfl
       refine pure_ (i := 9) (N := some 36) (v := ?_) (a' := ?_) #[true, true, true, true, true, true, true, true, true, true, false, false, false, false, false, false, false, false, false, false, false, false, false, false, false, false, false, false, false, false, false, false, false, false, false, false] rfl rfl (any_of HT_.out (by kernel_rfl)) (fun _ _ _ h => h) (Or.inl ⟨by rfl, ?_⟩) ?_ ?_
       rotate_left
       ·intro w'
        go_simp
        with_reducible rfl
       rotate_left
       ·simp only [Act.put, Lt, Lz, Ls, i64_w, i32_w]
        rfl
       refine pure_ (i := 10) (N := some 37) (v := ?_) (a' := ?_) #[true, true, true, true, true, true, true, true, true, true, true, false, false, false, false, false, false, false, false, false, false, false, false, false, false, false, false, false, false, false, false, false, false, false, false, false] rfl rfl (any_of HT_.out (by kernel_rfl)) (fun _ _ _ h => h) (Or.inl ⟨by rfl, ?_⟩) ?_ ?_
       rotate_left
       ·intro w'
        go_simp
        with_reducible rfl
       rotate_left
       ·simp only [Act.put, Lt, Lz, Ls, i64_w, i32_w]
        rfl
       refine pure_ (i := 11) (N := some 38) (v := ?_) (a' := ?_) #[true, true, true, true, true, true, true, true, true, true, true, true, false, false, false, false, false, false, false, false, false, false, false, false, false, false, false, false, false, false, false, false, false, false, false, false] rfl rfl (any_of HT_.out (by kernel_rfl)) (fun _ _ _ h => h) (Or.inl ⟨by rfl, ?_⟩) ?_ ?_
       rotate_left
       ·intro w'
        go_simp
        with_reducible rfl
       rotate_left
       ·simp only [Act.put, Lt, Lz, Ls, i64_w, i32_w]
        rfl
       refine pure_ (i := 12) (N := some 39) (v := undef) (a' := ?_) #[true, true, true, true, true, true, true, true, true, true, true, true, true, false, false, false, false, false, false, false, false, false, false, false, false, false, false, false, false, false, false, false, false, false, false, false] rfl rfl (any_of HT_.out (by kernel_rfl)) (fun _ _ _ h => h) (Or.inr ⟨by rfl, rfl⟩) ?_ ?_
       rotate_left
       ·simp only [Act.put, Lt, Lz, Ls, i64_w, i32_w]
        rfl
       refine pure_ (i := 13) (N := some 40) (v := undef) (a' := ?_) #[true, true, true, true, true, true, true, true, true, true, true, true, true, true, false, false, false, false, false, false, false, false, false, false, false, false, false, false, false, false, false, false, false, false, false, false] rfl rfl (any_of HT_.out (by kernel_rfl)) (fun _ _ _ h => h) (Or.inr ⟨by rfl, rfl⟩) ?_ ?_
       rotate_left
       ·simp only [Act.put, Lt, Lz, Ls, i64_w, i32_w]
        rfl
       refine pure_ (i := 14) (N := some 41) (v := undef) (a' := ?_) #[true, true, true, true, true, true, true, true, true, true, true, true, true, true, true, false, false, false, false, false, false, false, false, false, false, false, false, false, false, false, false, false, false, false, false, false] rfl rfl (any_of HT_.out (by kernel_rfl)) (fun _ _ _ h => h) (Or.inr ⟨by rfl, rfl⟩) ?_ ?_
       rotate_left
       ·simp only [Act.put, Lt, Lz, Ls, i64_w, i32_w]
        rfl
       refine pure_ (i := 15) (N := some 42) (v := undef) (a' := ?_) #[true, true, true, true, true, true, true, true, true, true, true, true, true, true, true, true, false, false, false, false, false, false, false, false, false, false, false, false, false, false, false, false, false, false, false, false] rfl rfl (any_of HT_.out (by kernel_rfl)) (fun _ _ _ h => h) (Or.inr ⟨by rfl, rfl⟩) ?_ ?_
       rotate_left
       ·simp only [Act.put, Lt, Lz, Ls, i64_w, i32_w]
        rfl
       refine pure_ (i := 16) (N := some 43) (v := undef) (a' := ?_) #[true, true, true, true, true, true, true, true, true, true, true, true, true, true, true, true, true, false, false, false, false, false, false, false, false, false, false, false, false, false, false, false, false, false, false, false] rfl rfl (any_of HT_.out (by kernel_rfl)) (fun _ _ _ h => h) (Or.inr ⟨by rfl, rfl⟩) ?_ ?_
       rotate_left
       ·simp only [Act.put, Lt, Lz, Ls, i64_w, i32_w]
        rfl
       refine pure_ (i := 17) (N := some 44) (v := undef) (a' := ?_) #[true, true, true, true, true, true, true, true, true, true, true, true, true, true, true, true, true, true, false, false, false, false, false, false, false, false, false, false, false, false, false, false, false, false, false, false] rfl rfl (any_of HT_.out (by kernel_rfl)) (fun _ _ _ h => h) (Or.inr ⟨by rfl, rfl⟩) ?_ ?_
       rotate_left
       ·simp only [Act.put, Lt, Lz, Ls, i64_w, i32_w]
        rfl
       refine pure_ (i := 18) (N := some 45) (v := undef) (a' := ?_) #[true, true, true, true, true, true, true, true, true, true, true, true, true, true, true, true, true, true, true, false, false, false, false, false, false, false, false, false, false, false, false, false, false, false, false, false] rfl rfl (any_of HT_.out (by kernel_rfl)) (fun _ _ _ h => h) (Or.inr ⟨by rfl, rfl⟩) ?_ ?_
       rotate_left
       ·simp only [Act.put, Lt, Lz, Ls, i64_w, i32_w]
        rfl
       refine pure_ (i := 19) (N := some 46) (v := undef) (a' := ?_) #[true, true, true, true, true, true, true, true, true, true, true, true, true, true, true, true, true, true, true, true, false, false, false, false, false, false, false, false, false, false, false, false, false, false, false, false] rfl rfl (any_of HT_.out (by kernel_rfl)) (fun _ _ _ h => h) (Or.inr ⟨by rfl, rfl⟩) ?_ ?_
       rotate_left
       ·simp only [Act.put, Lt, Lz, Ls, i64_w, i32_w]
        rfl
       refine pure_ (i := 20) (N := some 47) (v := undef) (a' := ?_) #[true, true, true, true, true, true, true, true, true, true, true, true, true, true, true, true, true, true, true, true, true, false, false, false, false, false, false, false, false, false, false, false, false, false, false, false] rfl rfl (any_of HT_.out (by kernel_rfl)) (fun _ _ _ h => h) (Or.inr ⟨by rfl, rfl⟩) ?_ ?_
       rotate_left
       ·simp only [Act.put, Lt, Lz, Ls, i64_w, i32_w]
        rfl
       refine pure_ (i := 21) (N := some 48) (v := undef) (a' := ?_) #[true, true, true, true, true, true, true, true, true, true, true, true, true, true, true, true, true, true, true, true, true, true, false, false, false, false, false, false, false, false, false, false, false, false, false, false] rfl rfl (any_of HT_.out (by kernel_rfl)) (fun _ _ _ h => h) (Or.inr ⟨by rfl, rfl⟩) ?_ ?_
       rotate_left
       ·simp only [Act.put, Lt, Lz, Ls, i64_w, i32_w]
        rfl
       refine pure_ (i := 22) (N := some 49) (v := undef) (a' := ?_) #[true, true, true, true, true, true, true, true, true, true, true, true, true, true, true, true, true, true, true, true, true, true, true, false, false, false, false, false, false, false, false, false, false, false, false, false] rfl rfl (any_of HT_.out (by kernel_rfl)) (fun _ _ _ h => h) (Or.inr ⟨by rfl, rfl⟩) ?_ ?_
       rotate_left
       ·simp only [Act.put, Lt, Lz, Ls, i64_w, i32_w]
        rfl
       refine pure_ (i := 23) (N := some 50) (v := undef) (a' := ?_) #[true, true, true, true, true, true, true, true, true, true, true, true, true, true, true, true, true, true, true, true, true, true, true, true, false, false, false, false, false, false, false, false, false, false, false, false] rfl rfl (any_of HT_.out (by kernel_rfl)) (fun _ _ _ h => h) (Or.inr ⟨by rfl, rfl⟩) ?_ ?_
       rotate_left
       ·simp only [Act.put, Lt, Lz, Ls, i64_w, i32_w]
        rfl
       refine pure_ (i := 24) (N := some 51) (v := undef) (a' := ?_) #[true, true, true, true, true, true, true, true, true, true, true, true, true, true, true, true, true, true, true, true, true, true, true, true, true, false, false, false, false, false, false, false, false, false, false, false] rfl rfl (any_of HT_.out (by kernel_rfl)) (fun _ _ _ h => h) (Or.inr ⟨by rfl, rfl⟩) ?_ ?_
       rotate_left
       ·simp only [Act.put, Lt, Lz, Ls, i64_w, i32_w]
        rfl
       refine pure_ (i := 25) (N := some 52) (v := undef) (a' := ?_) #[true, true, true, true, true, true, true, true, true, true, true, true, true, true, true, true, true, true, true, true, true, true, true, true, true, true, false, false, false, false, false, false, false, false, false, false] rfl rfl (any_of HT_.out (by kernel_rfl)) (fun _ _ _ h => h) (Or.inr ⟨by rfl, rfl⟩) ?_ ?_
       rotate_left
       ·simp only [Act.put, Lt, Lz, Ls, i64_w, i32_w]
        rfl
       refine pure_ (i := 26) (N := some 53) (v := undef) (a' := ?_) #[true, true, true, true, true, true, true, true, true, true, true, true, true, true, true, true, true, true, true, true, true, true, true, true, true, true, true, false, false, false, false, false, false, false, false, false] rfl rfl (any_of HT_.out (by kernel_rfl)) (fun _ _ _ h => h) (Or.inr ⟨by rfl, rfl⟩) ?_ ?_
       rotate_left
       ·simp only [Act.put, Lt, Lz, Ls, i64_w, i32_w]
        rfl
       refine pure_ (i := 27) (N := some 54) (v := undef) (a' := ?_) #[true, true, true, true, true, true, true, true, true, true, true, true, true, true, true, true, true, true, true, true, true, true, true, true, true, true, true, true, false, false, false, false, false, false, false, false] rfl rfl (any_of HT_.out (by kernel_rfl)) (fun _ _ _ h => h) (Or.inr ⟨by rfl, rfl⟩) ?_ ?_
       rotate_left
       ·simp only [Act.put, Lt, Lz, Ls, i64_w, i32_w]
        rfl
       refine pure_ (i := 28) (N := some 55) (v := undef) (a' := ?_) #[true, true, true, true, true, true, true, true, true, true, true, true, true, true, true, true, true, true, true, true, true, true, true, true, true, true, true, true, true, false, false, false, false, false, false, false] rfl rfl (any_of HT_.out (by kernel_rfl)) (fun _ _ _ h => h) (Or.inr ⟨by rfl, rfl⟩) ?_ ?_
       rotate_left
       ·simp only [Act.put, Lt, Lz, Ls, i64_w, i32_w]
        rfl
       refine pure_ (i := 29) (N := some 56) (v := undef) (a' := ?_) #[true, true, true, true, true, true, true, true, true, true, true, true, true, true, true, true, true, true, true, true, true, true, true, true, true, true, true, true, true, true, false, false, false, false, false, false] rfl rfl (any_of HT_.out (by kernel_rfl)) (fun _ _ _ h => h) (Or.inr ⟨by rfl, rfl⟩) ?_ ?_
       rotate_left
       ·simp only [Act.put, Lt, Lz, Ls, i64_w, i32_w]
        rfl
       refine pure_ (i := 30) (N := some 57) (v := undef) (a' := ?_) #[true, true, true, true, true, true, true, true, true, true, true, true, true, true, true, true, true, true, true, true, true, true, true, true, true, true, true, true, true, true, true, false, false, false, false, false] rfl rfl (any_of HT_.out (by kernel_rfl)) (fun _ _ _ h => h) (Or.inr ⟨by rfl, rfl⟩) ?_ ?_
       rotate_left
       ·simp only [Act.put, Lt, Lz, Ls, i64_w, i32_w]
        rfl
       refine pure_ (i := 31) (N := some 58) (v := undef) (a' := ?_) #[true, true, true, true, true, true, true, true, true, true, true, true, true, true, true, true, true, true, true, true, true, true, true, true, true, true, true, true, true, true, true, true, false, false, false, false] rfl rfl (any_of HT_.out (by kernel_rfl)) (fun _ _ _ h => h) (Or.inr ⟨by rfl, rfl⟩) ?_ ?_
       rotate_left
       ·simp only [Act.put, Lt, Lz, Ls, i64_w, i32_w]
        rfl
       refine pure_ (i := 32) (N := some 59) (v := undef) (a' := ?_) #[true, true, true, true, true, true, true, true, true, true, true, true, true, true, true, true, true, true, true, true, true, true, true, true, true, true, true, true, true, true, true, true, true, false, false, false] rfl rfl (any_of HT_.out (by kernel_rfl)) (fun _ _ _ h => h) (Or.inr ⟨by rfl, rfl⟩) ?_ ?_
       rotate_left
       ·simp only [Act.put, Lt, Lz, Ls, i64_w, i32_w]
        rfl
       refine pure_ (i := 33) (N := some 60) (v := undef) (a' := ?_) #[true, true, true, true, true, true, true, true, true, true, true, true, true, true, true, true, true, true, true, true, true, true, true, true, true, true, true, true, true, true, true, true, true, true, false, false] rfl rfl (any_of HT_.out (by kernel_rfl)) (fun _ _ _ h => h) (Or.inr ⟨by rfl, rfl⟩) ?_ ?_
       rotate_left
       ·simp only [Act.put, Lt, Lz, Ls, i64_w, i32_w]
        rfl
       refine pure_ (i := 34) (N := some 61) (v := ?_) (a' := ?_) #[true, true, true, true, true, true, true, true, true, true, true, true, true, true, true, true, true, true, true, true, true, true, true, true, true, true, true, true, true, true, true, true, true, true, true, false] rfl rfl (any_of HT_.out (by kernel_rfl)) (fun _ _ _ h => h) (Or.inl ⟨by rfl, ?_⟩) ?_ ?_
       rotate_left
       ·intro w'
        go_simp
        with_reducible rfl
       rotate_left
       ·simp only [Act.put, Lt, Lz, Ls, i64_w, i32_w]
        rfl
       refine pure_ (i := 35) (N := some 62) (v := ?_) (a' := ?_) #[true, true, true, true, true, true, true, true, true, true, true, true, true, true, true, true, true, true, true, true, true, true, true, true, true, true, true, true, true, true, true, true, true, true, true, true] rfl rfl (any_of HT_.out (by kernel_rfl)) (fun _ _ _ h => h) (Or.inl ⟨by rfl, ?_⟩) ?_ ?_
       rotate_left
       ·intro w'
        go_simp
        with_reducible rfl
       rotate_left
       ·simp only [Act.put, Lt, Lz, Ls, i64_w, i32_w]
        rfl
       refine done_ (done_of HT_.out (by kernel_rfl)) ?_
       clear hHeld HT_ HW_
       go_wp2
       go_roundg (l2.length - (0 + 1))
       case measure => omega
       case rel => exact ⟨0 + 1, by omega, by omega, by go_num, HB, HI⟩
      ·skip
       obtain ⟨j, rfl⟩ : ∃ j, i = j + 1 := ⟨i - 1, by omega⟩
       obtain ⟨ad2, A10y, c10y, A12y, c12y, A14y, c14y, A15y, c15y, e9, hy0, hy1, hy2, hy3, hy4, hy5, hy6, hy7, hy8, hy9, hy10, hy11, hy12, hy13, hy14, hy15, m10y, h10y, m12y, h12y, m14y, h14y, m15y, h15y⟩ := at_T77 (Cb H2.out (Bh HZ.out HZ.out.size HB.out)) (j : Int) (by omega) (by omega)
       have e8 := Option.some.inj e9
       subst e8
       simp only [Int.toNat_natCast] at hy0 hy1 hy2 hy3 hy4 hy5 hy6 hy7 hy8 hy9 hy10 hy11 hy12 hy13 hy14 hy15
       have he : l2.getD j z77 = rd_T77 l2 (j : Int) := by unfold rd_T77; rw [Int.toNat_natCast]
       have hI := HI.out
       rw [impl_GoodReplica.pvs l2 j, he] at hI
       clear HI he
       have HP := Am (And.intro hy0 hy1)
       generalize rd_T77 l2 (j : Int) = y at HP hI
       obtain ⟨m, hq, hI⟩ := Option.bind_eq_some_iff.1 (show ((slices_Compare_int_int.f K [x.f0, x.f1] [y.f0, y.f1]).bind fun m => if m ≤ 0 then some false else impl_GoodReplica.o K n me (impl_GoodReplica.pv l2 (j + 1 + 1)) (l2.drop (j + 1 + 1))) = some r from hI)
       have HG := Am hq
       have HI := Am hI
       clear hI hq hy0 hy1 hy2 hy3 hy4 hy5 hy6 hy7 hy8 hy9 hy10 hy11 hy12 hy13 hy14 hy15 h10y m10y h12y m12y h14y m14y h15y m15y
       have HWJ : Ad (IntKind.i64.wrap (j : Int) = (j : Int)) := ⟨by rw [i64_w]; unfold wrap64; omega⟩
       have j0 : (0 : Int) ≤ (j : Int) := by omega
       have j1 : (j : Int) < (l2.length : Int) := by omega
       have hgt : decide (((j + 1 : Nat) : Int) > 0) = true := decide_eq_true (by omega)
       go_wp2_with fail
       have hbd : Below W3.heap.size W3 W3.drew := below_drew (Below.refl _ _)
       refine start_ (n := 36) (S := fun w' => w'.heap[gr]? = some (.cells #[.int .i64 me, .int .i64 n, .slice A1 l1.length c1, .slice (some ad) l2.length c2] 53 (0, 0)) ∧ w'.heap[gl]? = some (.cells #[.int .i64 x.f0, .int .i64 x.f1, .int .i64 x.f2, .int .i64 x.f3, .int .i64 x.f4.f0, .int .i64 x.f4.f1, .int .i64 x.f4.f2, .int .i64 x.f4.f3, .int .i64 x.f4.f4, .int .i64 x.f5.f0, .slice A10 x.f5.f1.length c10, .int .i64 x.f6.f0, .slice A12 x.f6.f1.length c12, .bool x.f7, .slice A14 x.f8.length c14, .slice A15 x.f9.length c15] 77 (0, 0)) ∧ w'.cell? (ad.add (j * 16)) = some (.int .i64 y.f0) ∧ w'.cell? ⟨(ad.add (j * 16)).block, (ad.add (j * 16)).off + 1, none⟩ = some (.int .i64 y.f1)) (ds := []) #[false, false, false, false, false, false, false, false, false, false, false, false, false, false, false, false, false, false, false, false, false, false, false, false, false, false, false, false, false, false, false, false, false, false, false, false] (by kernel_rfl) rfl rfl ⟨Kb (Kb BR.out HB.out) hbd, Kb BL.out hbd, (hbd.cell (bl_ _ _ HP.out.1)).trans HP.out.1, (hbd.cell (bl_ _ _ HP.out.2)).trans HP.out.2⟩ (fun hHeld => ?_); refine with_tabW impl_GoodReplica.tab6 impl_GoodReplica.bits6 (fun HT_ HW_ => ?_)
       have hb := hbd
       clear hbd
       generalize W3.drew = W8 at hb hHeld ⊢
       replace HB := Am (Bh HB.out HB.out.size hb)
       replace BL := Am (Kb BL.out hb)
       replace HP := Am (And.intro ((hb.cell (bl_ _ _ HP.out.1)).trans HP.out.1) ((hb.cell (bl_ _ _ HP.out.2)).trans HP.out.2))
       replace H10 := Am (Cb H10.out hb)
       replace H12 := Am (Cb H12.out hb)
       replace H14 := Am (Cb H14.out hb)
       replace H15 := Am (Cb H15.out hb)
       clear hb
       refine pure_ (i := 0) (N := some 27) (v := ?_) (a' := ?_) #[true, false, false, false, false, false, false, false, false, false, false, false, false, false, false, false, false, false, false, false, false, false, false, false, false, false, false, false, false, false, false, false, false, false, false, false] rfl rfl (any_of HT_.out (by kernel_rfl)) (fun _ _ _ h => h) (Or.inl ⟨by rfl, ?_⟩) ?_ ?_
       rotate_left
       ·intro w'
        go_simp
        with_reducible rfl
       rotate_left
       ·simp only [Act.put, Lt, Lz, Ls, i64_w, i32_w]
        rfl
       refine pure_ (i := 1) (N := some 28) (v := ?_) (a' := ?_) #[true, true, false, false, false, false, false, false, false, false, false, false, false, false, false, false, false, false, false, false, false, false, false, false, false, false, false, false, false, false, false, false, false, false, false, false] rfl rfl (any_of HT_.out (by kernel_rfl)) (fun _ _ _ h => h) (Or.inl ⟨by rfl, ?_⟩) ?_ ?_
       rotate_left
       ·intro w'
        go_simp
        with_reducible rfl
       rotate_left
       ·simp only [Act.put, Lt, Lz, Ls, i64_w, i32_w]
        rfl
       refine pure_ (i := 3) (N := some 30) (v := ?_) (a' := ?_) #[true, true, false, true, false, false, false, false, false, false, false, false, false, false, false, false, false, false, false, false, false, false, false, false, false, false, false, false, false, false, false, false, false, false, false, false] rfl rfl (any_of HT_.out (by kernel_rfl)) (fun _ _ _ h => h) (Or.inl ⟨by rfl, ?_⟩) ?_ ?_
       rotate_left
       ·intro w'
        go_simp
        with_reducible rfl
       rotate_left
       ·simp only [Act.put, Lt, Lz, Ls, i64_w, i32_w]
        rfl
       refine take_ (i := 2) (N := some 29) (v := ?_) (a' := ?_) #[true, true, true, true, false, false, false, false, false, false, false, false, false, false, false, false, false, false, false, false, false, false, false, false, false, false, false, false, false, false, false, false, false, false, false, false] rfl rfl (take_ofW HT_.out HW_.out (by kernel_rfl)) (fun _ _ _ h => h) (Or.inl ⟨by rfl, ?_⟩) hHeld ?_ ?_
       rotate_left
       ·rintro w' ⟨s0, s1, s2, s3⟩
        have q_ : w'.cell? ⟨gr, 1, none⟩ = some (.int .i64 n) := (Kc s0 1).trans rfl
        go_simp
        with_reducible rfl
       rotate_left
       ·simp only [Act.put, Lt, Lz, Ls, i64_w, i32_w]
        rfl
       refine take_ (i := 4) (N := some 31) (v := ?_) (a' := ?_) #[true, true, true, true, true, false, false, false, false, false, false, false, false, false, false, false, false, false, false, false, false, false, false, false, false, false, false, false, false, false, false, false, false, false, false, false] rfl rfl (take_ofW HT_.out HW_.out (by kernel_rfl)) (fun _ _ _ h => h) (Or.inl ⟨by rfl, ?_⟩) hHeld ?_ ?_
       rotate_left
       ·rintro w' ⟨s0, s1, s2, s3⟩
        have q_ : w'.cell? ⟨gr, 0, none⟩ = some (.int .i64 me) := (Kc s0 0).trans rfl
        go_simp
        with_reducible rfl
       rotate_left
       ·simp only [Act.put, Lt, Lz, Ls, i64_w, i32_w]
        rfl
       refine take_ (i := 5) (N := some 32) (v := ?_) (a' := ?_) #[true, true, true, true, true, true, false, false, false, false, false, false, false, false, false, false, false, false, false, false, false, false, false, false, false, false, false, false, false, false, false, false, false, false, false, false] rfl rfl (take_ofW HT_.out HW_.out (by kernel_rfl)) (fun _ _ _ h => h) (Or.inl ⟨by rfl, ?_⟩) hHeld ?_ ?_
       rotate_left
       ·rintro w' ⟨s0, s1, s2, s3⟩
        refine Eq.trans (impl_GoodReplica.load1 s1 16 rfl 77 _ (by rfl) (by rfl) _ Try.underlying77 rfl (by kernel_rfl)) ?_
        with_reducible rfl
       rotate_left
       ·simp only [Act.put, Lt, Lz, Ls, i64_w, i32_w]
        rfl
       refine one_ (i := 6) (N := some 33) #[true, true, true, true, true, true, true, false, false, false, false, false, false, false, false, false, false, false, false, false, false, false, false, false, false, false, false, false, false, false, false, false, false, false, false, false] rfl rfl (one_of HT_.out (by kernel_rfl)) (by decide) (fun Kc hK => ?_)
       refine goes_ Try.func38 (by kernel_rfl) rfl #[.int .i64 n, .int .i64 me, .agg #[.int .i64 x.f0, .int .i64 x.f1, .int .i64 x.f2, .int .i64 x.f3, .int .i64 x.f4.f0, .int .i64 x.f4.f1, .int .i64 x.f4.f2, .int .i64 x.f4.f3, .int .i64 x.f4.f4, .int .i64 x.f5.f0, .slice A10 x.f5.f1.length c10, .int .i64 x.f6.f0, .slice A12 x.f6.f1.length c12, .bool x.f7, .slice A14 x.f8.length c14, .slice A15 x.f9.length c15]] (by rfl) rfl rfl (by (try simp only [List.map_toArray, List.map_cons, List.map_nil]); first | done | rfl) ?_
       (refine (impl_goodLead.calls K n me x A10 c10 A12 c12 A14 c14 A15 c15 true W8 H10.out m10 H12.out m12 H14.out m14 H15.out m15 HF.out).mono ?_)
       rintro e W9 ⟨rfl, hb⟩
       refine ⟨_, rfl, ?_⟩
       replace HB := Am (Bh HB.out HB.out.size hb)
       replace BL := Am (Kb BL.out hb)
       replace HP := Am (And.intro ((hb.cell (bl_ _ _ HP.out.1)).trans HP.out.1) ((hb.cell (bl_ _ _ HP.out.2)).trans HP.out.2))
       clear hb
       clear H10 H12 H14 H15
       refine hK.out _ _ ⟨Kb BR.out HB.out, BL.out, HP.out.1, HP.out.2⟩ (fun hHeld => ?_)
       clear hK Kc
       refine norm_ (a' := ?_) ?_ ?_
       rotate_left
       ·show Act.put _ (some 33) _ = _
        simp only [Act.put, Lt, Lz, Ls, i64_w, i32_w]
        rfl
       refine pure_ (i := 7) (N := some 34) (v := ?_) (a' := ?_) #[true, true, true, true, true, true, true, true, false, false, false, false, false, false, false, false, false, false, false, false, false, false, false, false, false, false, false, false, false, false, false, false, false, false, false, false] rfl rfl (any_of HT_.out (by kernel_rfl)) (fun _ _ _ h => h) (Or.inl ⟨by rfl, ?_⟩) ?_ ?_
       rotate_left
       ·intro w'
        go_simp
        with_reducible rfl
       rotate_left
       ·simp only [Act.put, Lt, Lz, Ls, i64_w, i32_w]
        rfl
       refine pure_ (i := 8) (N := some 35) (v := ?_) (a' := ?_) #[true, true, true, true, true, true, true, true, true, false, false, false, false, false, false, false, false, false, false, false, false, false, false, false, false, false, false, false, false, false, false, false, false, false, false, false] rfl rfl (any_of HT_.out (by kernel_rfl)) (fun _ _ _ h => h) (Or.inl ⟨by rfl, ?_⟩) ?_ ?_
       rotate_left
       ·intro w'
        go_simp
        with_reducible rfl
       rotate_left
       ·simp only [Act.put, Lt, Lz, Ls, i64_w, i32_w]
        rfl
       refine pure_ (i := 9) (N := some 36) (v := ?_) (a' := ?_) #[true, true, true, true, true, true, true, true, true, true, false, false, false, false, false, false, false, false, false, false, false, false, false, false, false, false, false, false, false, false, false, false, false, false, false, false] rfl rfl (any_of HT_.out (by kernel_rfl)) (fun _ _ _ h => h) (Or.inl ⟨by rfl, ?_⟩) ?_ ?_
       rotate_left
       ·intro w'
        go_simp
        with_reducible rfl
       rotate_left
       ·simp only [Act.put, Lt, Lz, Ls, i64_w, i32_w]
        rfl
       refine pure_ (i := 10) (N := some 37) (v := ?_) (a' := ?_) #[true, true, true, true, true, true, true, true, true, true, true, false, false, false, false, false, false, false, false, false, false, false, false, false, false, false, false, false, false, false, false, false, false, false, false, false] rfl rfl (any_of HT_.out (by kernel_rfl)) (fun _ _ _ h => h) (Or.inl ⟨by rfl, ?_⟩) ?_ ?_
       rotate_left
       ·intro w'
        go_simp
        with_reducible rfl
       rotate_left
       ·simp only [Act.put, Lt, Lz, Ls, i64_w, i32_w]
        rfl
       refine pure_ (i := 11) (N := some 38) (v := ?_) (a' := ?_) #[true, true, true, true, true, true, true, true, true, true, true, true, false, false, false, false, false, false, false, false, false, false, false, false, false, false, false, false, false, false, false, false, false, false, false, false] rfl rfl (any_of HT_.out (by kernel_rfl)) (fun _ _ _ h => h) (Or.inl ⟨by rfl, ?_⟩) ?_ ?_
       rotate_left
       ·intro w'
        go_simp
        with_reducible rfl
       rotate_left
       ·simp only [Act.put, Lt, Lz, Ls, i64_w, i32_w]
        rfl
       refine pure_ (i := 12) (N := some 39) (v := ?_) (a' := ?_) #[true, true, true, true, true, true, true, true, true, true, true, true, true, false, false, false, false, false, false, false, false, false, false, false, false, false, false, false, false, false, false, false, false, false, false, false] rfl rfl (any_of HT_.out (by kernel_rfl)) (fun _ _ _ h => h) (Or.inl ⟨by rfl, ?_⟩) ?_ ?_
       rotate_left
       ·intro w'
        go_simp
        with_reducible rfl
       rotate_left
       ·simp only [Act.put, Lt, Lz, Ls, i64_w, i32_w]
        rfl
       refine pure_ (i := 14) (N := some 41) (v := ?_) (a' := ?_) #[true, true, true, true, true, true, true, true, true, true, true, true, true, false, true, false, false, false, false, false, false, false, false, false, false, false, false, false, false, false, false, false, false, false, false, false] rfl rfl (any_of HT_.out (by kernel_rfl)) (fun _ _ _ h => h) (Or.inl ⟨by rfl, ?_⟩) ?_ ?_
       rotate_left
       ·intro w'
        go_simp
        with_reducible rfl
       rotate_left
       ·simp only [Act.put, Lt, Lz, Ls, i64_w, i32_w]
        rfl
       refine pure_ (i := 17) (N := some 44) (v := ?_) (a' := ?_) #[true, true, true, true, true, true, true, true, true, true, true, true, true, false, true, false, false, true, false, false, false, false, false, false, false, false, false, false, false, false, false, false, false, false, false, false] rfl rfl (any_of HT_.out (by kernel_rfl)) (fun _ _ _ h => h) (Or.inl ⟨by rfl, ?_⟩) ?_ ?_
       rotate_left
       ·intro w'
        go_simp
        with_reducible rfl
       rotate_left
       ·simp only [Act.put, Lt, Lz, Ls, i64_w, i32_w]
        rfl
       refine pure_ (i := 19) (N := some 46) (v := ?_) (a' := ?_) #[true, true, true, true, true, true, true, true, true, true, true, true, true, false, true, false, false, true, false, true, false, false, false, false, false, false, false, false, false, false, false, false, false, false, false, false] rfl rfl (any_of HT_.out (by kernel_rfl)) (fun _ _ _ h => h) (Or.inl ⟨by rfl, ?_⟩) ?_ ?_
       rotate_left
       ·intro w'
        go_simp
        with_reducible rfl
       rotate_left
       ·simp only [Act.put, Lt, Lz, Ls, i64_w, i32_w]
        rfl
       refine pure_ (i := 20) (N := some 47) (v := ?_) (a' := ?_) #[true, true, true, true, true, true, true, true, true, true, true, true, true, false, true, false, false, true, false, true, true, false, false, false, false, false, false, false, false, false, false, false, false, false, false, false] rfl rfl (any_of HT_.out (by kernel_rfl)) (fun _ _ _ h => h) (Or.inl ⟨by rfl, ?_⟩) ?_ ?_
       rotate_left
       ·intro w'
        go_simp
        rw [HWJ.out]
       rotate_left
       ·simp only [Act.put, Lt, Lz, Ls, i64_w, i32_w]
        rfl
       refine pure_ (i := 24) (N := some 51) (v := ?_) (a' := ?_) #[true, true, true, true, true, true, true, true, true, true, true, true, true, false, true, false, false, true, false, true, true, false, false, false, true, false, false, false, false, false, false, false, false, false, false, false] rfl rfl (any_of HT_.out (by kernel_rfl)) (fun _ _ _ h => h) (Or.inl ⟨by rfl, ?_⟩) ?_ ?_
       rotate_left
       ·intro w'
        go_simp
        with_reducible rfl
       rotate_left
       ·simp only [Act.put, Lt, Lz, Ls, i64_w, i32_w]
        rfl
       refine pure_ (i := 26) (N := some 53) (v := ?_) (a' := ?_) #[true, true, true, true, true, true, true, true, true, true, true, true, true, false, true, false, false, true, false, true, true, false, false, false, true, false, true, false, false, false, false, false, false, false, false, false] rfl rfl (any_of HT_.out (by kernel_rfl)) (fun _ _ _ h => h) (Or.inl ⟨by rfl, ?_⟩) ?_ ?_
       rotate_left
       ·intro w'
        go_simp
        with_reducible rfl
       rotate_left
       ·simp only [Act.put, Lt, Lz, Ls, i64_w, i32_w]
        rfl
       refine pure_ (i := 27) (N := some 54) (v := ?_) (a' := ?_) #[true, true, true, true, true, true, true, true, true, true, true, true, true, false, true, false, false, true, false, true, true, false, false, false, true, false, true, true, false, false, false, false, false, false, false, false] rfl rfl (any_of HT_.out (by kernel_rfl)) (fun _ _ _ h => h) (Or.inl ⟨by rfl, ?_⟩) ?_ ?_
       rotate_left
       ·intro w'
        go_simp
        rw [HWJ.out]
       rotate_left
       ·simp only [Act.put, Lt, Lz, Ls, i64_w, i32_w]
        rfl
       refine take_ (i := 13) (N := some 40) (v := ?_) (a' := ?_) #[true, true, true, true, true, true, true, true, true, true, true, true, true, true, true, false, false, true, false, true, true, false, false, false, true, false, true, true, false, false, false, false, false, false, false, false] rfl rfl (take_ofW HT_.out HW_.out (by kernel_rfl)) (fun _ _ _ h => h) (Or.inl ⟨by rfl, ?_⟩) hHeld ?_ ?_
       rotate_left
       ·rintro w' ⟨s0, s1, s2, s3⟩
        have q_ : w'.cell? ⟨gl, 0, none⟩ = some (.int .i64 x.f0) := (Kc s1 0).trans rfl
        go_simp
        with_reducible rfl
       rotate_left
       ·simp only [Act.put, Lt, Lz, Ls, i64_w, i32_w]
        rfl
       refine take_ (i := 15) (N := some 42) (v := ?_) (a' := ?_) #[true, true, true, true, true, true, true, true, true, true, true, true, true, true, true, true, false, true, false, true, true, false, false, false, true, false, true, true, false, false, false, false, false, false, false, false] rfl rfl (take_ofW HT_.out HW_.out (by kernel_rfl)) (fun _ _ _ h => h) (Or.inl ⟨by rfl, ?_⟩) hHeld ?_ ?_
       rotate_left
       ·rintro w' ⟨s0, s1, s2, s3⟩
        have q_ : w'.cell? ⟨gl, 1, none⟩ = some (.int .i64 x.f1) := (Kc s1 1).trans rfl
        go_simp
        with_reducible rfl
       rotate_left
       ·simp only [Act.put, Lt, Lz, Ls, i64_w, i32_w]
        rfl
       refine take_ (i := 18) (N := some 45) (v := ?_) (a' := ?_) #[true, true, true, true, true, true, true, true, true, true, true, true, true, true, true, true, false, true, true, true, true, false, false, false, true, false, true, true, false, false, false, false, false, false, false, false] rfl rfl (take_ofW HT_.out HW_.out (by kernel_rfl)) (fun _ _ _ h => h) (Or.inl ⟨by rfl, ?_⟩) hHeld ?_ ?_
       rotate_left
       ·rintro w' ⟨s0, s1, s2, s3⟩
        have q_ : w'.cell? ⟨gr, 3, none⟩ = some (.slice (some ad) l2.length c2) := (Kc s0 3).trans rfl
        go_simp
        with_reducible rfl
       rotate_left
       ·simp only [Act.put, Lt, Lz, Ls, i64_w, i32_w]
        rfl
       refine pure_ (i := 21) (N := some 48) (v := ?_) (a' := ?_) #[true, true, true, true, true, true, true, true, true, true, true, true, true, true, true, true, false, true, true, true, true, true, false, false, true, false, true, true, false, false, false, false, false, false, false, false] rfl rfl (any_of HT_.out (by kernel_rfl)) (fun _ _ _ h => h) (Or.inl ⟨by rfl, ?_⟩) ?_ ?_
       rotate_left
       ·intro w'
        go_simp
        with_reducible rfl
       rotate_left
       ·simp only [Act.put, Lt, Lz, Ls, i64_w, i32_w]
        rfl
       refine pure_ (i := 22) (N := some 49) (v := ?_) (a' := ?_) #[true, true, true, true, true, true, true, true, true, true, true, true, true, true, true, true, false, true, true, true, true, true, true, false, true, false, true, true, false, false, false, false, false, false, false, false] rfl rfl (any_of HT_.out (by kernel_rfl)) (fun _ _ _ h => h) (Or.inl ⟨by rfl, ?_⟩) ?_ ?_
       rotate_left
       ·intro w'
        go_simp
        with_reducible rfl
       rotate_left
       ·simp only [Act.put, Lt, Lz, Ls, i64_w, i32_w]
        rfl
       refine take_ (i := 23) (N := some 50) (v := ?_) (a' := ?_) #[true, true, true, true, true, true, true, true, true, true, true, true, true, true, true, true, false, true, true, true, true, true, true, true, true, false, true, true, false, false, false, false, false, false, false, false] rfl rfl (take_ofW HT_.out HW_.out (by kernel_rfl)) (fun _ _ _ h => h) (Or.inl ⟨by rfl, ?_⟩) hHeld ?_ ?_
       rotate_left
       ·rintro w' ⟨s0, s1, s2, s3⟩
        go_simp
        with_reducible rfl
       rotate_left
       ·simp only [Act.put, Lt, Lz, Ls, i64_w, i32_w]
        rfl
       refine take_ (i := 25) (N := some 52) (v := ?_) (a' := ?_) #[true, true, true, true, true, true, true, true, true, true, true, true, true, true, true, true, false, true, true, true, true, true, true, true, true, true, true, true, false, false, false, false, false, false, false, false] rfl rfl (take_ofW HT_.out HW_.out (by kernel_rfl)) (fun _ _ _ h => h) (Or.inl ⟨by rfl, ?_⟩) hHeld ?_ ?_
       rotate_left
       ·rintro w' ⟨s0, s1, s2, s3⟩
        have q_ : w'.cell? ⟨gr, 3, none⟩ = some (.slice (some ad) l2.length c2) := (Kc s0 3).trans rfl
        go_simp
        with_reducible rfl
       rotate_left
       ·simp only [Act.put, Lt, Lz, Ls, i64_w, i32_w]
        rfl
       refine pure_ (i := 28) (N := some 55) (v := ?_) (a' := ?_) #[true, true, true, true, true, true, true, true, true, true, true, true, true, true, true, true, false, true, true, true, true, true, true, true, true, true, true, true, true, false, false, false, false, false, false, false] rfl rfl (any_of HT_.out (by kernel_rfl)) (fun _ _ _ h => h) (Or.inl ⟨by rfl, ?_⟩) ?_ ?_
       rotate_left
       ·intro w'
        go_simp
        with_reducible rfl
       rotate_left
       ·simp only [Act.put, Lt, Lz, Ls, i64_w, i32_w]
        rfl
       refine pure_ (i := 29) (N := some 56) (v := ?_) (a' := ?_) #[true, true, true, true, true, true, true, true, true, true, true, true, true, true, true, true, false, true, true, true, true, true, true, true, true, true, true, true, true, true, false, false, false, false, false, false] rfl rfl (any_of HT_.out (by kernel_rfl)) (fun _ _ _ h => h) (Or.inl ⟨by rfl, ?_⟩) ?_ ?_
       rotate_left
       ·intro w'
        go_simp
        with_reducible rfl
       rotate_left
       ·simp only [Act.put, Lt, Lz, Ls, i64_w, i32_w]
        rfl
       refine take_ (i := 30) (N := some 57) (v := ?_) (a' := ?_) #[true, true, true, true, true, true, true, true, true, true, true, true, true, true, true, true, false, true, true, true, true, true, true, true, true, true, true, true, true, true, true, false, false, false, false, false] rfl rfl (take_ofW HT_.out HW_.out (by kernel_rfl)) (fun _ _ _ h => h) (Or.inl ⟨by rfl, ?_⟩) hHeld ?_ ?_
       rotate_left
       ·rintro w' ⟨s0, s1, s2, s3⟩
        go_simp
        with_reducible rfl
       rotate_left
       ·simp only [Act.put, Lt, Lz, Ls, i64_w, i32_w]
        rfl
       refine join_ (σ := Value × Value) 4 #[true, true, true, true, true, true, true, true, true, true, true, true, true, true, true, true, true, true, true, true, true, true, true, true, true, true, true, true, true, true, true, true, false, false, false, false] (fun s_ => [(43, s_.1), (58, s_.2)]) (fun s_ w' => (w'.heap[gr]? = some (.cells #[.int .i64 me, .int .i64 n, .slice A1 l1.length c1, .slice (some ad) l2.length c2] 53 (0, 0)) ∧ w'.heap[gl]? = some (.cells #[.int .i64 x.f0, .int .i64 x.f1, .int .i64 x.f2, .int .i64 x.f3, .int .i64 x.f4.f0, .int .i64 x.f4.f1, .int .i64 x.f4.f2, .int .i64 x.f4.f3, .int .i64 x.f4.f4, .int .i64 x.f5.f0, .slice A10 x.f5.f1.length c10, .int .i64 x.f6.f0, .slice A12 x.f6.f1.length c12, .bool x.f7, .slice A14 x.f8.length c14, .slice A15 x.f9.length c15] 77 (0, 0)) ∧ w'.cell? (ad.add (j * 16)) = some (.int .i64 y.f0) ∧ w'.cell? ⟨(ad.add (j * 16)).block, (ad.add (j * 16)).off + 1, none⟩ = some (.int .i64 y.f1)) ∧ Kd.R (Kd.int .i64) 3 w' W0.heap.size (fun _ => True) s_.1 ([x.f0, x.f1] : List Int) ∧ Kd.R (Kd.int .i64) 3 w' W0.heap.size (fun _ => True) s_.2 ([y.f0, y.f1] : List Int) ∧ Below W0.heap.size W0 w') ?_ ?_
       rotate_left
       ·intro hCont
        refine two_ (i := 16) (j := 31) (Ni := some 43) (Nj := some 58) #[true, true, true, true, true, true, true, true, true, true, true, true, true, true, true, true, true, true, true, true, true, true, true, true, true, true, true, true, true, true, true, false, false, false, false, false] #[true, true, true, true, true, true, true, true, true, true, true, true, true, true, true, true, false, true, true, true, true, true, true, true, true, true, true, true, true, true, true, true, false, false, false, false] rfl rfl rfl rfl (two_of HT_.out (by kernel_rfl)) (by decide) (by decide) (fun Kc hK => ?_) (fun Kc hK => ?_)
        ·skip
         refine Kd.R_lit_step (Kd.int .i64) _ 3 ?hg (N := 43) ?hd (xs := ([x.f0, x.f1] : List Int)) (inner := [.int .i64 x.f0, .int .i64 x.f1]) (ok := fun _ => True) (okp := fun _ => True) ?hr ?hp (fun _ hk => hk) trivial (Below.refl _ _) (Nat.le_refl _) (by simp) ?_; (case hd | hg => rfl); (case hr => first | (go_simp; done) | (go_simp; rfl)); (case hp => exact (Reps.one (show Kd.M (Kd.int .i64) _ _ _ x.f0 [.int .i64 x.f0] from rfl) (Reps.one (show Kd.M (Kd.int .i64) _ _ _ x.f1 [.int .i64 x.f1] from rfl) (Reps.none _ _))))
         intro vx_ W10 ho hb hg_ hnew_
         clear hg_ hnew_
         have HOX : Ad (Kd.R (Kd.int .i64) 3 W10 W0.heap.size (fun _ => True) vx_ ([x.f0, x.f1] : List Int)) := ⟨Kd.R_lower ho HB.out.size⟩
         clear ho
         replace HB := Am (Bh HB.out HB.out.size hb)
         replace BL := Am (Kb BL.out hb)
         replace HP := Am (And.intro ((hb.cell (bl_ _ _ HP.out.1)).trans HP.out.1) ((hb.cell (bl_ _ _ HP.out.2)).trans HP.out.2))
         clear hb
         refine hK.out _ _ ⟨Kb BR.out HB.out, BL.out, HP.out.1, HP.out.2⟩ (fun hHeld => ?_)
         clear hK Kc
         refine norm_ (a' := ?_) ?_ ?_
         rotate_left
         ·show Act.put _ (some 43) _ = _
          simp only [Act.put, Lt, Lz, Ls, i64_w, i32_w]
          rfl
         refine one_ (i := 31) (N := some 58) #[true, true, true, true, true, true, true, true, true, true, true, true, true, true, true, true, true, true, true, true, true, true, true, true, true, true, true, true, true, true, true, true, false, false, false, false] rfl rfl (one_of HT_.out (by kernel_rfl)) (by decide) (fun Kc hK => ?_)
         refine Kd.R_lit_step (Kd.int .i64) _ 3 ?hg (N := 58) ?hd (xs := ([y.f0, y.f1] : List Int)) (inner := [.int .i64 y.f0, .int .i64 y.f1]) (ok := fun _ => True) (okp := fun _ => True) ?hr ?hp (fun _ hk => hk) trivial (Below.refl _ _) (Nat.le_refl _) (by simp) ?_; (case hd | hg => rfl); (case hr => first | (go_simp; done) | (go_simp; rfl)); (case hp => exact (Reps.one (show Kd.M (Kd.int .i64) _ _ _ y.f0 [.int .i64 y.f0] from rfl) (Reps.one (show Kd.M (Kd.int .i64) _ _ _ y.f1 [.int .i64 y.f1] from rfl) (Reps.none _ _))))
         intro vy_ W11 ho hb hg_ hnew_
         clear hg_ hnew_
         have HOY : Ad (Kd.R (Kd.int .i64) 3 W11 W0.heap.size (fun _ => True) vy_ ([y.f0, y.f1] : List Int)) := ⟨Kd.R_lower ho HB.out.size⟩
         clear ho
         replace HOX := Am (Kd.R_below HOX.out hb)
         replace HB := Am (Bh HB.out HB.out.size hb)
         replace BL := Am (Kb BL.out hb)
         replace HP := Am (And.intro ((hb.cell (bl_ _ _ HP.out.1)).trans HP.out.1) ((hb.cell (bl_ _ _ HP.out.2)).trans HP.out.2))
         clear hb
         refine hK.out _ _ ⟨Kb BR.out HB.out, BL.out, HP.out.1, HP.out.2⟩ (fun hHeld => ?_)
         clear hK Kc
         refine norm_ (a' := ?_) ?_ ?_
         rotate_left
         ·show Act.put _ (some 58) _ = _
          simp only [Act.put, Lt, Lz, Ls, i64_w, i32_w]
          rfl
         exact norm_ (by simp only [putAll, Act.put, Lt, Lz, Ls]) (hCont (vx_, vy_) _ ⟨⟨Kb BR.out HB.out, BL.out, HP.out.1, HP.out.2⟩, HOX.out, HOY.out, HB.out⟩)
        ·skip
         refine Kd.R_lit_step (Kd.int .i64) _ 3 ?hg (N := 58) ?hd (xs := ([y.f0, y.f1] : List Int)) (inner := [.int .i64 y.f0, .int .i64 y.f1]) (ok := fun _ => True) (okp := fun _ => True) ?hr ?hp (fun _ hk => hk) trivial (Below.refl _ _) (Nat.le_refl _) (by simp) ?_; (case hd | hg => rfl); (case hr => first | (go_simp; done) | (go_simp; rfl)); (case hp => exact (Reps.one (show Kd.M (Kd.int .i64) _ _ _ y.f0 [.int .i64 y.f0] from rfl) (Reps.one (show Kd.M (Kd.int .i64) _ _ _ y.f1 [.int .i64 y.f1] from rfl) (Reps.none _ _))))
         intro vy_ W12 ho hb hg_ hnew_
         clear hg_ hnew_
         have HOY : Ad (Kd.R (Kd.int .i64) 3 W12 W0.heap.size (fun _ => True) vy_ ([y.f0, y.f1] : List Int)) := ⟨Kd.R_lower ho HB.out.size⟩
         clear ho
         replace HB := Am (Bh HB.out HB.out.size hb)
         replace BL := Am (Kb BL.out hb)
         replace HP := Am (And.intro ((hb.cell (bl_ _ _ HP.out.1)).trans HP.out.1) ((hb.cell (bl_ _ _ HP.out.2)).trans HP.out.2))
         clear hb
         refine hK.out _ _ ⟨Kb BR.out HB.out, BL.out, HP.out.1, HP.out.2⟩ (fun hHeld => ?_)
         clear hK Kc
         refine norm_ (a' := ?_) ?_ ?_
         rotate_left
         ·show Act.put _ (some 58) _ = _
          simp only [Act.put, Lt, Lz, Ls, i64_w, i32_w]
          rfl
         refine one_ (i := 16) (N := some 43) #[true, true, true, true, true, true, true, true, true, true, true, true, true, true, true, true, true, true, true, true, true, true, true, true, true, true, true, true, true, true, true, true, false, false, false, false] rfl rfl (one_of HT_.out (by kernel_rfl)) (by decide) (fun Kc hK => ?_)
         refine Kd.R_lit_step (Kd.int .i64) _ 3 ?hg (N := 43) ?hd (xs := ([x.f0, x.f1] : List Int)) (inner := [.int .i64 x.f0, .int .i64 x.f1]) (ok := fun _ => True) (okp := fun _ => True) ?hr ?hp (fun _ hk => hk) trivial (Below.refl _ _) (Nat.le_refl _) (by simp) ?_; (case hd | hg => rfl); (case hr => first | (go_simp; done) | (go_simp; rfl)); (case hp => exact (Reps.one (show Kd.M (Kd.int .i64) _ _ _ x.f0 [.int .i64 x.f0] from rfl) (Reps.one (show Kd.M (Kd.int .i64) _ _ _ x.f1 [.int .i64 x.f1] from rfl) (Reps.none _ _))))
         intro vx_ W13 ho hb hg_ hnew_
         clear hg_ hnew_
         have HOX : Ad (Kd.R (Kd.int .i64) 3 W13 W0.heap.size (fun _ => True) vx_ ([x.f0, x.f1] : List Int)) := ⟨Kd.R_lower ho HB.out.size⟩
         clear ho
         replace HOY := Am (Kd.R_below HOY.out hb)
         replace HB := Am (Bh HB.out HB.out.size hb)
         replace BL := Am (Kb BL.out hb)
         replace HP := Am (And.intro ((hb.cell (bl_ _ _ HP.out.1)).trans HP.out.1) ((hb.cell (bl_ _ _ HP.out.2)).trans HP.out.2))
         clear hb
         refine hK.out _ _ ⟨Kb BR.out HB.out, BL.out, HP.out.1, HP.out.2⟩ (fun hHeld => ?_)
         clear hK Kc
         refine norm_ (a' := ?_) ?_ ?_
         rotate_left
         ·show Act.put _ (some 43) _ = _
          simp only [Act.put, Lt, Lz, Ls, i64_w, i32_w]
          rfl
         exact norm_ (by simp only [putAll, Act.put, Lt, Lz, Ls]) (hCont (vx_, vy_) _ ⟨⟨Kb BR.out HB.out, BL.out, HP.out.1, HP.out.2⟩, HOX.out, HOY.out, HB.out⟩)
       clear HB BL HP
       rintro ⟨vx_, vy_⟩ W14 ⟨hHeld, h1_, h2_, h3_⟩
       have HOX := Am h1_
       have HOY := Am h2_
       have HB := Am h3_
       have BL := Am hHeld.2.1
       have HP := Am hHeld.2.2
       clear h1_ h2_ h3_
       obtain ⟨Ax, cx, rfl⟩ := Kd.R_slice HOX.out
       obtain ⟨Ay, cy, rfl⟩ := Kd.R_slice HOY.out
       refine norm_ (a' := ?_) ?_ ?_
       rotate_left
       ·simp only [putAll, Act.put, Lt, Lz, Ls]
        rfl
       refine one_ (i := 32) (N := some 59) #[true, true, true, true, true, true, true, true, true, true, true, true, true, true, true, true, true, true, true, true, true, true, true, true, true, true, true, true, true, true, true, true, true, false, false, false] rfl rfl (one_of HT_.out (by kernel_rfl)) (by decide) (fun Kc hK => ?_)
       refine goes_ Try.func39 (by kernel_rfl) rfl #[.slice Ax ([x.f0, x.f1] : List Int).length cx, .slice Ay ([y.f0, y.f1] : List Int).length cy] (by rfl) rfl rfl (by (try simp only [List.map_toArray, List.map_cons, List.map_nil]); first | done | rfl) ?_
       (refine (slices_Compare_int_int.calls K Ax cx ([x.f0, x.f1] : List Int) Ay cy ([y.f0, y.f1] : List Int) m W14 (Kd.R_reads' HOX.out).2.2 (Kd.R_reads' HOX.out).2.1 (Kd.R_reads' HOY.out).2.2 (Kd.R_reads' HOY.out).2.1 HG.out).mono ?_)
       rintro e W15 ⟨rfl, hd⟩
       refine ⟨_, rfl, ?_⟩
       have hb := hd.below
       clear hd
       replace HP := Am (And.intro ((hb.cell (bl_ _ _ HP.out.1)).trans HP.out.1) ((hb.cell (bl_ _ _ HP.out.2)).trans HP.out.2))
       replace HB := Am (Bh HB.out HB.out.size hb)
       replace BL := Am (Kb BL.out hb)
       clear hb
       clear HOX HOY HG
       refine hK.out _ _ ⟨Kb BR.out HB.out, BL.out, HP.out.1, HP.out.2⟩ (fun hHeld => ?_)
       clear hK Kc
       refine norm_ (a' := ?_) ?_ ?_
       rotate_left
       ·show Act.put _ (some 59) _ = _
        simp only [Act.put, Lt, Lz, Ls, i64_w, i32_w]
        rfl
       refine pure_ (i := 33) (N := some 60) (v := ?_) (a' := ?_) #[true, true, true, true, true, true, true, true, true, true, true, true, true, true, true, true, true, true, true, true, true, true, true, true, true, true, true, true, true, true, true, true, true, true, false, false] rfl rfl (any_of HT_.out (by kernel_rfl)) (fun _ _ _ h => h) (Or.inl ⟨by rfl, ?_⟩) ?_ ?_
       rotate_left
       ·intro w'
        go_simp
        with_reducible rfl
       rotate_left
       ·simp only [Act.put, Lt, Lz, Ls, i64_w, i32_w]
        rfl
       refine pure_ (i := 34) (N := some 61) (v := ?_) (a' := ?_) #[true, true, true, true, true, true, true, true, true, true, true, true, true, true, true, true, true, true, true, true, true, true, true, true, true, true, true, true, true, true, true, true, true, true, true, false] rfl rfl (any_of HT_.out (by kernel_rfl)) (fun _ _ _ h => h) (Or.inl ⟨by rfl, ?_⟩) ?_ ?_
       rotate_left
       ·intro w'
        go_simp
        with_reducible rfl
       rotate_left
       ·simp only [Act.put, Lt, Lz, Ls, i64_w, i32_w]
        rfl
       refine pure_ (i := 35) (N := some 62) (v := ?_) (a' := ?_) #[true, true, true, true, true, true, true, true, true, true, true, true, true, true, true, true, true, true, true, true, true, true, true, true, true, true, true, true, true, true, true, true, true, true, true, true] rfl rfl (any_of HT_.out (by kernel_rfl)) (fun _ _ _ h => h) (Or.inl ⟨by rfl, ?_⟩) ?_ ?_
       rotate_left
       ·intro w'
        go_simp
        with_reducible rfl
       rotate_left
       ·simp only [Act.put, Lt, Lz, Ls, i64_w, i32_w]
        rfl
       refine done_ (done_of HT_.out (by kernel_rfl)) ?_
       clear hHeld HT_ HW_
       by_cases hm : m ≤ 0
       ·skip
        have d_ : decide (m ≤ 0) = true := decide_eq_true hm
        have HI : Ad (some false = some r) := ⟨by have h_ := HI.out; rw [if_pos hm] at h_; exact h_⟩
        obtain rfl : false = r := Option.some.inj HI.out
        clear HI
        go_wp2
        go_ret
        exact ⟨rfl, Bh HZ.out HZ.out.size HB.out⟩
       ·skip
        have d_ : decide (m ≤ 0) = false := decide_eq_false hm
        have HI : Ad (impl_GoodReplica.o K n me (impl_GoodReplica.pv l2 (j + 1 + 1)) (l2.drop (j + 1 + 1)) = some r) := ⟨by have h_ := HI.out; rw [if_neg hm] at h_; exact h_⟩
        have hm2 : 0 < m := by omega
        go_wp2
        go_roundg (l2.length - (j + 1 + 1))
        case measure => omega
        case rel => exact ⟨j + 1 + 1, by omega, by omega, by go_num, HB, HI⟩
    ·have hltz : ¬ (i : Int) < (l2.length : Int) := by omega
     have hI := HI.out
     rw [List.drop_eq_nil_of_le (by omega)] at hI
     have HI : Ad (some true = some r) := ⟨hI⟩
     clear hI
     obtain rfl : true = r := Option.some.inj HI.out
     clear HI
     go_wp2
     go_ret
     exact ⟨rfl, Bh HZ.out HZ.out.size HB.out⟩
end Go.Proofs.Ytilmcfdhijdhpaa.QFnExactGoodReplica
