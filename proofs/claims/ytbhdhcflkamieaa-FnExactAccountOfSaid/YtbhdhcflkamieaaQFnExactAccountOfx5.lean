-- Written by a program of this session (wip/mk.py) over the kit's print: Lean checks it.
import Derived.Test.YtbhdhcflkamieaaQFnExactAccountOfx0
import Derived.Test.YtbhdhcflkamieaaQFnExactAccountOfx4
namespace Go.Proofs.Ytbhdhcflkamieaa.QFnExactAccountOf
open Go.RowKit Go.Proofs.YtbhdhcflkamieaaW.PrintWords Go.Proofs.YtbhdhcflkamieaaW.PrintLast Go.Proofs.YtbhdhcflkamieaaW.PrintMore
attribute [local go_sem] max2_int min2_int max_two min_two max_three min_three max_four min_four   -- for this text's walks alone
set_option linter.unusedVariables false
set_option linter.unusedSimpArgs false

/-! ### impl_Entry_29: function 29 -/
theorem impl_Entry_29.bel {w0 w w1 : World} {gb : Nat} (hb : Below w0.heap.size w0 w) (hg : w.grownBy w1 (some gb)) (hge : w0.heap.size ≤ gb) : Below w0.heap.size w0 w1 :=
  ⟨hg.os.trans hb.os, hg.tape.trans hb.tape, hg.output.trans hb.output, Nat.le_trans hb.size hg.size, fun k hk => (hg.block k (Nat.lt_of_lt_of_le hk hb.size) (by intro he; injection he with he; omega)).trans (hb.block k hk)⟩
set_option maxHeartbeats 4000000 in
set_option maxRecDepth 100000 in
theorem impl_Entry_29.app (gb : Nat) : ∀ (xs ys : List Value) (o : Nat) (w : World), (w.setCells gb o xs).setCells gb (o + xs.length) ys = w.setCells gb o (xs ++ ys)
  | [], _, _, _ => rfl
  | x :: xs, ys, o, w => by
    simp only [World.setCells, List.cons_append, List.length_cons]
    rw [← impl_Entry_29.app gb xs ys (o + 1), show o + (xs.length + 1) = o + 1 + xs.length by omega]
set_option maxHeartbeats 4000000 in
set_option maxRecDepth 100000 in
theorem impl_Entry_29.zeros (n : Nat) : (Builtin.zeroCells (#[.int .i64 0, .int .i64 0, .int .i64 0, .int .i64 0, .int .i64 0, .int .i64 0, .int .i64 0, .int .i64 0, .int .i64 0] : Array Value) n).toList = List.replicate (n * 9) (.int .i64 0) := by
  have h9 : ∀ j, j < 9 → (#[.int .i64 0, .int .i64 0, .int .i64 0, .int .i64 0, .int .i64 0, .int .i64 0, .int .i64 0, .int .i64 0, .int .i64 0] : Array Value)[j]! = .int .i64 0 := fun j hj => by
    match j, hj with
    | 0, _ => rfl
    | 1, _ => rfl
    | 2, _ => rfl
    | 3, _ => rfl
    | 4, _ => rfl
    | 5, _ => rfl
    | 6, _ => rfl
    | 7, _ => rfl
    | 8, _ => rfl
    | j + 9, h => omega
  apply List.ext_getElem
  · simp [Builtin.zeroCells]
  · intro i h1 h2
    have h3 : i % 9 < 9 := Nat.mod_lt _ (by omega)
    have h4 := h9 _ h3
    simp only [Builtin.zeroCells, Array.getElem_toList, Array.getElem_map, Array.getElem_range, List.getElem_replicate]
    exact h4
set_option maxHeartbeats 4000000 in
set_option maxRecDepth 100000 in
theorem impl_Entry_29.run_clear (w : World) (ty : TypeId) (b o n c : Nat) (hn : 0 < n)
    (hc : ∀ j, j < n * 9 → (w.cell? ⟨b, o + j, none⟩).isSome = true) (hf : ∀ j, j < n * 9 → w.frozen? ⟨b, o + j, none⟩ = false) :
    (Builtin.clear_ #[26] ty #[.slice (some ⟨b, o, none⟩) n c]).run Try.prog w = .ok (.tuple #[]) (w.setCells b o (List.replicate (n * 9) (.int .i64 0))) := by
  have hv : ∀ w, (zeroValue 49).run Try.prog w = .ok (.agg #[.int .i64 0, .int .i64 0, .int .i64 0, .int .i64 0, .int .i64 0, .int .i64 0, .int .i64 0, .int .i64 0, .int .i64 0]) w := fun w => by first | rfl | kernel_rfl | (go_simp; done)
  have hst := run_storeCells_cells (P := Try.prog) b o (List.replicate (n * 9) (.int .i64 0)) 0 w (by simpa using hc) (by simpa using hf) (by intro v hv'; rw [List.eq_of_mem_replicate hv']; rfl)
  simp only [Nat.add_zero] at hst
  have hz := impl_Entry_29.zeros n
  obtain ⟨m, rfl⟩ : ∃ m, n = m + 1 := ⟨n - 1, by omega⟩
  simp [Builtin.clear_, run_underlying Try.underlying26, hv, Value.cells, hz, hst]
set_option maxHeartbeats 4000000 in
set_option maxRecDepth 100000 in
theorem impl_Entry_29.store_run {o : Oper} {a : Act} {W : World} {g i : Nat} {cs : Array Value} (ty : TypeId) (x y : Operand) (ho : o.op = .store ty x y) (hx : a.eval x = .pointer (some ⟨g, i, none⟩)) (hy : a.eval y = .agg cs)
    (hi : (Try.prog.info? ty).map (·.size) = some cs.size) (hc : ∀ j, j < cs.toList.length → (W.cell? ⟨g, i + j, none⟩).isSome = true) (hf : ∀ j, j < cs.toList.length → W.frozen? ⟨g, i + j, none⟩ = false) (h1 : ∀ v ∈ cs.toList, v.oneCell' = true) :
    (execOp a.eval o).run Try.prog W = .ok .skip (W.setCells g i cs.toList) := by
  have hst := run_storeCells_cells (P := Try.prog) g i cs.toList 0 W (by simpa using hc) (by simpa using hf) h1
  simp only [Nat.add_zero] at hst
  have hsv : (storeVar ty ⟨g, i, none⟩ (.agg cs)).run Try.prog W = .ok () (W.setCells g i cs.toList) := by
    cases hq : Try.prog.info? ty with
    | none => simp [hq] at hi
    | some z =>
      have hs : cs.size = z.size := by simp [hq] at hi; omega
      simp [storeVar, sizeOf, typeInfo, hq, Value.cells, hs, hst]
  unfold execOp
  simp only [ho, hx, hy, Instr.storeAt, Instr.sureAddr, Sem.run_bind, Sem.run_pure, Result.andThen_ok, hsv]
set_option maxHeartbeats 4000000 in
set_option maxRecDepth 100000 in
theorem impl_Entry_29.clear {base : Nat} {P : Nat → Prop} {gb n cap : Nat} {w0 : World} (hg : w0.heap.size ≤ gb) : ∀ (m o : Nat) (w : World) (l : List S49), o + m ≤ l.length → Kd.R k49 49 w base P (.slice (some ⟨gb, 0, none⟩) n cap) l → Below w0.heap.size w0 w →
    ∃ l' : List S49, l'.length = l.length ∧ l'.take o = l.take o ∧ Kd.R k49 49 (w.setCells gb (o * 9) (List.replicate (m * 9) (.int .i64 0))) base P (.slice (some ⟨gb, 0, none⟩) n cap) l' ∧ Below w0.heap.size w0 (w.setCells gb (o * 9) (List.replicate (m * 9) (.int .i64 0)))
  | 0, o, w, l, _, h, hb => ⟨l, rfl, rfl, by rw [Nat.zero_mul]; exact h, by rw [Nat.zero_mul]; exact hb⟩
  | m + 1, o, w, l, hl, h, hb => by
    have hn : n = l.length := by have := (Kd.R_reads' h).1; omega
    obtain ⟨c, hcl, hM, hcc, hfr⟩ := Kd.R_elem h z49 (o : Int) (by omega) (by omega)
    obtain rfl := k49_openM hM
    have HP := Kd.R_seg h (o : Int) (by omega) (by omega) (seg := [.int .i64 0, .int .i64 0, .int .i64 0, .int .i64 0, .int .i64 0, .int .i64 0, .int .i64 0, .int .i64 0, .int .i64 0]) (j := 0) hcl hcc (show 0 + 9 ≤ 9 from by decide) (x' := ⟨0, 0, ⟨0, 0, 0, 0, 0⟩, ⟨0, 0⟩⟩) (k49_mkM w base (fun k => P k ∧ k ≠ gb) ⟨0, 0, ⟨0, 0, 0, 0, 0⟩, ⟨0, 0⟩⟩) (fun _ hk => hk)
    simp only [Int.toNat_natCast] at HP
    have e : (w.setCells gb (o * 9) [.int .i64 0, .int .i64 0, .int .i64 0, .int .i64 0, .int .i64 0, .int .i64 0, .int .i64 0, .int .i64 0, .int .i64 0]).setCells gb ((o + 1) * 9) (List.replicate (m * 9) (.int .i64 0)) = w.setCells gb (o * 9) (List.replicate ((m + 1) * 9) (.int .i64 0)) := by
      rw [show (m + 1) * 9 = 9 + m * 9 by omega, show (o + 1) * 9 = o * 9 + 9 by omega, ← List.replicate_append_replicate]
      exact impl_Entry_29.app gb [.int .i64 0, .int .i64 0, .int .i64 0, .int .i64 0, .int .i64 0, .int .i64 0, .int .i64 0, .int .i64 0, .int .i64 0] (List.replicate (m * 9) (.int .i64 0)) (o * 9) w
    obtain ⟨l', hl', ht, hR, hB⟩ := impl_Entry_29.clear hg m (o + 1) (w.setCells gb (o * 9) [.int .i64 0, .int .i64 0, .int .i64 0, .int .i64 0, .int .i64 0, .int .i64 0, .int .i64 0, .int .i64 0, .int .i64 0]) (l.set o ⟨0, 0, ⟨0, 0, 0, 0, 0⟩, ⟨0, 0⟩⟩) (by rw [List.length_set]; omega) HP.1 (impl_Entry_29.bel hb HP.2 hg)
    rw [e] at hR hB
    refine ⟨l', by rw [hl', List.length_set], ?_, hR, hB⟩
    have := congrArg (List.take o) ht
    rw [List.take_take, List.take_take, Nat.min_eq_left (by omega)] at this
    rw [this, List.take_set_of_le (Nat.le_refl _)]
set_option maxHeartbeats 8000000 in
set_option maxRecDepth 100000 in
theorem impl_Entry_29.del (g : Nat) (lb : Array Value) (p : S49 → Option Bool) (P : Nat → Prop) (v : Value) (xs r : List S49) (w0 w : World)
    (eg : ∀ args w, (callFunc g args).run Try.prog w = .ok (.enter g args) w) (hB : Below w0.heap.size w0 w)
    (ho : Kd.R k49 49 w w0.heap.size P v xs)
    (hp : ∀ (W : World) (x : S49), x ∈ xs → Below w0.heap.size w0 W → ∀ b : Bool, p x = some b → Calls Try.prog g (#[.agg #[.int .i64 x.f0, .int .i64 x.f1, .int .i64 x.f2.f0, .int .i64 x.f2.f1, .int .i64 x.f2.f2, .int .i64 x.f2.f3, .int .i64 x.f2.f4, .int .i64 x.f3.f0, .int .i64 x.f3.f1]] ++ lb) W fun e w' => e = .returned (.bool b) ∧ Below W.heap.size W w')
    (h : Mine.delO p xs = some r) :
    Calls Try.prog 29 #[v, .func (.func g) #[] lb] w fun e w' => ∃ v0_ : Value, e = .returned v0_ ∧ Kd.R k49 49 w' w0.heap.size P v0_ r ∧ Below w0.heap.size w0 w' := by
  have hu := Try.underlying49
  obtain ⟨A0, c0, rfl⟩ := Kd.R_slice ho
  obtain ⟨i, hi, hcase⟩ := Mine.delO_idx p xs r 0 (Int.le_refl 0) h
  have hmax : xs.length ≤ 9223372036854775807 := (Kd.R_reads' ho).2.2.2.1
  have HO := Aside0.mk ho
  have HB := Aside0.mk hB
  have HP := Aside0.mk hp
  have HC := Aside0.mk hcase
  have HI := Aside0.mk hi
  clear ho hB hp hcase hi h
  go_enter Try.func29, Try.ntmps29
  go_wp2_with fail
  refine (impl_Entry_58.anyO g lb p A0 c0 xs w i eg (Kd.R_reads' HO.out).2.2 (Kd.R_reads' HO.out).2.1 (fun W x hx bW b hb => HP.out W x hx (below_then HB.out HB.out.size bW) b hb) HI.out).mono ?_
  rintro e w1 ⟨rfl, hb1⟩
  have n0_ := Aside0.mk (Kd.R_below HO.out hb1)
  have n1_ := Aside0.mk (below_then HB.out HB.out.size hb1)
  clear HO HB HI hb1
  have HO := n0_
  have HB := n1_
  clear n0_ n1_
  rcases HC.out with ⟨rfl, rfl⟩ | ⟨m, rfl, hm, rest, hr1, rfl⟩
  · clear HC HP
    go_wp2
    go_ret
    exact ⟨_, rfl, HO.out, HB.out⟩
  · clear HC
    obtain ⟨gb, cap, hv, hbg, hgl, _⟩ := Kd.R_form HO.out (by omega)
    injection hv with hv1 hv2 hv3
    subst hv1
    subst hv3
    clear hv2 hgl
    have HG := Aside0.mk hbg
    clear hbg
    have hcap : xs.length ≤ c0 := (Kd.R_reads' HO.out).2.1
    have HS := Aside0.mk (show Mine.delO p (xs.drop (m + 1)) = some rest from hr1)
    clear hr1
    have hz : (0 : Int) + (m : Int) = (m : Int) := by omega
    simp only [hz]
    clear hz
    have hne : ((m : Int) == -1) = false := by rw [beq_eq_false_iff_ne]; omega
    have hw : IntKind.i64.wrap ((m : Int) + 1) = ((m + 1 : Nat) : Int) := by rw [IntWalk.i64_in _ (by omega)]; omega
    go_wp2
    clear hw hne
    go_loopg [5, 6] xs.length (fun gg s5 s6 wr => ∃ (kk jj : Nat) (acc rs : List S49), kk < jj ∧ jj ≤ xs.length ∧ xs.length - jj ≤ gg ∧ s5 = .int .i64 kk ∧ s6 = .int .i64 jj ∧ Aside0 (acc.length = xs.length) ∧ Aside0 (acc.drop jj = xs.drop jj) ∧ Aside0 (Mine.delO p (xs.drop jj) = some rs) ∧ Aside0 (xs.take m ++ rest = acc.take kk ++ rs) ∧ Aside0 (Kd.R k49 49 wr w0.heap.size P (.slice (some ⟨gb, 0, none⟩) xs.length c0) acc) ∧ Aside0 (Below w0.heap.size w0 wr))
    case atStart => exact ⟨m, m + 1, xs, rest, by omega, by omega, by omega, rfl, (by first | rfl | go_num), ⟨rfl⟩, ⟨rfl⟩, HS, ⟨rfl⟩, HO, HB⟩
    case round =>
      obtain ⟨kk, jj, acc, rs, hkj, hjn, hg, rfl, rfl, HL, HD, HS, HR, HO, HB⟩ := hrel
      by_cases hlt : jj < xs.length
      · have hltz : (jj : Int) < (xs.length : Int) := by omega
        have hxe : Aside0 (acc.getD jj z49 = xs.getD jj z49) := ⟨by
          have h1 := HD.out
          rw [Mine.drop_at acc z49 jj (by rw [HL.out]; exact hlt), Mine.drop_at xs z49 jj hlt] at h1
          exact (List.cons.inj h1).1⟩
        have hde : Aside0 (acc.drop (jj + 1) = xs.drop (jj + 1)) := ⟨by
          have h1 := HD.out
          rw [Mine.drop_at acc z49 jj (by rw [HL.out]; exact hlt), Mine.drop_at xs z49 jj hlt] at h1
          exact (List.cons.inj h1).2⟩
        obtain ⟨ce, hcl, hM, hcc, hfr⟩ := Kd.R_elem HO.out z49 (jj : Int) (by omega) (by omega)
        simp only [Int.toNat_natCast] at hM hcc
        rw [hxe.out] at hM
        have PS : Aside0 ((p (xs.getD jj z49)).bind (fun b => (Mine.delO p (xs.drop (jj + 1))).bind fun r => some (if b = true then r else xs.getD jj z49 :: r)) = some rs) := ⟨by have h1 := HS.out; rw [Mine.drop_at xs z49 jj hlt] at h1; exact h1⟩
        have hmem := Mine.getD_mem xs z49 jj hlt
        clear HS HD hxe
        generalize xs.getD jj z49 = y at hM PS hmem
        obtain rfl := k49_openM hM
        have hx0 : wr.cell? ⟨gb, jj * 9, none⟩ = some (.int .i64 y.f0) := hcc 0 _ rfl
        have hx1 : wr.cell? ⟨gb, jj * 9 + 1, none⟩ = some (.int .i64 y.f1) := hcc 1 _ rfl
        have hx2 : wr.cell? ⟨gb, jj * 9 + 2, none⟩ = some (.int .i64 y.f2.f0) := hcc 2 _ rfl
        have hx3 : wr.cell? ⟨gb, jj * 9 + 3, none⟩ = some (.int .i64 y.f2.f1) := hcc 3 _ rfl
        have hx4 : wr.cell? ⟨gb, jj * 9 + 4, none⟩ = some (.int .i64 y.f2.f2) := hcc 4 _ rfl
        have hx5 : wr.cell? ⟨gb, jj * 9 + 5, none⟩ = some (.int .i64 y.f2.f3) := hcc 5 _ rfl
        have hx6 : wr.cell? ⟨gb, jj * 9 + 6, none⟩ = some (.int .i64 y.f2.f4) := hcc 6 _ rfl
        have hx7 : wr.cell? ⟨gb, jj * 9 + 7, none⟩ = some (.int .i64 y.f3.f0) := hcc 7 _ rfl
        have hx8 : wr.cell? ⟨gb, jj * 9 + 8, none⟩ = some (.int .i64 y.f3.f1) := hcc 8 _ rfl
        clear hcl hM hcc hfr
        cases hq : p y with
        | none => exact absurd PS.out (by rw [hq]; simp)
        | some b =>
          cases hd : Mine.delO p (xs.drop (jj + 1)) with
          | none => exact absurd PS.out (by rw [hq, hd]; simp)
          | some rs' =>
          have HS' := Aside0.mk hd
          have PG : Aside0 ((if b = true then rs' else y :: rs') = rs) := ⟨by have h1 := PS.out; rw [hq, hd] at h1; simpa using h1⟩
          have HQ := Aside0.mk hq
          clear PS hq hd
          go_upto_region 8 with (fail)
          refine letC (fun W_ => Below wr.heap.size wr W_ ∧ W_.heap[wr.heap.size]? = some (.cells #[.int .i64 y.f0, .int .i64 y.f1, .int .i64 y.f2.f0, .int .i64 y.f2.f1, .int .i64 y.f2.f2, .int .i64 y.f2.f3, .int .i64 y.f2.f4, .int .i64 y.f3.f0, .int .i64 y.f3.f1] 49 (0, 0))) ⟨below_alloc (Below.refl _ _) _, blk_new wr (.cells #[.int .i64 y.f0, .int .i64 y.f1, .int .i64 y.f2.f0, .int .i64 y.f2.f1, .int .i64 y.f2.f2, .int .i64 y.f2.f3, .int .i64 y.f2.f4, .int .i64 y.f3.f0, .int .i64 y.f3.f1] 49)⟩ ?_
          rintro W1 ⟨hb, hbx⟩
          have HO1 := Aside0.mk (Kd.R_below HO.out hb)
          have HB1 := Aside0.mk (below_then HB.out HB.out.size hb)
          have HX1 := Aside0.mk hbx
          clear hb hbx HO HB hx0 hx1 hx2 hx3 hx4 hx5 hx6 hx7 hx8
          generalize wr.heap.size = gx at HX1
          have hcall := HP.out W1 y hmem HB1.out b HQ.out
          have q0 : W1.cell? ⟨gx, 0, none⟩ = some (.int .i64 y.f0) := (blk_cell HX1.out 0).trans rfl
          have q1 : W1.cell? ⟨gx, 1, none⟩ = some (.int .i64 y.f1) := (blk_cell HX1.out 1).trans rfl
          have q2 : W1.cell? ⟨gx, 2, none⟩ = some (.int .i64 y.f2.f0) := (blk_cell HX1.out 2).trans rfl
          have q3 : W1.cell? ⟨gx, 3, none⟩ = some (.int .i64 y.f2.f1) := (blk_cell HX1.out 3).trans rfl
          have q4 : W1.cell? ⟨gx, 4, none⟩ = some (.int .i64 y.f2.f2) := (blk_cell HX1.out 4).trans rfl
          have q5 : W1.cell? ⟨gx, 5, none⟩ = some (.int .i64 y.f2.f3) := (blk_cell HX1.out 5).trans rfl
          have q6 : W1.cell? ⟨gx, 6, none⟩ = some (.int .i64 y.f2.f4) := (blk_cell HX1.out 6).trans rfl
          have q7 : W1.cell? ⟨gx, 7, none⟩ = some (.int .i64 y.f3.f0) := (blk_cell HX1.out 7).trans rfl
          have q8 : W1.cell? ⟨gx, 8, none⟩ = some (.int .i64 y.f3.f1) := (blk_cell HX1.out 8).trans rfl
          have hwj : IntKind.i64.wrap ((jj : Int) + 1) = ((jj + 1 : Nat) : Int) := by rw [IntWalk.i64_in _ (by omega)]; omega
          have hwk : IntKind.i64.wrap ((kk : Int) + 1) = ((kk + 1 : Nat) : Int) := by rw [IntWalk.i64_in _ (by omega)]; omega
          have HWJ := Aside0.mk hwj
          have HWK := Aside0.mk hwk
          clear hwj hwk
          cases b with
          | true =>
            go_wp2_with fail
            refine hcall.mono ?_; rintro e w' ⟨rfl, hb'⟩
            have HO' := Aside0.mk (Kd.R_below HO1.out hb')
            have HB' := Aside0.mk (below_then HB1.out HB1.out.size hb')
            clear hcall hb' q0 q1 q2 q3 q4 q5 q6 q7 q8
            go_wp2
            go_roundg (xs.length - (jj + 1))
            case measure => omega
            case rel => exact ⟨kk, jj + 1, acc, rs', by omega, by omega, by omega, rfl, by go_num, HL, hde, HS', ⟨HR.out.trans (by rw [show rs' = rs by simpa using PG.out])⟩, HO', HB'⟩
          | false =>
            go_wp2_with fail
            refine hcall.mono ?_; rintro e w' ⟨rfl, hb'⟩
            have HO' := Aside0.mk (Kd.R_below HO1.out hb')
            have HB' := Aside0.mk (below_then HB1.out HB1.out.size hb')
            have HX' := Aside0.mk (blk_below HX1.out hb')
            clear hcall hb' q0 q1 q2 q3 q4 q5 q6 q7 q8 HX1
            obtain ⟨c, hcl, hM, hcc, hfr⟩ := Kd.R_elem HO'.out z49 (kk : Int) (by omega) (by omega)
            obtain rfl := k49_openM hM
            have HPS := Aside0.mk (Kd.R_seg HO'.out (kk : Int) (by omega) (by omega) (seg := [.int .i64 y.f0, .int .i64 y.f1, .int .i64 y.f2.f0, .int .i64 y.f2.f1, .int .i64 y.f2.f2, .int .i64 y.f2.f3, .int .i64 y.f2.f4, .int .i64 y.f3.f0, .int .i64 y.f3.f1]) (j := 0) hcl hcc (show 0 + 9 ≤ 9 from by decide) (x' := y) (k49_mkM _ _ (fun k => P k ∧ k ≠ gb) y) (fun _ hk => hk))
            simp only [Int.toNat_natCast] at hcc hfr HPS
            have HCI : Aside0 (∀ j, j < 9 → (w'.cell? ⟨gb, kk * 9 + j, none⟩).isSome = true) := ⟨fun j hj => by
              match j, hj with
              | 0, _ => exact (congrArg Option.isSome (hcc 0 _ rfl)).trans rfl
              | 1, _ => exact (congrArg Option.isSome (hcc 1 _ rfl)).trans rfl
              | 2, _ => exact (congrArg Option.isSome (hcc 2 _ rfl)).trans rfl
              | 3, _ => exact (congrArg Option.isSome (hcc 3 _ rfl)).trans rfl
              | 4, _ => exact (congrArg Option.isSome (hcc 4 _ rfl)).trans rfl
              | 5, _ => exact (congrArg Option.isSome (hcc 5 _ rfl)).trans rfl
              | 6, _ => exact (congrArg Option.isSome (hcc 6 _ rfl)).trans rfl
              | 7, _ => exact (congrArg Option.isSome (hcc 7 _ rfl)).trans rfl
              | 8, _ => exact (congrArg Option.isSome (hcc 8 _ rfl)).trans rfl
              | j + 9, h => omega⟩
            have HFI : Aside0 (∀ j, j < 9 → w'.frozen? ⟨gb, kk * 9 + j, none⟩ = false) := ⟨fun j _ => hfr j⟩
            clear hcl hcc hfr hM
            have q0 : w'.cell? ⟨gx, 0, none⟩ = some (.int .i64 y.f0) := (blk_cell HX'.out 0).trans rfl
            have q1 : w'.cell? ⟨gx, 1, none⟩ = some (.int .i64 y.f1) := (blk_cell HX'.out 1).trans rfl
            have q2 : w'.cell? ⟨gx, 2, none⟩ = some (.int .i64 y.f2.f0) := (blk_cell HX'.out 2).trans rfl
            have q3 : w'.cell? ⟨gx, 3, none⟩ = some (.int .i64 y.f2.f1) := (blk_cell HX'.out 3).trans rfl
            have q4 : w'.cell? ⟨gx, 4, none⟩ = some (.int .i64 y.f2.f2) := (blk_cell HX'.out 4).trans rfl
            have q5 : w'.cell? ⟨gx, 5, none⟩ = some (.int .i64 y.f2.f3) := (blk_cell HX'.out 5).trans rfl
            have q6 : w'.cell? ⟨gx, 6, none⟩ = some (.int .i64 y.f2.f4) := (blk_cell HX'.out 6).trans rfl
            have q7 : w'.cell? ⟨gx, 7, none⟩ = some (.int .i64 y.f3.f0) := (blk_cell HX'.out 7).trans rfl
            have q8 : w'.cell? ⟨gx, 8, none⟩ = some (.int .i64 y.f3.f1) := (blk_cell HX'.out 8).trans rfl
            have hki : (kk : Int) < (xs.length : Int) := by omega
            go_wp2_with (first | ((with_reducible refine gate_store (t := 49) (p := 33) rfl ?_); refine store_event (t := 49) (p := 33) (v := ?vo_) (w1 := w'.setCells gb (kk * 9) [.int .i64 y.f0, .int .i64 y.f1, .int .i64 y.f2.f0, .int .i64 y.f2.f1, .int .i64 y.f2.f2, .int .i64 y.f2.f3, .int .i64 y.f2.f4, .int .i64 y.f3.f0, .int .i64 y.f3.f1]) ?hg ?ho ?hn ?hr ?_; (case ho => rfl); (case hg => rfl); (case hn => rfl); (case hr => exact impl_Entry_29.store_run (cs := #[.int .i64 y.f0, .int .i64 y.f1, .int .i64 y.f2.f0, .int .i64 y.f2.f1, .int .i64 y.f2.f2, .int .i64 y.f2.f3, .int .i64 y.f2.f4, .int .i64 y.f3.f0, .int .i64 y.f3.f1]) _ _ _ rfl (by rfl) (by rfl) (by kernel_rfl) HCI.out HFI.out (by simp [Value.oneCell'])); intro w12 hw; have HO12 := Aside0.mk (show Kd.R k49 49 w12 w0.heap.size P (.slice (some ⟨gb, 0, none⟩) xs.length c0) (acc.set kk y) from by rw [hw]; exact HPS.out.1); have HB12 := Aside0.mk (show Below w0.heap.size w0 w12 from by rw [hw]; exact impl_Entry_29.bel HB'.out HPS.out.2 HG.out); clear hw))
            go_roundg (xs.length - (jj + 1))
            case measure => omega
            case rel =>
              refine ⟨kk + 1, jj + 1, acc.set kk y, rs', by omega, by omega, by omega, by go_num, by go_num, ⟨by rw [List.length_set]; exact HL.out⟩, ⟨by rw [List.drop_set_of_lt (by omega)]; exact hde.out⟩, HS', ⟨?_⟩, HO12, HB12⟩
              have h1 := HR.out
              have h2 : y :: rs' = rs := by simpa using PG.out
              rw [h1, ← h2, List.take_add_one, List.take_set_of_le (Nat.le_refl _)]
              have : (acc.set kk y)[kk]? = some y := List.getElem?_set_self (by rw [HL.out]; omega)
              rw [this]
              simp
      · obtain rfl : jj = xs.length := by omega
        have PR : Aside0 (xs.take m ++ rest = acc.take kk) := ⟨by
          have h1 := HS.out
          rw [List.drop_eq_nil_of_le (Nat.le_refl _)] at h1
          have h2 : ([] : List S49) = rs := Option.some.inj h1
          rw [HR.out, ← h2, List.append_nil]⟩
        have hltz : ¬ (xs.length : Int) < (xs.length : Int) := by omega
        have hcell : ∀ j, j < (xs.length - kk) * 9 → (wr.cell? (⟨gb, kk * 9 + j, none⟩ : Addr)).isSome = true := fun j hj => by
          obtain ⟨c, hcl, hM, hcc, hfr⟩ := Kd.R_elem HO.out z49 ((kk + j / 9 : Nat) : Int) (by omega) (by omega)
          have hj9 : j % 9 < c.length := by rw [hcl]; exact Nat.mod_lt _ (by decide)
          have h1 := hcc (j % 9) _ (List.getElem?_eq_getElem hj9)
          rw [Int.toNat_natCast, show (kk + j / 9) * (k49).sz + j % 9 = kk * 9 + j from by show (kk + j / 9) * 9 + j % 9 = kk * 9 + j; omega] at h1
          rw [h1]; rfl
        have hfro : ∀ j, j < (xs.length - kk) * 9 → wr.frozen? (⟨gb, kk * 9 + j, none⟩ : Addr) = false := fun j hj => by
          obtain ⟨c, hcl, hM, hcc, hfr⟩ := Kd.R_elem HO.out z49 ((kk + j / 9 : Nat) : Int) (by omega) (by omega)
          have h1 := hfr (j % 9)
          rw [Int.toNat_natCast, show (kk + j / 9) * (k49).sz + j % 9 = kk * 9 + j from by show (kk + j / 9) * 9 + j % 9 = kk * 9 + j; omega] at h1
          exact h1
        have hcl : ∀ ty, (Builtin.clear_ #[26] ty #[.slice (some ⟨gb, kk * 9, none⟩) (xs.length - kk) (c0 - kk)]).run Try.prog wr = .ok (.tuple #[]) (wr.setCells gb (kk * 9) (List.replicate ((xs.length - kk) * 9) (.int .i64 0))) := fun ty => impl_Entry_29.run_clear wr ty gb (kk * 9) (xs.length - kk) (c0 - kk) (by omega) hcell hfro
        clear hcell hfro
        have hkn : (kk : Int) ≤ (xs.length : Int) := by omega
        have hkc : ¬ c0 = kk := by omega
        have hk0 : (0 : Int) ≤ (kk : Int) := by omega
        obtain ⟨l', hl', ht', hR', hB'⟩ := impl_Entry_29.clear HG.out (xs.length - kk) kk wr acc (by rw [HL.out]; omega) HO.out HB.out
        have HR' := Aside0.mk hR'
        have HB' := Aside0.mk hB'
        have HT' := Aside0.mk ht'
        have HL' := Aside0.mk hl'
        clear hR' hB' ht' hl'
        go_wp2
        go_ret
        refine ⟨_, rfl, ?_, HB'.out⟩
        rw [PR.out, ← HT'.out]
        exact Kd.R_take HR'.out (by rw [HL'.out, HL.out]; omega)

/-! ### impl_Entry_30: function 30 -/
def impl_Entry_30.f (l0 : List S49) : Option (List S49) := if l0.length < 1954687338268 then some l0 else none
set_option maxHeartbeats 8000000 in
set_option maxRecDepth 100000 in
theorem impl_Entry_30.calls (A0 : Option Addr) (c0 : Nat) (l0 : List S49) (r : List S49) (w : World) (hr0 : Kd.C k49 w A0 l0.length l0) (hc0 : l0.length ≤ c0) (h : impl_Entry_30.f l0 = some r) :
    Calls Try.prog 30 #[.slice A0 l0.length c0] w fun e w' => ∃ v0_ : Value, e = .returned (v0_) ∧ Kd.R k49 49 w' w.heap.size (fun _ => True) v0_ r ∧ Below w.heap.size w w' := by
  unfold impl_Entry_30.f at h
  by_cases c2 : l0.length < 1954687338268
  · rw [if_pos c2] at h
    obtain rfl := Option.some.inj h
    clear h
    cases A0 with
    | none =>
      have hl : l0.length = 0 := by
        rcases Nat.eq_zero_or_pos l0.length with h | h
        · exact h
        · obtain ⟨ad, he, _⟩ := hr0.2.2 h
          cases he
      have hl : l0 = [] := List.eq_nil_of_length_eq_zero hl
      subst hl
      go_enter Try.func30, Try.ntmps30
      go_wp2_with (first | ((with_reducible refine gate_dst (N := 4) rfl ?_); refine Kd.event_run (w1 := w) (v := .bool true) rfl ?hr ?_; (case hr => rfl)))
      go_ret
      exact ⟨_, rfl, Kd.R_nil _ _ _ _ _, Below.refl _ _⟩
    | some ad =>
      have HR0 := Aside0.mk hr0
      have HC0 := Aside0.mk hc0
      clear hr0 hc0
      have HB := Aside0.mk (Below.refl w.heap.size w)
      obtain ⟨y1, hy1⟩ : ∃ y_ : List S49, y_ = (([] : List S49)) := ⟨_, rfl⟩
      have LM := Aside0.mk (show y1.length + l0.length < 1954687338268 by rw [hy1]; simpa using c2)
      obtain ⟨y2, hy2⟩ : ∃ y_ : List S49, y_ = (y1 ++ l0) := ⟨_, rfl⟩
      have E2 := Aside0.mk (show y2 = l0 by rw [hy2, hy1, List.nil_append])
      have Ny1 := Aside0.mk hy1
      have Ny2 := Aside0.mk hy2
      clear hy1 hy2 c2
      have hu := Try.underlying49
      go_enter Try.func30, Try.ntmps30
      go_wp2_with (first | ((with_reducible refine gate_dst (N := 4) rfl ?_); refine Kd.event_run (w1 := w) (v := .bool false) rfl ?hr ?_; (case hr => rfl)) | ((with_reducible refine gate_dst (N := 5) rfl ?_); refine Kd.R_lit k49 _ 49 ?hg (N := 5) ?hd (xs := ([] : List S49)) (inner := []) (ok := fun _ => True) (okp := fun _ => True) ?hr ?hp (fun _ hk => hk) trivial (Below.refl _ _) (Nat.le_refl _) (by simp) ?_; (case hd => rfl); (case hg => rfl); (case hr => first | (go_simp; done) | (go_simp; rfl)); (case hp => exact (Reps.none _ _)); intro v121 w3 ho4 hb hg_ hnew_; clear hg_ hnew_; (first | rw [← Ny1.out] at ho4 | (simp only [Int.reduceToNat] at ho4; rw [← Ny1.out] at ho4)); have n0_ := Aside0.mk (Kd.R_lower ho4 (below_size (by repeat (first | (with_reducible first | exact HB.out | apply below_alloc | apply pw_below_drewN | apply below_drew1) | exact HB.out)))); have n1_ := Aside0.mk (below_step (by repeat (first | (with_reducible first | exact HB.out | apply below_alloc | apply pw_below_drewN | apply below_drew1) | exact HB.out)) hb); clear HB; have HO1 := n0_; have HB := n1_; clear n0_ n1_; clear hb ho4) | ((with_reducible refine gate_builtin (b := .append) (xs := #[.tmp 5, .tmp 6]) rfl ?_); at_builtin; refine Kd.R_append_rows k49 (w0 := w) w.heap.size rfl (.tmp 5) (.tmp 6) 26 49 (.agg #[(.int .i64 0), (.int .i64 0), (.int .i64 0), (.int .i64 0), (.int .i64 0), (.int .i64 0), (.int .i64 0), (.int .i64 0), (.int .i64 0)]) 72 rfl Try.underlying26 info49 rfl (by decide) (by omega) v121 y1 l0 _ _ _ (fun _ => True) (fun _ => False) rfl rfl ?aO ?aR (fun _ _ h => h) (fun _ h => h.elim) ?aF ?aB ?aS ?aL ?_; (case aR => repeat (first | exact (Kd.C_below HR0.out HB.out) | (with_reducible refine Kd.C_alloc ?_ _) | (with_reducible refine Kd.C_drewN ?_ _) | (with_reducible refine Kd.C_drew ?_))); (case aB => exact (by repeat (first | (with_reducible first | exact HB.out | apply below_alloc | apply pw_below_drewN | apply below_drew1) | exact HB.out))); (case aF => exact (fun _ _ => trivial)); (case aO => exact (by (with_reducible repeat (first | apply Kd.R_alloc | apply Kd.R_drewN | apply Kd.R_drew)); exact HO1.out)); (case aS => exact (below_size (by repeat (first | (with_reducible first | exact HB.out | apply below_alloc | apply pw_below_drewN | apply below_drew1) | exact HB.out)))); (case aL => have := LM.out; omega); intro v124 w5 ho hb hg hat; rw [← Ny2.out] at ho; have n0_ := Aside0.mk (hb); have n1_ := Aside0.mk (ho); clear HB; clear HO1; have HB := n0_; have HO2 := n1_; clear n0_ n1_; clear ho hb hg hat))
      go_ret
      exact ⟨_, by first | rfl | (simp [errW_none, errW_some] <;> rfl) | (simp [*, errW_none, errW_some] <;> rfl), by rw [← E2.out]; (with_reducible repeat (first | apply Kd.R_alloc | apply Kd.R_drewN | apply Kd.R_drew)); exact HO2.out, (by repeat (first | (with_reducible first | exact HB.out | apply below_alloc | apply pw_below_drewN | apply below_drew1) | exact HB.out))⟩
  · rw [if_neg c2] at h
    exact absurd h (by simp)

/-! ### slices_Index_int_int: function 59 -/
def slices_Index_int_int.l0 : Nat → List Int → Int → Int → Int → Option (Int)
  | 0, _, _, _, _ => none
  | k + 1, x0, x1, x7, x8 => if x8 < x7 then (if 0 ≤ x8 then (if x8 < (x0.length : Int) then (if x1 = (rd x0 x8) then (some x8) else (slices_Index_int_int.l0 k x0 x1 x7 (wrap64 (x8 + 1)))) else (none)) else (none)) else (some (-1))
def slices_Index_int_int.f (k : Nat) (l0 : List Int) (a1 : Int) : Option (Int) := slices_Index_int_int.l0 k l0 a1 (l0.length : Int) 0
theorem slices_Index_int_int.mono_l : ∀ k, (∀ y0 y1 y2 y3, LeO (slices_Index_int_int.l0 k y0 y1 y2 y3) (slices_Index_int_int.l0 (k + 1) y0 y1 y2 y3))
  | 0 => fun _ _ _ _ r h => by simp [slices_Index_int_int.l0] at h
  | k + 1 => by
    have ih0 := slices_Index_int_int.mono_l k
    · intro y0 y1 y2 y3
      unfold slices_Index_int_int.l0
      repeat' first
      | (with_reducible exact ih0 _ _ _ _)
      | (with_reducible exact LeO.refl _)
      | (with_reducible exact LeO.none _)
      | (with_reducible refine LeO.ite ?_ ?_)
      | (with_reducible refine LeO.bind ?_ (fun _ => ?_))
      | exact ih0 _ _ _ _
      | exact LeO.none _
      | refine LeO.ite ?_ ?_
      | refine LeO.bind ?_ (fun _ => ?_)
theorem slices_Index_int_int.mono : ∀ a0 a1 k, LeO (slices_Index_int_int.f k a0 a1) (slices_Index_int_int.f (k + 1) a0 a1) := by
  intro a0 a1 k
  have ih0 := slices_Index_int_int.mono_l k
  unfold slices_Index_int_int.f
  repeat' first
      | (with_reducible exact ih0 _ _ _ _)
      | (with_reducible exact LeO.refl _)
      | (with_reducible exact LeO.none _)
      | (with_reducible refine LeO.ite ?_ ?_)
      | (with_reducible refine LeO.bind ?_ (fun _ => ?_))
      | exact ih0 _ _ _ _
      | exact LeO.none _
      | refine LeO.ite ?_ ?_
      | refine LeO.bind ?_ (fun _ => ?_)
set_option maxHeartbeats 8000000 in
set_option maxRecDepth 100000 in
theorem slices_Index_int_int.calls (k : Nat) (A0 : Option Addr) (c0 : Nat) (l0 : List Int) (a1 : Int) (r : Int) (w : World) (hr0 : Kd.C (Kd.int .i64) w A0 l0.length l0) (hc0 : l0.length ≤ c0) (h : slices_Index_int_int.f k l0 a1 = some r) :
    Calls Try.prog 59 #[.slice A0 l0.length c0, .int .i64 a1] w fun e w' => e = .returned (.int .i64 r) ∧ Drawn0 w w' := by
  have HR0 := Aside0.mk hr0
  have HC0 := Aside0.mk hc0
  clear hr0 hc0
  have H : (slices_Index_int_int.l0 k l0 a1 (l0.length : Int) 0) = some r := h
  clear h
  have H' := Aside0.mk H
  clear H
  go_enter Try.func59, Try.ntmps59
  go_wp2
  go_loopg [8] k (fun kq v8 w' => ∃ (x8_1 : Int), v8 = .int .i64 x8_1 ∧ Aside0 (slices_Index_int_int.l0 kq l0 a1 (l0.length : Int) x8_1 = some r) ∧ Aside0 (kq ≤ k) ∧ Drawn0 w w')
  case atStart => exact ⟨(0), (by first | rfl | (simp; done) | (simp [*]; done)), H', ⟨Nat.le_refl _⟩, by repeat (first | exact Drawn0.refl _ | apply Drawn0.step)⟩
  case round =>
    clear H'
    try clear p2
    obtain ⟨x8_1, rfl, HA, HK1, ⟨m1, rfl⟩⟩ := hrel
    cases gk with
    | zero => exact absurd HA.out (by simp [slices_Index_int_int.l0])
    | succ k1 =>
      have H := HA.out
      clear HA
      simp only [slices_Index_int_int.l0] at H
      by_cases c3 : x8_1 < (l0.length : Int)
      · rw [if_pos c3] at H
        have c3b0 : decide (x8_1 < (l0.length : Int)) = true := decide_eq_true c3
        clear c3
        by_cases c4 : 0 ≤ x8_1
        · rw [if_pos c4] at H
          have c4b0 : decide (0 ≤ x8_1) = true := decide_eq_true c4
          clear c4
          by_cases c5 : x8_1 < (l0.length : Int)
          · rw [if_pos c5] at H
            have c5b0 : decide (x8_1 < (l0.length : Int)) = true := decide_eq_true c5
            clear c5
            by_cases c6 : a1 = (rd l0 x8_1)
            · rw [if_pos c6] at H
              have c6b0 : (a1 == (rd l0 x8_1)) = true := beq_iff_eq.mpr c6
              have c6b1 : (a1 != (rd l0 x8_1)) = false := bne_eq_false_iff_eq.mpr c6
              clear c6
              obtain rfl := Option.some.inj H
              have p227 : 0 ≤ (x8_1 : Int) := of_decide_eq_true (by first | (with_reducible assumption) | assumption)
              have q227 : x8_1 < (l0.length : Int) := of_decide_eq_true (by first | (with_reducible assumption) | assumption)
              obtain ⟨ad227, e227, hx227_0⟩ := Kd.at_int HR0.out x8_1 p227 q227
              cases e227
              replace p227 := eq_true p227
              replace q227 := eq_true q227
              go_wp2
              go_ret
              exact ⟨by first | rfl | (simp; done) | (simp [*]; done), by repeat (first | exact Drawn0.refl _ | apply Drawn0.step)⟩
            · rw [if_neg c6] at H
              have c6b0 : (a1 == (rd l0 x8_1)) = false := beq_eq_false_iff_ne.mpr c6
              have c6b1 : (a1 != (rd l0 x8_1)) = true := bne_iff_ne.mpr c6
              have H' := Aside0.mk H
              clear H
              have p227 : 0 ≤ (x8_1 : Int) := of_decide_eq_true (by first | (with_reducible assumption) | assumption)
              have q227 : x8_1 < (l0.length : Int) := of_decide_eq_true (by first | (with_reducible assumption) | assumption)
              obtain ⟨ad227, e227, hx227_0⟩ := Kd.at_int HR0.out x8_1 p227 q227
              cases e227
              replace p227 := eq_true p227
              replace q227 := eq_true q227
              go_wp2
              go_roundg k1
              case measure => have := HK1.out; omega
              case rel => exact ⟨(wrap64 (x8_1 + 1)), (by first | rfl | (simp; done) | (simp [*]; done)), H', ⟨by have := HK1.out; omega⟩, by repeat (first | exact Drawn0.refl _ | apply Drawn0.step)⟩
          · rw [if_neg c5] at H
            exact absurd H (by simp)
        · rw [if_neg c4] at H
          exact absurd H (by simp)
      · rw [if_neg c3] at H
        have c3b0 : decide (x8_1 < (l0.length : Int)) = false := decide_eq_false c3
        clear c3
        obtain rfl := Option.some.inj H
        go_wp2
        go_ret
        exact ⟨by first | rfl | (simp; done) | (simp [*]; done), by repeat (first | exact Drawn0.refl _ | apply Drawn0.step)⟩

/-! ### slices_Contains_int_int: function 32 -/
def slices_Contains_int_int.f (k : Nat) (l0 : List Int) (a1 : Int) : Option (Bool) := (slices_Index_int_int.f k l0 a1).bind fun t228 => (some (decide (t228 ≥ 0)))
theorem slices_Contains_int_int.mono : ∀ a0 a1 k, LeO (slices_Contains_int_int.f k a0 a1) (slices_Contains_int_int.f (k + 1) a0 a1) := by
  intro a0 a1 k
  unfold slices_Contains_int_int.f
  repeat' first
      | (with_reducible exact slices_Index_int_int.mono _ _ _)
      | (with_reducible exact LeO.refl _)
      | (with_reducible exact LeO.none _)
      | (with_reducible refine LeO.ite ?_ ?_)
      | (with_reducible refine LeO.bind ?_ (fun _ => ?_))
      | exact slices_Index_int_int.mono _ _ _
      | exact LeO.none _
      | refine LeO.ite ?_ ?_
      | refine LeO.bind ?_ (fun _ => ?_)
set_option maxHeartbeats 8000000 in
set_option maxRecDepth 100000 in
theorem slices_Contains_int_int.calls (k : Nat) (A0 : Option Addr) (c0 : Nat) (l0 : List Int) (a1 : Int) (r : Bool) (w : World) (hr0 : Kd.C (Kd.int .i64) w A0 l0.length l0) (hc0 : l0.length ≤ c0) (h : slices_Contains_int_int.f k l0 a1 = some r) :
    Calls Try.prog 32 #[.slice A0 l0.length c0, .int .i64 a1] w fun e w' => e = .returned (.bool r) ∧ Drawn0 w w' := by
  have HR0 := Aside0.mk hr0
  have HC0 := Aside0.mk hc0
  clear hr0 hc0
  have H : ((slices_Index_int_int.f k l0 a1).bind fun t228 => (some (decide (t228 ≥ 0)))) = some r := h
  clear h
  replace H := Option.bind_eq_some_iff.mp H
  obtain ⟨t228, A30, H⟩ := H
  replace H : (some (decide (t228 ≥ 0))) = some r := H
  have A3 := Aside0.mk A30
  clear A30
  obtain rfl := Option.some.inj H
  go_enter Try.func32, Try.ntmps32
  go_wp2_with (first | ((with_reducible refine gate_callee (f := 59) rfl ?_); refine goesL_ (some 7) rfl rfl Try.func59 (by kernel_rfl) rfl #[.slice A0 l0.length c0, .int .i64 a1] rfl (by (try simp only [List.map_toArray, List.map_cons, List.map_nil]); first | done | rfl | (simp only [List.length_drop, List.length_take]; rfl)) ?_; (with_reducible refine (slices_Index_int_int.calls k _ _ l0 a1 t228 _ ?side1 ?side2 A3.out).mono ?_); (case side1 => repeat (first | exact HR0.out | (with_reducible refine Kd.C_alloc ?_ _) | (with_reducible refine Kd.C_drewN ?_ _) | (with_reducible refine Kd.C_drew ?_))); (case side2 => exact HC0.out); rintro e w' ⟨rfl, ⟨nd, rfl⟩⟩; refine ⟨_, rfl, ?_⟩))
  go_ret
  exact ⟨by first | rfl | (simp; done) | (simp [*]; done), by repeat (first | exact Drawn0.refl _ | apply Drawn0.step)⟩

/-! ### impl_touches: function 33 -/
def impl_touches.f (a0_0 : Int) (a0_1 : Int) (a0_2 : Int) (a0_3 : Int) (a0_4 : Int) : Option (List Int) := if a0_0 = 1 then (some (([mn a0_2 a0_3, mx a0_2 a0_3] : List Int))) else (if a0_0 = 2 then (some (([a0_2] : List Int))) else (some (([] : List Int))))
set_option maxHeartbeats 8000000 in
set_option maxRecDepth 100000 in
theorem impl_touches.calls (a0_0 : Int) (a0_1 : Int) (a0_2 : Int) (a0_3 : Int) (a0_4 : Int) (r : List Int) (w : World) (h : impl_touches.f a0_0 a0_1 a0_2 a0_3 a0_4 = some r) :
    Calls Try.prog 33 #[.agg #[.int .i64 a0_0, .int .i64 a0_1, .int .i64 a0_2, .int .i64 a0_3, .int .i64 a0_4]] w fun e w' => ∃ v0_ : Value, e = .returned (v0_) ∧ Kd.R (Kd.int .i64) 3 w' w.heap.size (fun _ => True) v0_ r ∧ Below w.heap.size w w' := by
  have hu45 := Try.underlying45
  have HB := Aside0.mk (Below.refl w.heap.size w)
  have H : (if a0_0 = 1 then (some (([mn a0_2 a0_3, mx a0_2 a0_3] : List Int))) else (if a0_0 = 2 then (some (([a0_2] : List Int))) else (some (([] : List Int))))) = some r := h
  clear h
  by_cases c2 : a0_0 = 1
  · rw [if_pos c2] at H
    have c2b0 : (a0_0 == 1) = true := beq_iff_eq.mpr c2
    have c2b1 : (a0_0 != 1) = false := bne_eq_false_iff_eq.mpr c2
    clear c2
    obtain ⟨ji3, hji3⟩ : ∃ j_ : Int, (mn a0_2 a0_3) = j_ := ⟨_, rfl⟩
    replace H : (some (([ji3, mx a0_2 a0_3] : List Int))) = some r := by first | (rw [hji3] at H; exact H) | (simp only [hji3] at H ⊢; exact H)
    have hji3_ : (if a0_3 < a0_2 then a0_3 else a0_2) = ji3 := hji3
    obtain ⟨ji4, hji4⟩ : ∃ j_ : Int, (mx a0_2 a0_3) = j_ := ⟨_, rfl⟩
    replace H : (some (([ji3, ji4] : List Int))) = some r := by first | (rw [hji4] at H; exact H) | (simp only [hji4] at H ⊢; exact H)
    have hji4_ : (if a0_2 < a0_3 then a0_3 else a0_2) = ji4 := hji4
    obtain ⟨y230, hy230⟩ : ∃ y_ : List Int, y_ = (([ji3, ji4] : List Int)) := ⟨_, rfl⟩
    replace H : (some y230) = some r := by first | (rw [hy230]; with_reducible exact H) | (have H2_ := (Option.bind_some _ _).symm.trans H; rw [hy230]; with_reducible exact H2_) | (have H2_ := (Option.bind_some _ _).symm.trans H; with_reducible exact H2_) | with_reducible exact H | (rw [hy230]; exact H) | exact H
    have Ny230 := Aside0.mk hy230
    clear hy230
    obtain rfl := Option.some.inj H
    go_enter Try.func33, Try.ntmps33
    go_wp2_with (first | ((with_reducible refine gate_dst (N := 1) rfl ?_); refine box_event ?hg (N := 1) ?hd (cs := #[.int .i64 a0_0, .int .i64 a0_1, .int .i64 a0_2, .int .i64 a0_3, .int .i64 a0_4]) (t := 45) ?hr ?_; (case hd => rfl); (case hg => rfl); (case hr => first | (go_simp; done) | (go_simp; rfl)); intro gb229 hg w5 hbox hb; have n0_ := Aside0.mk (below_step (by repeat (first | (with_reducible first | exact HB.out | apply below_alloc | apply pw_below_drewN | apply below_drew1) | exact HB.out)) hb); have n1_ := Aside0.mk (hbox); have n2_ := Aside0.mk ((by rw [hg]; exact (below_size (by repeat (first | (with_reducible first | exact HB.out | apply below_alloc | apply pw_below_drewN | apply below_drew1) | exact HB.out))) : w.heap.size ≤ gb229)); have n3_ := Aside0.mk ((by rw [hg]; exact (below_size (by repeat (first | (with_reducible first | exact HB.out | apply below_alloc | apply pw_below_drewN | apply below_drew1) | exact HB.out))) : w.heap.size ≤ gb229)); clear HB; have HB := n0_; have BK229 := n1_; have GW229 := n2_; have GE229 := n3_; clear n0_ n1_ n2_ n3_; clear hb hbox hg; have hcz6_0 : w5.cell? ⟨gb229, 0, none⟩ = some (.int .i64 a0_0) := (blk_cell BK229.out 0).trans rfl; have hcz6_1 : w5.cell? ⟨gb229, 1, none⟩ = some (.int .i64 a0_1) := (blk_cell BK229.out 1).trans rfl; have hcz6_2 : w5.cell? ⟨gb229, 2, none⟩ = some (.int .i64 a0_2) := (blk_cell BK229.out 2).trans rfl; have hcz6_3 : w5.cell? ⟨gb229, 3, none⟩ = some (.int .i64 a0_3) := (blk_cell BK229.out 3).trans rfl; have hcz6_4 : w5.cell? ⟨gb229, 4, none⟩ = some (.int .i64 a0_4) := (blk_cell BK229.out 4).trans rfl; have hfz6_0 := blk_frozen BK229.out 0; have hfz6_1 := blk_frozen BK229.out 1; have hfz6_2 := blk_frozen BK229.out 2; have hfz6_3 := blk_frozen BK229.out 3; have hfz6_4 := blk_frozen BK229.out 4) | ((with_reducible refine gate_dst (N := 17) rfl ?_); refine Kd.R_lit (Kd.int .i64) _ 3 ?hg (N := 17) ?hd (xs := ([ji3, ji4] : List Int)) (inner := [.int .i64 ji3, .int .i64 ji4]) (ok := fun _ => True) (okp := fun _ => True) ?hr ?hp (fun _ hk => hk) trivial (Below.refl _ _) (Nat.le_refl _) (by simp) ?_; (case hd => rfl); (case hg => rfl); (case hr => first | (go_simp; done) | (go_simp; rfl)); (case hp => exact (Reps.one (show Kd.M (Kd.int .i64) _ _ _ ji3 [.int .i64 ji3] from rfl) (Reps.one (show Kd.M (Kd.int .i64) _ _ _ ji4 [.int .i64 ji4] from rfl) (Reps.none _ _)))); intro v231 w7 ho8 hb hg_ hnew_; clear hg_ hnew_; (first | rw [← Ny230.out] at ho8 | (simp only [Int.reduceToNat] at ho8; rw [← Ny230.out] at ho8)); have n0_ := Aside0.mk (Kd.R_lower ho8 (below_size (by repeat (first | (with_reducible first | exact HB.out | apply below_alloc | apply pw_below_drewN | apply below_drew1 | refine below_set ?_ GE229.out) | exact HB.out)))); have n1_ := Aside0.mk (blk_below (g := gb229) (o := .cells #[.int .i64 a0_0, .int .i64 a0_1, .int .i64 a0_2, .int .i64 a0_3, .int .i64 a0_4] 45 (0, 0)) (by (with_reducible repeat (first | refine blk_drewN ?_ _ | refine blk_drew ?_ | refine blk_alloc ?_ _)); exact BK229.out) hb); have n2_ := Aside0.mk (below_step (by repeat (first | (with_reducible first | exact HB.out | apply below_alloc | apply pw_below_drewN | apply below_drew1 | refine below_set ?_ GE229.out) | exact HB.out)) hb); clear BK229; clear HB; have HO232 := n0_; have BK229 := n1_; have HB := n2_; clear n0_ n1_ n2_; clear hb ho8))
    go_ret
    exact ⟨_, by first | rfl | (simp [errW_none, errW_some] <;> rfl) | (simp only [← hji3, ← hji4]; first | rfl | (simp [errW_none, errW_some] <;> rfl)) | (simp [*, errW_none, errW_some] <;> rfl), by (with_reducible repeat (first | apply Kd.R_alloc | apply Kd.R_drewN | apply Kd.R_drew)); exact HO232.out, by repeat (first | (with_reducible first | exact HB.out | apply below_alloc | apply pw_below_drewN | apply below_drew1 | refine below_set ?_ GE229.out) | exact HB.out)⟩
  · rw [if_neg c2] at H
    have c2b0 : (a0_0 == 1) = false := beq_eq_false_iff_ne.mpr c2
    have c2b1 : (a0_0 != 1) = true := bne_iff_ne.mpr c2
    by_cases c9 : a0_0 = 2
    · rw [if_pos c9] at H
      have c9b0 : (a0_0 == 2) = true := beq_iff_eq.mpr c9
      have c9b1 : (a0_0 != 2) = false := bne_eq_false_iff_eq.mpr c9
      clear c9
      obtain ⟨y233, hy233⟩ : ∃ y_ : List Int, y_ = (([a0_2] : List Int)) := ⟨_, rfl⟩
      replace H : (some y233) = some r := by first | (rw [hy233]; with_reducible exact H) | (have H2_ := (Option.bind_some _ _).symm.trans H; rw [hy233]; with_reducible exact H2_) | (have H2_ := (Option.bind_some _ _).symm.trans H; with_reducible exact H2_) | with_reducible exact H | (rw [hy233]; exact H) | exact H
      have Ny233 := Aside0.mk hy233
      clear hy233
      obtain rfl := Option.some.inj H
      go_enter Try.func33, Try.ntmps33
      go_wp2_with (first | ((with_reducible refine gate_dst (N := 1) rfl ?_); refine box_event ?hg (N := 1) ?hd (cs := #[.int .i64 a0_0, .int .i64 a0_1, .int .i64 a0_2, .int .i64 a0_3, .int .i64 a0_4]) (t := 45) ?hr ?_; (case hd => rfl); (case hg => rfl); (case hr => first | (go_simp; done) | (go_simp; rfl)); intro gb229 hg w10 hbox hb; have n0_ := Aside0.mk (below_step (by repeat (first | (with_reducible first | exact HB.out | apply below_alloc | apply pw_below_drewN | apply below_drew1) | exact HB.out)) hb); have n1_ := Aside0.mk (hbox); have n2_ := Aside0.mk ((by rw [hg]; exact (below_size (by repeat (first | (with_reducible first | exact HB.out | apply below_alloc | apply pw_below_drewN | apply below_drew1) | exact HB.out))) : w.heap.size ≤ gb229)); have n3_ := Aside0.mk ((by rw [hg]; exact (below_size (by repeat (first | (with_reducible first | exact HB.out | apply below_alloc | apply pw_below_drewN | apply below_drew1) | exact HB.out))) : w.heap.size ≤ gb229)); clear HB; have HB := n0_; have BK229 := n1_; have GW229 := n2_; have GE229 := n3_; clear n0_ n1_ n2_ n3_; clear hb hbox hg; have hcz11_0 : w10.cell? ⟨gb229, 0, none⟩ = some (.int .i64 a0_0) := (blk_cell BK229.out 0).trans rfl; have hcz11_1 : w10.cell? ⟨gb229, 1, none⟩ = some (.int .i64 a0_1) := (blk_cell BK229.out 1).trans rfl; have hcz11_2 : w10.cell? ⟨gb229, 2, none⟩ = some (.int .i64 a0_2) := (blk_cell BK229.out 2).trans rfl; have hcz11_3 : w10.cell? ⟨gb229, 3, none⟩ = some (.int .i64 a0_3) := (blk_cell BK229.out 3).trans rfl; have hcz11_4 : w10.cell? ⟨gb229, 4, none⟩ = some (.int .i64 a0_4) := (blk_cell BK229.out 4).trans rfl; have hfz11_0 := blk_frozen BK229.out 0; have hfz11_1 := blk_frozen BK229.out 1; have hfz11_2 := blk_frozen BK229.out 2; have hfz11_3 := blk_frozen BK229.out 3; have hfz11_4 := blk_frozen BK229.out 4) | ((with_reducible refine gate_dst (N := 22) rfl ?_); refine Kd.R_lit (Kd.int .i64) _ 3 ?hg (N := 22) ?hd (xs := ([a0_2] : List Int)) (inner := [.int .i64 a0_2]) (ok := fun _ => True) (okp := fun _ => True) ?hr ?hp (fun _ hk => hk) trivial (Below.refl _ _) (Nat.le_refl _) (by simp) ?_; (case hd => rfl); (case hg => rfl); (case hr => first | (go_simp; done) | (go_simp; rfl)); (case hp => exact (Reps.one (show Kd.M (Kd.int .i64) _ _ _ a0_2 [.int .i64 a0_2] from rfl) (Reps.none _ _))); intro v234 w12 ho13 hb hg_ hnew_; clear hg_ hnew_; (first | rw [← Ny233.out] at ho13 | (simp only [Int.reduceToNat] at ho13; rw [← Ny233.out] at ho13)); have n0_ := Aside0.mk (Kd.R_lower ho13 (below_size (by repeat (first | (with_reducible first | exact HB.out | apply below_alloc | apply pw_below_drewN | apply below_drew1 | refine below_set ?_ GE229.out) | exact HB.out)))); have n1_ := Aside0.mk (blk_below (g := gb229) (o := .cells #[.int .i64 a0_0, .int .i64 a0_1, .int .i64 a0_2, .int .i64 a0_3, .int .i64 a0_4] 45 (0, 0)) (by (with_reducible repeat (first | refine blk_drewN ?_ _ | refine blk_drew ?_ | refine blk_alloc ?_ _)); exact BK229.out) hb); have n2_ := Aside0.mk (below_step (by repeat (first | (with_reducible first | exact HB.out | apply below_alloc | apply pw_below_drewN | apply below_drew1 | refine below_set ?_ GE229.out) | exact HB.out)) hb); clear BK229; clear HB; have HO235 := n0_; have BK229 := n1_; have HB := n2_; clear n0_ n1_ n2_; clear hb ho13))
      go_ret
      exact ⟨_, by first | rfl | (simp [errW_none, errW_some] <;> rfl) | (simp [*, errW_none, errW_some] <;> rfl), by (with_reducible repeat (first | apply Kd.R_alloc | apply Kd.R_drewN | apply Kd.R_drew)); exact HO235.out, by repeat (first | (with_reducible first | exact HB.out | apply below_alloc | apply pw_below_drewN | apply below_drew1 | refine below_set ?_ GE229.out) | exact HB.out)⟩
    · rw [if_neg c9] at H
      have c9b0 : (a0_0 == 2) = false := beq_eq_false_iff_ne.mpr c9
      have c9b1 : (a0_0 != 2) = true := bne_iff_ne.mpr c9
      obtain ⟨y236, hy236⟩ : ∃ y_ : List Int, y_ = (([] : List Int)) := ⟨_, rfl⟩
      replace H : (some y236) = some r := by first | (rw [hy236]; with_reducible exact H) | (have H2_ := (Option.bind_some _ _).symm.trans H; rw [hy236]; with_reducible exact H2_) | (have H2_ := (Option.bind_some _ _).symm.trans H; with_reducible exact H2_) | with_reducible exact H | (rw [hy236]; exact H) | exact H
      have Ny236 := Aside0.mk hy236
      clear hy236
      obtain rfl := Option.some.inj H
      go_enter Try.func33, Try.ntmps33
      go_wp2_with (first | ((with_reducible refine gate_dst (N := 1) rfl ?_); refine box_event ?hg (N := 1) ?hd (cs := #[.int .i64 a0_0, .int .i64 a0_1, .int .i64 a0_2, .int .i64 a0_3, .int .i64 a0_4]) (t := 45) ?hr ?_; (case hd => rfl); (case hg => rfl); (case hr => first | (go_simp; done) | (go_simp; rfl)); intro gb229 hg w14 hbox hb; have n0_ := Aside0.mk (below_step (by repeat (first | (with_reducible first | exact HB.out | apply below_alloc | apply pw_below_drewN | apply below_drew1) | exact HB.out)) hb); have n1_ := Aside0.mk (hbox); have n2_ := Aside0.mk ((by rw [hg]; exact (below_size (by repeat (first | (with_reducible first | exact HB.out | apply below_alloc | apply pw_below_drewN | apply below_drew1) | exact HB.out))) : w.heap.size ≤ gb229)); have n3_ := Aside0.mk ((by rw [hg]; exact (below_size (by repeat (first | (with_reducible first | exact HB.out | apply below_alloc | apply pw_below_drewN | apply below_drew1) | exact HB.out))) : w.heap.size ≤ gb229)); clear HB; have HB := n0_; have BK229 := n1_; have GW229 := n2_; have GE229 := n3_; clear n0_ n1_ n2_ n3_; clear hb hbox hg; have hcz15_0 : w14.cell? ⟨gb229, 0, none⟩ = some (.int .i64 a0_0) := (blk_cell BK229.out 0).trans rfl; have hcz15_1 : w14.cell? ⟨gb229, 1, none⟩ = some (.int .i64 a0_1) := (blk_cell BK229.out 1).trans rfl; have hcz15_2 : w14.cell? ⟨gb229, 2, none⟩ = some (.int .i64 a0_2) := (blk_cell BK229.out 2).trans rfl; have hcz15_3 : w14.cell? ⟨gb229, 3, none⟩ = some (.int .i64 a0_3) := (blk_cell BK229.out 3).trans rfl; have hcz15_4 : w14.cell? ⟨gb229, 4, none⟩ = some (.int .i64 a0_4) := (blk_cell BK229.out 4).trans rfl; have hfz15_0 := blk_frozen BK229.out 0; have hfz15_1 := blk_frozen BK229.out 1; have hfz15_2 := blk_frozen BK229.out 2; have hfz15_3 := blk_frozen BK229.out 3; have hfz15_4 := blk_frozen BK229.out 4) | ((with_reducible refine gate_dst (N := 23) rfl ?_); refine Kd.R_lit (Kd.int .i64) _ 3 ?hg (N := 23) ?hd (xs := ([] : List Int)) (inner := []) (ok := fun _ => True) (okp := fun _ => True) ?hr ?hp (fun _ hk => hk) trivial (Below.refl _ _) (Nat.le_refl _) (by simp) ?_; (case hd => rfl); (case hg => rfl); (case hr => first | (go_simp; done) | (go_simp; rfl)); (case hp => exact (Reps.none _ _)); intro v237 w16 ho17 hb hg_ hnew_; clear hg_ hnew_; (first | rw [← Ny236.out] at ho17 | (simp only [Int.reduceToNat] at ho17; rw [← Ny236.out] at ho17)); have n0_ := Aside0.mk (Kd.R_lower ho17 (below_size (by repeat (first | (with_reducible first | exact HB.out | apply below_alloc | apply pw_below_drewN | apply below_drew1 | refine below_set ?_ GE229.out) | exact HB.out)))); have n1_ := Aside0.mk (blk_below (g := gb229) (o := .cells #[.int .i64 a0_0, .int .i64 a0_1, .int .i64 a0_2, .int .i64 a0_3, .int .i64 a0_4] 45 (0, 0)) (by (with_reducible repeat (first | refine blk_drewN ?_ _ | refine blk_drew ?_ | refine blk_alloc ?_ _)); exact BK229.out) hb); have n2_ := Aside0.mk (below_step (by repeat (first | (with_reducible first | exact HB.out | apply below_alloc | apply pw_below_drewN | apply below_drew1 | refine below_set ?_ GE229.out) | exact HB.out)) hb); clear BK229; clear HB; have HO238 := n0_; have BK229 := n1_; have HB := n2_; clear n0_ n1_ n2_; clear hb ho17))
      go_ret
      exact ⟨_, by first | rfl | (simp [errW_none, errW_some] <;> rfl) | (simp [*, errW_none, errW_some] <;> rfl), by (with_reducible repeat (first | apply Kd.R_alloc | apply Kd.R_drewN | apply Kd.R_drew)); exact HO238.out, by repeat (first | (with_reducible first | exact HB.out | apply below_alloc | apply pw_below_drewN | apply below_drew1 | refine below_set ?_ GE229.out) | exact HB.out)⟩

/-! ### impl_AccountOf_1: function 31 -/
def impl_AccountOf_1.f (k : Nat) (a0_0 : Int) (a0_1 : Int) (a0_2 : Int) (a0_3 : Int) (a0_4 : Int) (a0_5 : Int) (a0_6 : Int) (a0_7 : Int) (a0_8 : Int) (a1_0 : Int) : Option (Bool) := (impl_touches.f a0_2 a0_3 a0_4 a0_5 a0_6).bind fun t241 => ((slices_Contains_int_int.f k t241 a1_0).bind fun t244 => (some (!t244)))
theorem impl_AccountOf_1.mono : ∀ a0 a1 a2 a3 a4 a5 a6 a7 a8 a9 k, LeO (impl_AccountOf_1.f k a0 a1 a2 a3 a4 a5 a6 a7 a8 a9) (impl_AccountOf_1.f (k + 1) a0 a1 a2 a3 a4 a5 a6 a7 a8 a9) := by
  intro a0 a1 a2 a3 a4 a5 a6 a7 a8 a9 k
  unfold impl_AccountOf_1.f
  repeat' first
      | (with_reducible exact slices_Contains_int_int.mono _ _ _)
      | (with_reducible exact LeO.refl _)
      | (with_reducible exact LeO.none _)
      | (with_reducible refine LeO.ite ?_ ?_)
      | (with_reducible refine LeO.bind ?_ (fun _ => ?_))
      | exact slices_Contains_int_int.mono _ _ _
      | exact LeO.none _
      | refine LeO.ite ?_ ?_
      | refine LeO.bind ?_ (fun _ => ?_)
set_option maxHeartbeats 8000000 in
set_option maxRecDepth 100000 in
theorem impl_AccountOf_1.calls (k : Nat) (a0_0 : Int) (a0_1 : Int) (a0_2 : Int) (a0_3 : Int) (a0_4 : Int) (a0_5 : Int) (a0_6 : Int) (a0_7 : Int) (a0_8 : Int) (gq1 : Nat) (a1_0 : Int) (r : Bool) (w : World) (hb1 : w.heap[gq1]? = some (.cells #[.int .i64 a1_0] 3 (0, 0))) (h : impl_AccountOf_1.f k a0_0 a0_1 a0_2 a0_3 a0_4 a0_5 a0_6 a0_7 a0_8 a1_0 = some r) :
    Calls Try.prog 31 #[.agg #[.int .i64 a0_0, .int .i64 a0_1, .int .i64 a0_2, .int .i64 a0_3, .int .i64 a0_4, .int .i64 a0_5, .int .i64 a0_6, .int .i64 a0_7, .int .i64 a0_8], .pointer (some ⟨gq1, 0, none⟩)] w fun e w' => e = .returned (.bool r) ∧ Below w.heap.size w w' := by
  have hu49 := Try.underlying49
  have hu45 := Try.underlying45
  have BK239 := Aside0.mk hb1
  clear hb1
  have HB := Aside0.mk (Below.refl w.heap.size w)
  have H : ((impl_touches.f a0_2 a0_3 a0_4 a0_5 a0_6).bind fun t241 => ((slices_Contains_int_int.f k t241 a1_0).bind fun t244 => (some (!t244)))) = some r := h
  clear h
  replace H := Option.bind_eq_some_iff.mp H
  obtain ⟨t241, A30, H⟩ := H
  replace H : ((slices_Contains_int_int.f k t241 a1_0).bind fun t244 => (some (!t244))) = some r := H
  have A3 := Aside0.mk A30
  clear A30
  replace H := Option.bind_eq_some_iff.mp H
  obtain ⟨t244, A40, H⟩ := H
  replace H : (some (!t244)) = some r := H
  have A4 := Aside0.mk A40
  clear A40
  obtain rfl := Option.some.inj H
  go_enter Try.func31, Try.ntmps31
  try go_wp2_with (first | ((with_reducible refine gate_dst (N := 2) rfl ?_); refine box_event ?hg (N := 2) ?hd (cs := #[.int .i64 a0_0, .int .i64 a0_1, .int .i64 a0_2, .int .i64 a0_3, .int .i64 a0_4, .int .i64 a0_5, .int .i64 a0_6, .int .i64 a0_7, .int .i64 a0_8]) (t := 49) ?hr ?_; (case hd => rfl); (case hg => rfl); (case hr => first | (go_simp; done) | (go_simp; rfl)); intro gb240 hg w5 hbox hb; have n0_ := Aside0.mk (blk_below (g := gq1) (o := .cells #[.int .i64 a1_0] 3 (0, 0)) (by (with_reducible repeat (first | refine blk_drewN ?_ _ | refine blk_drew ?_ | refine blk_alloc ?_ _)); exact BK239.out) hb); have n1_ := Aside0.mk (below_step (by repeat (first | (with_reducible first | exact HB.out | apply below_alloc | apply pw_below_drewN | apply below_drew1 | refine below_set ?_ GE239.out) | exact HB.out)) hb); have n2_ := Aside0.mk (hbox); have n3_ := Aside0.mk ((by rw [hg]; exact (below_size (by repeat (first | (with_reducible first | exact HB.out | apply below_alloc | apply pw_below_drewN | apply below_drew1 | refine below_set ?_ GE239.out) | exact HB.out))) : w.heap.size ≤ gb240)); have n4_ := Aside0.mk ((by rw [hg]; exact (below_size (by repeat (first | (with_reducible first | exact HB.out | apply below_alloc | apply pw_below_drewN | apply below_drew1 | refine below_set ?_ GE239.out) | exact HB.out))) : w.heap.size ≤ gb240)); have n5_ := Aside0.mk ((by rw [hg]; exact Nat.ne_of_lt (blk_lt (g := gq1) (o := .cells #[.int .i64 a1_0] 3 (0, 0)) (by (with_reducible repeat (first | refine blk_drewN ?_ _ | refine blk_drew ?_ | refine blk_alloc ?_ _)); exact BK239.out)) : gq1 ≠ gb240)); have n6_ := Aside0.mk ((by rw [hg]; exact Nat.ne_of_gt (blk_lt (g := gq1) (o := .cells #[.int .i64 a1_0] 3 (0, 0)) (by (with_reducible repeat (first | refine blk_drewN ?_ _ | refine blk_drew ?_ | refine blk_alloc ?_ _)); exact BK239.out)) : gb240 ≠ gq1)); clear BK239; clear HB; have BK239 := n0_; have HB := n1_; have BK240 := n2_; have GW240 := n3_; have GE240 := n4_; have NB239_240 := n5_; have NB240_239 := n6_; clear n0_ n1_ n2_ n3_ n4_ n5_ n6_; clear hb hbox hg))
  have n0_ := Aside0.mk (blk_drew BK239.out)
  have n1_ := Aside0.mk (blk_drew BK240.out)
  have n2_ := Aside0.mk (below_drew1 HB.out)
  clear BK239
  clear BK240
  clear HB
  have BK239 := n0_
  have BK240 := n1_
  have HB := n2_
  clear n0_ n1_ n2_
  refine start_ (n := 7) (S := fun w' => w'.cell? ⟨gb240, 0, none⟩ = some (.int .i64 a0_0) ∧ w'.cell? ⟨gb240, 1, none⟩ = some (.int .i64 a0_1) ∧ w'.cell? ⟨gb240, 2, none⟩ = some (.int .i64 a0_2) ∧ w'.cell? ⟨gb240, 3, none⟩ = some (.int .i64 a0_3) ∧ w'.cell? ⟨gb240, 4, none⟩ = some (.int .i64 a0_4) ∧ w'.cell? ⟨gb240, 5, none⟩ = some (.int .i64 a0_5) ∧ w'.cell? ⟨gb240, 6, none⟩ = some (.int .i64 a0_6) ∧ w'.cell? ⟨gb240, 7, none⟩ = some (.int .i64 a0_7) ∧ w'.cell? ⟨gb240, 8, none⟩ = some (.int .i64 a0_8) ∧ w'.cell? ⟨gq1, 0, none⟩ = some (.int .i64 a1_0)) (ds := []) #[false, false, false, false, false, false, false] (by kernel_rfl) rfl rfl ⟨(blk_cell BK240.out 0).trans rfl, (blk_cell BK240.out 1).trans rfl, (blk_cell BK240.out 2).trans rfl, (blk_cell BK240.out 3).trans rfl, (blk_cell BK240.out 4).trans rfl, (blk_cell BK240.out 5).trans rfl, (blk_cell BK240.out 6).trans rfl, (blk_cell BK240.out 7).trans rfl, (blk_cell BK240.out 8).trans rfl, (blk_cell BK239.out 0).trans rfl⟩ (fun hHeld => ?_)
  generalize w5.drew = w6 at BK239 BK240 HB hHeld ⊢
  refine pure_ (i := 0) (N := some 4) (v := ?_) (a' := ?_) #[true, false, false, false, false, false, false] rfl rfl (by kernel_rfl) (fun _ _ _ h => h) (Or.inl ⟨by rfl, ?_⟩) ?_ ?_
  rotate_left
  · intro w'
    go_simp
    with_reducible rfl
  rotate_left
  · simp only [Act.put, List.setIfInBounds_toArray, List.set_cons_zero, List.set_cons_succ, i64_w, i32_w]
    rfl
  refine take_ (i := 1) (N := some 5) (v := ?_) (a' := ?_) #[true, true, false, false, false, false, false] rfl rfl (by kernel_rfl) (fun _ _ _ h => h) (Or.inl ⟨by rfl, ?_⟩) hHeld ?_ ?_
  rotate_left
  · rintro w' ⟨s0, s1, s2, s3, s4, s5, s6, s7, s8, s9⟩
    go_simp
    with_reducible rfl
  rotate_left
  · simp only [Act.put, List.setIfInBounds_toArray, List.set_cons_zero, List.set_cons_succ, i64_w, i32_w]
    rfl
  refine take_ (i := 3) (N := some 7) (v := ?_) (a' := ?_) #[true, true, false, true, false, false, false] rfl rfl (by kernel_rfl) (fun _ _ _ h => h) (Or.inl ⟨by rfl, ?_⟩) hHeld ?_ ?_
  rotate_left
  · rintro w' ⟨s0, s1, s2, s3, s4, s5, s6, s7, s8, s9⟩
    go_simp
    with_reducible rfl
  rotate_left
  · simp only [Act.put, List.setIfInBounds_toArray, List.set_cons_zero, List.set_cons_succ, i64_w, i32_w]
    rfl
  refine one_ (i := 2) (N := some 6) #[true, true, true, true, false, false, false] rfl rfl (by kernel_rfl) (by decide) (fun K hK => ?_)
  refine goes_ Try.func33 (by kernel_rfl) rfl #[.agg #[.int .i64 a0_2, .int .i64 a0_3, .int .i64 a0_4, .int .i64 a0_5, .int .i64 a0_6]] (by rfl) rfl rfl (by (try simp only [List.map_toArray, List.map_cons, List.map_nil]); first | done | rfl | (simp only [List.length_drop, List.length_take]; rfl)) ?_
  with_reducible refine (impl_touches.calls a0_2 a0_3 a0_4 a0_5 a0_6 t241 _ A3.out).mono ?_
  rintro e w7 ⟨v242, rfl, ho0, hb⟩
  refine ⟨_, rfl, ?_⟩
  have n0_ := Aside0.mk (Kd.R_lower (Kd.R_newB ho0 (g := gq1) (o := .cells #[.int .i64 a1_0] 3 (0, 0)) (by (with_reducible repeat (first | refine blk_drewN ?_ _ | refine blk_drew ?_ | refine blk_alloc ?_ _)); exact BK239.out)) (below_size (by repeat (first | (with_reducible first | exact HB.out | apply below_alloc | apply pw_below_drewN | apply below_drew1 | refine below_set ?_ GE239.out | refine below_set ?_ GE240.out) | exact HB.out))))
  have n1_ := Aside0.mk (blk_below (g := gq1) (o := .cells #[.int .i64 a1_0] 3 (0, 0)) (by (with_reducible repeat (first | refine blk_drewN ?_ _ | refine blk_drew ?_ | refine blk_alloc ?_ _)); exact BK239.out) hb)
  have n2_ := Aside0.mk (blk_below (g := gb240) (o := .cells #[.int .i64 a0_0, .int .i64 a0_1, .int .i64 a0_2, .int .i64 a0_3, .int .i64 a0_4, .int .i64 a0_5, .int .i64 a0_6, .int .i64 a0_7, .int .i64 a0_8] 49 (0, 0)) (by (with_reducible repeat (first | refine blk_drewN ?_ _ | refine blk_drew ?_ | refine blk_alloc ?_ _)); exact BK240.out) hb)
  have n3_ := Aside0.mk (below_step (by repeat (first | (with_reducible first | exact HB.out | apply below_alloc | apply pw_below_drewN | apply below_drew1 | refine below_set ?_ GE239.out | refine below_set ?_ GE240.out) | exact HB.out)) hb)
  clear BK239
  clear BK240
  clear HB
  have HO243 := n0_
  have BK239 := n1_
  have BK240 := n2_
  have HB := n3_
  clear n0_ n1_ n2_ n3_
  (try clear hb)
  (try clear hb2)
  (try clear hk)
  (try clear hi)
  (try clear ho0)
  obtain ⟨Ao8, co8, eo8⟩ := Kd.R_slice HO243.out
  (first | subst eo8 | (injection eo8 with f1_ f2_ f3_; have f4_ := f1_.symm; have f5_ := f3_.symm; clear f1_ f2_ f3_; subst f4_; subst f5_))
  refine hK.out _ _ ⟨(blk_cell BK240.out 0).trans rfl, (blk_cell BK240.out 1).trans rfl, (blk_cell BK240.out 2).trans rfl, (blk_cell BK240.out 3).trans rfl, (blk_cell BK240.out 4).trans rfl, (blk_cell BK240.out 5).trans rfl, (blk_cell BK240.out 6).trans rfl, (blk_cell BK240.out 7).trans rfl, (blk_cell BK240.out 8).trans rfl, (blk_cell BK239.out 0).trans rfl⟩ (fun hHeld => ?_)
  clear hK K
  refine norm_ (a' := ?_) ?_ ?_
  rotate_left
  · show Act.put _ (some 6) _ = _
    simp only [Act.put, List.setIfInBounds_toArray, List.set_cons_zero, List.set_cons_succ, i64_w, i32_w]
    rfl
  refine one_ (i := 4) (N := some 8) #[true, true, true, true, true, false, false] rfl rfl (by kernel_rfl) (by decide) (fun K hK => ?_)
  refine goes_ Try.func32 (by kernel_rfl) rfl #[.slice Ao8 t241.length co8, .int .i64 a1_0] (by rfl) rfl rfl (by (try simp only [List.map_toArray, List.map_cons, List.map_nil]); first | done | rfl | (simp only [List.length_drop, List.length_take]; rfl)) ?_
  with_reducible refine (slices_Contains_int_int.calls k _ _ t241 a1_0 t244 _ ?side1 ?side2 A4.out).mono ?_
  (case side1 => repeat (first | exact (Kd.R_reads' HO243.out).2.2 | (with_reducible refine Kd.C_alloc ?_ _) | (with_reducible refine Kd.C_drewN ?_ _) | (with_reducible refine Kd.C_drew ?_)))
  (case side2 => exact (Kd.R_reads' HO243.out).2.1)
  rintro e w' ⟨rfl, ⟨nd, rfl⟩⟩
  refine ⟨_, rfl, ?_⟩
  refine hK.out _ _ ⟨(blk_cell BK240.out 0).trans rfl, (blk_cell BK240.out 1).trans rfl, (blk_cell BK240.out 2).trans rfl, (blk_cell BK240.out 3).trans rfl, (blk_cell BK240.out 4).trans rfl, (blk_cell BK240.out 5).trans rfl, (blk_cell BK240.out 6).trans rfl, (blk_cell BK240.out 7).trans rfl, (blk_cell BK240.out 8).trans rfl, (blk_cell BK239.out 0).trans rfl⟩ (fun hHeld => ?_)
  clear hK K
  refine norm_ (a' := ?_) ?_ ?_
  rotate_left
  · show Act.put _ (some 8) _ = _
    simp only [Act.put, List.setIfInBounds_toArray, List.set_cons_zero, List.set_cons_succ, i64_w, i32_w]
    rfl
  refine pure_ (i := 5) (N := some 9) (v := ?_) (a' := ?_) #[true, true, true, true, true, true, false] rfl rfl (by kernel_rfl) (fun _ _ _ h => h) (Or.inl ⟨by rfl, ?_⟩) ?_ ?_
  rotate_left
  · intro w'
    go_simp
    with_reducible rfl
  rotate_left
  · simp only [Act.put, List.setIfInBounds_toArray, List.set_cons_zero, List.set_cons_succ, i64_w, i32_w]
    rfl
  refine pure_ (i := 6) (N := some 3) (v := ?_) (a' := ?_) #[true, true, true, true, true, true, true] rfl rfl (by kernel_rfl) (fun _ _ _ h => h) (Or.inl ⟨by rfl, ?_⟩) ?_ ?_
  rotate_left
  · intro w'
    go_simp
    with_reducible rfl
  rotate_left
  · simp only [Act.put, List.setIfInBounds_toArray, List.set_cons_zero, List.set_cons_succ, i64_w, i32_w]
    rfl
  refine done_ (by kernel_rfl) ?_
  try go_wp2
  go_ret
  exact ⟨by first | rfl | (simp [errW_none, errW_some] <;> rfl) | (simp [*, errW_none, errW_some] <;> rfl), by repeat (first | (with_reducible first | exact HB.out | apply below_alloc | apply pw_below_drewN | apply below_drew1 | refine below_set ?_ GE239.out | refine below_set ?_ GE240.out) | exact HB.out)⟩

/-! ### impl_AccountOf: function 12 -/
def impl_AccountOf.f (k : Nat) (l0 : List S49) (a1 : Int) : Option (List S49 × Bool) :=
  (impl_goodEntries.f l0).bind fun b => if b = true then ((impl_isAccount.f a1).bind fun b2 => if b2 = true then ((impl_Entry_30.f l0).bind fun l => (Mine.delO (fun x => impl_AccountOf_1.f k x.f0 x.f1 x.f2.f0 x.f2.f1 x.f2.f2 x.f2.f3 x.f2.f4 x.f3.f0 x.f3.f1 a1) l).bind fun r => some (r, true)) else some ([], false)) else some ([], false)
set_option maxHeartbeats 4000000 in
set_option maxRecDepth 100000 in
theorem impl_AccountOf.calls (k : Nat) (A0 : Option Addr) (c0 : Nat) (l0 : List S49) (a1 : Int) (r1 : List S49) (r2 : Bool) (w : World) (hr0 : Kd.C k49 w A0 l0.length l0) (hc0 : l0.length ≤ c0) (h : impl_AccountOf.f k l0 a1 = some (r1, r2)) :
    Calls Try.prog 12 #[.slice A0 l0.length c0, .int .i64 a1] w fun e w' => ∃ v0_ : Value, e = .returned (.tuple #[v0_, .bool r2]) ∧ Kd.R k49 49 w' w.heap.size (fun _ => True) v0_ r1 ∧ Below w.heap.size w w' := by
  have HR0 := Aside0.mk hr0
  have HC0 := Aside0.mk hc0
  clear hr0 hc0
  unfold impl_AccountOf.f at h
  cases hg : impl_goodEntries.f l0 with
  | none => rw [hg] at h; cases h
  | some b =>
  rw [hg, Option.bind_some] at h
  have HG := Aside0.mk hg
  have HF := Aside0.mk h
  clear hg h
  go_enter Try.func12, Try.ntmps12
  go_wp2_with fail
  refine letW (fun W_ => Below w.heap.size w W_ ∧ W_.heap[w.heap.size]? = some (.cells #[.int .i64 a1] 3 (0, 0))) ⟨below_alloc (Below.refl _ _) _, blk_new w (.cells #[.int .i64 a1] 3)⟩ ?_
  rintro w1 ⟨hb, hx0⟩
  have HB := Aside0.mk hb
  have BX0 := Aside0.mk hx0
  clear hb hx0
  refine (impl_goodEntries.calls A0 c0 l0 b w1 (Kd.C_below HR0.out HB.out) HC0.out HG.out).mono ?_
  rintro e w2 ⟨rfl, hb⟩
  have hb : Below w1.heap.size w1 w2 := by first | exact hb | exact hb.below
  have n0_ := Aside0.mk (blk_below BX0.out hb)
  have n2_ := Aside0.mk (below_then HB.out HB.out.size hb)
  clear BX0 HB hb
  have BX0 := n0_
  have HB := n2_
  clear n0_ n2_
  have q0 : w2.cell? ⟨w.heap.size, 0, none⟩ = some (.int .i64 a1) := (blk_cell BX0.out 0).trans rfl
  cases b with
  | false =>
    have HF : Aside0 (([] : List S49) = r1 ∧ false = r2) := ⟨by simpa using HF.out⟩
    go_wp2
    go_ret2
    obtain ⟨rfl, rfl⟩ := HF.out
    exact ⟨_, rfl, Kd.R_nil _ _ _ _ _, HB.out⟩
  | true =>
    cases hm : impl_isAccount.f a1 with
    | none => exact absurd HF.out (by simp [hm])
    | some b2 =>
    have HM := Aside0.mk hm
    have HF : Aside0 ((if b2 = true then ((impl_Entry_30.f l0).bind fun l => (Mine.delO (fun x => impl_AccountOf_1.f k x.f0 x.f1 x.f2.f0 x.f2.f1 x.f2.f2 x.f2.f3 x.f2.f4 x.f3.f0 x.f3.f1 a1) l).bind fun r => some (r, true)) else some ([], false)) = some (r1, r2)) := ⟨by have h_ := HF.out; rw [if_pos rfl, hm] at h_; exact h_⟩
    clear hm
    go_wp2_with fail
    refine (impl_isAccount.calls a1 b2 w2 HM.out).mono ?_
    rintro e w3 ⟨rfl, hb⟩
    have hb : Below w2.heap.size w2 w3 := by first | exact hb | exact hb.below
    have n0_ := Aside0.mk (blk_below BX0.out hb)
    have n2_ := Aside0.mk (below_then HB.out HB.out.size hb)
    clear BX0 HB hb q0
    have BX0 := n0_
    have HB := n2_
    clear n0_ n2_
    cases b2 with
    | false =>
      have HF : Aside0 (([] : List S49) = r1 ∧ false = r2) := ⟨by simpa using HF.out⟩
      go_wp2
      go_ret2
      obtain ⟨rfl, rfl⟩ := HF.out
      exact ⟨_, rfl, Kd.R_nil _ _ _ _ _, HB.out⟩
    | true =>
      cases hl : impl_Entry_30.f l0 with
      | none => exact absurd HF.out (by simp [hl])
      | some l =>
      cases hd : Mine.delO (fun x => impl_AccountOf_1.f k x.f0 x.f1 x.f2.f0 x.f2.f1 x.f2.f2 x.f2.f3 x.f2.f4 x.f3.f0 x.f3.f1 a1) l with
      | none => exact absurd HF.out (by simp [hl, hd])
      | some r =>
      have HL := Aside0.mk hl
      have HD := Aside0.mk hd
      have HE : Aside0 (r = r1 ∧ true = r2) := ⟨by simpa [hl, hd] using HF.out⟩
      clear hl hd HF
      go_wp2_with fail
      refine (impl_Entry_30.calls A0 c0 l0 l w3 (Kd.C_below HR0.out HB.out) HC0.out HL.out).mono ?_
      rintro e w4 ⟨v, rfl, hR, hb⟩
      have HR := Aside0.mk hR
      have n0_ := Aside0.mk (blk_below BX0.out hb)
      have HB4 := Aside0.mk hb
      clear hb hR
      go_wp2_with fail
      refine (impl_Entry_29.del 31 #[.pointer (some ⟨w.heap.size, 0, none⟩)] (fun x => impl_AccountOf_1.f k x.f0 x.f1 x.f2.f0 x.f2.f1 x.f2.f2 x.f2.f3 x.f2.f4 x.f3.f0 x.f3.f1 a1) (fun _ => True) v l r w3 w4 (fun args w => enters_ Try.func31 (by kernel_rfl) rfl args w) HB4.out HR.out (fun W x hx bW b hb => (impl_AccountOf_1.calls k x.f0 x.f1 x.f2.f0 x.f2.f1 x.f2.f2 x.f2.f3 x.f2.f4 x.f3.f0 x.f3.f1 w.heap.size a1 b W (blk_below BX0.out bW) hb).mono (fun e w' hh => ⟨hh.1, by first | exact hh.2 | exact hh.2.below⟩)) HD.out).mono ?_
      rintro e w5 ⟨v5, rfl, hR5, hb5⟩
      have HR5 := Aside0.mk hR5
      have HB5 := Aside0.mk hb5
      clear hR5 hb5
      go_wp2
      go_ret2
      obtain ⟨rfl, rfl⟩ := HE.out
      exact ⟨_, rfl, Kd.R_lower HR5.out HB.out.size, below_then HB.out HB.out.size HB5.out⟩

end Go.Proofs.Ytbhdhcflkamieaa.QFnExactAccountOf
