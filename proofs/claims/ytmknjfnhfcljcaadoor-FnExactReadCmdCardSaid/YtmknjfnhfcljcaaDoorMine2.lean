/-
  Words on rows of rows that lie apart: a literal of one element that leads to a row of its own; and what a law's walk says of its rows.
-/
import Derived.Test.YtmknjfnhfcljcaaDoorWMore
import Derived.Test.YtmknjfnhfcljcaaDoorWKept
namespace Go.Proofs.YtmknjfnhfcljcaaDoorW.PrintWords
open Go.RowKit
set_option linter.unusedVariables false
namespace Kd
section
variable {P : Program} {ops : Array Oper} {rest : List Oper} {o : Oper} {a : Act} {Q : Exit → Act → World → Prop} {α : Type}
/-- A literal of one element, whose blocks are okp. -/
theorem S_one (d : Kd α) {W : World} (base e : Nat) (hgd : o.guard = none) {N : Tmp} (hd : o.dst = some N) {x : α} {inner : List Value} {okp : Nat → Prop}
    (hrun : (execOp a.eval o).run P W = .ok (.value (.slice (some ⟨W.heap.size, 0, none⟩) [x].length [x].length)) (W.alloc (.cells inner.toArray e)))
    (hM : d.M W base okp x inner) (hbase : base ≤ W.heap.size)
    (h : ∀ v1 w1, S d e w1 base (fun _ => True) v1 [x] → Below W.heap.size W w1 → wpList P ops Q rest (a.put o.dst v1) w1) : wpList P ops Q (o :: rest) a W := by
  have hl : inner.length = d.sz := d.K_len (d.K_of_M hM)
  refine S_lits (w0 := W) d base e hgd hd (xs := [x]) (inner := inner) (ok := fun _ => True) (fun j k => j = 0 ∧ okp k) hrun (by simpa using hl) ?_ (fun i j k hi hj => hi.1.trans hj.1.symm) (fun _ _ _ => trivial) trivial (Below.refl _ _) hbase (by simp) ?_
  · intro j y hj
    cases j with
    | zero =>
      simp at hj
      subst hj
      rw [Nat.zero_mul, List.drop_zero, List.take_of_length_le (by omega)]
      exact d.M_mono (fun k hk => ⟨rfl, hk⟩) hM
    | succ j => simp at hj
  · intro v1 w1 hS _ hg _
    exact h v1 w1 hS ⟨hg.os, hg.tape, hg.output, hg.size, fun k hk => hg.block k hk (by simp)⟩
end
end Kd
/-- A struct's variable as it lies in memory is loaded whole (laid ahead of a walk). -/
theorem blk_load {P : Program} {W : World} {g : Nat} {cs : Array Value} {t : TypeId} {fr : Nat × Nat} (h : W.heap[g]? = some (.cells cs t fr)) (n : Nat) (hn : cs.size = n) : (loadCellsFrom ⟨g, 0, none⟩ 0 n #[]).run P W = .ok cs W := by
  subst hn
  have := run_loadCells_list (P := P) W ⟨g, 0, none⟩ cs.toList (fun j v hv => by
    have hadd : (⟨g, 0, none⟩ : Addr).add j = ⟨g, j, none⟩ := by unfold Addr.add; split <;> simp_all
    rw [hadd, cell_of_row W g j cs t fr h]
    simpa using hv)
  simpa [loadCells] using this
/-- The world ahead of a call, by a letter and what is known of it. -/
theorem letW {P : Program} {n : FuncId} {args : Array Value} {R : Ending → World → Prop} {W : World} (Q : World → Prop) (hQ : Q W) (k : ∀ W', Q W' → Calls P n args W' R) : Calls P n args W R := k W hQ
theorem letC {P : Program} {c : Code} {Q : Exit → Act → World → Prop} {a : Act} {W : World} (Qw : World → Prop) (hQ : Qw W) (k : ∀ W', Qw W' → Code.wp P c Q a W') : Code.wp P c Q a W := k W hQ
end Go.Proofs.YtmknjfnhfcljcaaDoorW.PrintWords
