/-
  What the library's texts on strings ask of the world: its table of powers of ten; its variable MaxLen. Both lie below whatever a call makes.
-/
import Derived.Lib.AppendIntMem
import Derived.Lib.ItoaLen
import Derived.Lib.Join
import Derived.Test.YtmknjfnhfcljcaaDoorWWords
namespace Go.Proofs.YtmknjfnhfcljcaaDoorW.PrintWords
open Go.RowKit
/-- The table of the powers of ten is as the program's text lays it. -/
def EnvT (P : Program) (w : World) : Prop := Go.Lib.TabIs P w "internal/strconv.uint64pow10" .u64 Go.Lib.pow10Tab
theorem EnvT.below {P : Program} {w w' : World} (h : EnvT P w) (hb : Below w.heap.size w w') : EnvT P w' := (Go.Lib.tabBelow_of_tabIs h) w' hb
/-- The variable at block g holds some whole number. -/
def EnvM (g : Nat) (w : World) : Prop := ∃ m : Int, w.cell? ⟨g, 0, none⟩ = some (.int .i64 m)
theorem EnvM.below {g : Nat} {w w' : World} (h : EnvM g w) (hb : Below w.heap.size w w') : EnvM g w' := by
  obtain ⟨m, hm⟩ := h
  refine ⟨m, (hb.cell ?_).trans hm⟩
  show g < w.heap.size
  rcases Nat.lt_or_ge g w.heap.size with h' | h'
  · exact h'
  · exfalso
    unfold World.cell? at hm
    rw [Array.getElem?_eq_none h'] at hm
    simp at hm
/-- The bytes of a joined list are at most as many as its parts and what lies between. -/
theorem join_le (sep : List UInt8) (m : Nat) : ∀ xs : List (List UInt8), (∀ x ∈ xs, x.length ≤ m) → (Go.Lib.join xs sep).length ≤ xs.length * (m + sep.length)
  | [], _ => by simp [Go.Lib.join]
  | [x], h => by
    rw [Go.Lib.join_one]
    have := h x (by simp)
    simp only [List.length_cons, List.length_nil]
    omega
  | x :: y :: r, h => by
    have h1 := join_le sep m (y :: r) (fun z hz => h z (by simp [hz]))
    have h2 := h x (by simp)
    have e : (Go.Lib.join (x :: y :: r) sep).length = x.length + sep.length + (Go.Lib.join (y :: r) sep).length := by
      rw [Go.Lib.join_cons, Go.Lib.join_cons]
      simp only [Go.Lib.joinTail, List.map_cons, List.flatten_cons, List.length_append]
      omega
    rw [e, List.length_cons, Nat.succ_mul]
    omega
end Go.Proofs.YtmknjfnhfcljcaaDoorW.PrintWords
