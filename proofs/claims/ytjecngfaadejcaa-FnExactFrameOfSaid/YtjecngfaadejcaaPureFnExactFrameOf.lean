/- The law FnExactFrameOf holds, for every input. -/
import Derived.Test.YtjecngfaadejcaaQFnExactFrameOfx1
import Derived.Test.YtjecngfaadejcaaMine
namespace Go.Proofs.Ytjecngfaadejcaa.Pure
open Go.RowKit Go.Proofs.Ytjecngfaadejcaa.QFnExactFrameOf Go.Proofs.YtjecngfaadejcaaW.PrintWords Go.Proofs.YtjecngfaadejcaaW.PrintLast Go.Proofs.YtjecngfaadejcaaW.PrintMore
set_option linter.unusedVariables false
set_option linter.unusedSimpArgs false

theorem sumOf_l (s : ByteArray) (hn : s.size ≤ 9223372036854775807) : ∀ (d i : Nat), s.size - i = d → i ≤ s.size →
    Ev (fun k => impl_sumOf.l0 k s (spec_l14Frame.hash s i) 33 (s.size : Int) (i : Int)) (spec_l14Frame.hash s s.size) := by
  intro d
  induction d with
  | zero =>
    intro i hd hi
    obtain rfl : i = s.size := by omega
    exact Ev.step (f := fun _ => some _) (fun k => by simp only [impl_sumOf.l0]; rw [if_neg (by omega)]) (Ev.now _)
  | succ d ih =>
    intro i hd hi
    refine Ev.step (f := fun k => impl_sumOf.l0 k s (spec_l14Frame.hash s (i + 1)) 33 (s.size : Int) ((i + 1 : Nat) : Int)) (fun k => ?_) (ih (i + 1) (by omega) (by omega))
    have hw : wrap64 ((i : Int) + 1) = ((i + 1 : Nat) : Int) := by unfold wrap64; omega
    simp only [impl_sumOf.l0, spec_l14Frame.hash]
    rw [if_pos (by omega), if_pos (by omega), if_pos (by omega), hw, Int.mul_comm _ 33]
theorem sumOf_ev (s : ByteArray) (hn : s.size ≤ 9223372036854775807) : Ev (fun k => impl_sumOf.f k s 7 33) (spec_l14Frame.hash s s.size) := sumOf_l s hn _ 0 rfl (by omega)

/-- The program's frame is the reference's. -/
theorem frame_ev (a : ByteArray) (hs : a.size ≤ 1000000) : Ev (fun k => impl_frame.f k a) (spec_l14Frame.fB a) := by
  have hh := spec_l14Frame.hsize a
  have hd : (strOfNums ([((a.size : Int)) % 256] : List Int)) ++ a = spec_l14Frame.head a := rfl
  unfold impl_frame.f impl_twoBytes.f
  simp only [Option.bind_some]
  refine Ev.congr (f := fun k => (impl_sumOf.f k (spec_l14Frame.head a) 7 33).bind fun h => some (((spec_l14Frame.head a) ++ strOfNums ([(wrap64 (Int.tdiv h 256)) % 256, (Int.tmod h 256) % 256] : List Int)) ++ (⟨#[1]⟩ : ByteArray))) (fun k => ?_) ?_
  · rw [if_pos (by rw [spec_l14Frame.nsize]; simp; omega), hd]
    congr 1
    funext h
    rw [if_pos (by rw [hh, spec_l14Frame.nsize]; simp; omega), if_pos (by rw [ByteArray.size_append, hh, spec_l14Frame.nsize]; simp; omega)]
  · refine Ev.bind (sumOf_ev _ (by omega)) ?_
    unfold spec_l14Frame.fB spec_l14Frame.tail
    rw [ByteArray.append_assoc]
    exact Ev.now _

theorem FnExactFrameOf : laws_FnExactFrameOf.Pure := by
  intro s _
  by_cases h1 : (s.size : Int) > 1048576
  · exact ⟨0, by unfold laws_FnExactFrameOf.f; rw [if_pos h1]⟩
  by_cases h2 : (s.size : Int) > 200
  · refine ⟨0, ?_⟩
    unfold laws_FnExactFrameOf.f spec_FrameOf.f impl_FrameOf.f
    rw [if_neg h1, if_pos h2, if_pos h2]
    simp
  obtain ⟨K, k1⟩ := frame_ev s (by omega)
  dsimp only at k1
  refine ⟨K, ?_⟩
  unfold laws_FnExactFrameOf.f spec_FrameOf.f impl_FrameOf.f spec_l14Frame.f
  rw [if_neg h1, if_neg h2, if_neg h2, if_pos (by omega), k1 _ (Nat.le_refl _)]
  simp

end Go.Proofs.Ytjecngfaadejcaa.Pure
