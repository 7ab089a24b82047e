/- The law FnExactLeastMeeting holds, for every input. -/
import Derived.Test.YtghblkjhecoaoaaQFnExactLeastMeetingx3
import Derived.Test.YtghblkjhecoaoaaMine
namespace Go.Proofs.Ytghblkjhecoaoaa.Pure
open Go.RowKit Go.Proofs.Ytghblkjhecoaoaa.QFnExactLeastMeeting Go.Proofs.YtghblkjhecoaoaaW.PrintWords Go.Proofs.YtghblkjhecoaoaaW.PrintLast Go.Proofs.YtghblkjhecoaoaaW.PrintMore
set_option linter.unusedVariables false
set_option linter.unusedSimpArgs false

theorem specGroup (n : Int) : spec_IsGroup.f n = some (decide (n = 3 ∨ n = 5)) := by
  unfold spec_IsGroup.f
  by_cases h : n = 3
  · rw [if_pos h]; simp [h]
  · rw [if_neg h]; by_cases h5 : n = 5 <;> simp [h, h5]

theorem implGroup (n : Int) : impl_IsGroup.f n = some (decide (n = 3 ∨ n = 5)) := by
  unfold impl_IsGroup.f
  by_cases h : n = 3
  · rw [if_pos h]; simp [h]
  · rw [if_neg h]; by_cases h5 : n = 5 <;> simp [h, h5]

theorem wrap_next {i : Nat} {n : Nat} (h : i < n) (hn : n ≤ 9223372036854775807) : wrap64 ((i : Int) + 1) = ((i + 1 : Nat) : Int) := by
  unfold wrap64
  omega
theorem rd_nat (l : List Int) (i : Nat) : rd l (i : Int) = l.getD i 0 := by unfold rd; rw [Int.toNat_natCast]
theorem wrap_small {x : Int} (h0 : -9223372036854775808 ≤ x) (h1 : x ≤ 9223372036854775807) : wrap64 x = x := by unfold wrap64; omega
theorem Ev.const {α : Type} {o : Option α} {a : α} (h : o = some a) : Ev (fun _ => o) a := ⟨0, fun _ _ => h⟩
theorem Ev.map {α β : Type} {g : Nat → Option α} {a : α} (h : Ev g a) (f : α → β) : Ev (fun k => (g k).bind fun t => some (f t)) (f a) := by
  obtain ⟨K, h⟩ := h
  exact ⟨K, fun k hk => by show (g k).bind _ = _; rw [h k hk, Option.bind_some]⟩
/-- A loop over a list's elements that ends at the first hit. -/
theorem loop_any {α ρ : Type} (F : Nat → Int → Option ρ) (xs : List α) (d : α) (p : α → Bool) (hit miss : ρ)
    (hs : ∀ i, i < xs.length → (p (xs.getD i d) = true → Ev (fun k => F k (i : Int)) hit) ∧ (p (xs.getD i d) = false → ∀ r, Ev (fun k => F k ((i + 1 : Nat) : Int)) r → Ev (fun k => F k (i : Int)) r))
    (he : Mine.anyP p xs = false → Ev (fun k => F k (xs.length : Int)) miss) : Ev (fun k => F k 0) (if Mine.anyP p xs = true then hit else miss) := by
  have key : ∀ (n i : Nat), xs.length - i = n → i ≤ xs.length → Mine.anyP p (xs.take i) = false → Ev (fun k => F k (i : Int)) (if Mine.anyP p (xs.drop i) = true then hit else miss) := by
    intro n
    induction n with
    | zero =>
      intro i hn hi hb
      obtain rfl : i = xs.length := by omega
      rw [List.drop_eq_nil_of_le (Nat.le_refl _)]
      rw [List.take_of_length_le (Nat.le_refl _)] at hb
      simpa [Mine.anyP] using he hb
    | succ n ih =>
      intro i hn hi hb
      rw [Mine.drop_at xs d i (by omega), Mine.anyP_cons]
      cases hp : p (xs.getD i d) with
      | true => simpa using (hs i (by omega)).1 hp
      | false =>
        have hb' : Mine.anyP p (xs.take (i + 1)) = false := by
          have e : xs.take (i + 1) = xs.take i ++ [xs.getD i d] := by
            rw [List.take_add_one, List.getD_eq_getElem?_getD, List.getElem?_eq_getElem (show i < xs.length by omega)]; rfl
          rw [e]
          unfold Mine.anyP at hb ⊢
          rw [List.any_append, hb, List.any_cons, hp]
          rfl
        simpa using (hs i (by omega)).2 hp _ (ih (i + 1) (by omega) (by omega) hb')
  simpa using key xs.length 0 (by omega) (by omega) (by simp [Mine.anyP])
/-- What a loop over a list's elements comes to: a state that goes on, or a result. -/
def scan {σ α ρ : Type} (step : α → σ → Sum σ ρ) (fin : σ → ρ) : List α → σ → ρ
  | [], s => fin s
  | x :: xs, s => match step x s with
    | .inl s' => scan step fin xs s'
    | .inr r => r
theorem loop_scan {σ α ρ : Type} (F : Nat → σ → Int → Option ρ) (xs : List α) (d : α) (step : α → σ → Sum σ ρ) (fin : σ → ρ) (P : Nat → σ → Prop)
    (hs : ∀ (i : Nat) (s : σ), i < xs.length → P i s → (∀ s', step (xs.getD i d) s = .inl s' → P (i + 1) s' ∧ ∀ r, Ev (fun k => F k s' ((i + 1 : Nat) : Int)) r → Ev (fun k => F k s (i : Int)) r) ∧ (∀ r, step (xs.getD i d) s = .inr r → Ev (fun k => F k s (i : Int)) r))
    (he : ∀ s, P xs.length s → Ev (fun k => F k s (xs.length : Int)) (fin s)) (s : σ) (h0 : P 0 s) : Ev (fun k => F k s 0) (scan step fin xs s) := by
  have key : ∀ (n i : Nat) (s : σ), xs.length - i = n → i ≤ xs.length → P i s → Ev (fun k => F k s (i : Int)) (scan step fin (xs.drop i) s) := by
    intro n
    induction n with
    | zero =>
      intro i s hn hi hp
      obtain rfl : i = xs.length := by omega
      rw [List.drop_eq_nil_of_le (Nat.le_refl _)]
      exact he s hp
    | succ n ih =>
      intro i s hn hi hp
      rw [Mine.drop_at xs d i (by omega), scan]
      cases hst : step (xs.getD i d) s with
      | inl s' => exact ((hs i s (by omega) hp).1 s' hst).2 _ (ih (i + 1) s' (by omega) (by omega) ((hs i s (by omega) hp).1 s' hst).1)
      | inr r => exact (hs i s (by omega) hp).2 r hst
  simpa using key xs.length 0 s (by omega) (by omega) h0

set_option maxRecDepth 100000 in
theorem least3 : laws_FnExactLeastMeeting.f 1000 3 = some true := by decide +kernel
set_option maxRecDepth 100000 in
theorem least5 : laws_FnExactLeastMeeting.f 1000 5 = some true := by decide +kernel
theorem FnExactLeastMeeting : laws_FnExactLeastMeeting.Pure := by
  intro n _
  by_cases h3 : n = 3
  · subst h3; exact ⟨1000, least3⟩
  by_cases h5 : n = 5
  · subst h5; exact ⟨1000, least5⟩
  refine ⟨0, ?_⟩
  unfold laws_FnExactLeastMeeting.f spec_LeastMeeting.f impl_LeastMeeting.f
  rw [specGroup, implGroup]
  simp [h3, h5]

end Go.Proofs.Ytghblkjhecoaoaa.Pure
