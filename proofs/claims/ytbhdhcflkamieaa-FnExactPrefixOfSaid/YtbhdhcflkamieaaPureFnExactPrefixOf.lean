/- The law FnExactPrefixOf holds, for every input. -/
import Derived.Test.YtbhdhcflkamieaaQFnExactPrefixOfx3
import Derived.Test.YtbhdhcflkamieaaMine
namespace Go.Proofs.Ytbhdhcflkamieaa.Pure
open Go.RowKit Go.Proofs.Ytbhdhcflkamieaa.QFnExactPrefixOf Go.Proofs.YtbhdhcflkamieaaW.PrintWords Go.Proofs.YtbhdhcflkamieaaW.PrintLast Go.Proofs.YtbhdhcflkamieaaW.PrintMore
set_option linter.unusedVariables false
set_option linter.unusedSimpArgs false

theorem wrap_next {i : Nat} {n : Nat} (h : i < n) (hn : n ≤ 9223372036854775807) : wrap64 ((i : Int) + 1) = ((i + 1 : Nat) : Int) := by
  unfold wrap64
  omega
theorem rd_nat (l : List Int) (i : Nat) : rd l (i : Int) = l.getD i 0 := by unfold rd; rw [Int.toNat_natCast]
theorem wrap_small {x : Int} (h0 : -9223372036854775808 ≤ x) (h1 : x ≤ 9223372036854775807) : wrap64 x = x := by unfold wrap64; omega
theorem Ev.const {α : Type} {o : Option α} {a : α} (h : o = some a) : Ev (fun _ => o) a := ⟨0, fun _ _ => h⟩
theorem Ev.map {α β : Type} {g : Nat → Option α} {a : α} (h : Ev g a) (f : α → β) : Ev (fun k => (g k).bind fun t => some (f t)) (f a) := by
  obtain ⟨K, h⟩ := h
  exact ⟨K, fun k hk => by show (g k).bind _ = _; rw [h k hk, Option.bind_some]⟩
/-- A loop over a list's elements that ends at the first hit. -/
theorem loop_any {α ρ : Type} (F : Nat → Int → Option ρ) (xs : List α) (d : α) (p : α → Bool) (hit miss : ρ)
    (hs : ∀ i, i < xs.length → (p (xs.getD i d) = true → Ev (fun k => F k (i : Int)) hit) ∧ (p (xs.getD i d) = false → ∀ r, Ev (fun k => F k ((i + 1 : Nat) : Int)) r → Ev (fun k => F k (i : Int)) r))
    (he : Mine.anyP p xs = false → Ev (fun k => F k (xs.length : Int)) miss) : Ev (fun k => F k 0) (if Mine.anyP p xs = true then hit else miss) := by
  have key : ∀ (n i : Nat), xs.length - i = n → i ≤ xs.length → Mine.anyP p (xs.take i) = false → Ev (fun k => F k (i : Int)) (if Mine.anyP p (xs.drop i) = true then hit else miss) := by
    intro n
    induction n with
    | zero =>
      intro i hn hi hb
      obtain rfl : i = xs.length := by omega
      rw [List.drop_eq_nil_of_le (Nat.le_refl _)]
      rw [List.take_of_length_le (Nat.le_refl _)] at hb
      simpa [Mine.anyP] using he hb
    | succ n ih =>
      intro i hn hi hb
      rw [Mine.drop_at xs d i (by omega), Mine.anyP_cons]
      cases hp : p (xs.getD i d) with
      | true => simpa using (hs i (by omega)).1 hp
      | false =>
        have hb' : Mine.anyP p (xs.take (i + 1)) = false := by
          have e : xs.take (i + 1) = xs.take i ++ [xs.getD i d] := by
            rw [List.take_add_one, List.getD_eq_getElem?_getD, List.getElem?_eq_getElem (show i < xs.length by omega)]; rfl
          rw [e]
          unfold Mine.anyP at hb ⊢
          rw [List.any_append, hb, List.any_cons, hp]
          rfl
        simpa using (hs i (by omega)).2 hp _ (ih (i + 1) (by omega) (by omega) hb')
  simpa using key xs.length 0 (by omega) (by omega) (by simp [Mine.anyP])
/-- What a loop over a list's elements comes to: a state that goes on, or a result. -/
def scan {σ α ρ : Type} (step : α → σ → Sum σ ρ) (fin : σ → ρ) : List α → σ → ρ
  | [], s => fin s
  | x :: xs, s => match step x s with
    | .inl s' => scan step fin xs s'
    | .inr r => r
theorem loop_scan {σ α ρ : Type} (F : Nat → σ → Int → Option ρ) (xs : List α) (d : α) (step : α → σ → Sum σ ρ) (fin : σ → ρ) (P : Nat → σ → Prop)
    (hs : ∀ (i : Nat) (s : σ), i < xs.length → P i s → (∀ s', step (xs.getD i d) s = .inl s' → P (i + 1) s' ∧ ∀ r, Ev (fun k => F k s' ((i + 1 : Nat) : Int)) r → Ev (fun k => F k s (i : Int)) r) ∧ (∀ r, step (xs.getD i d) s = .inr r → Ev (fun k => F k s (i : Int)) r))
    (he : ∀ s, P xs.length s → Ev (fun k => F k s (xs.length : Int)) (fin s)) (s : σ) (h0 : P 0 s) : Ev (fun k => F k s 0) (scan step fin xs s) := by
  have key : ∀ (n i : Nat) (s : σ), xs.length - i = n → i ≤ xs.length → P i s → Ev (fun k => F k s (i : Int)) (scan step fin (xs.drop i) s) := by
    intro n
    induction n with
    | zero =>
      intro i s hn hi hp
      obtain rfl : i = xs.length := by omega
      rw [List.drop_eq_nil_of_le (Nat.le_refl _)]
      exact he s hp
    | succ n ih =>
      intro i s hn hi hp
      rw [Mine.drop_at xs d i (by omega), scan]
      cases hst : step (xs.getD i d) s with
      | inl s' => exact ((hs i s (by omega) hp).1 s' hst).2 _ (ih (i + 1) s' (by omega) (by omega) ((hs i s (by omega) hp).1 s' hst).1)
      | inr r => exact (hs i s (by omega) hp).2 r hst
  simpa using key xs.length 0 s (by omega) (by omega) h0

/-- An entry of the laws' own as one of the program's. -/
def cvE (x : S54) : S49 := ⟨x.f0, x.f1, ⟨x.f2.f0, x.f2.f1, x.f2.f2, x.f2.f3, x.f2.f4⟩, ⟨x.f3.f0, x.f3.f1⟩⟩
theorem rdE_nat (l : List S49) (i : Nat) : rd_T49 l (i : Int) = l.getD i z49 := by unfold rd_T49; rw [Int.toNat_natCast]
theorem rdEA_nat (l : List S54) (i : Nat) : rd_T54 l (i : Int) = l.getD i z54 := by unfold rd_T54; rw [Int.toNat_natCast]
theorem getD_mapE {α β : Type} (f : α → β) (xs : List α) (i : Nat) (a : α) (b : β) (h : i < xs.length) : (xs.map f).getD i b = f (xs.getD i a) := by
  simp [List.getD_eq_getElem?_getD, h]
theorem toEntryS_l (xs : List S54) (hm : xs.length ≤ 9223372036854775807) : ∀ (d i : Nat) (acc : List S49), xs.length - i = d → i ≤ xs.length → acc.length = (xs.map cvE).length → acc.take i = (xs.map cvE).take i → Ev (fun k => laws_toEntryS.l0 k xs acc (i : Int)) (xs.map cvE) := by
  intro d
  induction d with
  | zero =>
    intro i acc hd hi hl ht
    have e : acc = xs.map cvE := Mine.take_all (i := i) (by rw [List.length_map]; omega) hl ht
    exact Ev.step (f := fun _ => some (xs.map cvE)) (fun k => by simp only [laws_toEntryS.l0]; rw [if_neg (by omega), e]) (Ev.now _)
  | succ d ih =>
    intro i acc hd hi hl ht
    have hlt : i < xs.length := by omega
    have hs := Mine.take_set (xs.map cvE) acc z49 i (by rw [List.length_map]; exact hlt) hl ht
    rw [getD_mapE cvE xs i z54 z49 hlt] at hs
    refine Ev.step (f := fun k => laws_toEntryS.l0 k xs (acc.set i (cvE (xs.getD i z54))) ((i + 1 : Nat) : Int)) (fun k => ?_) (ih (i + 1) _ (by omega) (by omega) (by rw [List.length_set]; exact hl) hs)
    rw [List.length_map] at hl
    simp only [laws_toEntryS.l0, laws_toEntry.f, laws_toCmd.f, laws_toTold.f, Option.bind_some]
    rw [if_pos (by omega), if_pos (by omega), if_pos (by omega), wrap_next (n := xs.length) hlt hm, rdEA_nat, Int.toNat_natCast]
    rfl
theorem toEntryS_ev (xs : List S54) (hm : xs.length ≤ 1048576) : Ev (fun k => laws_toEntryS.f k xs) (xs.map cvE) := by
  refine Ev.congr (f := fun k => laws_toEntryS.l0 k xs (List.replicate xs.length z49) ((0 : Nat) : Int)) (fun k => ?_) (toEntryS_l xs (by omega) _ 0 _ rfl (by omega) (by simp) (by simp))
  unfold laws_toEntryS.f
  rw [if_pos (by omega), if_pos (by omega)]
  simp
theorem eqEntryS_l (xs : List S49) (hm : xs.length ≤ 9223372036854775807) : ∀ (d i : Nat), xs.length - i = d → Ev (fun k => laws_eqEntryS.l0 k xs xs (i : Int)) true := by
  intro d
  induction d with
  | zero => intro i hd; exact Ev.step (f := fun _ => some true) (fun k => by simp only [laws_eqEntryS.l0]; rw [if_neg (by omega)]) (Ev.now _)
  | succ d ih =>
    intro i hd
    refine Ev.step (fun k => ?_) (ih (i + 1) (by omega))
    simp only [laws_eqEntryS.l0, laws_eqEntry.f, laws_eqCmd.f, laws_eqTold.f]
    rw [if_pos (by omega), if_pos (by omega), if_pos (by omega), wrap_next (n := xs.length) (by omega) hm]
    simp
theorem eqEntryS_ev (xs : List S49) (hm : xs.length ≤ 9223372036854775807) : Ev (fun k => laws_eqEntryS.f k xs xs) true := by
  unfold laws_eqEntryS.f
  refine Ev.congr (fun k => by rw [if_pos rfl]) (by simpa using eqEntryS_l xs hm _ 0 rfl)
theorem szEntryS_f (l : List S54) (a : Int) (h0 : 0 ≤ a) (h1 : a ≤ 1048576) (hl : l.length ≤ 9223372036854775807) : laws_szEntryS.f l a = some (if (l.length : Int) ≤ a then a - (l.length : Int) else -1) := by
  have hw : wrap64 (a - (l.length : Int)) = a - (l.length : Int) := by unfold wrap64; omega
  unfold laws_szEntryS.f
  rw [hw]
  by_cases h : (l.length : Int) ≤ a
  · rw [if_neg (by omega), if_pos h]
  · rw [if_pos (by omega), if_neg h]

theorem getD_zipE {α β : Type} (a : List α) (b : List β) (i : Nat) (x : α) (y : β) (ha : i < a.length) (hb : i < b.length) : (a.zip b).getD i (x, y) = (a.getD i x, b.getD i y) := by
  have h : (a.zip b)[i]? = some (a[i], b[i]) := by rw [List.getElem?_eq_getElem (by rw [List.length_zip]; omega), List.getElem_zip]
  simp [List.getD_eq_getElem?_getD, ha, hb, h]
/-- Are two entries not the same? -/
def diffE (x y : S49) : Bool := (!(x.f0 == y.f0) || (!(x.f1 == y.f1) || ((!(x.f2.f0 == y.f2.f0) || (!(x.f2.f1 == y.f2.f1) || (!(x.f2.f2 == y.f2.f2) || (!(x.f2.f3 == y.f2.f3) || (!(x.f2.f4 == y.f2.f4)))))) || (!(x.f3.f0 == y.f3.f0) || (!(x.f3.f1 == y.f3.f1))))))
theorem diffE_comm (x y : S49) : diffE x y = diffE y x := by
  unfold diffE
  rw [BEq.comm (a := x.f0), BEq.comm (a := x.f1), BEq.comm (a := x.f2.f0), BEq.comm (a := x.f2.f1), BEq.comm (a := x.f2.f2), BEq.comm (a := x.f2.f3), BEq.comm (a := x.f2.f4), BEq.comm (a := x.f3.f0), BEq.comm (a := x.f3.f1)]
def prefR (a b : List S49) : Bool × Bool :=
  if 60 < a.length ∨ 60 < b.length then (false, false) else if a.length ≤ b.length then (!Mine.anyP (fun xy : S49 × S49 => diffE xy.1 xy.2) (a.zip b), true) else (false, true)
theorem pref_body (a b : List S49) (ha : a.length ≤ 60) (i : Nat) (h1 : i < a.length) (h2 : i < b.length) (k : Nat) : spec_PrefixOf.l0 (k + 1) b a (a.length : Int) (i : Int) = if diffE (a.getD i z49) (b.getD i z49) = true then some (false, true) else spec_PrefixOf.l0 k b a (a.length : Int) ((i + 1 : Nat) : Int) := by
  rw [diffE_comm]
  simp only [spec_PrefixOf.l0]
  rw [if_pos (by omega), if_pos (by omega), if_pos (by omega), if_neg (by omega), if_pos (by omega), rdE_nat, rdE_nat, wrap_next h1 (by omega)]
  rfl
theorem specPref_l (a b : List S49) (ha : a.length ≤ 60) (hb : b.length ≤ 60) : Ev (fun k => spec_PrefixOf.l0 k b a (a.length : Int) 0) (prefR a b) := by
  unfold prefR
  rw [if_neg (by omega)]
  by_cases hl : a.length ≤ b.length
  · rw [if_pos hl]
    have hz : (a.zip b).length = a.length := by rw [List.length_zip]; omega
    have key := loop_any (fun k i => spec_PrefixOf.l0 k b a (a.length : Int) i) (a.zip b) (z49, z49) (fun xy : S49 × S49 => diffE xy.1 xy.2) (false, true) (true, true) (fun i hi => ?_) (fun _ => ?_)
    · cases hq : Mine.anyP (fun xy : S49 × S49 => diffE xy.1 xy.2) (a.zip b) with
      | true => rw [hq] at key; simpa using key
      | false => rw [hq] at key; simpa using key
    · rw [hz] at hi
      rw [getD_zipE a b i z49 z49 hi (by omega)]
      refine ⟨fun h => Ev.step (f := fun _ => some (false, true)) (fun k => by rw [pref_body a b ha i hi (by omega), if_pos h]) (Ev.now _), fun h r hr => Ev.step (fun k => by rw [pref_body a b ha i hi (by omega), if_neg (by rw [h]; simp)]) hr⟩
    · rw [hz]
      exact Ev.step (f := fun _ => some (true, true)) (fun k => by simp only [spec_PrefixOf.l0]; rw [if_neg (by omega)]) (Ev.now _)
  · rw [if_neg hl]
    have hz : (a.zip b).length = b.length := by rw [List.length_zip]; omega
    have key := loop_any (fun k i => spec_PrefixOf.l0 k b a (a.length : Int) i) (a.zip b) (z49, z49) (fun xy : S49 × S49 => diffE xy.1 xy.2) (false, true) (false, true) (fun i hi => ?_) (fun _ => ?_)
    · cases hq : Mine.anyP (fun xy : S49 × S49 => diffE xy.1 xy.2) (a.zip b) with
      | true => rw [hq] at key; simpa using key
      | false => rw [hq] at key; simpa using key
    · rw [hz] at hi
      rw [getD_zipE a b i z49 z49 (by omega) hi]
      refine ⟨fun h => Ev.step (f := fun _ => some (false, true)) (fun k => by rw [pref_body a b ha i (by omega) hi, if_pos h]) (Ev.now _), fun h r hr => Ev.step (fun k => by rw [pref_body a b ha i (by omega) hi, if_neg (by rw [h]; simp)]) hr⟩
    · rw [hz]
      exact Ev.step (f := fun _ => some (false, true)) (fun k => by simp only [spec_PrefixOf.l0]; rw [if_pos (by omega), if_pos (by omega), if_pos (by omega), if_pos (by omega)]) (Ev.now _)
theorem specPref_ev (a b : List S49) (ha : a.length ≤ 9223372036854775807) (hb : b.length ≤ 9223372036854775807) : Ev (fun k => spec_PrefixOf.f k a b) (prefR a b) := by
  have hj : Ev (fun k => spec_PrefixOf.j0 k a b true) (false, false) := Ev.step (f := fun _ => some _) (fun k => by simp only [spec_PrefixOf.j0]; rw [if_pos trivial]) (Ev.now _)
  unfold spec_PrefixOf.f
  by_cases h1 : (a.length : Int) > 60
  · simp only [if_pos h1]; rw [show prefR a b = (false, false) from if_pos (.inl (by omega))]; exact hj
  · simp only [if_neg h1]
    by_cases h2 : (b.length : Int) > 60
    · rw [show prefR a b = (false, false) from if_pos (.inr (by omega)), decide_eq_true h2]; exact hj
    · rw [decide_eq_false h2]
      exact Ev.step (fun k => by simp only [spec_PrefixOf.j0]; rw [if_neg (by simp)]) (specPref_l a b (by omega) (by omega))
theorem implPref_ev (a b : List S49) (ha : a.length ≤ 9223372036854775807) (hb : b.length ≤ 9223372036854775807) : Ev (fun k => impl_PrefixOf.f k a b) (prefR a b) := by
  unfold impl_PrefixOf.f prefR
  by_cases h1 : (a.length : Int) > 60
  · simp only [if_pos h1]; rw [if_pos (.inl (by omega))]; exact Ev.now _
  · simp only [if_neg h1]
    by_cases h2 : (b.length : Int) > 60
    · simp only [if_pos h2]; rw [if_pos (.inr (by omega))]; exact Ev.now _
    · simp only [if_neg h2]
      rw [if_neg (by omega)]
      by_cases hl : a.length ≤ b.length
      · rw [if_pos hl]
        simp only [if_pos (show (a.length : Int) ≤ (b.length : Int) by omega), if_pos (show (0 : Int) ≤ (a.length : Int) by omega), Int.toNat_natCast]
        refine Ev.map ?_ (fun t => (t, true))
        have ht : (b.take a.length).length = a.length := by rw [List.length_take]; omega
        have hz : (a.zip b).length = a.length := by rw [List.length_zip]; omega
        unfold impl_Entry.f
        simp only [ht, if_true]
        have key := loop_any (fun k i => impl_Entry.l0 k a (b.take a.length) (a.length : Int) i) (a.zip b) (z49, z49) (fun xy : S49 × S49 => diffE xy.1 xy.2) false true (fun i hi => ?_) (fun _ => ?_)
        · cases hq : Mine.anyP (fun xy : S49 × S49 => diffE xy.1 xy.2) (a.zip b) with
          | true => rw [hq] at key; simpa using key
          | false => rw [hq] at key; simpa using key
        · rw [hz] at hi
          have e : (b.take a.length).getD i z49 = b.getD i z49 := by
            simp [List.getD_eq_getElem?_getD, List.getElem?_take, hi]
          have body : ∀ k, impl_Entry.l0 (k + 1) a (b.take a.length) (a.length : Int) (i : Int) = if diffE (a.getD i z49) (b.getD i z49) = true then some false else impl_Entry.l0 k a (b.take a.length) (a.length : Int) ((i + 1 : Nat) : Int) := by
            intro k
            simp only [impl_Entry.l0]
            rw [if_pos (by omega), if_pos (by omega), if_pos (by omega), if_pos (by omega), rdE_nat, rdE_nat, e, wrap_next hi (by omega)]
            rfl
          rw [getD_zipE a b i z49 z49 hi (by omega)]
          refine ⟨fun h => Ev.step (f := fun _ => some false) (fun k => by rw [body, if_pos h]) (Ev.now _), fun h r hr => Ev.step (fun k => by rw [body, if_neg (by rw [h]; simp)]) hr⟩
        · rw [hz]
          exact Ev.step (f := fun _ => some true) (fun k => by simp only [impl_Entry.l0]; rw [if_neg (by omega)]) (Ev.now _)
      · rw [if_neg hl]
        simp only [if_neg (show ¬ (a.length : Int) ≤ (b.length : Int) by omega)]
        exact Ev.now _
theorem FnExactPrefixOf : laws_FnExactPrefixOf.Pure := by
  intro l m ⟨hl, _⟩ ⟨hm, _⟩
  unfold laws_FnExactPrefixOf.Facts
  refine ⟨_, szEntryS_f l 1048576 (by omega) (by omega) hl, ?_⟩
  by_cases h : (l.length : Int) ≤ 1048576
  · rw [if_pos h]
    refine .inr ⟨by omega, _, szEntryS_f m _ (by omega) (by omega) hm, ?_⟩
    by_cases h2 : (m.length : Int) ≤ 1048576 - (l.length : Int)
    · rw [if_pos h2]
      have e1 : (l.map cvE).length = l.length := List.length_map _
      have e2 : (m.map cvE).length = m.length := List.length_map _
      exact .inr ⟨by omega, l.map cvE, Ev.rounds (toEntryS_ev l (by omega)), m.map cvE, Ev.rounds (toEntryS_ev m (by omega)), (prefR (l.map cvE) (m.map cvE)).1, (prefR (l.map cvE) (m.map cvE)).2, Ev.rounds (specPref_ev _ _ (by omega) (by omega)), Ev.rounds (implPref_ev _ _ (by omega) (by omega)), Ev.rounds (eqEntryS_ev _ (by omega)), Ev.rounds (eqEntryS_ev _ (by omega)), trivial⟩
    · rw [if_neg h2]
      exact .inl (by omega)
  · rw [if_neg h]
    exact .inl (by omega)

end Go.Proofs.Ytbhdhcflkamieaa.Pure
