/- The law FnExactPlayCmds holds, for every input. -/
import Derived.Test.YtbhhgeecieeefaaQFnExactPlayCmdsx8
import Derived.Test.YtbhhgeecieeefaaMine
namespace Go.Proofs.Ytbhhgeecieeefaa.Pure
open Go.RowKit Go.Proofs.Ytbhhgeecieeefaa.QFnExactPlayCmds Go.Proofs.YtbhhgeecieeefaaW.PrintWords Go.Proofs.YtbhhgeecieeefaaW.PrintLast Go.Proofs.YtbhhgeecieeefaaW.PrintMore
set_option linter.unusedVariables false
set_option linter.unusedSimpArgs false

theorem wrap_next {i : Nat} {n : Nat} (h : i < n) (hn : n ≤ 9223372036854775807) : wrap64 ((i : Int) + 1) = ((i + 1 : Nat) : Int) := by
  unfold wrap64
  omega
theorem rd_nat (l : List Int) (i : Nat) : rd l (i : Int) = l.getD i 0 := by unfold rd; rw [Int.toNat_natCast]
theorem wrap_small {x : Int} (h0 : -9223372036854775808 ≤ x) (h1 : x ≤ 9223372036854775807) : wrap64 x = x := by unfold wrap64; omega
theorem Ev.const {α : Type} {o : Option α} {a : α} (h : o = some a) : Ev (fun _ => o) a := ⟨0, fun _ _ => h⟩
theorem Ev.map {α β : Type} {g : Nat → Option α} {a : α} (h : Ev g a) (f : α → β) : Ev (fun k => (g k).bind fun t => some (f t)) (f a) := by
  obtain ⟨K, h⟩ := h
  exact ⟨K, fun k hk => by show (g k).bind _ = _; rw [h k hk, Option.bind_some]⟩
/-- A loop over a list's elements that ends at the first hit. -/
theorem loop_any {α ρ : Type} (F : Nat → Int → Option ρ) (xs : List α) (d : α) (p : α → Bool) (hit miss : ρ)
    (hs : ∀ i, i < xs.length → (p (xs.getD i d) = true → Ev (fun k => F k (i : Int)) hit) ∧ (p (xs.getD i d) = false → ∀ r, Ev (fun k => F k ((i + 1 : Nat) : Int)) r → Ev (fun k => F k (i : Int)) r))
    (he : Mine.anyP p xs = false → Ev (fun k => F k (xs.length : Int)) miss) : Ev (fun k => F k 0) (if Mine.anyP p xs = true then hit else miss) := by
  have key : ∀ (n i : Nat), xs.length - i = n → i ≤ xs.length → Mine.anyP p (xs.take i) = false → Ev (fun k => F k (i : Int)) (if Mine.anyP p (xs.drop i) = true then hit else miss) := by
    intro n
    induction n with
    | zero =>
      intro i hn hi hb
      obtain rfl : i = xs.length := by omega
      rw [List.drop_eq_nil_of_le (Nat.le_refl _)]
      rw [List.take_of_length_le (Nat.le_refl _)] at hb
      simpa [Mine.anyP] using he hb
    | succ n ih =>
      intro i hn hi hb
      rw [Mine.drop_at xs d i (by omega), Mine.anyP_cons]
      cases hp : p (xs.getD i d) with
      | true => simpa using (hs i (by omega)).1 hp
      | false =>
        have hb' : Mine.anyP p (xs.take (i + 1)) = false := by
          have e : xs.take (i + 1) = xs.take i ++ [xs.getD i d] := by
            rw [List.take_add_one, List.getD_eq_getElem?_getD, List.getElem?_eq_getElem (show i < xs.length by omega)]; rfl
          rw [e]
          unfold Mine.anyP at hb ⊢
          rw [List.any_append, hb, List.any_cons, hp]
          rfl
        simpa using (hs i (by omega)).2 hp _ (ih (i + 1) (by omega) (by omega) hb')
  simpa using key xs.length 0 (by omega) (by omega) (by simp [Mine.anyP])
/-- What a loop over a list's elements comes to: a state that goes on, or a result. -/
def scan {σ α ρ : Type} (step : α → σ → Sum σ ρ) (fin : σ → ρ) : List α → σ → ρ
  | [], s => fin s
  | x :: xs, s => match step x s with
    | .inl s' => scan step fin xs s'
    | .inr r => r
theorem loop_scan {σ α ρ : Type} (F : Nat → σ → Int → Option ρ) (xs : List α) (d : α) (step : α → σ → Sum σ ρ) (fin : σ → ρ) (P : Nat → σ → Prop)
    (hs : ∀ (i : Nat) (s : σ), i < xs.length → P i s → (∀ s', step (xs.getD i d) s = .inl s' → P (i + 1) s' ∧ ∀ r, Ev (fun k => F k s' ((i + 1 : Nat) : Int)) r → Ev (fun k => F k s (i : Int)) r) ∧ (∀ r, step (xs.getD i d) s = .inr r → Ev (fun k => F k s (i : Int)) r))
    (he : ∀ s, P xs.length s → Ev (fun k => F k s (xs.length : Int)) (fin s)) (s : σ) (h0 : P 0 s) : Ev (fun k => F k s 0) (scan step fin xs s) := by
  have key : ∀ (n i : Nat) (s : σ), xs.length - i = n → i ≤ xs.length → P i s → Ev (fun k => F k s (i : Int)) (scan step fin (xs.drop i) s) := by
    intro n
    induction n with
    | zero =>
      intro i s hn hi hp
      obtain rfl : i = xs.length := by omega
      rw [List.drop_eq_nil_of_le (Nat.le_refl _)]
      exact he s hp
    | succ n ih =>
      intro i s hn hi hp
      rw [Mine.drop_at xs d i (by omega), scan]
      cases hst : step (xs.getD i d) s with
      | inl s' => exact ((hs i s (by omega) hp).1 s' hst).2 _ (ih (i + 1) s' (by omega) (by omega) ((hs i s (by omega) hp).1 s' hst).1)
      | inr r => exact (hs i s (by omega) hp).2 r hst
  simpa using key xs.length 0 s (by omega) (by omega) h0

/-- A command of the laws' own as one of the program's. -/
def cv (x : S23) : S27 := ⟨x.f0, x.f1, x.f2, x.f3, x.f4⟩
def goodS (c : S27) : Bool := Mine.goodCmdB c.f0 c.f1 c.f2 c.f3 c.f4
theorem rdC_nat (l : List S27) (i : Nat) : rd_T27 l (i : Int) = l.getD i z27 := by unfold rd_T27; rw [Int.toNat_natCast]
theorem rdA_nat (l : List S23) (i : Nat) : rd_T23 l (i : Int) = l.getD i z23 := by unfold rd_T23; rw [Int.toNat_natCast]
theorem getD_set_self {α : Type} (xs : List α) (i : Nat) (v d : α) (h : i < xs.length) : (xs.set i v).getD i d = v := by simp [List.getD_eq_getElem?_getD, h]
theorem getD_map {α β : Type} (f : α → β) (xs : List α) (i : Nat) (a : α) (b : β) (h : i < xs.length) : (xs.map f).getD i b = f (xs.getD i a) := by
  simp [List.getD_eq_getElem?_getD, h]

theorem toCmdS_l (xs : List S23) (hm : xs.length ≤ 9223372036854775807) : ∀ (d i : Nat) (acc : List S27), xs.length - i = d → i ≤ xs.length → acc.length = (xs.map cv).length → acc.take i = (xs.map cv).take i → Ev (fun k => laws_toCmdS.l0 k xs acc (i : Int)) (xs.map cv) := by
  intro d
  induction d with
  | zero =>
    intro i acc hd hi hl ht
    have e : acc = xs.map cv := Mine.take_all (i := i) (by rw [List.length_map]; omega) hl ht
    exact Ev.step (f := fun _ => some (xs.map cv)) (fun k => by simp only [laws_toCmdS.l0]; rw [if_neg (by omega), e]) (Ev.now _)
  | succ d ih =>
    intro i acc hd hi hl ht
    have hlt : i < xs.length := by omega
    have hs := Mine.take_set (xs.map cv) acc z27 i (by rw [List.length_map]; exact hlt) hl ht
    rw [getD_map cv xs i z23 z27 hlt] at hs
    refine Ev.step (f := fun k => laws_toCmdS.l0 k xs (acc.set i (cv (xs.getD i z23))) ((i + 1 : Nat) : Int)) (fun k => ?_) (ih (i + 1) _ (by omega) (by omega) (by rw [List.length_set]; exact hl) hs)
    rw [List.length_map] at hl
    simp only [laws_toCmdS.l0, laws_toCmd.f, Option.bind_some]
    rw [if_pos (by omega), if_pos (by omega), if_pos (by omega), wrap_next (n := xs.length) hlt hm, rdA_nat, Int.toNat_natCast]
    rfl
theorem toCmdS_ev (xs : List S23) (hm : xs.length ≤ 1048576) : Ev (fun k => laws_toCmdS.f k xs) (xs.map cv) := by
  refine Ev.congr (f := fun k => laws_toCmdS.l0 k xs (List.replicate xs.length z27) ((0 : Nat) : Int)) (fun k => ?_) (toCmdS_l xs (by omega) _ 0 _ rfl (by omega) (by simp) (by simp))
  unfold laws_toCmdS.f
  rw [if_pos (by omega), if_pos (by omega)]
  simp

/-- A number put to its place among rising ones, once. -/
def putL : List Int → Int → List Int
  | [], n => [n]
  | x :: xs, n => if x < n then x :: putL xs n else if x = n then x :: xs else n :: x :: xs
theorem putL_length (n : Int) : ∀ l : List Int, (putL l n).length ≤ l.length + 1
  | [] => by simp [putL]
  | x :: xs => by
    have := putL_length n xs
    unfold putL
    split
    · simp; omega
    · split <;> simp

/-- The accounts that a good command touches (its kind, from, to). -/
def touchL (k f t : Int) : List Int := if k = 1 then putL [f] t else if k = 2 then [f] else []
theorem touchL_length (k f t : Int) : (touchL k f t).length ≤ 2 := by
  unfold touchL
  split
  · exact putL_length t [f]
  · split <;> simp
theorem good_parts {k i f t a : Int} (h : Mine.goodCmdB k i f t a = true) : (k = 0 ∧ i = 0 ∧ f = 0 ∧ t = 0 ∧ a = 0) ∨ (k = 1 ∧ (1 ≤ i ∧ i ≤ 999) ∧ (0 ≤ f ∧ f ≤ 3) ∧ (0 ≤ t ∧ t ≤ 3) ∧ f ≠ t ∧ (1 ≤ a ∧ a ≤ 1000)) ∨ (k = 2 ∧ (1 ≤ i ∧ i ≤ 999) ∧ (0 ≤ f ∧ f ≤ 3) ∧ t = 0 ∧ a = 0) := by
  unfold Mine.goodCmdB at h
  by_cases h0 : k = 0
  · rw [if_pos h0] at h; simp at h; exact .inl ⟨h0, h.1, h.2.1, h.2.2.1, h.2.2.2⟩
  · rw [if_neg h0] at h
    by_cases h1 : k = 1
    · rw [if_pos h1] at h
      simp only [Bool.and_eq_true, Mine.inB_iff, Bool.not_eq_true', beq_eq_false_iff_ne] at h
      exact .inr (.inl ⟨h1, h.1, h.2.1, h.2.2.1, h.2.2.2.1, h.2.2.2.2⟩)
    · rw [if_neg h1] at h
      by_cases h2 : k = 2
      · rw [if_pos h2] at h
        simp only [Bool.and_eq_true, Mine.inB_iff, beq_iff_eq] at h
        exact .inr (.inr ⟨h2, h.1, h.2.1, h.2.2.1, h.2.2.2⟩)
      · rw [if_neg h2] at h; simp at h

/-- What a good command does to sums: the sums behind it, its code, the sum that it tells. -/
def applyL (l : List Int) (k f t a : Int) : List Int × Int × Int :=
  if k = 2 then (l, 3, l.getD f.toNat 0)
  else if k = 1 then
    if l.getD f.toNat 0 < a then (l, 2, 0)
    else ((l.set f.toNat (wrap64 (l.getD f.toNat 0 - a))).set t.toNat (wrap64 ((l.set f.toNat (wrap64 (l.getD f.toNat 0 - a))).getD t.toNat 0 + a)), 1, 0)
  else (l, 0, 0)
theorem applyL_length (l : List Int) (k f t a : Int) : (applyL l k f t a).1.length = l.length := by
  unfold applyL
  split
  · rfl
  · split
    · split <;> simp
    · rfl

theorem l1Own_f (l : List Int) (h : l.length < 17592186044416) : spec_l1Own.f l = some l := by
  unfold spec_l1Own.f
  rw [Option.bind_some, if_pos (by simpa using h)]
  rfl

theorem specApply_f (l : List Int) (k i f t a : Int) (hl : l.length = 4) (h : Mine.goodCmdB k i f t a = true) : spec_l11Apply.f l k i f t a = some (applyL l k f t a) := by
  unfold spec_l11Apply.f applyL
  rw [l1Own_f l (by omega), Option.bind_some]
  rcases good_parts h with ⟨rfl, _, rfl, rfl, _⟩ | ⟨rfl, _, hf, ht, hne, _⟩ | ⟨rfl, _, hf, _⟩
  · simp
  · have hfl : f < (l.length : Int) := by omega
    have htl : t < (l.length : Int) := by omega
    simp only [if_neg (show ¬ (1 : Int) = 2 by omega), if_pos hf.1, if_pos hfl, if_pos (rfl : (1 : Int) = 1), if_pos ht.1, if_pos htl, Option.bind_some]
    unfold rd
    by_cases hlt : l.getD f.toNat 0 < a
    · simp only [if_pos hlt, if_true]
    · simp only [if_neg hlt, if_true]
  · have hfl : f < (l.length : Int) := by omega
    simp only [if_pos (rfl : (2 : Int) = 2), if_pos hf.1, if_pos hfl, if_true]; rfl

theorem specNewSums_ev : Ev (fun k => spec_NewSums.f k) [100, 100, 100, 100] := Ev.of (fun k => spec_NewSums.mono k) (k := 100) (by decide +kernel)

theorem l1In_f (a b c : Int) : spec_l1In.f a b c = some (Mine.inB b c a) := by
  unfold spec_l1In.f Mine.inB
  by_cases h : a ≥ b
  · rw [if_pos h]; simp [show b ≤ a from h]
  · rw [if_neg h]; simp [show ¬ b ≤ a from h]

theorem l2Account_f (a : Int) : spec_l2Account.f a = some (Mine.inB 0 3 a) := by unfold spec_l2Account.f; rw [l1In_f, Option.bind_some]

theorem specGoodCmd (k i f t a : Int) : spec_GoodCmd.f k i f t a = some (Mine.goodCmdB k i f t a) := by
  unfold spec_GoodCmd.f spec_l2Code.f Mine.goodCmdB
  simp only [l1In_f, l2Account_f, Option.bind_some]
  by_cases h0 : k = 0
  · simp [h0]
  · rw [if_neg h0, if_neg h0]
    by_cases h1 : k = 1
    · rw [if_pos h1, if_pos h1, if_pos h1]
      by_cases hft : f = t
      · cases Mine.inB 1 999 i <;> cases Mine.inB 0 3 f <;> cases Mine.inB 0 3 t <;> simp [hft]
      · cases Mine.inB 1 999 i <;> cases Mine.inB 0 3 f <;> cases Mine.inB 0 3 t <;> cases Mine.inB 1 1000 a <;> simp [hft]
    · rw [if_neg h1, if_neg h1, if_neg h1]
      by_cases h2 : k = 2
      · rw [if_pos h2, if_pos h2]
        by_cases ht : t = 0
        · cases Mine.inB 1 999 i <;> cases Mine.inB 0 3 f <;> simp [ht]
        · cases Mine.inB 1 999 i <;> cases Mine.inB 0 3 f <;> simp [ht]
      · rw [if_neg h2, if_neg h2]

def goodCmdsB (l : List S27) : Bool := if Mine.anyP (fun c => !goodS c) l = true then false else decide ((l.length : Int) ≤ 60)
theorem l11Cmds_ev (l : List S27) (hm : l.length ≤ 9223372036854775807) : Ev (fun k => spec_l11Cmds.f k l) (goodCmdsB l) := by
  unfold goodCmdsB spec_l11Cmds.f
  refine loop_any (fun k i => spec_l11Cmds.l0 k l l (l.length : Int) i) l z27 (fun c => !goodS c) false (decide ((l.length : Int) ≤ 60)) (fun i hi => ?_) (fun _ => Ev.step (f := fun _ => some _) (fun k => by simp only [spec_l11Cmds.l0]; rw [if_neg (by omega)]) (Ev.now _))
  have body : ∀ k, spec_l11Cmds.l0 (k + 1) l l (l.length : Int) (i : Int) = if goodS (l.getD i z27) = true then spec_l11Cmds.l0 k l l (l.length : Int) ((i + 1 : Nat) : Int) else some false := by
    intro k
    simp only [spec_l11Cmds.l0]
    rw [if_pos (by omega), if_pos (by omega), if_pos (by omega), rdC_nat, specGoodCmd, Option.bind_some, wrap_next hi hm]
    rfl
  refine ⟨fun hp => ?_, fun hp r hr => ?_⟩
  · simp only [Bool.not_eq_true'] at hp
    exact Ev.step (f := fun _ => some false) (fun k => by rw [body, hp, if_neg (by simp)]) (Ev.now _)
  · simp only [Bool.not_eq_false'] at hp
    exact Ev.step (fun k => by rw [body, hp, if_pos rfl]) hr
theorem goodCmds_parts {l : List S27} (h : goodCmdsB l = true) : l.length ≤ 60 ∧ ∀ c ∈ l, goodS c = true := by
  unfold goodCmdsB at h
  split at h
  · cases h
  · rename_i hn
    rw [decide_eq_true_eq] at h
    refine ⟨by omega, fun c hc => ?_⟩
    have := Mine.anyP_false.1 (Bool.eq_false_iff.2 hn) c hc
    simpa using this

/-- Commands one after another: the sums, and what each is told. -/
def playL : List S27 → List Int → List S36 → List Int × List S36
  | [], s, t => (s, t)
  | c :: cs, s, t => playL cs (applyL s c.f0 c.f2 c.f3 c.f4).1 (t ++ [⟨(applyL s c.f0 c.f2 c.f3 c.f4).2.1, (applyL s c.f0 c.f2 c.f3 c.f4).2.2⟩])
theorem playL_len1 : ∀ (l : List S27) (s : List Int) (t : List S36), (playL l s t).1.length = s.length
  | [], _, _ => rfl
  | c :: cs, s, t => by rw [playL, playL_len1 cs]; exact applyL_length _ _ _ _ _
theorem playL_len2 : ∀ (l : List S27) (s : List Int) (t : List S36), (playL l s t).2.length = t.length + l.length
  | [], _, _ => rfl
  | c :: cs, s, t => by rw [playL, playL_len2 cs]; simp only [List.length_append, List.length_cons, List.length_nil]; omega
theorem specPlay_l (l : List S27) (hl : l.length ≤ 60) (hg : ∀ c ∈ l, goodS c = true) : ∀ (d i : Nat) (s : List Int) (t : List S36), l.length - i = d → s.length = 4 → t.length ≤ i → i ≤ l.length →
    Ev (fun k => spec_l11Play.l0 k s t l (l.length : Int) (i : Int)) (playL (l.drop i) s t) := by
  intro d
  induction d with
  | zero =>
    intro i s t hd hs ht hi
    rw [List.drop_eq_nil_of_le (by omega)]
    exact Ev.step (f := fun _ => some (s, t)) (fun k => by simp only [spec_l11Play.l0]; rw [if_neg (by omega)]) (Ev.now _)
  | succ d ih =>
    intro i s t hd hs ht hi
    have hlt : i < l.length := by omega
    have hm := hg _ (Mine.getD_mem l z27 i hlt)
    rw [Mine.drop_at l z27 i hlt, playL]
    refine Ev.step (fun k => ?_) (ih (i + 1) _ _ (by omega) (by rw [applyL_length]; exact hs) (by rw [List.length_append, List.length_singleton]; omega) (by omega))
    simp only [spec_l11Play.l0]
    rw [if_pos (by omega), if_pos (by omega), if_pos (by omega), rdC_nat, specApply_f _ _ _ _ _ _ hs hm, Option.bind_some, if_pos (by omega), wrap_next hlt (by omega)]
theorem specPlay_ev (l : List S27) (h : goodCmdsB l = true) : Ev (fun k => spec_l11Play.f k l) (playL l [100, 100, 100, 100] []) := by
  obtain ⟨hl, hg⟩ := goodCmds_parts h
  unfold spec_l11Play.f
  exact Ev.bind specNewSums_ev (by simpa using specPlay_l l hl hg _ 0 [100, 100, 100, 100] [] rfl rfl (by simp) (by omega))

theorem implApply_f (l : List Int) (k i f t a : Int) (hl : l.length = 4) (h : Mine.goodCmdB k i f t a = true) : impl_apply.f l k i f t a = some ((applyL l k f t a).2.1, (applyL l k f t a).2.2, (applyL l k f t a).1) := by
  unfold impl_apply.f applyL
  rcases good_parts h with ⟨rfl, _, rfl, rfl, _⟩ | ⟨rfl, _, hf, ht, hne, _⟩ | ⟨rfl, _, hf, _⟩
  · simp
  · have hfl : f < (l.length : Int) := by omega
    have htl : t < (l.length : Int) := by omega
    simp only [if_neg (show ¬ (1 : Int) = 2 by omega), if_neg (show ¬ (1 : Int) = 0 by omega), if_pos hf.1, if_pos hfl, if_pos (rfl : (1 : Int) = 1), if_pos ht.1, if_pos htl, Option.bind_some]
    unfold rd
    by_cases hlt : l.getD f.toNat 0 < a
    · simp only [if_pos hlt, if_true]
    · simp only [if_neg hlt, if_true]
  · have hfl : f < (l.length : Int) := by omega
    simp only [if_pos (rfl : (2 : Int) = 2), if_pos hf.1, if_pos hfl, if_true]; rfl

theorem within_f (a b c : Int) : impl_within.f a b c = some (Mine.inB b c a) := by
  unfold impl_within.f Mine.inB
  by_cases h : b ≤ a
  · rw [if_pos h]; simp [h]
  · rw [if_neg h]; simp [h]

theorem implGoodCmd (k i f t a : Int) : impl_GoodCmd.f k i f t a = some (Mine.goodCmdB k i f t a) := by
  unfold impl_GoodCmd.f impl_isAccount.f Mine.goodCmdB
  simp only [within_f, Option.bind_some]
  by_cases h0 : k = 0
  · simp [h0]
  · rw [if_neg h0, if_neg h0]
    by_cases h1 : k = 1
    · rw [if_pos h1, if_pos h1]
      by_cases hft : f = t
      · cases Mine.inB 1 999 i <;> cases Mine.inB 0 3 f <;> cases Mine.inB 0 3 t <;> simp [hft]
      · cases Mine.inB 1 999 i <;> cases Mine.inB 0 3 f <;> cases Mine.inB 0 3 t <;> cases Mine.inB 1 1000 a <;> simp [hft]
    · rw [if_neg h1, if_neg h1]
      by_cases h2 : k = 2
      · rw [if_pos h2, if_pos h2]
        by_cases ht : t = 0
        · cases Mine.inB 1 999 i <;> cases Mine.inB 0 3 f <;> simp [ht]
        · cases Mine.inB 1 999 i <;> cases Mine.inB 0 3 f <;> simp [ht]
      · rw [if_neg h2, if_neg h2]

theorem implGoodCmds_f (l : List S27) : impl_goodCmds.f l = some (goodCmdsB l) := by
  unfold impl_goodCmds.f impl_goodCmds_1_in_c.f goodCmdsB
  rw [Mine.anyO_total (q := fun c => !goodS c) (fun x _ => by unfold impl_goodCmds_1.f; rw [implGoodCmd, Option.bind_some]; rfl), Option.bind_some]
  by_cases h : (l.length : Int) ≤ 60
  · rw [if_pos h, decide_eq_true h]
    cases Mine.anyP (fun c => !goodS c) l <;> simp
  · rw [if_neg h, decide_eq_false h]
    cases Mine.anyP (fun c => !goodS c) l <;> simp

theorem implPlay_l (l : List S27) (hl : l.length ≤ 60) (hg : ∀ c ∈ l, goodS c = true) : ∀ (d i : Nat) (s : List Int) (t : List S36), l.length - i = d → s.length = 4 → t.length ≤ i → i ≤ l.length →
    Ev (fun k => impl_playCmds.l0 k s t l (l.length : Int) (i : Int)) (playL (l.drop i) s t) := by
  intro d
  induction d with
  | zero =>
    intro i s t hd hs ht hi
    rw [List.drop_eq_nil_of_le (by omega)]
    exact Ev.step (f := fun _ => some (s, t)) (fun k => by simp only [impl_playCmds.l0]; rw [if_neg (by omega)]) (Ev.now _)
  | succ d ih =>
    intro i s t hd hs ht hi
    have hlt : i < l.length := by omega
    have hm := hg _ (Mine.getD_mem l z27 i hlt)
    rw [Mine.drop_at l z27 i hlt, playL]
    refine Ev.step (fun k => ?_) (ih (i + 1) _ _ (by omega) (by rw [applyL_length]; exact hs) (by rw [List.length_append, List.length_singleton]; omega) (by omega))
    simp only [impl_playCmds.l0]
    rw [if_pos (by omega), if_pos (by omega), if_pos (by omega), rdC_nat, implApply_f _ _ _ _ _ _ hs hm, Option.bind_some, if_pos (by omega), wrap_next hlt (by omega)]
theorem implPlay_ev (l : List S27) (h : goodCmdsB l = true) : Ev (fun k => impl_playCmds.f k l) (playL l [100, 100, 100, 100] []) := by
  obtain ⟨hl, hg⟩ := goodCmds_parts h
  unfold impl_playCmds.f
  rw [show impl_NewSums.f = some [100, 100, 100, 100] from rfl]
  simp only [Option.bind_some]
  simpa using implPlay_l l hl hg _ 0 [100, 100, 100, 100] [] rfl rfl (by simp) (by omega)

theorem rdT_nat (l : List S36) (i : Nat) : rd_T36 l (i : Int) = l.getD i z36 := by unfold rd_T36; rw [Int.toNat_natCast]
theorem eqToldS_l (xs : List S36) (hm : xs.length ≤ 9223372036854775807) : ∀ (d i : Nat), xs.length - i = d → Ev (fun k => laws_eqToldS.l0 k xs xs (i : Int)) true := by
  intro d
  induction d with
  | zero => intro i hd; exact Ev.step (f := fun _ => some true) (fun k => by simp only [laws_eqToldS.l0]; rw [if_neg (by omega)]) (Ev.now _)
  | succ d ih =>
    intro i hd
    refine Ev.step (fun k => ?_) (ih (i + 1) (by omega))
    simp only [laws_eqToldS.l0, laws_eqTold.f]
    rw [if_pos (by omega), if_pos (by omega), if_pos (by omega), wrap_next (n := xs.length) (by omega) hm]
    simp
theorem eqToldS_ev (xs : List S36) (hm : xs.length ≤ 9223372036854775807) : Ev (fun k => laws_eqToldS.f k xs xs) true := by
  unfold laws_eqToldS.f
  refine Ev.congr (fun k => by rw [if_pos rfl]) (by simpa using eqToldS_l xs hm _ 0 rfl)
def seqT (m : Int) (n : Nat) : List S36 := (List.range n).map fun (j : Nat) => ⟨m + 2 * (j : Int), m + 2 * (j : Int) + 1⟩
theorem seqT_length (m : Int) (n : Nat) : (seqT m n).length = n := by simp [seqT]
theorem seqT_get (m : Int) (n i : Nat) (d : S36) (h : i < n) : (seqT m n).getD i d = ⟨m + 2 * (i : Int), m + 2 * (i : Int) + 1⟩ := by
  simp [seqT, List.getD_eq_getElem?_getD, h]
theorem markToldS_l (m : Int) (n : Nat) (hm : n ≤ 9223372036854775807) (h0 : 0 ≤ m) (h1 : m + 2 * n ≤ 9223372036854775807) : ∀ (d i : Nat) (acc : List S36), n - i = d → i ≤ n → acc.length = n → acc.take i = (seqT m n).take i →
    Ev (fun k => laws_markToldS.l0 k acc (m + 2 * (i : Int)) (i : Int)) (m + 2 * (n : Int), seqT m n) := by
  intro d
  induction d with
  | zero =>
    intro i acc hd hi hl ht
    obtain rfl : i = n := by omega
    have e : acc = seqT m i := Mine.take_all (i := i) (by rw [seqT_length]; omega) (by rw [seqT_length]; exact hl) ht
    exact Ev.step (f := fun _ => some _) (fun k => by simp only [laws_markToldS.l0]; rw [if_neg (by omega), e]) (Ev.now _)
  | succ d ih =>
    intro i acc hd hi hl ht
    have hs := Mine.take_set (seqT m n) acc z36 i (by rw [seqT_length]; omega) (by rw [seqT_length]; exact hl) ht
    rw [seqT_get m n i z36 (by omega)] at hs
    have hw : wrap64 (m + 2 * (i : Int) + 1) = m + 2 * (i : Int) + 1 := by unfold wrap64; omega
    have hw2 : wrap64 (m + 2 * (i : Int) + 1 + 1) = m + 2 * ((i + 1 : Nat) : Int) := by unfold wrap64; omega
    refine Ev.step (fun k => ?_) (ih (i + 1) _ (by omega) (by omega) (by rw [List.length_set]; exact hl) hs)
    simp only [laws_markToldS.l0]
    rw [if_pos (by omega), if_pos (by omega), Option.bind_some, hw, hw2, wrap_next (n := n) (by omega) hm, rdT_nat, rdT_nat, Int.toNat_natCast, getD_set_self _ _ _ _ (by omega), List.set_set]
theorem markToldS_ev (l : List S36) (m : Int) (hm : l.length ≤ 9223372036854775807) (h0 : 0 ≤ m) (h1 : m + 2 * l.length ≤ 9223372036854775807) : Ev (fun k => laws_markToldS.f k l m) (m + 2 * (l.length : Int), seqT m l.length) := by
  have := markToldS_l m l.length hm h0 h1 _ 0 l rfl (by omega) rfl (by simp)
  unfold laws_markToldS.f
  simpa using this
theorem heldToldS_l (m : Int) (n : Nat) (hm : n ≤ 9223372036854775807) (h0 : 0 ≤ m) (h1 : m + 2 * n ≤ 9223372036854775807) : ∀ (d i : Nat), n - i = d → i ≤ n →
    Ev (fun k => laws_heldToldS.l0 k (seqT m n) (m + 2 * (i : Int)) (i : Int)) (m + 2 * (n : Int)) := by
  intro d
  induction d with
  | zero =>
    intro i hd hi
    obtain rfl : i = n := by omega
    exact Ev.step (f := fun _ => some _) (fun k => by simp only [laws_heldToldS.l0]; rw [if_neg (by rw [seqT_length]; omega)]) (Ev.now _)
  | succ d ih =>
    intro i hd hi
    have hw : wrap64 (m + 2 * (i : Int) + 1) = m + 2 * (i : Int) + 1 := by unfold wrap64; omega
    have hw2 : wrap64 (m + 2 * (i : Int) + 1 + 1) = m + 2 * ((i + 1 : Nat) : Int) := by unfold wrap64; omega
    refine Ev.step (fun k => ?_) (ih (i + 1) (by omega) (by omega))
    simp only [laws_heldToldS.l0]
    rw [if_pos (by rw [seqT_length]; omega), if_pos (by omega), rdT_nat, seqT_get m n i _ (by omega), hw, if_pos rfl, if_pos rfl, hw2, wrap_next (n := n) (by omega) hm]
theorem heldToldS_ev (m : Int) (n : Nat) (hm : n ≤ 9223372036854775807) (h0 : 0 ≤ m) (h1 : m + 2 * n ≤ 9223372036854775807) : Ev (fun k => laws_heldToldS.f k (seqT m n) m) (m + 2 * (n : Int)) := by
  have := heldToldS_l m n hm h0 h1 _ 0 rfl (by omega)
  unfold laws_heldToldS.f
  simpa using this

theorem eqCmdS_l (xs : List S27) (hm : xs.length ≤ 9223372036854775807) : ∀ (d i : Nat), xs.length - i = d → Ev (fun k => laws_eqCmdS.l0 k xs xs (i : Int)) true := by
  intro d
  induction d with
  | zero => intro i hd; exact Ev.step (f := fun _ => some true) (fun k => by simp only [laws_eqCmdS.l0]; rw [if_neg (by omega)]) (Ev.now _)
  | succ d ih =>
    intro i hd
    refine Ev.step (fun k => ?_) (ih (i + 1) (by omega))
    simp only [laws_eqCmdS.l0, laws_eqCmd.f]
    rw [if_pos (by omega), if_pos (by omega), if_pos (by omega), wrap_next (n := xs.length) (by omega) hm]
    simp
theorem eqCmdS_ev (xs : List S27) (hm : xs.length ≤ 9223372036854775807) : Ev (fun k => laws_eqCmdS.f k xs xs) true := by
  unfold laws_eqCmdS.f
  refine Ev.congr (fun k => by rw [if_pos rfl]) (by simpa using eqCmdS_l xs hm _ 0 rfl)
theorem markCmdS_l (n : Nat) (hm : n ≤ 9223372036854775807) : ∀ (d i : Nat) (acc : List S27) (m : Int), n - i = d → i ≤ n → acc.length = n → 0 ≤ m → m + 5 * (d : Int) ≤ 9223372036854775807 →
    ∃ rm : List S27, rm.length = n ∧ Ev (fun k => laws_markCmdS.l0 k acc m (i : Int)) (m + 5 * (d : Int), rm) := by
  intro d
  induction d with
  | zero =>
    intro i acc m hd hi hl h0 h1
    exact ⟨acc, hl, Ev.step (f := fun _ => some _) (fun k => by simp only [laws_markCmdS.l0]; rw [if_neg (by omega)]) (by simpa using Ev.now (m, acc))⟩
  | succ d ih =>
    intro i acc m hd hi hl h0 h1
    have w1 : wrap64 (m + 1) = m + 1 := by unfold wrap64; omega
    have w2 : wrap64 (m + 1 + 1) = m + 1 + 1 := by unfold wrap64; omega
    have w3 : wrap64 (m + 1 + 1 + 1) = m + 1 + 1 + 1 := by unfold wrap64; omega
    have w4 : wrap64 (m + 1 + 1 + 1 + 1) = m + 1 + 1 + 1 + 1 := by unfold wrap64; omega
    have w5 : wrap64 (m + 1 + 1 + 1 + 1 + 1) = m + 5 := by unfold wrap64; omega
    have body : ∃ acc' : List S27, acc'.length = n ∧ ∀ k, laws_markCmdS.l0 (k + 1) acc m (i : Int) = laws_markCmdS.l0 k acc' (m + 5) ((i + 1 : Nat) : Int) := by
      apply Exists.intro
      constructor
      rotate_left
      · intro k
        simp only [laws_markCmdS.l0]
        rw [if_pos (by omega), if_pos (by omega)]
        simp only [Option.bind_some, w1, w2, w3, w4, w5, wrap_next (n := n) (show i < n by omega) hm]
        rfl
      · simp [hl]
    obtain ⟨acc', hl', hb⟩ := body
    obtain ⟨rm, hr, he⟩ := ih (i + 1) acc' (m + 5) (by omega) (by omega) hl' (by omega) (by omega)
    refine ⟨rm, hr, Ev.step hb ?_⟩
    have : m + 5 * ((d + 1 : Nat) : Int) = m + 5 + 5 * (d : Int) := by omega
    rw [this]; exact he
theorem markCmdS_ev (l : List S27) (m : Int) (hm : l.length ≤ 9223372036854775807) (h0 : 0 ≤ m) (h1 : m + 5 * (l.length : Int) ≤ 9223372036854775807) : ∃ rm : List S27, rm.length = l.length ∧ Ev (fun k => laws_markCmdS.f k l m) (m + 5 * (l.length : Int), rm) := by
  obtain ⟨rm, hr, he⟩ := markCmdS_l l.length hm l.length 0 l m (by omega) (by omega) rfl h0 h1
  refine ⟨rm, hr, ?_⟩
  unfold laws_markCmdS.f
  simpa using he
theorem szCmdS_f (l : List S23) (a : Int) (h0 : 0 ≤ a) (h1 : a ≤ 1048576) (hl : l.length ≤ 9223372036854775807) : laws_szCmdS.f l a = some (if (l.length : Int) ≤ a then a - (l.length : Int) else -1) := by
  have hw : wrap64 (a - (l.length : Int)) = a - (l.length : Int) := by unfold wrap64; omega
  unfold laws_szCmdS.f
  rw [hw]
  by_cases h : (l.length : Int) ≤ a
  · rw [if_neg (by omega), if_pos h]
  · rw [if_pos (by omega), if_neg h]

theorem eqIntS_l (xs : List Int) (hm : xs.length ≤ 9223372036854775807) : ∀ (d i : Nat), xs.length - i = d → Ev (fun k => laws_eqIntS.l0 k xs xs (i : Int)) true := by
  intro d
  induction d with
  | zero => intro i hd; exact Ev.step (f := fun _ => some true) (fun k => by simp only [laws_eqIntS.l0]; rw [if_neg (by omega)]) (Ev.now _)
  | succ d ih =>
    intro i hd
    refine Ev.step (f := fun k => laws_eqIntS.l0 k xs xs ((i + 1 : Nat) : Int)) (fun k => ?_) (ih (i + 1) (by omega))
    simp only [laws_eqIntS.l0]
    rw [if_pos (by omega), if_pos (by omega), if_pos (by omega), if_pos trivial, wrap_next (n := xs.length) (by omega) hm]
/-- Numbers are the same as themselves. -/
theorem eqIntS_ev (xs : List Int) (hm : xs.length ≤ 9223372036854775807) : Ev (fun k => laws_eqIntS.f k xs xs) true := by
  refine Ev.congr (f := fun k => laws_eqIntS.l0 k xs xs ((0 : Nat) : Int)) (fun k => ?_) (eqIntS_l xs hm _ 0 rfl)
  unfold laws_eqIntS.f
  rw [if_pos rfl]
  rfl

theorem markIntS_l (m : Int) (n : Nat) (hm : n ≤ 9223372036854775807) (h0 : 0 ≤ m) (h1 : m + n ≤ 9223372036854775807) : ∀ (d i : Nat) (acc : List Int), n - i = d → i ≤ n → acc.length = n → acc.take i = (Mine.seqI m n).take i →
    Ev (fun k => laws_markIntS.l0 k acc (m + (i : Int)) (i : Int)) (m + (n : Int), Mine.seqI m n) := by
  intro d
  induction d with
  | zero =>
    intro i acc hd hi hl ht
    obtain rfl : i = n := by omega
    have e : acc = Mine.seqI m i := Mine.take_all (i := i) (by rw [Mine.seqI_length]; omega) (by rw [Mine.seqI_length]; exact hl) ht
    exact Ev.step (f := fun _ => some _) (fun k => by simp only [laws_markIntS.l0]; rw [if_neg (by omega), e]) (Ev.now _)
  | succ d ih =>
    intro i acc hd hi hl ht
    have hs := Mine.take_set (Mine.seqI m n) acc 0 i (by rw [Mine.seqI_length]; omega) (by rw [Mine.seqI_length]; exact hl) ht
    rw [Mine.seqI_get m n i 0 (by omega)] at hs
    refine Ev.step (f := fun k => laws_markIntS.l0 k (acc.set i (m + (i : Int))) (m + ((i + 1 : Nat) : Int)) ((i + 1 : Nat) : Int)) (fun k => ?_) (ih (i + 1) _ (by omega) (by omega) (by simpa using hl) hs)
    have hw : wrap64 (m + (i : Int) + 1) = m + ((i + 1 : Nat) : Int) := by unfold wrap64; omega
    simp only [laws_markIntS.l0]
    rw [if_pos (by omega), if_pos (by omega), hw, wrap_next (n := n) (by omega) hm, Int.toNat_natCast]
/-- A row is written over with numbers that go on. -/
theorem markIntS_ev (l : List Int) (m : Int) (hm : l.length ≤ 9223372036854775807) (h0 : 0 ≤ m) (h1 : m + l.length ≤ 9223372036854775807) : Ev (fun k => laws_markIntS.f k l m) (m + (l.length : Int), Mine.seqI m l.length) := by
  have := markIntS_l m l.length hm h0 h1 _ 0 l rfl (by omega) rfl (by simp)
  unfold laws_markIntS.f
  simpa using this

theorem heldIntS_l (m : Int) (n : Nat) (hm : n ≤ 9223372036854775807) (h0 : 0 ≤ m) (h1 : m + n ≤ 9223372036854775807) : ∀ (d i : Nat), n - i = d → i ≤ n →
    Ev (fun k => laws_heldIntS.l0 k (Mine.seqI m n) (m + (i : Int)) (i : Int)) (m + (n : Int)) := by
  intro d
  induction d with
  | zero =>
    intro i hd hi
    obtain rfl : i = n := by omega
    exact Ev.step (f := fun _ => some _) (fun k => by simp only [laws_heldIntS.l0]; rw [if_neg (by rw [Mine.seqI_length]; omega)]) (Ev.now _)
  | succ d ih =>
    intro i hd hi
    refine Ev.step (f := fun k => laws_heldIntS.l0 k (Mine.seqI m n) (m + ((i + 1 : Nat) : Int)) ((i + 1 : Nat) : Int)) (fun k => ?_) (ih (i + 1) (by omega) (by omega))
    have hw : wrap64 (m + (i : Int) + 1) = m + ((i + 1 : Nat) : Int) := by unfold wrap64; omega
    simp only [laws_heldIntS.l0]
    rw [if_pos (by rw [Mine.seqI_length]; omega), if_pos (by omega), rd_nat, Mine.seqI_get m n i 0 (by omega), if_pos rfl, hw, wrap_next (n := n) (by omega) hm]
/-- A row that was written so is found so. -/
theorem heldIntS_ev (m : Int) (n : Nat) (hm : n ≤ 9223372036854775807) (h0 : 0 ≤ m) (h1 : m + n ≤ 9223372036854775807) : Ev (fun k => laws_heldIntS.f k (Mine.seqI m n) m) (m + (n : Int)) := by
  have := heldIntS_l m n hm h0 h1 _ 0 rfl (by omega)
  unfold laws_heldIntS.f
  simpa using this

def playR (l : List S27) : List Int × List S36 × Bool := if goodCmdsB l = true then ((playL l [100, 100, 100, 100] []).1, (playL l [100, 100, 100, 100] []).2, true) else ([], [], false)
theorem specPlayCmds_ev (l : List S27) (hm : l.length ≤ 9223372036854775807) : Ev (fun k => spec_PlayCmds.f k l) (playR l) := by
  unfold spec_PlayCmds.f playR
  refine Ev.bind (l11Cmds_ev l hm) ?_
  cases hg : goodCmdsB l with
  | false => simpa using Ev.now _
  | true => simp only [if_true]; exact Ev.map (specPlay_ev l hg) (fun bt => (bt.1, bt.2, true))
theorem implPlayCmds_ev (l : List S27) : Ev (fun k => impl_PlayCmds.f k l) (playR l) := by
  unfold impl_PlayCmds.f playR
  simp only [implGoodCmds_f, Option.bind_some]
  cases hg : goodCmdsB l with
  | false => simpa using Ev.now _
  | true => simp only [if_true]; exact Ev.map (implPlay_ev l hg) (fun bt => (bt.1, bt.2, true))
theorem playR_len (l : List S27) : (playR l).1.length ≤ 4 ∧ (playR l).2.1.length ≤ 60 := by
  unfold playR
  split
  · rename_i h
    obtain ⟨hl, _⟩ := goodCmds_parts h
    exact ⟨by rw [playL_len1]; simp, by rw [playL_len2]; simpa using hl⟩
  · simp
theorem FnExactPlayCmds : laws_FnExactPlayCmds.Pure := by
  intro l ⟨hl, _⟩
  unfold laws_FnExactPlayCmds.Facts
  refine ⟨_, szCmdS_f l 1048576 (by omega) (by omega) hl, ?_⟩
  by_cases h : (l.length : Int) ≤ 1048576
  · rw [if_pos h]
    refine .inr ⟨by omega, l.map cv, Ev.rounds (toCmdS_ev l (by omega)), ?_⟩
    have hcl : (l.map cv).length = l.length := List.length_map _
    generalize hc : l.map cv = c at hcl
    have h1 := specPlayCmds_ev c (by omega)
    have h2 := implPlayCmds_ev c
    obtain ⟨p1, p2⟩ := playR_len c
    generalize playR c = r at h1 h2 p1 p2
    obtain ⟨s, t, b⟩ := r
    dsimp only at p1 p2
    obtain ⟨rm, _, hmk⟩ := markCmdS_ev c 1 (by omega) (by omega) (by omega)
    refine ⟨s, t, b, Ev.rounds h1, Ev.rounds h2, Ev.rounds (eqIntS_ev s (by omega)), Ev.rounds (eqToldS_ev t (by omega)), Ev.rounds (eqCmdS_ev c (by omega)), 1 + 5 * (c.length : Int), rm, ?_, 1 + (s.length : Int), Mine.seqI 1 s.length, ?_, 1 + (s.length : Int) + 2 * (t.length : Int), seqT (1 + (s.length : Int)) t.length, ?_, Ev.rounds (heldIntS_ev 1 s.length (by omega) (by omega) (by omega)), Ev.rounds (heldToldS_ev (1 + (s.length : Int)) t.length (by omega) (by omega) (by omega)), trivial⟩
    · obtain ⟨K, hK⟩ := Ev.rounds hmk; exact ⟨K, by omega, hK⟩
    · obtain ⟨K, hK⟩ := Ev.rounds (markIntS_ev s 1 (by omega) (by omega) (by omega)); exact ⟨K, by omega, hK⟩
    · obtain ⟨K, hK⟩ := Ev.rounds (markToldS_ev t (1 + (s.length : Int)) (by omega) (by omega) (by omega)); exact ⟨K, by omega, hK⟩
  · rw [if_neg h]
    exact .inl (by omega)

end Go.Proofs.Ytbhhgeecieeefaa.Pure
