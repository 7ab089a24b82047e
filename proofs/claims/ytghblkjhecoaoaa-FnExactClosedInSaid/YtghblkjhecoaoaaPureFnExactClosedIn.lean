/- The law FnExactClosedIn holds, for every input. -/
import Derived.Test.YtghblkjhecoaoaaQFnExactClosedInx6
import Derived.Test.YtghblkjhecoaoaaMine
namespace Go.Proofs.Ytghblkjhecoaoaa.Pure
open Go.RowKit Go.Proofs.Ytghblkjhecoaoaa.QFnExactClosedIn Go.Proofs.YtghblkjhecoaoaaW.PrintWords Go.Proofs.YtghblkjhecoaoaaW.PrintLast Go.Proofs.YtghblkjhecoaoaaW.PrintMore
set_option linter.unusedVariables false
set_option linter.unusedSimpArgs false

theorem wrap_next {i : Nat} {n : Nat} (h : i < n) (hn : n ≤ 9223372036854775807) : wrap64 ((i : Int) + 1) = ((i + 1 : Nat) : Int) := by
  unfold wrap64
  omega
theorem rd_nat (l : List Int) (i : Nat) : rd l (i : Int) = l.getD i 0 := by unfold rd; rw [Int.toNat_natCast]
theorem wrap_small {x : Int} (h0 : -9223372036854775808 ≤ x) (h1 : x ≤ 9223372036854775807) : wrap64 x = x := by unfold wrap64; omega
theorem Ev.const {α : Type} {o : Option α} {a : α} (h : o = some a) : Ev (fun _ => o) a := ⟨0, fun _ _ => h⟩
theorem Ev.map {α β : Type} {g : Nat → Option α} {a : α} (h : Ev g a) (f : α → β) : Ev (fun k => (g k).bind fun t => some (f t)) (f a) := by
  obtain ⟨K, h⟩ := h
  exact ⟨K, fun k hk => by show (g k).bind _ = _; rw [h k hk, Option.bind_some]⟩
/-- A loop over a list's elements that ends at the first hit. -/
theorem loop_any {α ρ : Type} (F : Nat → Int → Option ρ) (xs : List α) (d : α) (p : α → Bool) (hit miss : ρ)
    (hs : ∀ i, i < xs.length → (p (xs.getD i d) = true → Ev (fun k => F k (i : Int)) hit) ∧ (p (xs.getD i d) = false → ∀ r, Ev (fun k => F k ((i + 1 : Nat) : Int)) r → Ev (fun k => F k (i : Int)) r))
    (he : Mine.anyP p xs = false → Ev (fun k => F k (xs.length : Int)) miss) : Ev (fun k => F k 0) (if Mine.anyP p xs = true then hit else miss) := by
  have key : ∀ (n i : Nat), xs.length - i = n → i ≤ xs.length → Mine.anyP p (xs.take i) = false → Ev (fun k => F k (i : Int)) (if Mine.anyP p (xs.drop i) = true then hit else miss) := by
    intro n
    induction n with
    | zero =>
      intro i hn hi hb
      obtain rfl : i = xs.length := by omega
      rw [List.drop_eq_nil_of_le (Nat.le_refl _)]
      rw [List.take_of_length_le (Nat.le_refl _)] at hb
      simpa [Mine.anyP] using he hb
    | succ n ih =>
      intro i hn hi hb
      rw [Mine.drop_at xs d i (by omega), Mine.anyP_cons]
      cases hp : p (xs.getD i d) with
      | true => simpa using (hs i (by omega)).1 hp
      | false =>
        have hb' : Mine.anyP p (xs.take (i + 1)) = false := by
          have e : xs.take (i + 1) = xs.take i ++ [xs.getD i d] := by
            rw [List.take_add_one, List.getD_eq_getElem?_getD, List.getElem?_eq_getElem (show i < xs.length by omega)]; rfl
          rw [e]
          unfold Mine.anyP at hb ⊢
          rw [List.any_append, hb, List.any_cons, hp]
          rfl
        simpa using (hs i (by omega)).2 hp _ (ih (i + 1) (by omega) (by omega) hb')
  simpa using key xs.length 0 (by omega) (by omega) (by simp [Mine.anyP])
/-- What a loop over a list's elements comes to: a state that goes on, or a result. -/
def scan {σ α ρ : Type} (step : α → σ → Sum σ ρ) (fin : σ → ρ) : List α → σ → ρ
  | [], s => fin s
  | x :: xs, s => match step x s with
    | .inl s' => scan step fin xs s'
    | .inr r => r
theorem loop_scan {σ α ρ : Type} (F : Nat → σ → Int → Option ρ) (xs : List α) (d : α) (step : α → σ → Sum σ ρ) (fin : σ → ρ) (P : Nat → σ → Prop)
    (hs : ∀ (i : Nat) (s : σ), i < xs.length → P i s → (∀ s', step (xs.getD i d) s = .inl s' → P (i + 1) s' ∧ ∀ r, Ev (fun k => F k s' ((i + 1 : Nat) : Int)) r → Ev (fun k => F k s (i : Int)) r) ∧ (∀ r, step (xs.getD i d) s = .inr r → Ev (fun k => F k s (i : Int)) r))
    (he : ∀ s, P xs.length s → Ev (fun k => F k s (xs.length : Int)) (fin s)) (s : σ) (h0 : P 0 s) : Ev (fun k => F k s 0) (scan step fin xs s) := by
  have key : ∀ (n i : Nat) (s : σ), xs.length - i = n → i ≤ xs.length → P i s → Ev (fun k => F k s (i : Int)) (scan step fin (xs.drop i) s) := by
    intro n
    induction n with
    | zero =>
      intro i s hn hi hp
      obtain rfl : i = xs.length := by omega
      rw [List.drop_eq_nil_of_le (Nat.le_refl _)]
      exact he s hp
    | succ n ih =>
      intro i s hn hi hp
      rw [Mine.drop_at xs d i (by omega), scan]
      cases hst : step (xs.getD i d) s with
      | inl s' => exact ((hs i s (by omega) hp).1 s' hst).2 _ (ih (i + 1) s' (by omega) (by omega) ((hs i s (by omega) hp).1 s' hst).1)
      | inr r => exact (hs i s (by omega) hp).2 r hst
  simpa using key xs.length 0 s (by omega) (by omega) h0

theorem anyO_ev {α : Type} (p : Nat → α → Option Bool) : ∀ (xs : List α) (q : α → Bool), (∀ x ∈ xs, Ev (fun k => p k x) (q x)) → Ev (fun k => Mine.anyO (p k) xs) (Mine.anyP q xs)
  | [], q, _ => Ev.const rfl
  | x :: xs, q, h => by
    simp only [Mine.anyO]
    refine Ev.bind (h x (by simp)) ?_
    rw [Mine.anyP_cons]
    cases hq : q x with
    | true => simpa using Ev.now true
    | false => simpa using anyO_ev p xs q (fun y hy => h y (by simp [hy]))

theorem rdLL_nat (l : List (List Int)) (i : Nat) : rd_L1 l (i : Int) = l.getD i [] := by unfold rd_L1; rw [Int.toNat_natCast]
theorem mem_getD {α : Type} {l : List α} {i : Nat} (d : α) (h : i < l.length) : l.getD i d ∈ l := by
  rw [List.getD_eq_getElem?_getD, List.getElem?_eq_getElem h]; exact List.getElem_mem _

theorem l1In_f (a b c : Int) : spec_l1In.f a b c = some (Mine.inB b c a) := by
  unfold spec_l1In.f Mine.inB
  by_cases h : a ≥ b
  · rw [if_pos h]; simp [show b ≤ a from h]
  · rw [if_neg h]; simp [show ¬ b ≤ a from h]

/-- Numbers rise and are within bounds, as the reference asks it. -/
def risesIn (lo hi : Int) (l : List Int) : Bool := Mine.riseB l && !Mine.anyP (Mine.outB lo hi) l
theorem l1Rising_l (xs : List Int) (lo hi : Int) (hm : xs.length ≤ 9223372036854775807) : ∀ (d j : Nat), 1 ≤ j → xs.length - j = d → Mine.outB lo hi (xs.getD (j - 1) 0) = false ∨ xs.length = 0 →
    Ev (fun k => spec_l1Rising.l0 k xs lo hi xs (xs.length : Int) (j : Int)) (risesIn lo hi (xs.drop (j - 1))) := by
  intro d
  induction d with
  | zero =>
    intro j hj hd ho
    refine Ev.step (f := fun _ => some _) (fun k => by simp only [spec_l1Rising.l0]; rw [if_neg (by omega)]) (?_ : Ev (fun _ => some true) _)
    have e : risesIn lo hi (xs.drop (j - 1)) = true := by
      have hl : (xs.drop (j - 1)).length ≤ 1 := by rw [List.length_drop]; omega
      by_cases h0 : j - 1 < xs.length
      · rw [Mine.drop_at xs 0 (j - 1) h0, List.drop_eq_nil_of_le (by omega)]
        rcases ho with ho | ho
        · show (true && !Mine.anyP _ [_]) = true
          rw [Mine.anyP_cons, ho]; rfl
        · omega
      · rw [List.drop_eq_nil_of_le (by omega)]; rfl
    rw [e]; exact Ev.now _
  | succ d ih =>
    intro j hj hd ho
    have hlt : j < xs.length := by omega
    have e1 := Mine.drop_at xs 0 (j - 1) (by omega)
    rw [show j - 1 + 1 = j by omega] at e1
    have e2 := Mine.drop_at xs 0 j hlt
    have ho' : Mine.outB lo hi (xs.getD (j - 1) 0) = false := by rcases ho with h | h; exact h; omega
    have r2 : rd xs ((j : Int) - 1) = xs.getD (j - 1) 0 := by rw [show ((j : Int) - 1) = ((j - 1 : Nat) : Int) by omega, rd_nat]
    have hp : wrap64 ((j : Int) - 1) = (j : Int) - 1 := by unfold wrap64; omega
    have body : ∀ k, spec_l1Rising.l0 (k + 1) xs lo hi xs (xs.length : Int) (j : Int) = if Mine.inB lo hi (xs.getD j 0) = true then (if xs.getD (j - 1) 0 ≥ xs.getD j 0 then some false else spec_l1Rising.l0 k xs lo hi xs (xs.length : Int) ((j + 1 : Nat) : Int)) else some false := by
      intro k
      simp only [spec_l1Rising.l0]
      rw [if_pos (by omega), if_pos (by omega), if_pos (by omega), rd_nat, l1In_f, Option.bind_some, hp, if_pos (by omega : (j : Int) > 0), if_pos (by omega : (0 : Int) ≤ (j : Int) - 1), if_pos (by omega : (j : Int) - 1 < (xs.length : Int)), r2, wrap_next hlt hm]
    have er : risesIn lo hi (xs.drop (j - 1)) = ((decide (xs.getD (j - 1) 0 < xs.getD j 0)) && risesIn lo hi (xs.drop j)) := by
      rw [e1, e2]
      simp only [risesIn, Mine.riseB, Mine.anyP_cons, ho', Bool.false_or]
      cases decide (xs.getD (j - 1) 0 < xs.getD j 0) <;> simp
    by_cases hi1 : Mine.inB lo hi (xs.getD j 0) = true
    · by_cases h : xs.getD (j - 1) 0 ≥ xs.getD j 0
      · refine Ev.step (f := fun _ => some false) (fun k => by rw [body, if_pos hi1, if_pos h]) ?_
        rw [er, decide_eq_false (by omega : ¬ xs.getD (j - 1) 0 < xs.getD j 0), Bool.false_and]; exact Ev.now _
      · refine Ev.step (f := fun k => spec_l1Rising.l0 k xs lo hi xs (xs.length : Int) ((j + 1 : Nat) : Int)) (fun k => by rw [body, if_pos hi1, if_neg h]) ?_
        rw [er, decide_eq_true (by omega : xs.getD (j - 1) 0 < xs.getD j 0), Bool.true_and]
        have := ih (j + 1) (by omega) (by omega) (.inl (by rw [show j + 1 - 1 = j by omega]; unfold Mine.outB; rw [hi1]; rfl))
        rwa [show j + 1 - 1 = j by omega] at this
    · refine Ev.step (f := fun _ => some false) (fun k => by rw [body, if_neg hi1]) ?_
      have : risesIn lo hi (xs.drop j) = false := by
        rw [e2]
        simp only [risesIn, Mine.anyP_cons, Mine.outB, hi1]
        simp
      rw [er, this, Bool.and_false]; exact Ev.now _
theorem l1Rising_ev (xs : List Int) (lo hi : Int) (hm : xs.length ≤ 9223372036854775807) : Ev (fun k => spec_l1Rising.f k xs lo hi) (risesIn lo hi xs) := by
  unfold spec_l1Rising.f
  by_cases h0 : xs.length = 0
  · have : xs = [] := List.eq_nil_of_length_eq_zero h0
    subst this
    exact Ev.step (f := fun _ => some true) (fun k => by simp only [spec_l1Rising.l0]; rw [if_neg (by simp)]) (Ev.now _)
  · have body : ∀ k, spec_l1Rising.l0 (k + 1) xs lo hi xs (xs.length : Int) 0 = if Mine.inB lo hi (xs.getD 0 0) = true then spec_l1Rising.l0 k xs lo hi xs (xs.length : Int) ((1 : Nat) : Int) else some false := by
      intro k
      simp only [spec_l1Rising.l0]
      rw [if_pos (by omega), if_pos (by omega), if_pos (by omega), show rd xs 0 = xs.getD 0 0 from rfl, l1In_f, Option.bind_some, if_neg (by omega : ¬ (0 : Int) > 0), show wrap64 (0 + 1) = ((1 : Nat) : Int) from by unfold wrap64; omega]
    have e0 := Mine.drop_at xs 0 0 (by omega)
    by_cases hi1 : Mine.inB lo hi (xs.getD 0 0) = true
    · refine Ev.step (f := fun k => spec_l1Rising.l0 k xs lo hi xs (xs.length : Int) ((1 : Nat) : Int)) (fun k => by rw [body, if_pos hi1]) ?_
      have := l1Rising_l xs lo hi hm (xs.length - 1) 1 (by omega) rfl (.inl (by unfold Mine.outB; rw [show (1 : Nat) - 1 = 0 from rfl, hi1]; rfl))
      simpa using this
    · refine Ev.step (f := fun _ => some false) (fun k => by rw [body, if_neg hi1]) ?_
      have : risesIn lo hi xs = false := by
        rw [show xs = xs.getD 0 0 :: xs.drop 1 from by simpa using e0]
        simp only [risesIn, Mine.anyP_cons, Mine.outB, hi1]
        simp
      rw [this]; exact Ev.now _

/-- Is a graph good? -/
def goodG (g : List (List Int)) : Bool := decide (g.length ≤ 40) && !Mine.anyP (fun l => !risesIn 0 (wrap64 ((g.length : Int) - 1)) l) g
theorem specGoodGraph_ev (g : List (List Int)) (hm : g.length ≤ 9223372036854775807) (hi : ∀ y ∈ g, y.length ≤ 9223372036854775807) : Ev (fun k => spec_GoodGraph.f k g) (goodG g) := by
  have hl := loop_any (fun k => spec_GoodGraph.l0 k g g (g.length : Int)) g [] (fun l => !risesIn 0 (wrap64 ((g.length : Int) - 1)) l) false (decide (g.length ≤ 40)) (by
    intro i hlt
    have hr := l1Rising_ev (g.getD i []) 0 (wrap64 ((g.length : Int) - 1)) (hi _ (mem_getD [] hlt))
    have body : ∀ k, spec_GoodGraph.l0 (k + 1) g g (g.length : Int) (i : Int) = (spec_l1Rising.f k (g.getD i []) 0 (wrap64 ((g.length : Int) - 1))).bind fun t => if t = true then spec_GoodGraph.l0 k g g (g.length : Int) ((i + 1 : Nat) : Int) else some false := by
      intro k
      simp only [spec_GoodGraph.l0]
      rw [if_pos (by omega), if_pos (by omega), if_pos (by omega), rdLL_nat, wrap_next hlt hm]
    refine ⟨fun hp => Ev.step body (Ev.bind hr ?_), fun hp r h => Ev.step body (Ev.bind hr ?_)⟩
    · simp only [Bool.not_eq_true'] at hp; rw [hp]; exact Ev.now _
    · simp only [Bool.not_eq_false'] at hp; rw [hp]; exact h) (fun _ => Ev.step (f := fun _ => some (decide (g.length ≤ 40))) (fun k => by simp only [spec_GoodGraph.l0]; rw [if_neg (by omega)]; exact congrArg some (decide_eq_decide.2 (by omega))) (Ev.now _))
  have e : (if Mine.anyP (fun l => !risesIn 0 (wrap64 ((g.length : Int) - 1)) l) g = true then false else decide (g.length ≤ 40)) = goodG g := by
    unfold goodG
    cases Mine.anyP (fun l => !risesIn 0 (wrap64 ((g.length : Int) - 1)) l) g <;> simp
  rw [e] at hl
  exact hl

theorem implGoodGraph_f (g : List (List Int)) : impl_GoodGraph.f g = some (goodG g) := by
  unfold impl_GoodGraph.f impl_GoodGraph_1_in_c.f
  rw [Mine.anyO_total (q := fun l => !risesIn 0 (wrap64 ((g.length : Int) - 1)) l) (fun x _ => by unfold impl_GoodGraph_1.f impl_areMembers.f risesIn; rw [Option.bind_some])]
  unfold goodG
  by_cases h : g.length ≤ 40
  · rw [if_pos (by omega), Option.bind_some, decide_eq_true h, Bool.true_and]
  · rw [if_neg (by omega), decide_eq_false h, Bool.false_and]

theorem within_f (a b c : Int) : impl_within.f a b c = some (Mine.inB b c a) := by
  unfold impl_within.f Mine.inB
  by_cases h : b ≤ a
  · rw [if_pos h]; simp [h]
  · rw [if_neg h]; simp [h]

/-- A number put to its place among rising ones, once. -/
def putL : List Int → Int → List Int
  | [], n => [n]
  | x :: xs, n => if x < n then x :: putL xs n else if x = n then x :: xs else n :: x :: xs
theorem putL_length (n : Int) : ∀ l : List Int, (putL l n).length ≤ l.length + 1
  | [] => by simp [putL]
  | x :: xs => by
    have := putL_length n xs
    unfold putL
    split
    · simp; omega
    · split <;> simp

/-- Rising numbers are told by what is among them. -/
theorem sorted_ext : ∀ (a b : List Int), a.Pairwise (· < ·) → b.Pairwise (· < ·) → (∀ x, x ∈ a ↔ x ∈ b) → a = b
  | [], [], _, _, _ => rfl
  | [], y :: b, _, _, h => absurd ((h y).2 (by simp)) (by simp)
  | x :: a, [], _, _, h => absurd ((h x).1 (by simp)) (by simp)
  | x :: a, y :: b, ha, hb, h => by
    rw [List.pairwise_cons] at ha hb
    have hxy : x = y := by
      have h1 := (h x).1 (by simp)
      have h2 := (h y).2 (by simp)
      rw [List.mem_cons] at h1 h2
      rcases h1 with h1 | h1
      · exact h1
      · rcases h2 with h2 | h2
        · exact h2.symm
        · have := hb.1 x h1
          have := ha.1 y h2
          omega
    subst hxy
    rw [sorted_ext a b ha.2 hb.2 (fun z => ⟨fun hz => by
      have h1 := (h z).1 (by simp [hz])
      rw [List.mem_cons] at h1
      rcases h1 with h1 | h1
      · have := ha.1 z hz; omega
      · exact h1, fun hz => by
      have h1 := (h z).2 (by simp [hz])
      rw [List.mem_cons] at h1
      rcases h1 with h1 | h1
      · have := hb.1 z hz; omega
      · exact h1⟩)]
theorem sorted_len : ∀ (l : List Int) (lo hi : Int), l.Pairwise (· < ·) → (∀ x ∈ l, lo ≤ x ∧ x < hi) → (l.length : Int) ≤ hi - lo ∨ l = []
  | [], _, _, _, _ => .inr rfl
  | x :: l, lo, hi, h, hb => by
    rw [List.pairwise_cons] at h
    left
    have hx := hb x (by simp)
    rcases sorted_len l (x + 1) hi h.2 (fun y hy => ⟨by have := h.1 y hy; omega, (hb y (by simp [hy])).2⟩) with h1 | h1
    · rw [List.length_cons]; omega
    · rw [h1]; simp; omega
theorem mem_putL (n x : Int) : ∀ l : List Int, x ∈ putL l n ↔ x = n ∨ x ∈ l
  | [] => by simp [putL]
  | y :: l => by
    unfold putL
    split
    · rw [List.mem_cons, mem_putL n x l, List.mem_cons]
      constructor
      · rintro (h | h | h) <;> simp [h]
      · rintro (h | h | h) <;> simp [h]
    · split
      · rename_i h; subst h; simp
      · simp
theorem sorted_putL (n : Int) : ∀ l : List Int, l.Pairwise (· < ·) → (putL l n).Pairwise (· < ·)
  | [], _ => by simp [putL]
  | y :: l, h => by
    rw [List.pairwise_cons] at h
    unfold putL
    split
    · rename_i hlt
      rw [List.pairwise_cons]
      refine ⟨fun z hz => ?_, sorted_putL n l h.2⟩
      rcases (mem_putL n z l).1 hz with rfl | hz
      · exact hlt
      · exact h.1 z hz
    · split
      · rw [List.pairwise_cons]; exact h
      · rw [List.pairwise_cons]
        refine ⟨fun z hz => ?_, by rw [List.pairwise_cons]; exact h⟩
        rw [List.mem_cons] at hz
        rcases hz with rfl | hz
        · omega
        · have := h.1 z hz; omega
theorem putL_len (n : Int) : ∀ l : List Int, n ∉ l → (putL l n).length = l.length + 1
  | [], _ => rfl
  | y :: l, h => by
    rw [List.mem_cons, not_or] at h
    unfold putL
    split
    · rw [List.length_cons, putL_len n l h.2, List.length_cons]
    · rw [if_neg (fun e => h.1 e.symm)]; simp

theorem l1Has_ev (l : List Int) (n : Int) (hm : l.length ≤ 9223372036854775807) : Ev (fun k => spec_l1Has.f k l n) (Mine.anyP (fun x => x == n) l) := by
  have h := loop_any (fun k => spec_l1Has.l0 k n l (l.length : Int)) l 0 (fun x => x == n) true false (by
    intro i hlt
    have body : ∀ k, spec_l1Has.l0 (k + 1) n l (l.length : Int) (i : Int) = if l.getD i 0 = n then some true else spec_l1Has.l0 k n l (l.length : Int) ((i + 1 : Nat) : Int) := by
      intro k
      simp only [spec_l1Has.l0]
      rw [if_pos (by omega), if_pos (by omega), if_pos (by omega), rd_nat, wrap_next hlt hm]
    refine ⟨fun hp => Ev.step (f := fun _ => some true) (fun k => by rw [body, if_pos (by simpa using hp)]) (Ev.now _), fun hp r hr => Ev.step (fun k => by rw [body, if_neg (by simpa using hp)]) hr⟩) (fun _ => Ev.step (f := fun _ => some false) (fun k => by simp only [spec_l1Has.l0]; rw [if_neg (by omega)]) (Ev.now _))
  have e : (if Mine.anyP (fun x => x == n) l = true then true else false) = Mine.anyP (fun x => x == n) l := by cases Mine.anyP (fun x => x == n) l <;> rfl
  rw [e] at h
  exact h

theorem l1Put_l (l : List Int) (n : Int) (hm : l.length < 17592186044400) : ∀ (d i : Nat), l.length - i = d → i ≤ l.length → Ev (fun k => spec_l1Put.l0 k l n (i : Int)) (l.take i ++ putL (l.drop i) n) := by
  intro d
  induction d with
  | zero =>
    intro i hd hi
    obtain rfl : i = l.length := by omega
    refine Ev.step (f := fun _ => some _) (fun k => ?_) (Ev.now _)
    simp only [spec_l1Put.l0]
    rw [if_neg (by omega)]
    simp only [Option.bind_some, Int.toNat_natCast, List.drop_length, List.take_length, putL, List.append_nil]
    rw [if_pos (by omega), if_pos (by omega), if_pos (by simp; omega), if_pos (by simp; omega), if_pos (by simp; omega)]
    simp
  | succ d ih =>
    intro i hd hi
    have hlt : i < l.length := by omega
    rw [Mine.drop_at l 0 i hlt, putL]
    by_cases h1 : l.getD i 0 < n
    · rw [if_pos h1]
      have := ih (i + 1) (by omega) (by omega)
      have e : l.take (i + 1) = l.take i ++ [l.getD i 0] := by
        rw [List.take_add_one, List.getD_eq_getElem?_getD, List.getElem?_eq_getElem hlt]; rfl
      rw [e, List.append_assoc] at this
      refine Ev.step (fun k => ?_) this
      simp only [spec_l1Put.l0]
      rw [if_pos (by omega), if_pos (by omega), rd_nat, if_pos h1, wrap_next hlt (by omega)]
    · rw [if_neg h1]
      by_cases h2 : l.getD i 0 = n
      · rw [if_pos h2]
        refine Ev.step (f := fun _ => some _) (fun k => ?_) (Ev.now _)
        simp only [spec_l1Put.l0]
        rw [if_pos (by omega), if_pos (by omega), rd_nat, if_neg h1, if_pos h2, ← Mine.drop_at l 0 i hlt, List.take_append_drop]
      · rw [if_neg h2]
        refine Ev.step (f := fun _ => some _) (fun k => ?_) (Ev.now _)
        have ht : (l.take i).length = i := by rw [List.length_take]; omega
        have hdr : (l.drop i).length = l.length - i := by rw [List.length_drop]
        simp only [spec_l1Put.l0]
        rw [if_pos (by omega), if_pos (by omega), rd_nat, if_neg h1, if_neg h2]
        simp only [Option.bind_some, Int.toNat_natCast, List.nil_append]
        rw [if_pos (by omega), if_pos (by simp only [List.length_nil]; omega), if_pos (by omega), if_pos (by rw [List.length_append]; simp only [List.length_cons, List.length_nil]; omega), ← Mine.drop_at l 0 i hlt]
        simp
theorem l1Put_ev (l : List Int) (n : Int) (hm : l.length < 17592186044400) : Ev (fun k => spec_l1Put.f k l n) (putL l n) := by
  have := l1Put_l l n hm _ 0 rfl (by omega)
  simpa [spec_l1Put.f] using this

/-- One point is met: what is met so far, rising and in the order of meeting. -/
def addS (st : List Int × List Int) (v : Int) : List Int × List Int := if Mine.anyP (fun x => x == v) st.2 = true then st else (putL st.1 v, st.2 ++ [v])
/-- All that is met from place i on. -/
def bfsL (g : List (List Int)) : Nat → List Int × List Int → Nat → List Int
  | 0, st, _ => st.1
  | f + 1, st, i => if i < st.2.length then bfsL g f ((g.getD (st.2.getD i 0).toNat []).foldl addS st) (i + 1) else st.1
/-- The points to which a point leads. -/
def reachL (g : List (List Int)) (k : Int) : List Int := bfsL g (g.length + 1) ([k], [k]) 0
/-- What is met, told three ways. -/
structure Met (n : Nat) (st : List Int × List Int) (seen : List Bool) : Prop where
  len : seen.length = n
  at_ : ∀ p : Nat, p < n → seen.getD p false = Mine.anyP (fun x => x == (p : Int)) st.2
  sorted : st.1.Pairwise (· < ·)
  mem : ∀ x, x ∈ st.1 ↔ x ∈ st.2
  lens : st.1.length = st.2.length
  range : ∀ x ∈ st.2, 0 ≤ x ∧ x < (n : Int)
theorem anyP_mem (l : List Int) (v : Int) : Mine.anyP (fun x => x == v) l = true ↔ v ∈ l := by
  rw [Mine.anyP_true]
  constructor
  · rintro ⟨x, hx, h⟩; have := eq_of_beq h; subst this; exact hx
  · intro h; exact ⟨v, h, by simp⟩
theorem anyP_nmem (l : List Int) (v : Int) : Mine.anyP (fun x => x == v) l = false ↔ v ∉ l := by
  rw [← anyP_mem]; simp
theorem Met.small {n : Nat} {st : List Int × List Int} {seen : List Bool} (h : Met n st seen) : st.2.length ≤ n := by
  rcases sorted_len st.1 0 (n : Int) h.sorted (fun x hx => h.range x ((h.mem x).1 hx)) with h1 | h1
  · rw [h.lens] at h1; omega
  · have := h.lens; rw [h1] at this; simp at this; omega
theorem Met.add {n : Nat} {st : List Int × List Int} {seen : List Bool} (h : Met n st seen) (v : Int) (h0 : 0 ≤ v) (h1 : v < (n : Int)) (hv : Mine.anyP (fun x => x == v) st.2 = false) : Met n (putL st.1 v, st.2 ++ [v]) (seen.set v.toNat true) := by
  have hn : v ∉ st.2 := (anyP_nmem _ _).1 hv
  refine ⟨by rw [List.length_set]; exact h.len, fun p hp => ?_, sorted_putL v _ h.sorted, fun x => ?_, ?_, fun x hx => ?_⟩
  · have e : Mine.anyP (fun x => x == (p : Int)) (st.2 ++ [v]) = (Mine.anyP (fun x => x == (p : Int)) st.2 || v == (p : Int)) := by
      unfold Mine.anyP; rw [List.any_append]; simp
    show (seen.set v.toNat true).getD p false = Mine.anyP (fun x => x == (p : Int)) (st.2 ++ [v])
    rw [e]
    by_cases hp2 : v.toNat = p
    · have : v = (p : Int) := by omega
      rw [this]
      simp [List.getD_eq_getElem?_getD, h.len, hp]
    · have hb : (v == (p : Int)) = false := by rw [beq_eq_false_iff_ne]; omega
      rw [hb, Bool.or_false, ← h.at_ p hp]
      simp [List.getD_eq_getElem?_getD, List.getElem?_set_ne hp2]
  · show x ∈ putL st.1 v ↔ x ∈ st.2 ++ [v]
    rw [mem_putL, h.mem, List.mem_append, List.mem_singleton]
    exact Or.comm
  · show (putL st.1 v).length = (st.2 ++ [v]).length
    rw [putL_len v st.1 (fun hm => hn ((h.mem v).1 hm)), h.lens]; simp
  · rw [List.mem_append, List.mem_singleton] at hx
    rcases hx with hx | rfl
    · exact h.range x hx
    · exact ⟨h0, h1⟩
theorem met_start (n : Nat) (k : Int) (h0 : 0 ≤ k) (h1 : k < (n : Int)) : Met n ([k], [k]) ((List.replicate n false).set k.toNat true) := by
  refine ⟨by simp, fun p hp => ?_, by simp, fun x => Iff.rfl, rfl, fun x hx => by simp at hx; subst hx; exact ⟨h0, h1⟩⟩
  by_cases hp2 : k.toNat = p
  · have : k = (p : Int) := by omega
    subst this
    simp [List.getD_eq_getElem?_getD, Mine.anyP, hp]
  · have hb : (k == (p : Int)) = false := by rw [beq_eq_false_iff_ne]; omega
    have e1 : ((List.replicate n false).set k.toNat true).getD p false = false := by
      rw [List.getD_eq_getElem?_getD, List.getElem?_set_ne hp2]; simp [List.getElem?_replicate, hp]
    have e2 : Mine.anyP (fun x => x == (p : Int)) [k] = false := by simp [Mine.anyP, hb]
    exact e1.trans e2.symm
/-- What a graph's rows are. -/
theorem goodG_rows {g : List (List Int)} (h : goodG g = true) : g.length ≤ 40 ∧ ∀ y ∈ g, ∀ v ∈ y, 0 ≤ v ∧ v < (g.length : Int) := by
  unfold goodG at h
  simp only [Bool.and_eq_true, decide_eq_true_eq, Bool.not_eq_true'] at h
  refine ⟨h.1, fun y hy v hv => ?_⟩
  have h2 := Mine.anyP_false.1 h.2 y hy
  simp only [Bool.not_eq_false'] at h2
  unfold risesIn at h2
  simp only [Bool.and_eq_true, Bool.not_eq_true'] at h2
  have h3 := Mine.outB_false.1 (Mine.anyP_false.1 h2.2 v hv)
  have hw : wrap64 ((g.length : Int) - 1) = (g.length : Int) - 1 := by unfold wrap64; omega
  rw [hw] at h3
  omega
/-- The numbers of the points that are seen. -/
def posL : List Bool → Int → List Int
  | [], _ => []
  | b :: bs, i => if b = true then i :: posL bs (i + 1) else posL bs (i + 1)
theorem mem_posL (x : Int) : ∀ (bs : List Bool) (i : Int), x ∈ posL bs i ↔ ∃ k : Nat, k < bs.length ∧ x = i + (k : Int) ∧ bs.getD k false = true
  | [], i => by simp [posL]
  | b :: bs, i => by
    have ih := mem_posL x bs (i + 1)
    have key : (∃ k : Nat, k < (b :: bs).length ∧ x = i + (k : Int) ∧ (b :: bs).getD k false = true) ↔ (x = i ∧ b = true) ∨ x ∈ posL bs (i + 1) := by
      rw [ih]
      constructor
      · rintro ⟨k, hk, hx, hb⟩
        cases k with
        | zero => left; exact ⟨by simpa using hx, by simpa using hb⟩
        | succ k => right; exact ⟨k, by simpa using hk, by omega, by simpa using hb⟩
      · rintro (⟨rfl, hb⟩ | ⟨k, hk, hx, hb⟩)
        · exact ⟨0, by simp, by simp, by simpa using hb⟩
        · exact ⟨k + 1, by simpa using hk, by omega, by simpa using hb⟩
    rw [key, posL]
    split
    · rename_i hb; rw [List.mem_cons]; simp [hb]
    · rename_i hb; simp [hb]
theorem sorted_posL : ∀ (bs : List Bool) (i : Int), (posL bs i).Pairwise (· < ·)
  | [], _ => List.Pairwise.nil
  | b :: bs, i => by
    rw [posL]
    split
    · rw [List.pairwise_cons]
      refine ⟨fun z hz => ?_, sorted_posL bs (i + 1)⟩
      obtain ⟨k, _, hx, _⟩ := (mem_posL z bs (i + 1)).1 hz
      omega
    · exact sorted_posL bs (i + 1)
theorem posL_len : ∀ (bs : List Bool) (i : Int), (posL bs i).length ≤ bs.length
  | [], _ => Nat.le_refl _
  | b :: bs, i => by
    have := posL_len bs (i + 1)
    rw [posL]; split
    · rw [List.length_cons, List.length_cons]; omega
    · rw [List.length_cons]; omega
theorem Met.out {n : Nat} {st : List Int × List Int} {seen : List Bool} (h : Met n st seen) : posL seen 0 = st.1 := by
  refine sorted_ext _ _ (sorted_posL _ _) h.sorted (fun x => ?_)
  rw [mem_posL, h.mem]
  constructor
  · rintro ⟨k, hk, rfl, hb⟩
    rw [h.len] at hk
    rw [h.at_ k hk] at hb
    simpa using (anyP_mem _ _).1 hb
  · intro hx
    have hr := h.range x hx
    refine ⟨x.toNat, by rw [h.len]; omega, by omega, ?_⟩
    rw [h.at_ _ (by omega), anyP_mem, Int.toNat_of_nonneg hr.1]
    exact hx

theorem specReach_in (g : List (List Int)) (hg : g.length ≤ 40) (row : List Int) (hm : row.length ≤ 9223372036854775807) (hr : ∀ v ∈ row, 0 ≤ v ∧ v < (g.length : Int)) (i : Int) : ∀ (d j : Nat) (st : List Int × List Int) (seen : List Bool), row.length - j = d → j ≤ row.length → Met g.length st seen →
    (∃ seen', Met g.length ((row.drop j).foldl addS st) seen') ∧ ∀ r, Ev (fun k => spec_l5Reached.l0 k g ((row.drop j).foldl addS st).1 ((row.drop j).foldl addS st).2 (wrap64 (i + 1))) r → Ev (fun k => spec_l5Reached.l1 k g st.1 st.2 i row (row.length : Int) (j : Int)) r := by
  intro d
  induction d with
  | zero =>
    intro j st seen hd hj hM
    rw [List.drop_eq_nil_of_le (by omega)]
    exact ⟨⟨seen, hM⟩, fun r h => Ev.step (fun k => by simp only [spec_l5Reached.l1]; rw [if_neg (by omega)]; rfl) h⟩
  | succ d ih =>
    intro j st seen hd hj hM
    have hlt : j < row.length := by omega
    have hv := hr _ (Mine.getD_mem row 0 j hlt)
    have hs := hM.small
    have body : ∀ k, spec_l5Reached.l1 (k + 1) g st.1 st.2 i row (row.length : Int) (j : Int) = (spec_l1Has.f k st.2 (row.getD j 0)).bind fun t => if t = true then spec_l5Reached.l1 k g st.1 st.2 i row (row.length : Int) ((j + 1 : Nat) : Int) else (spec_l1Put.f k st.1 (row.getD j 0)).bind fun t182 => spec_l5Reached.l1 k g t182 (st.2 ++ [row.getD j 0]) i row (row.length : Int) ((j + 1 : Nat) : Int) := by
      intro k
      simp only [spec_l5Reached.l1]
      rw [if_pos (by omega), if_pos (by omega), if_pos (by omega), rd_nat, wrap_next hlt hm, if_pos (show st.2.length < 17592186044416 by omega)]
    rw [Mine.drop_at row 0 j hlt, List.foldl_cons]
    have hA := l1Has_ev st.2 (row.getD j 0) (by omega)
    cases hh : Mine.anyP (fun x => x == row.getD j 0) st.2 with
    | true =>
      have e : addS st (row.getD j 0) = st := by unfold addS; rw [if_pos hh]
      rw [e]
      obtain ⟨h1, h2⟩ := ih (j + 1) st seen (by omega) (by omega) hM
      rw [hh] at hA
      exact ⟨h1, fun r h => Ev.step body (Ev.bind hA (by simpa using h2 r h))⟩
    | false =>
      have e : addS st (row.getD j 0) = (putL st.1 (row.getD j 0), st.2 ++ [row.getD j 0]) := by unfold addS; rw [if_neg (by rw [hh]; simp)]
      rw [e]
      have hM' := hM.add (row.getD j 0) hv.1 hv.2 hh
      obtain ⟨h1, h2⟩ := ih (j + 1) _ _ (by omega) (by omega) hM'
      rw [hh] at hA
      have hl := hM.lens
      exact ⟨h1, fun r h => Ev.step body (Ev.bind hA (by simpa using Ev.bind (l1Put_ev st.1 (row.getD j 0) (by omega)) (h2 r h)))⟩
theorem specReach_l (g : List (List Int)) (hg : goodG g = true) (hi : ∀ y ∈ g, y.length ≤ 9223372036854775807) : ∀ (f i : Nat) (st : List Int × List Int) (seen : List Bool), g.length - i < f → i ≤ st.2.length → Met g.length st seen →
    Ev (fun k => spec_l5Reached.l0 k g st.1 st.2 (i : Int)) (bfsL g f st i) := by
  obtain ⟨hg1, hg2⟩ := goodG_rows hg
  intro f
  induction f with
  | zero => intro i st seen hf; omega
  | succ f ih =>
    intro i st seen hf hi2 hM
    have hs := hM.small
    rw [bfsL]
    by_cases hlt : i < st.2.length
    · rw [if_pos hlt]
      have hv := hM.range _ (Mine.getD_mem st.2 0 i hlt)
      have hrow : g.getD (st.2.getD i 0).toNat [] ∈ g := mem_getD [] (by omega)
      obtain ⟨⟨seen', hM'⟩, h2⟩ := specReach_in g hg1 (g.getD (st.2.getD i 0).toNat []) (hi _ hrow) (hg2 _ hrow) (i : Int) _ 0 st seen rfl (by omega) hM
      simp only [List.drop_zero] at hM' h2
      have hlen : i + 1 ≤ ((g.getD (st.2.getD i 0).toNat []).foldl addS st).2.length := by
        have : ∀ (row : List Int) (s : List Int × List Int), s.2.length ≤ (row.foldl addS s).2.length := by
          intro row
          induction row with
          | nil => intro s; exact Nat.le_refl _
          | cons v row ihr =>
            intro s
            refine Nat.le_trans ?_ (ihr (addS s v))
            unfold addS; split
            · exact Nat.le_refl _
            · simp
        have := this (g.getD (st.2.getD i 0).toNat []) st
        omega
      have h3 := ih (i + 1) _ seen' (by omega) hlen hM'
      refine Ev.step (fun k => ?_) (h2 _ (by rw [wrap_next (n := st.2.length) hlt (by omega)]; exact h3))
      simp only [spec_l5Reached.l0]
      rw [if_pos (by omega), if_pos (by omega), rd_nat, if_pos hv.1, if_pos hv.2]
      have e : rd_L1 g (st.2.getD i 0) = g.getD (st.2.getD i 0).toNat [] := rfl
      rw [e]; rfl
    · rw [if_neg hlt]
      exact Ev.step (f := fun _ => some st.1) (fun k => by simp only [spec_l5Reached.l0]; rw [if_neg (by omega)]) (Ev.now _)
theorem specReach_ev (g : List (List Int)) (hg : goodG g = true) (hi : ∀ y ∈ g, y.length ≤ 9223372036854775807) (k : Int) (h0 : 0 ≤ k) (h1 : k < (g.length : Int)) : Ev (fun n => spec_l5Reached.f n g k) (reachL g k) := by
  unfold spec_l5Reached.f reachL
  exact specReach_l g hg hi (g.length + 1) 0 ([k], [k]) _ (by omega) (by simp) (met_start g.length k h0 h1)

theorem implReach_in (g : List (List Int)) (hg : g.length ≤ 40) (row : List Int) (hm : row.length ≤ 9223372036854775807) (hr : ∀ v ∈ row, 0 ≤ v ∧ v < (g.length : Int)) (i : Nat) : ∀ (d j : Nat) (st : List Int × List Int) (seen : List Bool), row.length - j = d → j ≤ row.length → Met g.length st seen → i < st.2.length →
    ∃ seen', Met g.length ((row.drop j).foldl addS st) seen' ∧ i < ((row.drop j).foldl addS st).2.length ∧ ∀ r, Ev (fun k => impl_reached.l0 k g seen' (((row.drop j).foldl addS st).2.drop (i + 1))) r → Ev (fun k => impl_reached.l1 k g seen (st.2.drop i) row (row.length : Int) (j : Int)) r := by
  intro d
  induction d with
  | zero =>
    intro j st seen hd hj hM hi
    rw [List.drop_eq_nil_of_le (by omega)]
    refine ⟨seen, hM, hi, fun r h => Ev.step (fun k => ?_) h⟩
    simp only [impl_reached.l1]
    rw [if_neg (by omega), if_pos (by rw [List.length_drop]; omega), List.drop_drop]
    rfl
  | succ d ih =>
    intro j st seen hd hj hM hi
    have hlt : j < row.length := by omega
    have hv := hr _ (Mine.getD_mem row 0 j hlt)
    have hs := hM.small
    have hat := hM.at_ (row.getD j 0).toNat (by omega)
    rw [Int.toNat_of_nonneg hv.1] at hat
    have hrd : rdOf false seen (row.getD j 0) = seen.getD (row.getD j 0).toNat false := rfl
    have body : ∀ k, impl_reached.l1 (k + 1) g seen (st.2.drop i) row (row.length : Int) (j : Int) = if Mine.anyP (fun x => x == row.getD j 0) st.2 = true then impl_reached.l1 k g seen (st.2.drop i) row (row.length : Int) ((j + 1 : Nat) : Int) else impl_reached.l1 k g (seen.set (row.getD j 0).toNat true) (st.2.drop i ++ [row.getD j 0]) row (row.length : Int) ((j + 1 : Nat) : Int) := by
      intro k
      simp only [impl_reached.l1]
      rw [if_pos (by omega), if_pos (by omega), if_pos (by omega), rd_nat, if_pos hv.1, if_pos (by rw [hM.len]; exact hv.2), wrap_next hlt hm, if_pos (show (st.2.drop i).length < 17592186044416 by rw [List.length_drop]; omega), hrd, hat]
    rw [Mine.drop_at row 0 j hlt, List.foldl_cons]
    cases hh : Mine.anyP (fun x => x == row.getD j 0) st.2 with
    | true =>
      have e : addS st (row.getD j 0) = st := by unfold addS; rw [if_pos hh]
      rw [e]
      obtain ⟨s', h1, h2, h3⟩ := ih (j + 1) st seen (by omega) (by omega) hM hi
      exact ⟨s', h1, h2, fun r h => Ev.step (fun k => by rw [body, hh, if_pos rfl]) (h3 r h)⟩
    | false =>
      have e : addS st (row.getD j 0) = (putL st.1 (row.getD j 0), st.2 ++ [row.getD j 0]) := by unfold addS; rw [if_neg (by rw [hh]; simp)]
      rw [e]
      have hM' := hM.add (row.getD j 0) hv.1 hv.2 hh
      obtain ⟨s', h1, h2, h3⟩ := ih (j + 1) _ _ (by omega) (by omega) hM' (by simp; omega)
      refine ⟨s', h1, h2, fun r h => Ev.step (fun k => by rw [body, hh, if_neg (by simp)]) ?_⟩
      have := h3 r h
      simp only at this
      rwa [List.drop_append_of_le_length (by omega)] at this
theorem implReach_out (seen : List Bool) (hs : seen.length ≤ 40) : ∀ (d i : Nat) (acc : List Int), seen.length - i = d → i ≤ seen.length → acc.length ≤ i → Ev (fun k => impl_reached.l2 k acc seen (seen.length : Int) (i : Int)) (acc ++ posL (seen.drop i) i) := by
  intro d
  induction d with
  | zero =>
    intro i acc hd hi ha
    rw [List.drop_eq_nil_of_le (by omega), posL, List.append_nil]
    exact Ev.step (f := fun _ => some acc) (fun k => by simp only [impl_reached.l2]; rw [if_neg (by omega)]) (Ev.now _)
  | succ d ih =>
    intro i acc hd hi ha
    have hlt : i < seen.length := by omega
    have hrd : rdOf false seen (i : Int) = seen.getD i false := by unfold rdOf; rw [Int.toNat_natCast]
    have body : ∀ k, impl_reached.l2 (k + 1) acc seen (seen.length : Int) (i : Int) = if seen.getD i false = true then impl_reached.l2 k (acc ++ [(i : Int)]) seen (seen.length : Int) ((i + 1 : Nat) : Int) else impl_reached.l2 k acc seen (seen.length : Int) ((i + 1 : Nat) : Int) := by
      intro k
      simp only [impl_reached.l2]
      rw [if_pos (by omega), if_pos (by omega), if_pos (by omega), if_pos (show acc.length < 17592186044416 by omega), wrap_next hlt (by omega), hrd]
    rw [Mine.drop_at seen false i hlt, posL]
    by_cases hb : seen.getD i false = true
    · rw [if_pos hb]
      have := ih (i + 1) (acc ++ [(i : Int)]) (by omega) (by omega) (by rw [List.length_append]; simp; omega)
      rw [List.append_assoc] at this
      exact Ev.step (fun k => by rw [body, if_pos hb]) this
    · rw [if_neg hb]
      exact Ev.step (fun k => by rw [body, if_neg hb]) (ih (i + 1) acc (by omega) (by omega) (by omega))
theorem implReach_l (g : List (List Int)) (hg : goodG g = true) (hi : ∀ y ∈ g, y.length ≤ 9223372036854775807) : ∀ (f i : Nat) (st : List Int × List Int) (seen : List Bool), g.length - i < f → i ≤ st.2.length → Met g.length st seen →
    Ev (fun k => impl_reached.l0 k g seen (st.2.drop i)) (bfsL g f st i) := by
  obtain ⟨hg1, hg2⟩ := goodG_rows hg
  intro f
  induction f with
  | zero => intro i st seen hf; omega
  | succ f ih =>
    intro i st seen hf hi2 hM
    have hs := hM.small
    rw [bfsL]
    by_cases hlt : i < st.2.length
    · rw [if_pos hlt]
      have hv := hM.range _ (Mine.getD_mem st.2 0 i hlt)
      have hrow : g.getD (st.2.getD i 0).toNat [] ∈ g := mem_getD [] (by omega)
      obtain ⟨seen', hM', hlen, h2⟩ := implReach_in g hg1 (g.getD (st.2.getD i 0).toNat []) (hi _ hrow) (hg2 _ hrow) i _ 0 st seen rfl (by omega) hM hlt
      simp only [List.drop_zero] at hM' h2 hlen
      have h3 := ih (i + 1) _ seen' (by omega) (by omega) hM'
      refine Ev.step (fun k => ?_) (h2 _ h3)
      have e0 : rd (st.2.drop i) 0 = st.2.getD i 0 := by
        rw [Mine.drop_at st.2 0 i hlt]; rfl
      have e : rd_L1 g (st.2.getD i 0) = g.getD (st.2.getD i 0).toNat [] := rfl
      simp only [impl_reached.l0]
      rw [if_pos (by rw [List.length_drop]; omega), if_pos (by rw [List.length_drop]; omega), e0, if_pos hv.1, if_pos hv.2, e]
      rfl
    · rw [if_neg hlt]
      have h := implReach_out seen (by rw [hM.len]; exact hg1) _ 0 [] rfl (by omega) (by simp)
      rw [List.drop_zero, List.nil_append, show ((0 : Nat) : Int) = 0 from rfl, hM.out] at h
      exact Ev.step (fun k => by simp only [impl_reached.l0]; rw [if_neg (by rw [List.length_drop]; omega)]) h
theorem implReach_ev (g : List (List Int)) (hg : goodG g = true) (hi : ∀ y ∈ g, y.length ≤ 9223372036854775807) (k : Int) (h0 : 0 ≤ k) (h1 : k < (g.length : Int)) : Ev (fun n => impl_reached.f n g k) (reachL g k) := by
  have hg1 := (goodG_rows hg).1
  have h := implReach_l g hg hi (g.length + 1) 0 ([k], [k]) _ (by omega) (by simp) (met_start g.length k h0 h1)
  refine Ev.congr (fun n => ?_) h
  unfold impl_reached.f
  rw [if_pos (by omega), if_pos (by omega), Option.bind_some, if_pos h0, if_pos (by simpa using h1)]
  simp
theorem reachL_len (g : List (List Int)) (hg : goodG g = true) (hi : ∀ y ∈ g, y.length ≤ 9223372036854775807) (k : Int) (h0 : 0 ≤ k) (h1 : k < (g.length : Int)) : (reachL g k).length ≤ 40 := by
  obtain ⟨hg1, hg2⟩ := goodG_rows hg
  have key : ∀ (f i : Nat) (st : List Int × List Int) (seen : List Bool), Met g.length st seen → (bfsL g f st i).length ≤ 40 := by
    intro f
    induction f with
    | zero => intro i st seen hM; have := hM.small; rw [bfsL, hM.lens]; omega
    | succ f ih =>
      intro i st seen hM
      rw [bfsL]
      by_cases hlt : i < st.2.length
      · rw [if_pos hlt]
        have hv := hM.range _ (Mine.getD_mem st.2 0 i hlt)
        have hrow : g.getD (st.2.getD i 0).toNat [] ∈ g := mem_getD [] (by have := hM.small; omega)
        obtain ⟨seen', hM', _, _⟩ := implReach_in g hg1 (g.getD (st.2.getD i 0).toNat []) (hi _ hrow) (hg2 _ hrow) i _ 0 st seen rfl (by omega) hM hlt
        simp only [List.drop_zero] at hM'
        exact ih _ _ _ hM'
      · rw [if_neg hlt]; have := hM.small; rw [hM.lens]; omega
  exact key _ _ _ _ (met_start g.length k h0 h1)

/-- Where a number stands first. -/
def idxI (n : Int) : List Int → Int → Int
  | [], _ => -1
  | x :: xs, i => if n = x then i else idxI n xs (i + 1)
theorem index_l (xs : List Int) (n : Int) (hm : xs.length ≤ 9223372036854775807) : ∀ (d i : Nat), xs.length - i = d → Ev (fun k => slices_Index_int_int.l0 k xs n (xs.length : Int) (i : Int)) (idxI n (xs.drop i) i) := by
  intro d
  induction d with
  | zero => intro i hd; rw [List.drop_eq_nil_of_le (by omega)]; exact Ev.step (f := fun _ => some (-1)) (fun k => by simp only [slices_Index_int_int.l0]; rw [if_neg (by omega)]) (Ev.now _)
  | succ d ih =>
    intro i hd
    have hlt : i < xs.length := by omega
    rw [Mine.drop_at xs 0 i hlt, idxI]
    have body : ∀ k, slices_Index_int_int.l0 (k + 1) xs n (xs.length : Int) (i : Int) = if n = xs.getD i 0 then some (i : Int) else slices_Index_int_int.l0 k xs n (xs.length : Int) ((i + 1 : Nat) : Int) := by
      intro k
      simp only [slices_Index_int_int.l0]
      rw [if_pos (by omega), if_pos (by omega), if_pos (by omega), rd_nat, wrap_next hlt hm]
    by_cases h : n = xs.getD i 0
    · rw [if_pos h]; exact Ev.step (f := fun _ => some (i : Int)) (fun k => by rw [body, if_pos h]) (Ev.now _)
    · rw [if_neg h]; exact Ev.step (fun k => by rw [body, if_neg h]) (by simpa using ih (i + 1) (by omega))
theorem idxI_any (n : Int) : ∀ (xs : List Int) (i : Int), 0 ≤ i → decide (idxI n xs i ≥ 0) = Mine.anyP (fun x => x == n) xs
  | [], i, _ => by simp [idxI, Mine.anyP]
  | x :: xs, i, hi => by
    rw [idxI, Mine.anyP_cons]
    by_cases h : n = x
    · rw [if_pos h]; simp [h, hi]
    · rw [if_neg h, idxI_any n xs (i + 1) (by omega)]; simp [show ¬ x = n from fun e => h e.symm]
theorem index_ev (xs : List Int) (n : Int) (hm : xs.length ≤ 9223372036854775807) : Ev (fun k => slices_Index_int_int.f k xs n) (idxI n xs 0) := by
  simpa [slices_Index_int_int.f] using index_l xs n hm _ 0 rfl

theorem contains_ev (xs : List Int) (n : Int) (hm : xs.length ≤ 9223372036854775807) : Ev (fun k => slices_Contains_int_int.f k xs n) (Mine.anyP (fun x => x == n) xs) := by
  have h := Ev.map (index_ev xs n hm) (fun t => decide (t ≥ 0))
  rw [idxI_any n xs 0 (Int.le_refl 0)] at h
  exact h

theorem toIntS_l (xs : List Int) (hm : xs.length ≤ 9223372036854775807) : ∀ (d i : Nat) (acc : List Int), xs.length - i = d → i ≤ xs.length → acc.length = xs.length → acc.take i = xs.take i → Ev (fun k => laws_toIntS.l0 k xs acc (i : Int)) xs := by
  intro d
  induction d with
  | zero =>
    intro i acc hd hi hl ht
    have e : acc = xs := Mine.take_all (i := i) (by omega) hl ht
    exact Ev.step (f := fun _ => some xs) (fun k => by simp only [laws_toIntS.l0]; rw [if_neg (by omega), e]) (Ev.now _)
  | succ d ih =>
    intro i acc hd hi hl ht
    refine Ev.step (f := fun k => laws_toIntS.l0 k xs (acc.set i (xs.getD i 0)) ((i + 1 : Nat) : Int)) (fun k => ?_) (ih (i + 1) _ (by omega) (by omega) (by simpa using hl) (Mine.take_set xs acc 0 i (by omega) hl ht))
    simp only [laws_toIntS.l0]
    rw [if_pos (by omega), if_pos (by omega), if_pos (by omega), wrap_next (n := xs.length) (by omega) hm, rd_nat, Int.toNat_natCast]
/-- A copy of numbers. -/
theorem toIntS_ev (xs : List Int) (hm : xs.length ≤ 1048576) : Ev (fun k => laws_toIntS.f k xs) xs := by
  refine Ev.congr (f := fun k => laws_toIntS.l0 k xs (List.replicate xs.length 0) ((0 : Nat) : Int)) (fun k => ?_) (toIntS_l xs (by omega) _ 0 _ rfl (by omega) (by simp) (by simp))
  unfold laws_toIntS.f
  rw [if_pos (by omega), if_pos (by omega)]
  simp

theorem toIntSS_l (xs : List (List Int)) (hm : xs.length ≤ 9223372036854775807) (hi : ∀ y ∈ xs, y.length ≤ 1048576) : ∀ (d i : Nat) (acc : List (List Int)), xs.length - i = d → i ≤ xs.length → acc.length = xs.length → acc.take i = xs.take i → Ev (fun k => laws_toIntSS.l0 k xs acc (i : Int)) xs := by
  intro d
  induction d with
  | zero =>
    intro i acc hd hi hl ht
    have e : acc = xs := Mine.take_all (i := i) (by omega) hl ht
    exact Ev.step (f := fun _ => some xs) (fun k => by simp only [laws_toIntSS.l0]; rw [if_neg (by omega), e]) (Ev.now _)
  | succ d ih =>
    intro i acc hd hi' hl ht
    refine Ev.step (f := fun k => (laws_toIntS.f k (xs.getD i [])).bind fun t => laws_toIntSS.l0 k xs (acc.set i t) ((i + 1 : Nat) : Int)) (fun k => ?_) (Ev.bind (toIntS_ev _ (hi _ (mem_getD [] (by omega)))) (ih (i + 1) _ (by omega) (by omega) (by simpa using hl) (Mine.take_set xs acc [] i (by omega) hl ht)))
    simp only [laws_toIntSS.l0]
    rw [if_pos (by omega), if_pos (by omega), rdLL_nat]
    simp only [if_pos (show (i : Int) < (acc.length : Int) by omega), wrap_next (show i < xs.length by omega) hm, Int.toNat_natCast]
/-- A copy of rows. -/
theorem toIntSS_ev (xs : List (List Int)) (hm : xs.length ≤ 1048576) (hi : ∀ y ∈ xs, y.length ≤ 1048576) : Ev (fun k => laws_toIntSS.f k xs) xs := by
  refine Ev.congr (f := fun k => laws_toIntSS.l0 k xs (List.replicate xs.length []) ((0 : Nat) : Int)) (fun k => ?_) (toIntSS_l xs (by omega) hi _ 0 _ rfl (by omega) (by simp) (by simp))
  unfold laws_toIntSS.f
  rw [if_pos (by omega), if_pos (by omega)]
  simp

theorem eqIntS_l (xs : List Int) (hm : xs.length ≤ 9223372036854775807) : ∀ (d i : Nat), xs.length - i = d → Ev (fun k => laws_eqIntS.l0 k xs xs (i : Int)) true := by
  intro d
  induction d with
  | zero => intro i hd; exact Ev.step (f := fun _ => some true) (fun k => by simp only [laws_eqIntS.l0]; rw [if_neg (by omega)]) (Ev.now _)
  | succ d ih =>
    intro i hd
    refine Ev.step (f := fun k => laws_eqIntS.l0 k xs xs ((i + 1 : Nat) : Int)) (fun k => ?_) (ih (i + 1) (by omega))
    simp only [laws_eqIntS.l0]
    rw [if_pos (by omega), if_pos (by omega), if_pos (by omega), if_pos trivial, wrap_next (n := xs.length) (by omega) hm]
/-- Numbers are the same as themselves. -/
theorem eqIntS_ev (xs : List Int) (hm : xs.length ≤ 9223372036854775807) : Ev (fun k => laws_eqIntS.f k xs xs) true := by
  refine Ev.congr (f := fun k => laws_eqIntS.l0 k xs xs ((0 : Nat) : Int)) (fun k => ?_) (eqIntS_l xs hm _ 0 rfl)
  unfold laws_eqIntS.f
  rw [if_pos rfl]
  rfl

theorem eqIntSS_l (xs : List (List Int)) (hm : xs.length ≤ 9223372036854775807) (hi : ∀ y ∈ xs, y.length ≤ 9223372036854775807) : ∀ (d i : Nat), xs.length - i = d → Ev (fun k => laws_eqIntSS.l0 k xs xs (i : Int)) true := by
  intro d
  induction d with
  | zero => intro i hd; exact Ev.step (f := fun _ => some true) (fun k => by simp only [laws_eqIntSS.l0]; rw [if_neg (by omega)]) (Ev.now _)
  | succ d ih =>
    intro i hd
    refine Ev.step (f := fun k => (laws_eqIntS.f k (xs.getD i []) (xs.getD i [])).bind fun t => if t = true then laws_eqIntSS.l0 k xs xs ((i + 1 : Nat) : Int) else some false) (fun k => ?_) (Ev.bind (eqIntS_ev _ (hi _ (mem_getD [] (by omega)))) (by simpa using ih (i + 1) (by omega)))
    simp only [laws_eqIntSS.l0]
    rw [if_pos (by omega), if_pos (by omega), if_pos (by omega), rdLL_nat, wrap_next (n := xs.length) (by omega) hm]
/-- Rows are the same as themselves. -/
theorem eqIntSS_ev (xs : List (List Int)) (hm : xs.length ≤ 9223372036854775807) (hi : ∀ y ∈ xs, y.length ≤ 9223372036854775807) : Ev (fun k => laws_eqIntSS.f k xs xs) true := by
  refine Ev.congr (f := fun k => laws_eqIntSS.l0 k xs xs ((0 : Nat) : Int)) (fun k => ?_) (eqIntSS_l xs hm hi _ 0 rfl)
  unfold laws_eqIntSS.f
  rw [if_pos rfl]
  rfl

theorem szIntS_f (l : List Int) (a : Int) (h0 : 0 ≤ a) (h1 : a ≤ 1048576) (hl : l.length ≤ 9223372036854775807) : laws_szIntS.f l a = some (if (l.length : Int) ≤ a then a - (l.length : Int) else -1) := by
  have hw : wrap64 (a - (l.length : Int)) = a - (l.length : Int) := by unfold wrap64; omega
  unfold laws_szIntS.f
  rw [hw]
  by_cases h : (l.length : Int) ≤ a
  · rw [if_neg (by omega), if_pos h]
  · rw [if_pos (by omega), if_neg h]

/-- How many numbers there are in all rows. -/
def sumLen : List (List Int) → Nat
  | [] => 0
  | y :: ys => y.length + sumLen ys
theorem sumLen_mem : ∀ {l : List (List Int)} {y : List Int}, y ∈ l → y.length ≤ sumLen l
  | [], _, h => by simp at h
  | z :: l, y, h => by
    rcases List.mem_cons.1 h with rfl | h
    · simp [sumLen]
    · have := sumLen_mem h; simp only [sumLen]; omega
theorem szIntSS_l (xs : List (List Int)) (hm : xs.length ≤ 9223372036854775807) (hi : ∀ y ∈ xs, y.length ≤ 9223372036854775807) : ∀ (d i : Nat) (a : Int), xs.length - i = d → 0 ≤ a → a ≤ 1048576 →
    Ev (fun k => laws_szIntSS.l0 k xs a (i : Int)) (-1) ∨ ∃ b, 0 ≤ b ∧ Ev (fun k => laws_szIntSS.l0 k xs a (i : Int)) b ∧ (sumLen (xs.drop i) : Int) + b = a := by
  intro d
  induction d with
  | zero =>
    intro i a hd h0 h1
    exact .inr ⟨a, h0, Ev.step (f := fun _ => some a) (fun k => by simp only [laws_szIntSS.l0]; rw [if_neg (by omega)]) (Ev.now _), by rw [List.drop_eq_nil_of_le (by omega)]; simp [sumLen]⟩
  | succ d ih =>
    intro i a hd h0 h1
    have hlt : i < xs.length := by omega
    have hz := szIntS_f (xs.getD i []) a h0 h1 (hi _ (mem_getD [] hlt))
    have body : ∀ k, laws_szIntSS.l0 (k + 1) xs a (i : Int) = if ((xs.getD i []).length : Int) ≤ a then laws_szIntSS.l0 k xs (a - ((xs.getD i []).length : Int)) ((i + 1 : Nat) : Int) else some (-1) := by
      intro k
      simp only [laws_szIntSS.l0]
      rw [if_pos (by omega), if_pos (by omega), rdLL_nat, hz, Option.bind_some, wrap_next hlt hm]
      by_cases h : ((xs.getD i []).length : Int) ≤ a
      · rw [if_pos h, if_neg (by omega), if_pos h]
      · rw [if_neg h, if_pos (by omega), if_neg h]
    by_cases h : ((xs.getD i []).length : Int) ≤ a
    · have st : ∀ r, Ev (fun k => laws_szIntSS.l0 k xs (a - ((xs.getD i []).length : Int)) ((i + 1 : Nat) : Int)) r → Ev (fun k => laws_szIntSS.l0 k xs a (i : Int)) r := fun r hr => Ev.step (fun k => by rw [body, if_pos h]) hr
      rcases ih (i + 1) (a - ((xs.getD i []).length : Int)) (by omega) (by omega) (by omega) with hr | ⟨b, hb, hr, he⟩
      · exact .inl (st _ hr)
      · refine .inr ⟨b, hb, st _ hr, ?_⟩
        rw [Mine.drop_at xs [] i hlt, sumLen]
        omega
    · exact .inl (Ev.step (f := fun _ => some (-1)) (fun k => by rw [body, if_neg h]) (Ev.now _))
/-- The size of rows: more than there may be, or what is left. -/
theorem szIntSS_or (xs : List (List Int)) (a : Int) (h0 : 0 ≤ a) (h1 : a ≤ 1048576) (hm : xs.length ≤ 9223372036854775807) (hi : ∀ y ∈ xs, y.length ≤ 9223372036854775807) :
    Ev (fun k => laws_szIntSS.f k xs a) (-1) ∨ ∃ b, 0 ≤ b ∧ Ev (fun k => laws_szIntSS.f k xs a) b ∧ (xs.length : Int) + (sumLen xs : Int) + b = a := by
  have hw : wrap64 (a - (xs.length : Int)) = a - (xs.length : Int) := by unfold wrap64; omega
  by_cases h : (xs.length : Int) ≤ a
  · have st : ∀ r, Ev (fun k => laws_szIntSS.l0 k xs (a - (xs.length : Int)) ((0 : Nat) : Int)) r → Ev (fun k => laws_szIntSS.f k xs a) r := fun r hr => Ev.congr (fun k => by unfold laws_szIntSS.f; rw [hw, if_neg (by omega)]; rfl) hr
    rcases szIntSS_l xs hm hi _ 0 (a - (xs.length : Int)) rfl (by omega) (by omega) with hr | ⟨b, hb, hr, he⟩
    · exact .inl (st _ hr)
    · refine .inr ⟨b, hb, st _ hr, ?_⟩
      simp only [List.drop_zero] at he
      omega
  · exact .inl (Ev.congr (f := fun _ => some (-1)) (fun k => by unfold laws_szIntSS.f; rw [hw, if_pos (by omega)]) (Ev.now _))

theorem markIntS_l (m : Int) (n : Nat) (hm : n ≤ 9223372036854775807) (h0 : 0 ≤ m) (h1 : m + n ≤ 9223372036854775807) : ∀ (d i : Nat) (acc : List Int), n - i = d → i ≤ n → acc.length = n → acc.take i = (Mine.seqI m n).take i →
    Ev (fun k => laws_markIntS.l0 k acc (m + (i : Int)) (i : Int)) (m + (n : Int), Mine.seqI m n) := by
  intro d
  induction d with
  | zero =>
    intro i acc hd hi hl ht
    obtain rfl : i = n := by omega
    have e : acc = Mine.seqI m i := Mine.take_all (i := i) (by rw [Mine.seqI_length]; omega) (by rw [Mine.seqI_length]; exact hl) ht
    exact Ev.step (f := fun _ => some _) (fun k => by simp only [laws_markIntS.l0]; rw [if_neg (by omega), e]) (Ev.now _)
  | succ d ih =>
    intro i acc hd hi hl ht
    have hs := Mine.take_set (Mine.seqI m n) acc 0 i (by rw [Mine.seqI_length]; omega) (by rw [Mine.seqI_length]; exact hl) ht
    rw [Mine.seqI_get m n i 0 (by omega)] at hs
    refine Ev.step (f := fun k => laws_markIntS.l0 k (acc.set i (m + (i : Int))) (m + ((i + 1 : Nat) : Int)) ((i + 1 : Nat) : Int)) (fun k => ?_) (ih (i + 1) _ (by omega) (by omega) (by simpa using hl) hs)
    have hw : wrap64 (m + (i : Int) + 1) = m + ((i + 1 : Nat) : Int) := by unfold wrap64; omega
    simp only [laws_markIntS.l0]
    rw [if_pos (by omega), if_pos (by omega), hw, wrap_next (n := n) (by omega) hm, Int.toNat_natCast]
/-- A row is written over with numbers that go on. -/
theorem markIntS_ev (l : List Int) (m : Int) (hm : l.length ≤ 9223372036854775807) (h0 : 0 ≤ m) (h1 : m + l.length ≤ 9223372036854775807) : Ev (fun k => laws_markIntS.f k l m) (m + (l.length : Int), Mine.seqI m l.length) := by
  have := markIntS_l m l.length hm h0 h1 _ 0 l rfl (by omega) rfl (by simp)
  unfold laws_markIntS.f
  simpa using this

theorem heldIntS_l (m : Int) (n : Nat) (hm : n ≤ 9223372036854775807) (h0 : 0 ≤ m) (h1 : m + n ≤ 9223372036854775807) : ∀ (d i : Nat), n - i = d → i ≤ n →
    Ev (fun k => laws_heldIntS.l0 k (Mine.seqI m n) (m + (i : Int)) (i : Int)) (m + (n : Int)) := by
  intro d
  induction d with
  | zero =>
    intro i hd hi
    obtain rfl : i = n := by omega
    exact Ev.step (f := fun _ => some _) (fun k => by simp only [laws_heldIntS.l0]; rw [if_neg (by rw [Mine.seqI_length]; omega)]) (Ev.now _)
  | succ d ih =>
    intro i hd hi
    refine Ev.step (f := fun k => laws_heldIntS.l0 k (Mine.seqI m n) (m + ((i + 1 : Nat) : Int)) ((i + 1 : Nat) : Int)) (fun k => ?_) (ih (i + 1) (by omega) (by omega))
    have hw : wrap64 (m + (i : Int) + 1) = m + ((i + 1 : Nat) : Int) := by unfold wrap64; omega
    simp only [laws_heldIntS.l0]
    rw [if_pos (by rw [Mine.seqI_length]; omega), if_pos (by omega), rd_nat, Mine.seqI_get m n i 0 (by omega), if_pos rfl, hw, wrap_next (n := n) (by omega) hm]
/-- A row that was written so is found so. -/
theorem heldIntS_ev (m : Int) (n : Nat) (hm : n ≤ 9223372036854775807) (h0 : 0 ≤ m) (h1 : m + n ≤ 9223372036854775807) : Ev (fun k => laws_heldIntS.f k (Mine.seqI m n) m) (m + (n : Int)) := by
  have := heldIntS_l m n hm h0 h1 _ 0 rfl (by omega)
  unfold laws_heldIntS.f
  simpa using this

/-- Rows written over with numbers that go on. -/
def seqRows (m : Int) : List (List Int) → List (List Int)
  | [] => []
  | y :: ys => Mine.seqI m y.length :: seqRows (m + (y.length : Int)) ys
theorem markIntSS_l (n : Nat) (hm : n ≤ 9223372036854775807) : ∀ (d i : Nat) (acc : List (List Int)) (m : Int), n - i = d → i ≤ n → acc.length = n → 0 ≤ m → m + (sumLen (acc.drop i) : Int) ≤ 9223372036854775807 →
    Ev (fun k => laws_markIntSS.l0 k acc m (i : Int)) (m + (sumLen (acc.drop i) : Int), acc.take i ++ seqRows m (acc.drop i)) := by
  intro d
  induction d with
  | zero =>
    intro i acc m hd hi hl h0 h1
    rw [List.drop_eq_nil_of_le (by omega), List.take_of_length_le (by omega)]
    exact Ev.step (f := fun _ => some (m, acc)) (fun k => by simp only [laws_markIntSS.l0]; rw [if_neg (by omega)]) (by simpa [sumLen, seqRows] using Ev.now (m, acc))
  | succ d ih =>
    intro i acc m hd hi hl h0 h1
    have hlt : i < acc.length := by omega
    have hdr := Mine.drop_at acc [] i hlt
    rw [hdr, sumLen] at h1
    have hset : (acc.set i (Mine.seqI m (acc.getD i []).length)).drop (i + 1) = acc.drop (i + 1) := by
      rw [List.drop_set_of_lt (by omega)]
    have htake : (acc.set i (Mine.seqI m (acc.getD i []).length)).take (i + 1) = acc.take i ++ [Mine.seqI m (acc.getD i []).length] := by
      rw [List.take_add_one, List.take_set_of_le (Nat.le_refl _)]
      simp [hlt]
    have h2 := ih (i + 1) (acc.set i (Mine.seqI m (acc.getD i []).length)) (m + ((acc.getD i []).length : Int)) (by omega) (by omega) (by rw [List.length_set]; exact hl) (by omega) (by rw [hset]; omega)
    rw [hset, htake, List.append_assoc] at h2
    have hmk := markIntS_ev (acc.getD i []) m (by omega) h0 (by omega)
    rw [hdr, sumLen, seqRows]
    refine Ev.step (f := fun k => (laws_markIntS.f k (acc.getD i []) m).bind fun t => laws_markIntSS.l0 k (acc.set i t.2) t.1 ((i + 1 : Nat) : Int)) (fun k => ?_) (Ev.bind hmk ?_)
    · simp only [laws_markIntSS.l0]
      rw [if_pos (by omega), wrap_next (n := n) (by omega) hm, Int.toNat_natCast]
    · have e : m + (((acc.getD i []).length + sumLen (acc.drop (i + 1)) : Nat) : Int) = m + ((acc.getD i []).length : Int) + (sumLen (acc.drop (i + 1)) : Int) := by omega
      rw [e]
      exact h2
theorem markIntSS_ev (g : List (List Int)) (m : Int) (hm : g.length ≤ 9223372036854775807) (h0 : 0 ≤ m) (h1 : m + (sumLen g : Int) ≤ 9223372036854775807) : Ev (fun k => laws_markIntSS.f k g m) (m + (sumLen g : Int), seqRows m g) := by
  have := markIntSS_l g.length hm _ 0 g m rfl (by omega) rfl h0 (by simpa using h1)
  simpa [laws_markIntSS.f] using this

theorem delO_ev {α : Type} (p : Nat → α → Option Bool) : ∀ (xs : List α) (q : α → Bool), (∀ x ∈ xs, Ev (fun k => p k x) (q x)) → Ev (fun k => Mine.delO (p k) xs) (xs.filter fun x => !q x)
  | [], q, _ => Ev.const rfl
  | x :: xs, q, h => by
    simp only [Mine.delO]
    refine Ev.bind (h x (by simp)) (Ev.bind (delO_ev p xs q (fun y hy => h y (by simp [hy]))) ?_)
    cases hq : q x with
    | true => simpa [hq] using Ev.now _
    | false => simpa [hq] using Ev.now _
/-- Does a point lead out of a list? -/
def openB (g : List (List Int)) (have_ : List Int) (p : Int) : Bool := Mine.anyP (fun n => !Mine.anyP (fun x => x == n) have_) (reachL g p)
def closedR (g : List (List Int)) (have_ : List Int) : List Int × Bool :=
  if goodG g = true ∧ risesIn 0 (wrap64 ((g.length : Int) - 1)) have_ = true then (have_.filter (fun p => !openB g have_ p), true) else ([], false)
theorem members_range {g : List (List Int)} {l : List Int} (hg : goodG g = true) (h : risesIn 0 (wrap64 ((g.length : Int) - 1)) l = true) : ∀ v ∈ l, 0 ≤ v ∧ v < (g.length : Int) := by
  have h1 := (goodG_rows hg).1
  intro v hv
  unfold risesIn at h
  simp only [Bool.and_eq_true, Bool.not_eq_true'] at h
  have h3 := Mine.outB_false.1 (Mine.anyP_false.1 h.2 v hv)
  have hw : wrap64 ((g.length : Int) - 1) = (g.length : Int) - 1 := by unfold wrap64; omega
  rw [hw] at h3
  omega
theorem specClosed_in (g : List (List Int)) (hv acc : List Int) (hm : hv.length ≤ 1048576) (ha : acc.length ≤ 1048576) (p : Int) (i : Int) (row : List Int) (hr : row.length ≤ 9223372036854775807) (r : List Int × Bool) : ∀ (d j : Nat) (b : Bool), row.length - j = d → j ≤ row.length →
    Ev (fun k => spec_ClosedIn.l0 k g hv (if (b && !Mine.anyP (fun n => !Mine.anyP (fun x => x == n) hv) (row.drop j)) = true then acc ++ [p] else acc) hv (hv.length : Int) (wrap64 (i + 1))) r →
    Ev (fun k => spec_ClosedIn.l1 k g hv acc p b hv (hv.length : Int) i row (row.length : Int) (j : Int)) r := by
  intro d
  induction d with
  | zero =>
    intro j b hd hj h
    rw [List.drop_eq_nil_of_le (by omega)] at h
    cases b with
    | true => exact Ev.step (fun k => by simp only [spec_ClosedIn.l1]; rw [if_neg (by omega), if_pos trivial, if_pos (by omega)]) (by simpa [Mine.anyP] using h)
    | false => exact Ev.step (fun k => by simp only [spec_ClosedIn.l1]; rw [if_neg (by omega), if_neg (by simp)]) (by simpa [Mine.anyP] using h)
  | succ d ih =>
    intro j b hd hj h
    have hlt : j < row.length := by omega
    rw [Mine.drop_at row 0 j hlt, Mine.anyP_cons] at h
    cases b with
    | true =>
      refine Ev.step (f := fun k => (spec_l1Has.f k hv (row.getD j 0)).bind fun t => spec_ClosedIn.l1 k g hv acc p t hv (hv.length : Int) i row (row.length : Int) ((j + 1 : Nat) : Int)) (fun k => ?_) (Ev.bind (l1Has_ev hv (row.getD j 0) (by omega)) (ih (j + 1) _ (by omega) (by omega) ?_))
      · simp only [spec_ClosedIn.l1]
        rw [if_pos (by omega), if_pos (by omega), if_pos (by omega), if_pos trivial, rd_nat, wrap_next hlt hr]
      · have e : (Mine.anyP (fun x => x == row.getD j 0) hv && !Mine.anyP (fun n => !Mine.anyP (fun x => x == n) hv) (row.drop (j + 1))) = (true && !(!Mine.anyP (fun x => x == row.getD j 0) hv || Mine.anyP (fun n => !Mine.anyP (fun x => x == n) hv) (row.drop (j + 1)))) := by
          cases Mine.anyP (fun x => x == row.getD j 0) hv <;> simp
        rw [e]; exact h
    | false =>
      refine Ev.step (f := fun k => spec_ClosedIn.l1 k g hv acc p false hv (hv.length : Int) i row (row.length : Int) ((j + 1 : Nat) : Int)) (fun k => ?_) (ih (j + 1) false (by omega) (by omega) (by simpa using h))
      simp only [spec_ClosedIn.l1]
      rw [if_pos (by omega), if_pos (by omega), if_pos (by omega), if_neg (by simp), wrap_next hlt hr]
theorem specClosed_l (g : List (List Int)) (hg : goodG g = true) (hi : ∀ y ∈ g, y.length ≤ 9223372036854775807) (hv : List Int) (hm : hv.length ≤ 1048576) (hr : ∀ v ∈ hv, 0 ≤ v ∧ v < (g.length : Int)) : ∀ (d i : Nat) (acc : List Int), hv.length - i = d → i ≤ hv.length → acc.length ≤ i →
    Ev (fun k => spec_ClosedIn.l0 k g hv acc hv (hv.length : Int) (i : Int)) (acc ++ (hv.drop i).filter (fun p => !openB g hv p), true) := by
  intro d
  induction d with
  | zero =>
    intro i acc hd hi2 ha
    rw [List.drop_eq_nil_of_le (by omega)]
    exact Ev.step (f := fun _ => some (acc, true)) (fun k => by simp only [spec_ClosedIn.l0]; rw [if_neg (by omega)]) (by simpa using Ev.now (acc, true))
  | succ d ih =>
    intro i acc hd hi2 ha
    have hlt : i < hv.length := by omega
    have hp := hr _ (Mine.getD_mem hv 0 i hlt)
    have hl := reachL_len g hg hi (hv.getD i 0) hp.1 hp.2
    rw [Mine.drop_at hv 0 i hlt]
    refine Ev.step (f := fun k => (spec_l5Reached.f k g (hv.getD i 0)).bind fun t => spec_ClosedIn.l1 k g hv acc (hv.getD i 0) true hv (hv.length : Int) (i : Int) t (t.length : Int) 0) (fun k => ?_) (Ev.bind (specReach_ev g hg hi (hv.getD i 0) hp.1 hp.2) (specClosed_in g hv acc hm (by omega) (hv.getD i 0) (i : Int) (reachL g (hv.getD i 0)) (by omega) _ _ 0 true rfl (by omega) ?_))
    · simp only [spec_ClosedIn.l0]
      rw [if_pos (by omega), if_pos (by omega), if_pos (by omega), rd_nat]
    · rw [List.drop_zero, Bool.true_and, wrap_next hlt (by omega), show Mine.anyP (fun n => !Mine.anyP (fun x => x == n) hv) (reachL g (hv.getD i 0)) = openB g hv (hv.getD i 0) from rfl]
      cases hb : openB g hv (hv.getD i 0) with
      | true =>
        have ef : List.filter (fun p => !openB g hv p) (hv.getD i 0 :: hv.drop (i + 1)) = List.filter (fun p => !openB g hv p) (hv.drop (i + 1)) := List.filter_cons_of_neg (by rw [hb]; simp)
        rw [ef]
        simp only [Bool.not_true, Bool.false_eq_true, if_false]
        exact ih (i + 1) acc (by omega) (by omega) (by omega)
      | false =>
        have := ih (i + 1) (acc ++ [hv.getD i 0]) (by omega) (by omega) (by rw [List.length_append]; simp; omega)
        rw [List.append_assoc, List.singleton_append] at this
        have ef : List.filter (fun p => !openB g hv p) (hv.getD i 0 :: hv.drop (i + 1)) = hv.getD i 0 :: List.filter (fun p => !openB g hv p) (hv.drop (i + 1)) := List.filter_cons_of_pos (by rw [hb]; rfl)
        rw [ef]
        simp only [Bool.not_false, if_true]
        exact this
theorem specClosedIn_ev (g : List (List Int)) (hv : List Int) (hgl : g.length ≤ 9223372036854775807) (hi : ∀ y ∈ g, y.length ≤ 9223372036854775807) (hm : hv.length ≤ 1048576) : Ev (fun k => spec_ClosedIn.f k g hv) (closedR g hv) := by
  have hj : Ev (fun k => spec_ClosedIn.j0 k g hv true) ([], false) := Ev.step (f := fun _ => some _) (fun k => by simp only [spec_ClosedIn.j0]; rw [if_pos trivial]) (Ev.now _)
  unfold spec_ClosedIn.f closedR
  refine Ev.bind (specGoodGraph_ev g hgl hi) ?_
  cases hg : goodG g with
  | false => simpa using hj
  | true =>
    simp only [if_true]
    refine Ev.bind (l1Rising_ev hv 0 (wrap64 ((g.length : Int) - 1)) (by omega)) ?_
    cases hr : risesIn 0 (wrap64 ((g.length : Int) - 1)) hv with
    | false => simpa using hj
    | true =>
      simp only [and_self, if_true, Bool.not_true]
      exact Ev.step (fun k => by simp only [spec_ClosedIn.j0]; rw [if_neg (by simp)]) (by simpa using specClosed_l g hg hi hv hm (members_range hg hr) _ 0 [] rfl (by omega) (by simp))
theorem implClosed1_ev (g : List (List Int)) (hg : goodG g = true) (hi : ∀ y ∈ g, y.length ≤ 9223372036854775807) (hv : List Int) (hm : hv.length ≤ 1048576) (p : Int) (h0 : 0 ≤ p) (h1 : p < (g.length : Int)) : Ev (fun k => impl_ClosedIn_1.f k p g hv) (openB g hv p) := by
  unfold impl_ClosedIn_1.f impl_ClosedIn_1_1_in_c.f
  exact Ev.bind (implReach_ev g hg hi p h0 h1) (Ev.map (anyO_ev (fun k x => impl_ClosedIn_1_1.f k x hv) (reachL g p) (fun n => !Mine.anyP (fun x => x == n) hv) (fun x _ => Ev.map (contains_ev hv x (by omega)) (fun t => !t))) (fun t => t))
theorem implClosedIn_ev (g : List (List Int)) (hv : List Int) (hi : ∀ y ∈ g, y.length ≤ 9223372036854775807) (hm : hv.length ≤ 1048576) : Ev (fun k => impl_ClosedIn.f k g hv) (closedR g hv) := by
  unfold impl_ClosedIn.f closedR
  simp only [implGoodGraph_f, Option.bind_some, impl_areMembers.f]
  cases hg : goodG g with
  | false => simpa using Ev.now _
  | true =>
    simp only [if_true]
    rw [show (Mine.riseB hv && !Mine.anyP (Mine.outB 0 (wrap64 ((g.length : Int) - 1))) hv) = risesIn 0 (wrap64 ((g.length : Int) - 1)) hv from rfl]
    cases hr : risesIn 0 (wrap64 ((g.length : Int) - 1)) hv with
    | false => simpa using Ev.now _
    | true =>
      have hc : slices_Clone_int_int.f hv = some hv := by unfold slices_Clone_int_int.f; rw [if_pos (by omega)]
      simp only [and_self, if_true, hc, Option.bind_some]
      have hrng := members_range hg hr
      exact Ev.map (delO_ev (fun k x => impl_ClosedIn_1.f k x g hv) hv (fun p => openB g hv p) (fun x hx => implClosed1_ev g hg hi hv hm x (hrng x hx).1 (hrng x hx).2)) (fun r => (r, true))
theorem closedR_len (g : List (List Int)) (hv : List Int) : (closedR g hv).1.length ≤ hv.length := by
  unfold closedR
  split
  · exact List.length_filter_le _ _
  · simp
theorem FnExactClosedIn : laws_FnExactClosedIn.Pure := by
  intro g hv ⟨hg, hi⟩ ⟨hl, _⟩
  have hi' : ∀ y ∈ g, y.length ≤ 9223372036854775807 := fun y hy => (hi y hy).1
  unfold laws_FnExactClosedIn.Facts
  by_cases hbig : (hv.length : Int) ≤ 1048576
  · refine .inr ⟨hbig, ?_⟩
    rcases szIntSS_or g 1048576 (by omega) (by omega) hg hi' with hz | ⟨b, hb, hz, he⟩
    · exact ⟨-1, Ev.rounds hz, .inl (by omega)⟩
    · have h2 : ∀ y ∈ g, y.length ≤ 1048576 := fun y hy => by have := sumLen_mem hy; omega
      have h3 := specClosedIn_ev g hv hg hi' (by omega)
      have h4 := implClosedIn_ev g hv hi' (by omega)
      have h5 := closedR_len g hv
      generalize closedR g hv = r at h3 h4 h5
      obtain ⟨w, b2⟩ := r
      dsimp only at h5
      refine ⟨b, Ev.rounds hz, .inr ⟨hb, Ev.rounds (toIntSS_ev g (by omega) h2), Ev.rounds (toIntS_ev hv (by omega)), w, b2, Ev.rounds h3, Ev.rounds h4, Ev.rounds (eqIntS_ev w (by omega)), Ev.rounds (eqIntSS_ev g hg hi'), Ev.rounds (eqIntS_ev hv hl), 1 + (sumLen g : Int), seqRows 1 g, ?_, 1 + (sumLen g : Int) + (hv.length : Int), Mine.seqI (1 + (sumLen g : Int)) hv.length, ?_, 1 + (w.length : Int), Mine.seqI 1 w.length, ?_, Ev.rounds (heldIntS_ev 1 w.length (by omega) (by omega) (by omega)), trivial⟩⟩
      · obtain ⟨K, hK⟩ := Ev.rounds (markIntSS_ev g 1 hg (by omega) (by omega)); exact ⟨K, by omega, hK⟩
      · obtain ⟨K, hK⟩ := Ev.rounds (markIntS_ev hv (1 + (sumLen g : Int)) hl (by omega) (by omega)); exact ⟨K, by omega, hK⟩
      · obtain ⟨K, hK⟩ := Ev.rounds (markIntS_ev w 1 (by omega) (by omega) (by omega)); exact ⟨K, by omega, hK⟩
  · exact .inl (by omega)

end Go.Proofs.Ytghblkjhecoaoaa.Pure
