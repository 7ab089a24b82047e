/- The law FnComponents holds, for every input. -/
import Derived.Test.YtpboalgecejoeaaVFnComponents
import Derived.Test.YtpboalgecejoeaaQFnComponentsx11
namespace Go.Proofs.Ytpboalgecejoeaa.Pure
open Go.RowKit Go.Proofs.Ytpboalgecejoeaa.QFnComponents Go.Proofs.YtpboalgecejoeaaW.PrintWords Go.Proofs.YtpboalgecejoeaaW.PrintLast Go.Proofs.YtpboalgecejoeaaW.PrintMore
set_option linter.unusedVariables false
set_option linter.unusedSimpArgs false

theorem wrap_next {i : Nat} {n : Nat} (h : i < n) (hn : n ≤ 9223372036854775807) : wrap64 ((i : Int) + 1) = ((i + 1 : Nat) : Int) := by
 unfold wrap64
 omega
theorem rd_nat (l : List Int) (i : Nat) : rd l (i : Int) = l.getD i 0 := by unfold rd; rw [Int.toNat_natCast]
theorem wrap_small {x : Int} (h0 : -9223372036854775808 ≤ x) (h1 : x ≤ 9223372036854775807) : wrap64 x = x := by unfold wrap64; omega
theorem Ev.const {α : Type} {o : Option α} {a : α} (h : o = some a) : Ev (fun _ => o) a := ⟨0, fun _ _ => h⟩
theorem Ev.map {α β : Type} {g : Nat → Option α} {a : α} (h : Ev g a) (f : α → β) : Ev (fun k => (g k).bind fun t => some (f t)) (f a) := by
 obtain ⟨K, h⟩ := h
 exact ⟨K, fun k hk => by show (g k).bind _ = _; rw [h k hk, Option.bind_some]⟩
theorem loop_any {α ρ : Type} (F : Nat → Int → Option ρ) (xs : List α) (d : α) (p : α → Bool) (hit miss : ρ)
  (hs : ∀ i, i < xs.length → (p (xs.getD i d) = true → Ev (fun k => F k (i : Int)) hit) ∧ (p (xs.getD i d) = false → ∀ r, Ev (fun k => F k ((i + 1 : Nat) : Int)) r → Ev (fun k => F k (i : Int)) r))
  (he : Mine.anyP p xs = false → Ev (fun k => F k (xs.length : Int)) miss) : Ev (fun k => F k 0) (if Mine.anyP p xs = true then hit else miss) := by
 have key : ∀ (n i : Nat), xs.length - i = n → i ≤ xs.length → Mine.anyP p (xs.take i) = false → Ev (fun k => F k (i : Int)) (if Mine.anyP p (xs.drop i) = true then hit else miss) := by
  intro n
  induction n with
  | zero =>
   intro i hn hi hb
   obtain rfl : i = xs.length := by omega
   rw [List.drop_eq_nil_of_le (Nat.le_refl _)]
   rw [List.take_of_length_le (Nat.le_refl _)] at hb
   simpa [Mine.anyP] using he hb
  | succ n ih =>
   intro i hn hi hb
   rw [Mine.drop_at xs d i (by omega), Mine.anyP_cons]
   cases hp : p (xs.getD i d) with
   | true => simpa using (hs i (by omega)).1 hp
   | false =>
    have hb' : Mine.anyP p (xs.take (i + 1)) = false := by
     have e : xs.take (i + 1) = xs.take i ++ [xs.getD i d] := by
      rw [List.take_add_one, List.getD_eq_getElem?_getD, List.getElem?_eq_getElem (show i < xs.length by omega)]; rfl
     rw [e]
     unfold Mine.anyP at hb ⊢
     rw [List.any_append, hb, List.any_cons, hp]
     rfl
    simpa using (hs i (by omega)).2 hp _ (ih (i + 1) (by omega) (by omega) hb')
 simpa using key xs.length 0 (by omega) (by omega) (by simp [Mine.anyP])
def scan {σ α ρ : Type} (step : α → σ → Sum σ ρ) (fin : σ → ρ) : List α → σ → ρ
 | [], s => fin s
 | x :: xs, s => match step x s with
  | .inl s' => scan step fin xs s'
  | .inr r => r
theorem loop_scan {σ α ρ : Type} (F : Nat → σ → Int → Option ρ) (xs : List α) (d : α) (step : α → σ → Sum σ ρ) (fin : σ → ρ) (P : Nat → σ → Prop)
  (hs : ∀ (i : Nat) (s : σ), i < xs.length → P i s → (∀ s', step (xs.getD i d) s = .inl s' → P (i + 1) s' ∧ ∀ r, Ev (fun k => F k s' ((i + 1 : Nat) : Int)) r → Ev (fun k => F k s (i : Int)) r) ∧ (∀ r, step (xs.getD i d) s = .inr r → Ev (fun k => F k s (i : Int)) r))
  (he : ∀ s, P xs.length s → Ev (fun k => F k s (xs.length : Int)) (fin s)) (s : σ) (h0 : P 0 s) : Ev (fun k => F k s 0) (scan step fin xs s) := by
 have key : ∀ (n i : Nat) (s : σ), xs.length - i = n → i ≤ xs.length → P i s → Ev (fun k => F k s (i : Int)) (scan step fin (xs.drop i) s) := by
  intro n
  induction n with
  | zero =>
   intro i s hn hi hp
   obtain rfl : i = xs.length := by omega
   rw [List.drop_eq_nil_of_le (Nat.le_refl _)]
   exact he s hp
  | succ n ih =>
   intro i s hn hi hp
   rw [Mine.drop_at xs d i (by omega), scan]
   cases hst : step (xs.getD i d) s with
   | inl s' => exact ((hs i s (by omega) hp).1 s' hst).2 _ (ih (i + 1) s' (by omega) (by omega) ((hs i s (by omega) hp).1 s' hst).1)
   | inr r => exact (hs i s (by omega) hp).2 r hst
 simpa using key xs.length 0 s (by omega) (by omega) h0

theorem rdLL_nat (l : List (List Int)) (i : Nat) : rd_L2 l (i : Int) = l.getD i [] := by unfold rd_L2; rw [Int.toNat_natCast]
theorem mem_getD {α : Type} {l : List α} {i : Nat} (d : α) (h : i < l.length) : l.getD i d ∈ l := by
 rw [List.getD_eq_getElem?_getD, List.getElem?_eq_getElem h]; exact List.getElem_mem _

theorem l1In_f (a b c : Int) : spec_l1In.f a b c = some (Mine.inB b c a) := by
 unfold spec_l1In.f Mine.inB
 by_cases h : a ≥ b
 ·rw [if_pos h]; simp [show b ≤ a from h]
 ·rw [if_neg h]; simp [show ¬ b ≤ a from h]

def risesIn (lo hi : Int) (l : List Int) : Bool := Mine.riseB l && !Mine.anyP (Mine.outB lo hi) l
theorem l1Rising_l (xs : List Int) (lo hi : Int) (hm : xs.length ≤ 9223372036854775807) : ∀ (d j : Nat), 1 ≤ j → xs.length - j = d → Mine.outB lo hi (xs.getD (j - 1) 0) = false ∨ xs.length = 0 →
  Ev (fun k => spec_l1Rising.l0 k xs lo hi xs (xs.length : Int) (j : Int)) (risesIn lo hi (xs.drop (j - 1))) := by
 intro d
 induction d with
 | zero =>
  intro j hj hd ho
  refine Ev.step (f := fun _ => some _) (fun k => by simp only [spec_l1Rising.l0]; rw [if_neg (by omega)]) (?_ : Ev (fun _ => some true) _)
  have e : risesIn lo hi (xs.drop (j - 1)) = true := by
   have hl : (xs.drop (j - 1)).length ≤ 1 := by rw [List.length_drop]; omega
   by_cases h0 : j - 1 < xs.length
   ·rw [Mine.drop_at xs 0 (j - 1) h0, List.drop_eq_nil_of_le (by omega)]
    rcases ho with ho | ho
    ·show (true && !Mine.anyP _ [_]) = true
     rw [Mine.anyP_cons, ho]; rfl
    ·omega
   ·rw [List.drop_eq_nil_of_le (by omega)]; rfl
  rw [e]; exact Ev.now _
 | succ d ih =>
  intro j hj hd ho
  have hlt : j < xs.length := by omega
  have e1 := Mine.drop_at xs 0 (j - 1) (by omega)
  rw [show j - 1 + 1 = j by omega] at e1
  have e2 := Mine.drop_at xs 0 j hlt
  have ho' : Mine.outB lo hi (xs.getD (j - 1) 0) = false := by rcases ho with h | h; exact h; omega
  have r2 : rd xs ((j : Int) - 1) = xs.getD (j - 1) 0 := by rw [show ((j : Int) - 1) = ((j - 1 : Nat) : Int) by omega, rd_nat]
  have hp : wrap64 ((j : Int) - 1) = (j : Int) - 1 := by unfold wrap64; omega
  have body : ∀ k, spec_l1Rising.l0 (k + 1) xs lo hi xs (xs.length : Int) (j : Int) = if Mine.inB lo hi (xs.getD j 0) = true then (if xs.getD (j - 1) 0 ≥ xs.getD j 0 then some false else spec_l1Rising.l0 k xs lo hi xs (xs.length : Int) ((j + 1 : Nat) : Int)) else some false := by
   intro k
   simp only [spec_l1Rising.l0]
   rw [if_pos (by omega), if_pos (by omega), if_pos (by omega), rd_nat, l1In_f, Option.bind_some, hp, if_pos (by omega : (j : Int) > 0), if_pos (by omega : (0 : Int) ≤ (j : Int) - 1), if_pos (by omega : (j : Int) - 1 < (xs.length : Int)), r2, wrap_next hlt hm]
  have er : risesIn lo hi (xs.drop (j - 1)) = ((decide (xs.getD (j - 1) 0 < xs.getD j 0)) && risesIn lo hi (xs.drop j)) := by
   rw [e1, e2]
   simp only [risesIn, Mine.riseB, Mine.anyP_cons, ho', Bool.false_or]
   cases decide (xs.getD (j - 1) 0 < xs.getD j 0) <;> simp
  by_cases hi1 : Mine.inB lo hi (xs.getD j 0) = true
  ·by_cases h : xs.getD (j - 1) 0 ≥ xs.getD j 0
   ·refine Ev.step (f := fun _ => some false) (fun k => by rw [body, if_pos hi1, if_pos h]) ?_
    rw [er, decide_eq_false (by omega : ¬ xs.getD (j - 1) 0 < xs.getD j 0), Bool.false_and]; exact Ev.now _
   ·refine Ev.step (f := fun k => spec_l1Rising.l0 k xs lo hi xs (xs.length : Int) ((j + 1 : Nat) : Int)) (fun k => by rw [body, if_pos hi1, if_neg h]) ?_
    rw [er, decide_eq_true (by omega : xs.getD (j - 1) 0 < xs.getD j 0), Bool.true_and]
    have := ih (j + 1) (by omega) (by omega) (.inl (by rw [show j + 1 - 1 = j by omega]; unfold Mine.outB; rw [hi1]; rfl))
    rwa [show j + 1 - 1 = j by omega] at this
  ·refine Ev.step (f := fun _ => some false) (fun k => by rw [body, if_neg hi1]) ?_
   have : risesIn lo hi (xs.drop j) = false := by
    rw [e2]
    simp only [risesIn, Mine.anyP_cons, Mine.outB, hi1]
    simp
   rw [er, this, Bool.and_false]; exact Ev.now _
theorem l1Rising_ev (xs : List Int) (lo hi : Int) (hm : xs.length ≤ 9223372036854775807) : Ev (fun k => spec_l1Rising.f k xs lo hi) (risesIn lo hi xs) := by
 unfold spec_l1Rising.f
 by_cases h0 : xs.length = 0
 ·have : xs = [] := List.eq_nil_of_length_eq_zero h0
  subst this
  exact Ev.step (f := fun _ => some true) (fun k => by simp only [spec_l1Rising.l0]; rw [if_neg (by simp)]) (Ev.now _)
 ·have body : ∀ k, spec_l1Rising.l0 (k + 1) xs lo hi xs (xs.length : Int) 0 = if Mine.inB lo hi (xs.getD 0 0) = true then spec_l1Rising.l0 k xs lo hi xs (xs.length : Int) ((1 : Nat) : Int) else some false := by
   intro k
   simp only [spec_l1Rising.l0]
   rw [if_pos (by omega), if_pos (by omega), if_pos (by omega), show rd xs 0 = xs.getD 0 0 from rfl, l1In_f, Option.bind_some, if_neg (by omega : ¬ (0 : Int) > 0), show wrap64 (0 + 1) = ((1 : Nat) : Int) from by unfold wrap64; omega]
  have e0 := Mine.drop_at xs 0 0 (by omega)
  by_cases hi1 : Mine.inB lo hi (xs.getD 0 0) = true
  ·refine Ev.step (f := fun k => spec_l1Rising.l0 k xs lo hi xs (xs.length : Int) ((1 : Nat) : Int)) (fun k => by rw [body, if_pos hi1]) ?_
   have := l1Rising_l xs lo hi hm (xs.length - 1) 1 (by omega) rfl (.inl (by unfold Mine.outB; rw [show (1 : Nat) - 1 = 0 from rfl, hi1]; rfl))
   simpa using this
  ·refine Ev.step (f := fun _ => some false) (fun k => by rw [body, if_neg hi1]) ?_
   have : risesIn lo hi xs = false := by
    rw [show xs = xs.getD 0 0 :: xs.drop 1 from by simpa using e0]
    simp only [risesIn, Mine.anyP_cons, Mine.outB, hi1]
    simp
   rw [this]; exact Ev.now _

def goodG (g : List (List Int)) : Bool := decide (g.length ≤ 40) && !Mine.anyP (fun l => !risesIn 0 (wrap64 ((g.length : Int) - 1)) l) g
theorem specGoodGraph_ev (g : List (List Int)) (hm : g.length ≤ 9223372036854775807) (hi : ∀ y ∈ g, y.length ≤ 9223372036854775807) : Ev (fun k => spec_GoodGraph.f k g) (goodG g) := by
 have hl := loop_any (fun k => spec_GoodGraph.l0 k g g (g.length : Int)) g [] (fun l => !risesIn 0 (wrap64 ((g.length : Int) - 1)) l) false (decide (g.length ≤ 40)) (by
  intro i hlt
  have hr := l1Rising_ev (g.getD i []) 0 (wrap64 ((g.length : Int) - 1)) (hi _ (mem_getD [] hlt))
  have body : ∀ k, spec_GoodGraph.l0 (k + 1) g g (g.length : Int) (i : Int) = (spec_l1Rising.f k (g.getD i []) 0 (wrap64 ((g.length : Int) - 1))).bind fun t => if t = true then spec_GoodGraph.l0 k g g (g.length : Int) ((i + 1 : Nat) : Int) else some false := by
   intro k
   simp only [spec_GoodGraph.l0]
   rw [if_pos (by omega), if_pos (by omega), if_pos (by omega), rdLL_nat, wrap_next hlt hm]
  refine ⟨fun hp => Ev.step body (Ev.bind hr ?_), fun hp r h => Ev.step body (Ev.bind hr ?_)⟩
  ·simp only [Bool.not_eq_true'] at hp; rw [hp]; exact Ev.now _
  ·simp only [Bool.not_eq_false'] at hp; rw [hp]; exact h) (fun _ => Ev.step (f := fun _ => some (decide (g.length ≤ 40))) (fun k => by simp only [spec_GoodGraph.l0]; rw [if_neg (by omega)]; exact congrArg some (decide_eq_decide.2 (by omega))) (Ev.now _))
 have e : (if Mine.anyP (fun l => !risesIn 0 (wrap64 ((g.length : Int) - 1)) l) g = true then false else decide (g.length ≤ 40)) = goodG g := by
  unfold goodG
  cases Mine.anyP (fun l => !risesIn 0 (wrap64 ((g.length : Int) - 1)) l) g <;> simp
 rw [e] at hl
 exact hl

theorem implGoodGraph_f (g : List (List Int)) : impl_GoodGraph.f g = some (goodG g) := by
 unfold impl_GoodGraph.f impl_GoodGraph_1_in_c.f
 rw [Mine.anyO_total (q := fun l => !risesIn 0 (wrap64 ((g.length : Int) - 1)) l) (fun x _ => by unfold impl_GoodGraph_1.f impl_areMembers.f risesIn; rw [Option.bind_some])]
 unfold goodG
 by_cases h : g.length ≤ 40
 ·rw [if_pos (by omega), Option.bind_some, decide_eq_true h, Bool.true_and]
 ·rw [if_neg (by omega), decide_eq_false h, Bool.false_and]

theorem within_f (a b c : Int) : impl_within.f a b c = some (Mine.inB b c a) := by
 unfold impl_within.f Mine.inB
 by_cases h : b ≤ a
 ·rw [if_pos h]; simp [h]
 ·rw [if_neg h]; simp [h]

def putL : List Int → Int → List Int
 | [], n => [n]
 | x :: xs, n => if x < n then x :: putL xs n else if x = n then x :: xs else n :: x :: xs
theorem putL_length (n : Int) : ∀ l : List Int, (putL l n).length ≤ l.length + 1
 | [] => by simp [putL]
 | x :: xs => by
  have := putL_length n xs
  unfold putL
  split
  ·simp; omega
  ·split <;> simp

theorem sorted_ext : ∀ (a b : List Int), a.Pairwise (· < ·) → b.Pairwise (· < ·) → (∀ x, x ∈ a ↔ x ∈ b) → a = b
 | [], [], _, _, _ => rfl
 | [], y :: b, _, _, h => absurd ((h y).2 (by simp)) (by simp)
 | x :: a, [], _, _, h => absurd ((h x).1 (by simp)) (by simp)
 | x :: a, y :: b, ha, hb, h => by
  rw [List.pairwise_cons] at ha hb
  have hxy : x = y := by
   have h1 := (h x).1 (by simp)
   have h2 := (h y).2 (by simp)
   rw [List.mem_cons] at h1 h2
   rcases h1 with h1 | h1
   ·exact h1
   ·rcases h2 with h2 | h2
    ·exact h2.symm
    ·have := hb.1 x h1
     have := ha.1 y h2
     omega
  subst hxy
  rw [sorted_ext a b ha.2 hb.2 (fun z => ⟨fun hz => by
   have h1 := (h z).1 (by simp [hz])
   rw [List.mem_cons] at h1
   rcases h1 with h1 | h1
   ·have := ha.1 z hz; omega
   ·exact h1, fun hz => by
   have h1 := (h z).2 (by simp [hz])
   rw [List.mem_cons] at h1
   rcases h1 with h1 | h1
   ·have := hb.1 z hz; omega
   ·exact h1⟩)]
theorem sorted_len : ∀ (l : List Int) (lo hi : Int), l.Pairwise (· < ·) → (∀ x ∈ l, lo ≤ x ∧ x < hi) → (l.length : Int) ≤ hi - lo ∨ l = []
 | [], _, _, _, _ => .inr rfl
 | x :: l, lo, hi, h, hb => by
  rw [List.pairwise_cons] at h
  left
  have hx := hb x (by simp)
  rcases sorted_len l (x + 1) hi h.2 (fun y hy => ⟨by have := h.1 y hy; omega, (hb y (by simp [hy])).2⟩) with h1 | h1
  ·rw [List.length_cons]; omega
  ·rw [h1]; simp; omega
theorem mem_putL (n x : Int) : ∀ l : List Int, x ∈ putL l n ↔ x = n ∨ x ∈ l
 | [] => by simp [putL]
 | y :: l => by
  unfold putL
  split
  ·rw [List.mem_cons, mem_putL n x l, List.mem_cons]
   constructor
   ·rintro (h | h | h) <;> simp [h]
   ·rintro (h | h | h) <;> simp [h]
  ·split
   ·rename_i h; subst h; simp
   ·simp
theorem sorted_putL (n : Int) : ∀ l : List Int, l.Pairwise (· < ·) → (putL l n).Pairwise (· < ·)
 | [], _ => by simp [putL]
 | y :: l, h => by
  rw [List.pairwise_cons] at h
  unfold putL
  split
  ·rename_i hlt
   rw [List.pairwise_cons]
   refine ⟨fun z hz => ?_, sorted_putL n l h.2⟩
   rcases (mem_putL n z l).1 hz with rfl | hz
   ·exact hlt
   ·exact h.1 z hz
  ·split
   ·rw [List.pairwise_cons]; exact h
   ·rw [List.pairwise_cons]
    refine ⟨fun z hz => ?_, by rw [List.pairwise_cons]; exact h⟩
    rw [List.mem_cons] at hz
    rcases hz with rfl | hz
    ·omega
    ·have := h.1 z hz; omega
theorem putL_len (n : Int) : ∀ l : List Int, n ∉ l → (putL l n).length = l.length + 1
 | [], _ => rfl
 | y :: l, h => by
  rw [List.mem_cons, not_or] at h
  unfold putL
  split
  ·rw [List.length_cons, putL_len n l h.2, List.length_cons]
  ·rw [if_neg (fun e => h.1 e.symm)]; simp

theorem l1Has_ev (l : List Int) (n : Int) (hm : l.length ≤ 9223372036854775807) : Ev (fun k => spec_l1Has.f k l n) (Mine.anyP (fun x => x == n) l) := by
 have h := loop_any (fun k => spec_l1Has.l0 k n l (l.length : Int)) l 0 (fun x => x == n) true false (by
  intro i hlt
  have body : ∀ k, spec_l1Has.l0 (k + 1) n l (l.length : Int) (i : Int) = if l.getD i 0 = n then some true else spec_l1Has.l0 k n l (l.length : Int) ((i + 1 : Nat) : Int) := by
   intro k
   simp only [spec_l1Has.l0]
   rw [if_pos (by omega), if_pos (by omega), if_pos (by omega), rd_nat, wrap_next hlt hm]
  refine ⟨fun hp => Ev.step (f := fun _ => some true) (fun k => by rw [body, if_pos (by simpa using hp)]) (Ev.now _), fun hp r hr => Ev.step (fun k => by rw [body, if_neg (by simpa using hp)]) hr⟩) (fun _ => Ev.step (f := fun _ => some false) (fun k => by simp only [spec_l1Has.l0]; rw [if_neg (by omega)]) (Ev.now _))
 have e : (if Mine.anyP (fun x => x == n) l = true then true else false) = Mine.anyP (fun x => x == n) l := by cases Mine.anyP (fun x => x == n) l <;> rfl
 rw [e] at h
 exact h

theorem l1Put_l (l : List Int) (n : Int) (hm : l.length < 17592186044400) : ∀ (d i : Nat), l.length - i = d → i ≤ l.length → Ev (fun k => spec_l1Put.l0 k l n (i : Int)) (l.take i ++ putL (l.drop i) n) := by
 intro d
 induction d with
 | zero =>
  intro i hd hi
  obtain rfl : i = l.length := by omega
  refine Ev.step (f := fun _ => some _) (fun k => ?_) (Ev.now _)
  simp only [spec_l1Put.l0]
  rw [if_neg (by omega)]
  simp only [Option.bind_some, Int.toNat_natCast, List.drop_length, List.take_length, putL, List.append_nil]
  rw [if_pos (by omega), if_pos (by omega), if_pos (by simp; omega), if_pos (by simp; omega), if_pos (by simp; omega)]
  simp
 | succ d ih =>
  intro i hd hi
  have hlt : i < l.length := by omega
  rw [Mine.drop_at l 0 i hlt, putL]
  by_cases h1 : l.getD i 0 < n
  ·rw [if_pos h1]
   have := ih (i + 1) (by omega) (by omega)
   have e : l.take (i + 1) = l.take i ++ [l.getD i 0] := by
    rw [List.take_add_one, List.getD_eq_getElem?_getD, List.getElem?_eq_getElem hlt]; rfl
   rw [e, List.append_assoc] at this
   refine Ev.step (fun k => ?_) this
   simp only [spec_l1Put.l0]
   rw [if_pos (by omega), if_pos (by omega), rd_nat, if_pos h1, wrap_next hlt (by omega)]
  ·rw [if_neg h1]
   by_cases h2 : l.getD i 0 = n
   ·rw [if_pos h2]
    refine Ev.step (f := fun _ => some _) (fun k => ?_) (Ev.now _)
    simp only [spec_l1Put.l0]
    rw [if_pos (by omega), if_pos (by omega), rd_nat, if_neg h1, if_pos h2, ← Mine.drop_at l 0 i hlt, List.take_append_drop]
   ·rw [if_neg h2]
    refine Ev.step (f := fun _ => some _) (fun k => ?_) (Ev.now _)
    have ht : (l.take i).length = i := by rw [List.length_take]; omega
    have hdr : (l.drop i).length = l.length - i := by rw [List.length_drop]
    simp only [spec_l1Put.l0]
    rw [if_pos (by omega), if_pos (by omega), rd_nat, if_neg h1, if_neg h2]
    simp only [Option.bind_some, Int.toNat_natCast, List.nil_append]
    rw [if_pos (by omega), if_pos (by simp only [List.length_nil]; omega), if_pos (by omega), if_pos (by rw [List.length_append]; simp only [List.length_cons, List.length_nil]; omega), ← Mine.drop_at l 0 i hlt]
    simp
theorem l1Put_ev (l : List Int) (n : Int) (hm : l.length < 17592186044400) : Ev (fun k => spec_l1Put.f k l n) (putL l n) := by
 have := l1Put_l l n hm _ 0 rfl (by omega)
 simpa [spec_l1Put.f] using this

def addS (st : List Int × List Int) (v : Int) : List Int × List Int := if Mine.anyP (fun x => x == v) st.2 = true then st else (putL st.1 v, st.2 ++ [v])
def bfsL (g : List (List Int)) : Nat → List Int × List Int → Nat → List Int
 | 0, st, _ => st.1
 | f + 1, st, i => if i < st.2.length then bfsL g f ((g.getD (st.2.getD i 0).toNat []).foldl addS st) (i + 1) else st.1
def reachL (g : List (List Int)) (k : Int) : List Int := bfsL g (g.length + 1) ([k], [k]) 0
structure Met (n : Nat) (st : List Int × List Int) (seen : List Bool) : Prop where
 len : seen.length = n
 at_ : ∀ p : Nat, p < n → seen.getD p false = Mine.anyP (fun x => x == (p : Int)) st.2
 sorted : st.1.Pairwise (· < ·)
 mem : ∀ x, x ∈ st.1 ↔ x ∈ st.2
 lens : st.1.length = st.2.length
 range : ∀ x ∈ st.2, 0 ≤ x ∧ x < (n : Int)
theorem anyP_mem (l : List Int) (v : Int) : Mine.anyP (fun x => x == v) l = true ↔ v ∈ l := by
 rw [Mine.anyP_true]
 constructor
 ·rintro ⟨x, hx, h⟩; have := eq_of_beq h; subst this; exact hx
 ·intro h; exact ⟨v, h, by simp⟩
theorem anyP_nmem (l : List Int) (v : Int) : Mine.anyP (fun x => x == v) l = false ↔ v ∉ l := by
 rw [← anyP_mem]; simp
theorem Met.small {n : Nat} {st : List Int × List Int} {seen : List Bool} (h : Met n st seen) : st.2.length ≤ n := by
 rcases sorted_len st.1 0 (n : Int) h.sorted (fun x hx => h.range x ((h.mem x).1 hx)) with h1 | h1
 ·rw [h.lens] at h1; omega
 ·have := h.lens; rw [h1] at this; simp at this; omega
theorem Met.add {n : Nat} {st : List Int × List Int} {seen : List Bool} (h : Met n st seen) (v : Int) (h0 : 0 ≤ v) (h1 : v < (n : Int)) (hv : Mine.anyP (fun x => x == v) st.2 = false) : Met n (putL st.1 v, st.2 ++ [v]) (seen.set v.toNat true) := by
 have hn : v ∉ st.2 := (anyP_nmem _ _).1 hv
 refine ⟨by rw [List.length_set]; exact h.len, fun p hp => ?_, sorted_putL v _ h.sorted, fun x => ?_, ?_, fun x hx => ?_⟩
 ·have e : Mine.anyP (fun x => x == (p : Int)) (st.2 ++ [v]) = (Mine.anyP (fun x => x == (p : Int)) st.2 || v == (p : Int)) := by
   unfold Mine.anyP; rw [List.any_append]; simp
  show (seen.set v.toNat true).getD p false = Mine.anyP (fun x => x == (p : Int)) (st.2 ++ [v])
  rw [e]
  by_cases hp2 : v.toNat = p
  ·have : v = (p : Int) := by omega
   rw [this]
   simp [List.getD_eq_getElem?_getD, h.len, hp]
  ·have hb : (v == (p : Int)) = false := by rw [beq_eq_false_iff_ne]; omega
   rw [hb, Bool.or_false, ← h.at_ p hp]
   simp [List.getD_eq_getElem?_getD, List.getElem?_set_ne hp2]
 ·show x ∈ putL st.1 v ↔ x ∈ st.2 ++ [v]
  rw [mem_putL, h.mem, List.mem_append, List.mem_singleton]
  exact Or.comm
 ·show (putL st.1 v).length = (st.2 ++ [v]).length
  rw [putL_len v st.1 (fun hm => hn ((h.mem v).1 hm)), h.lens]; simp
 ·rw [List.mem_append, List.mem_singleton] at hx
  rcases hx with hx | rfl
  ·exact h.range x hx
  ·exact ⟨h0, h1⟩
theorem met_start (n : Nat) (k : Int) (h0 : 0 ≤ k) (h1 : k < (n : Int)) : Met n ([k], [k]) ((List.replicate n false).set k.toNat true) := by
 refine ⟨by simp, fun p hp => ?_, by simp, fun x => Iff.rfl, rfl, fun x hx => by simp at hx; subst hx; exact ⟨h0, h1⟩⟩
 by_cases hp2 : k.toNat = p
 ·have : k = (p : Int) := by omega
  subst this
  simp [List.getD_eq_getElem?_getD, Mine.anyP, hp]
 ·have hb : (k == (p : Int)) = false := by rw [beq_eq_false_iff_ne]; omega
  have e1 : ((List.replicate n false).set k.toNat true).getD p false = false := by
   rw [List.getD_eq_getElem?_getD, List.getElem?_set_ne hp2]; simp [List.getElem?_replicate, hp]
  have e2 : Mine.anyP (fun x => x == (p : Int)) [k] = false := by simp [Mine.anyP, hb]
  exact e1.trans e2.symm
theorem goodG_rows {g : List (List Int)} (h : goodG g = true) : g.length ≤ 40 ∧ ∀ y ∈ g, ∀ v ∈ y, 0 ≤ v ∧ v < (g.length : Int) := by
 unfold goodG at h
 simp only [Bool.and_eq_true, decide_eq_true_eq, Bool.not_eq_true'] at h
 refine ⟨h.1, fun y hy v hv => ?_⟩
 have h2 := Mine.anyP_false.1 h.2 y hy
 simp only [Bool.not_eq_false'] at h2
 unfold risesIn at h2
 simp only [Bool.and_eq_true, Bool.not_eq_true'] at h2
 have h3 := Mine.outB_false.1 (Mine.anyP_false.1 h2.2 v hv)
 have hw : wrap64 ((g.length : Int) - 1) = (g.length : Int) - 1 := by unfold wrap64; omega
 rw [hw] at h3
 omega
def posL : List Bool → Int → List Int
 | [], _ => []
 | b :: bs, i => if b = true then i :: posL bs (i + 1) else posL bs (i + 1)
theorem mem_posL (x : Int) : ∀ (bs : List Bool) (i : Int), x ∈ posL bs i ↔ ∃ k : Nat, k < bs.length ∧ x = i + (k : Int) ∧ bs.getD k false = true
 | [], i => by simp [posL]
 | b :: bs, i => by
  have ih := mem_posL x bs (i + 1)
  have key : (∃ k : Nat, k < (b :: bs).length ∧ x = i + (k : Int) ∧ (b :: bs).getD k false = true) ↔ (x = i ∧ b = true) ∨ x ∈ posL bs (i + 1) := by
   rw [ih]
   constructor
   ·rintro ⟨k, hk, hx, hb⟩
    cases k with
    | zero => left; exact ⟨by simpa using hx, by simpa using hb⟩
    | succ k => right; exact ⟨k, by simpa using hk, by omega, by simpa using hb⟩
   ·rintro (⟨rfl, hb⟩ | ⟨k, hk, hx, hb⟩)
    ·exact ⟨0, by simp, by simp, by simpa using hb⟩
    ·exact ⟨k + 1, by simpa using hk, by omega, by simpa using hb⟩
  rw [key, posL]
  split
  ·rename_i hb; rw [List.mem_cons]; simp [hb]
  ·rename_i hb; simp [hb]
theorem sorted_posL : ∀ (bs : List Bool) (i : Int), (posL bs i).Pairwise (· < ·)
 | [], _ => List.Pairwise.nil
 | b :: bs, i => by
  rw [posL]
  split
  ·rw [List.pairwise_cons]
   refine ⟨fun z hz => ?_, sorted_posL bs (i + 1)⟩
   obtain ⟨k, _, hx, _⟩ := (mem_posL z bs (i + 1)).1 hz
   omega
  ·exact sorted_posL bs (i + 1)
theorem posL_len : ∀ (bs : List Bool) (i : Int), (posL bs i).length ≤ bs.length
 | [], _ => Nat.le_refl _
 | b :: bs, i => by
  have := posL_len bs (i + 1)
  rw [posL]; split
  ·rw [List.length_cons, List.length_cons]; omega
  ·rw [List.length_cons]; omega
theorem Met.out {n : Nat} {st : List Int × List Int} {seen : List Bool} (h : Met n st seen) : posL seen 0 = st.1 := by
 refine sorted_ext _ _ (sorted_posL _ _) h.sorted (fun x => ?_)
 rw [mem_posL, h.mem]
 constructor
 ·rintro ⟨k, hk, rfl, hb⟩
  rw [h.len] at hk
  rw [h.at_ k hk] at hb
  simpa using (anyP_mem _ _).1 hb
 ·intro hx
  have hr := h.range x hx
  refine ⟨x.toNat, by rw [h.len]; omega, by omega, ?_⟩
  rw [h.at_ _ (by omega), anyP_mem, Int.toNat_of_nonneg hr.1]
  exact hx

theorem fold_add {n : Nat} (row : List Int) (hr : ∀ v ∈ row, 0 ≤ v ∧ v < (n : Int)) : ∀ (st : List Int × List Int) (seen : List Bool), Met n st seen → (∃ seen', Met n (row.foldl addS st) seen') ∧ (∃ t, (row.foldl addS st).2 = st.2 ++ t) ∧ ∀ x, x ∈ (row.foldl addS st).2 ↔ x ∈ st.2 ∨ x ∈ row := by
 induction row with
 | nil => intro st seen h; exact ⟨⟨seen, h⟩, ⟨[], by simp⟩, fun x => by simp⟩
 | cons v row ih =>
  intro st seen h
  obtain ⟨hv0, hv1⟩ := hr v (List.mem_cons_self ..)
  have ih' := ih (fun w hw => hr w (List.mem_cons_of_mem _ hw))
  rw [List.foldl_cons]
  by_cases hm : Mine.anyP (fun x => x == v) st.2 = true
  ·have e : addS st v = st := by unfold addS; rw [if_pos hm]
   rw [e]
   obtain ⟨h1, h2, h3⟩ := ih' st seen h
   refine ⟨h1, h2, fun x => ?_⟩
   rw [h3, List.mem_cons]
   have := (anyP_mem _ _).1 hm
   constructor
   ·rintro (h | h)
    ·exact Or.inl h
    ·exact Or.inr (Or.inr h)
   ·rintro (h | rfl | h)
    ·exact Or.inl h
    ·exact Or.inl this
    ·exact Or.inr h
  ·have hm' := (Bool.not_eq_true _).mp hm
   have e : addS st v = (putL st.1 v, st.2 ++ [v]) := by unfold addS; rw [if_neg hm]
   rw [e]
   obtain ⟨h1, ⟨t, h2⟩, h3⟩ := ih' _ _ (h.add v hv0 hv1 hm')
   refine ⟨h1, ⟨v :: t, by rw [h2]; simp⟩, fun x => ?_⟩
   rw [h3, List.mem_cons, List.mem_append, List.mem_singleton]
   exact or_assoc
def edge (g : List (List Int)) (x y : Int) : Prop := y ∈ g.getD x.toNat []
theorem bfs_ok (g : List (List Int)) (hg : goodG g = true) (P : Int → Prop) (hP : ∀ x y, 0 ≤ x → x < (g.length : Int) → P x → edge g x y → P y) : ∀ (f i : Nat) (st : List Int × List Int) (seen : List Bool), g.length - i < f → i ≤ st.2.length → Met g.length st seen →
  (∀ x ∈ st.2, P x) → (∀ j, j < i → ∀ y, edge g (st.2.getD j 0) y → y ∈ st.2) →
  (∀ x ∈ bfsL g f st i, P x ∧ 0 ≤ x ∧ x < (g.length : Int)) ∧ (∀ x ∈ st.2, x ∈ bfsL g f st i) ∧ (∀ x ∈ bfsL g f st i, ∀ y, edge g x y → y ∈ bfsL g f st i) ∧ (bfsL g f st i).Pairwise (· < ·) := by
 obtain ⟨hg1, hg2⟩ := goodG_rows hg
 intro f
 induction f with
 | zero => intro i st seen hf; omega
 | succ f ih =>
  intro i st seen hf hi hM hp hc
  have hs := hM.small
  rw [bfsL]
  by_cases hlt : i < st.2.length
  ·rw [if_pos hlt]
   have hx := Mine.getD_mem st.2 0 i hlt
   have hv := hM.range _ hx
   have hrow : g.getD (st.2.getD i 0).toNat [] ∈ g := mem_getD [] (by omega)
   obtain ⟨⟨seen', hM'⟩, ⟨t, ht⟩, hmem⟩ := fold_add (n := g.length) (g.getD (st.2.getD i 0).toNat []) (hg2 _ hrow) st seen hM
   have hat : ∀ j, j < st.2.length → ((g.getD (st.2.getD i 0).toNat []).foldl addS st).2.getD j 0 = st.2.getD j 0 := fun j hj => by
    rw [ht, List.getD_eq_getElem?_getD, List.getElem?_append_left hj, ← List.getD_eq_getElem?_getD]
   obtain ⟨r1, r2, r3, r4⟩ := ih (i + 1) _ seen' (by omega) (by rw [ht, List.length_append]; omega) hM' (fun x h => by
    rcases (hmem x).1 h with h | h
    ·exact hp x h
    ·exact hP _ _ hv.1 hv.2 (hp _ hx) h) (fun j hj y hy => by
    rw [hat j (by omega)] at hy
    by_cases hji : j = i
    ·subst hji; exact (hmem y).2 (Or.inr hy)
    ·exact (hmem y).2 (Or.inl (hc j (by omega) y hy)))
   exact ⟨r1, fun x h => r2 x ((hmem x).2 (Or.inl h)), r3, r4⟩
  ·rw [if_neg hlt]
   refine ⟨fun x h => ?_, fun x h => (hM.mem x).2 h, fun x h y hy => ?_, hM.sorted⟩
   ·have h' := (hM.mem x).1 h
    exact ⟨hp x h', hM.range x h'⟩
   ·have h' := (hM.mem x).1 h
    obtain ⟨j, hj, e⟩ := List.getElem_of_mem h'
    have e2 : st.2.getD j 0 = x := by rw [List.getD_eq_getElem?_getD, List.getElem?_eq_getElem hj, ← e]; rfl
    exact (hM.mem y).2 (hc j (by omega) y (by rw [e2]; exact hy))
theorem reach_all (g : List (List Int)) (hg : goodG g = true) (k : Int) (h0 : 0 ≤ k) (h1 : k < (g.length : Int)) (P : Int → Prop) (hk : P k) (hP : ∀ x y, 0 ≤ x → x < (g.length : Int) → P x → edge g x y → P y) :
  (∀ x ∈ reachL g k, P x ∧ 0 ≤ x ∧ x < (g.length : Int)) ∧ k ∈ reachL g k ∧ (∀ x ∈ reachL g k, ∀ y, edge g x y → y ∈ reachL g k) ∧ (reachL g k).Pairwise (· < ·) := by
 obtain ⟨a, b, c, d⟩ := bfs_ok g hg P hP (g.length + 1) 0 ([k], [k]) _ (by omega) (by simp) (met_start g.length k h0 h1) (fun x hx => by simp at hx; subst hx; exact hk) (fun j hj => by omega)
 exact ⟨a, b k (by simp), c, d⟩
section comps
variable {g : List (List Int)} (hg : goodG g = true) {k : Int} (h0 : 0 ≤ k) (h1 : k < (g.length : Int))
include hg h0 h1
theorem reach_self : k ∈ reachL g k := (reach_all g hg k h0 h1 (fun _ => True) trivial (fun _ _ _ _ _ _ => trivial)).2.1
theorem reach_range {x : Int} (h : x ∈ reachL g k) : 0 ≤ x ∧ x < (g.length : Int) := ((reach_all g hg k h0 h1 (fun _ => True) trivial (fun _ _ _ _ _ _ => trivial)).1 x h).2
theorem reach_step {x y : Int} (h : x ∈ reachL g k) (e : edge g x y) : y ∈ reachL g k := (reach_all g hg k h0 h1 (fun _ => True) trivial (fun _ _ _ _ _ _ => trivial)).2.2.1 x h y e
theorem reach_sorted : (reachL g k).Pairwise (· < ·) := (reach_all g hg k h0 h1 (fun _ => True) trivial (fun _ _ _ _ _ _ => trivial)).2.2.2
theorem reach_ind (P : Int → Prop) (hk : P k) (hP : ∀ x y, 0 ≤ x → x < (g.length : Int) → P x → edge g x y → P y) {x : Int} (h : x ∈ reachL g k) : P x := ((reach_all g hg k h0 h1 P hk hP).1 x h).1
theorem reach_trans {x y : Int} (h : x ∈ reachL g k) (h' : y ∈ reachL g x) : y ∈ reachL g k :=
 reach_ind hg (reach_range hg h0 h1 h).1 (reach_range hg h0 h1 h).2 (fun z => z ∈ reachL g k) h (fun a b _ _ ha e => reach_step hg h0 h1 ha e) h'
end comps
def groupL (g : List (List Int)) (k : Int) : List Int := (reachL g k).filter (fun n => Mine.anyP (fun x => x == k) (reachL g n))
theorem mem_groupL (g : List (List Int)) (k x : Int) : x ∈ groupL g k ↔ x ∈ reachL g k ∧ k ∈ reachL g x := by
 unfold groupL
 rw [List.mem_filter, anyP_mem]
section comps2
variable {g : List (List Int)} (hg : goodG g = true) {k : Int} (h0 : 0 ≤ k) (h1 : k < (g.length : Int))
include hg h0 h1
theorem group_self : k ∈ groupL g k := (mem_groupL g k k).2 ⟨reach_self hg h0 h1, reach_self hg h0 h1⟩
theorem group_range {x : Int} (h : x ∈ groupL g k) : 0 ≤ x ∧ x < (g.length : Int) := reach_range hg h0 h1 ((mem_groupL g k x).1 h).1
theorem group_sorted : (groupL g k).Pairwise (· < ·) := (reach_sorted hg h0 h1).filter _
theorem group_eq {x : Int} (h : x ∈ groupL g k) : groupL g x = groupL g k := by
 obtain ⟨hx0, hx1⟩ := group_range hg h0 h1 h
 obtain ⟨ha, hb⟩ := (mem_groupL g k x).1 h
 refine sorted_ext _ _ (group_sorted hg hx0 hx1) (group_sorted hg h0 h1) (fun y => ?_)
 rw [mem_groupL, mem_groupL]
 constructor
 ·rintro ⟨h2, h3⟩
  obtain ⟨hy0, hy1⟩ := reach_range hg hx0 hx1 h2
  exact ⟨reach_trans hg h0 h1 ha h2, reach_trans hg hy0 hy1 h3 hb⟩
 ·rintro ⟨h2, h3⟩
  obtain ⟨hy0, hy1⟩ := reach_range hg h0 h1 h2
  exact ⟨reach_trans hg hx0 hx1 hb h2, reach_trans hg hy0 hy1 h3 ha⟩
theorem group_ne : groupL g k ≠ [] := List.ne_nil_of_mem (group_self hg h0 h1)
theorem group_head : (groupL g k).getD 0 0 ∈ groupL g k := by
 cases h : groupL g k with
 | nil => exact absurd h (group_ne hg h0 h1)
 | cons a l => simp
end comps2
def groupsF (g : List (List Int)) : Nat → Nat → List (List Int)
 | 0, _ => []
 | d + 1, i => if (groupL g (i : Int)).getD 0 0 = (i : Int) then groupL g (i : Int) :: groupsF g d (i + 1) else groupsF g d (i + 1)
def groupsL (g : List (List Int)) : List (List Int) := groupsF g g.length 0
theorem mem_groupsF (g : List (List Int)) (a : List Int) : ∀ (d i : Nat), a ∈ groupsF g d i ↔ ∃ k : Nat, i ≤ k ∧ k < i + d ∧ a = groupL g (k : Int) ∧ (groupL g (k : Int)).getD 0 0 = (k : Int)
 | 0, i => by simp [groupsF]; intro k h1 h2; omega
 | d + 1, i => by
  have ih := mem_groupsF g a d (i + 1)
  rw [groupsF]
  split
  ·rename_i h
   rw [List.mem_cons, ih]
   constructor
   ·rintro (rfl | ⟨k, a1, a2, a3⟩)
    ·exact ⟨i, by omega, by omega, rfl, h⟩
    ·exact ⟨k, by omega, by omega, a3⟩
   ·rintro ⟨k, a1, a2, rfl, a4⟩
    by_cases hk : k = i
    ·subst hk; exact Or.inl rfl
    ·exact Or.inr ⟨k, by omega, by omega, rfl, a4⟩
  ·rename_i h
   rw [ih]
   constructor
   ·rintro ⟨k, a1, a2, a3⟩; exact ⟨k, by omega, by omega, a3⟩
   ·rintro ⟨k, a1, a2, rfl, a4⟩
    by_cases hk : k = i
    ·subst hk; exact absurd a4 h
    ·exact ⟨k, by omega, by omega, rfl, a4⟩
def Apart (a b : List Int) : Prop := ∀ x, x ∈ a → x ∉ b
theorem groupsF_apart (g : List (List Int)) (hg : goodG g = true) : ∀ (d i : Nat), i + d ≤ g.length → (groupsF g d i).Pairwise Apart
 | 0, i, _ => List.Pairwise.nil
 | d + 1, i, h => by
  have ih := groupsF_apart g hg d (i + 1) (by omega)
  rw [groupsF]
  split
  ·rename_i hi
   rw [List.pairwise_cons]
   refine ⟨fun b hb x hx hx' => ?_, ih⟩
   obtain ⟨k, a1, a2, rfl, a4⟩ := (mem_groupsF g b d (i + 1)).1 hb
   have e1 := group_eq hg (by omega) (by omega) hx
   have e2 := group_eq hg (by omega) (by omega) hx'
   rw [← e1, e2, a4] at hi
   omega
  ·exact ih
structure CI (g left : List (List Int)) (done : Int → Prop) : Prop where
 pw : left.Pairwise Apart
 grp : ∀ a ∈ left, ∃ k : Int, 0 ≤ k ∧ k < (g.length : Int) ∧ a = groupL g k ∧ a.getD 0 0 = k
 cover : ∀ p : Int, 0 ≤ p → p < (g.length : Int) → done p ∨ ∃ a ∈ left, p ∈ a
 apart : ∀ p, done p → ∀ a ∈ left, p ∉ a
 closed : ∀ p, 0 ≤ p → p < (g.length : Int) → done p → ∀ y ∈ reachL g p, done y
theorem ci_start (g : List (List Int)) (hg : goodG g = true) : CI g (groupsL g) (fun _ => False) where
 pw := groupsF_apart g hg g.length 0 (by omega)
 grp := fun a ha => by
  obtain ⟨k, _, h2, rfl, h4⟩ := (mem_groupsF g a g.length 0).1 ha
  exact ⟨(k : Int), by omega, by omega, rfl, h4⟩
 cover := fun p h0 h1 => by
  right
  have hh := group_head hg h0 h1
  have hr := group_range hg h0 h1 hh
  have he := group_eq hg h0 h1 hh
  refine ⟨groupL g p, ?_, group_self hg h0 h1⟩
  rw [groupsL, mem_groupsF]
  refine ⟨((groupL g p).getD 0 0).toNat, by omega, by omega, ?_, ?_⟩
  ·rw [Int.toNat_of_nonneg hr.1, he]
  ·rw [Int.toNat_of_nonneg hr.1, he]
 apart := fun _ h => h.elim
 closed := fun _ _ _ h => h.elim
def freeB (g left : List (List Int)) (k : Nat) : Bool :=
 !Mine.anyP (fun p => (List.range left.length).any fun i => decide (i ≠ k) && Mine.anyP (fun n => Mine.anyP (fun x => x == n) (g.getD p.toNat [])) (left.getD i [])) (left.getD k [])
theorem freeB_true (g left : List (List Int)) (k : Nat) : freeB g left k = true ↔ ∀ p ∈ left.getD k [], ∀ i, i < left.length → i ≠ k → ∀ n ∈ left.getD i [], ¬ edge g p n := by
 unfold freeB edge
 rw [Bool.not_eq_true', Mine.anyP_false]
 constructor
 ·intro h p hp i hi hk n hn he
  have h1 := h p hp
  rw [List.any_eq_false] at h1
  have h2 := h1 i (List.mem_range.2 hi)
  simp only [Bool.and_eq_true, decide_eq_true_eq, not_and, Bool.not_eq_true] at h2
  have h3 := Mine.anyP_false.1 (h2 hk) n hn
  exact absurd ((anyP_mem _ _).2 he) (by rw [h3]; simp)
 ·intro h p hp
  rw [List.any_eq_false]
  intro i hi
  simp only [Bool.and_eq_true, decide_eq_true_eq, not_and, Bool.not_eq_true]
  intro hk
  rw [Mine.anyP_false]
  intro n hn
  rw [anyP_nmem]
  exact h p hp i (List.mem_range.1 hi) hk n hn
theorem pw_at {left : List (List Int)} (h : left.Pairwise Apart) {i j : Nat} (hi : i < left.length) (hj : j < left.length) (hij : i ≠ j) {x : Int} (hx : x ∈ left.getD i []) : x ∉ left.getD j [] := by
 have e : ∀ k, (hk : k < left.length) → left.getD k [] = left[k] := fun k hk => by rw [List.getD_eq_getElem?_getD, List.getElem?_eq_getElem hk]; rfl
 rw [e i hi] at hx
 rw [e j hj]
 rw [List.pairwise_iff_getElem] at h
 intro hx'
 rcases Nat.lt_or_gt_of_ne hij with hl | hl
 ·exact h i j hi hj hl x hx hx'
 ·exact h j i hj hi hl x hx' hx
theorem at_of_mem {left : List (List Int)} {a : List Int} (h : a ∈ left) : ∃ i, i < left.length ∧ left.getD i [] = a := by
 obtain ⟨i, hi, e⟩ := List.getElem_of_mem h
 exact ⟨i, hi, by rw [List.getD_eq_getElem?_getD, List.getElem?_eq_getElem hi]; exact e⟩
theorem free_iff {g left : List (List Int)} {done : Int → Prop} (hg : goodG g = true) (C : CI g left done) {k : Nat} (hk : k < left.length) : freeB g left k = true ↔ ∀ y ∈ reachL g ((left.getD k []).getD 0 0), done y ∨ y ∈ left.getD k [] := by
 rw [freeB_true]
 have hm : left.getD k [] ∈ left := mem_getD [] hk
 obtain ⟨h, h0, h1, e, eh⟩ := C.grp _ hm
 rw [eh]
 constructor
 ·intro hf y hy
  refine reach_ind hg h0 h1 (fun y => done y ∨ y ∈ left.getD k []) (Or.inr (by rw [e]; exact group_self hg h0 h1)) (fun x y hx0 hx1 hx he => ?_) hy
  rcases hx with hd | hx
  ·exact Or.inl (C.closed x hx0 hx1 hd y (reach_step hg hx0 hx1 (reach_self hg hx0 hx1) he))
  ·have hr := reach_range hg hx0 hx1 (reach_step hg hx0 hx1 (reach_self hg hx0 hx1) he)
   rcases C.cover y hr.1 hr.2 with hd | ⟨a, ha, hya⟩
   ·exact Or.inl hd
   ·obtain ⟨i, hi, rfl⟩ := at_of_mem ha
    by_cases hik : i = k
    ·subst hik; exact Or.inr hya
    ·exact absurd he (hf x hx i hi hik y hya)
 ·intro hf p hp i hi hik n hn he
  rw [e] at hp
  have hpr := group_range hg h0 h1 hp
  have hpn : n ∈ reachL g p := reach_step hg hpr.1 hpr.2 (reach_self hg hpr.1 hpr.2) he
  have hn' := reach_trans hg h0 h1 ((mem_groupL g h p).1 hp).1 hpn
  rcases hf n hn' with hd | hx
  ·exact C.apart n hd _ (mem_getD [] hi) hn
  ·exact pw_at C.pw hi hk hik hn hx
theorem sorted_lt {a b : List Int} (ha : a.Pairwise (· < ·)) (hb : b.Pairwise (· < ·)) (h : ∀ x ∈ a, x ∈ b) {y : Int} (hy : y ∈ b) (hy' : y ∉ a) : a.length < b.length := by
 have e : a = b.filter (fun x => decide (x ∈ a)) := sorted_ext _ _ ha (hb.filter _) (fun x => by
  rw [List.mem_filter, decide_eq_true_eq]
  exact ⟨fun hx => ⟨h x hx, hx⟩, fun hx => hx.2⟩)
 have h2 : (b.filter (fun x => decide (x ∈ a))).length < b.length := by
  rw [List.length_filter_lt_length_iff_exists]
  exact ⟨y, hy, by simpa using hy'⟩
 rw [← e] at h2
 exact h2
theorem free_some {g left : List (List Int)} {done : Int → Prop} (hg : goodG g = true) (C : CI g left done) : ∀ (m : Nat) (k : Nat), k < left.length → (reachL g ((left.getD k []).getD 0 0)).length ≤ m → ∃ j, j < left.length ∧ freeB g left j = true := by
 intro m
 induction m with
 | zero =>
  intro k hk hm
  obtain ⟨h, h0, h1, e, eh⟩ := C.grp _ (mem_getD [] hk)
  rw [eh] at hm
  have := List.length_pos_of_mem (reach_self hg h0 h1)
  omega
 | succ m ih =>
  intro k hk hm
  cases hf : freeB g left k with
  | true => exact ⟨k, hk, hf⟩
  | false =>
   have hn : ¬ (∀ y ∈ reachL g ((left.getD k []).getD 0 0), done y ∨ y ∈ left.getD k []) := fun h => by
    have := (free_iff hg C hk).2 h
    rw [hf] at this; cases this
   have : ∃ y, y ∈ reachL g ((left.getD k []).getD 0 0) ∧ ¬ done y ∧ y ∉ left.getD k [] := by
    apply Classical.byContradiction
    intro hc
    apply hn
    intro y hy
    apply Classical.byContradiction
    intro hd
    exact hc ⟨y, hy, fun h => hd (Or.inl h), fun h => hd (Or.inr h)⟩
   obtain ⟨y, hy, hd, hna⟩ := this
   obtain ⟨a, a0, a1, ea, eah⟩ := C.grp _ (mem_getD [] hk)
   rw [eah] at hy hm
   have hyr := reach_range hg a0 a1 hy
   rcases C.cover y hyr.1 hyr.2 with hd' | ⟨b, hb, hyb⟩
   ·exact absurd hd' hd
   obtain ⟨j, hj, rfl⟩ := at_of_mem hb
   obtain ⟨c, c0, c1, ec, ech⟩ := C.grp _ hb
   refine ih j hj ?_
   rw [ech]
   rw [ec] at hyb
   obtain ⟨y1, y2⟩ := (mem_groupL g c y).1 hyb
   have hsub : ∀ x ∈ reachL g c, x ∈ reachL g a := fun x hx => reach_trans hg a0 a1 hy (reach_trans hg hyr.1 hyr.2 y2 hx)
   have hno : a ∉ reachL g c := fun hx => hna (by rw [ea]; exact (mem_groupL g a y).2 ⟨hy, reach_trans hg hyr.1 hyr.2 y2 hx⟩)
   have := sorted_lt (reach_sorted hg c0 c1) (reach_sorted hg a0 a1) hsub (reach_self hg a0 a1) hno
   omega
theorem ci_step {g left : List (List Int)} {done : Int → Prop} (hg : goodG g = true) (C : CI g left done) {k : Nat} (hk : k < left.length) (hf : freeB g left k = true) : CI g (left.eraseIdx k) (fun p => done p ∨ p ∈ left.getD k []) where
 pw := C.pw.sublist (List.eraseIdx_sublist _ _)
 grp := fun a ha => C.grp a ((List.eraseIdx_sublist _ _).subset ha)
 cover := fun p h0 h1 => by
  rcases C.cover p h0 h1 with h | ⟨a, ha, hp⟩
  ·exact Or.inl (Or.inl h)
  ·obtain ⟨i, hi, rfl⟩ := at_of_mem ha
   by_cases hik : i = k
   ·subst hik; exact Or.inl (Or.inr hp)
   ·refine Or.inr ⟨_, ?_, hp⟩
    rw [List.mem_eraseIdx_iff_getElem]
    exact ⟨i, hi, hik, by rw [List.getD_eq_getElem?_getD, List.getElem?_eq_getElem hi]; rfl⟩
 apart := fun p hd a ha => by
  rw [List.mem_eraseIdx_iff_getElem] at ha
  obtain ⟨i, hi, hik, rfl⟩ := ha
  have e : left.getD i [] = left[i] := by rw [List.getD_eq_getElem?_getD, List.getElem?_eq_getElem hi]; rfl
  rcases hd with hd | hp
  ·exact C.apart p hd _ (List.getElem_mem hi)
  ·rw [← e]; exact pw_at C.pw hk hi (fun h => hik h.symm) hp
 closed := fun p h0 h1 hd y hy => by
  rcases hd with hd | hp
  ·exact Or.inl (C.closed p h0 h1 hd y hy)
  ·obtain ⟨h, a0, a1, e, eh⟩ := C.grp _ (mem_getD [] hk)
   have hf' := (free_iff hg C hk).1 hf
   rw [eh] at hf'
   refine hf' y (reach_trans hg a0 a1 ?_ hy)
   rw [e] at hp
   exact ((mem_groupL g h p).1 hp).1
def compsL (g : List (List Int)) : Nat → List (List Int) → List (List Int)
 | 0, _ => []
 | f + 1, left => match (List.range left.length).find? (freeB g left) with
  | none => []
  | some k => left.getD k [] :: compsL g f (left.eraseIdx k)
theorem find_free {g left : List (List Int)} {done : Int → Prop} (hg : goodG g = true) (C : CI g left done) (hne : left ≠ []) : ∃ k, (List.range left.length).find? (freeB g left) = some k ∧ k < left.length ∧ freeB g left k = true ∧ ∀ j, j < k → freeB g left j = false := by
 obtain ⟨j, hj, hfj⟩ := free_some hg C _ 0 (List.length_pos_iff.2 hne) (Nat.le_refl _)
 cases h : (List.range left.length).find? (freeB g left) with
 | none =>
  rw [List.find?_eq_none] at h
  exact absurd hfj (h j (List.mem_range.2 hj))
 | some k =>
  rw [List.find?_range_eq_some] at h
  exact ⟨k, rfl, by simpa using h.2.1, h.1, fun j hj => by simpa using h.2.2 j hj⟩

theorem implReach_in (g : List (List Int)) (hg : g.length ≤ 40) (row : List Int) (hm : row.length ≤ 9223372036854775807) (hr : ∀ v ∈ row, 0 ≤ v ∧ v < (g.length : Int)) (i : Nat) : ∀ (d j : Nat) (st : List Int × List Int) (seen : List Bool), row.length - j = d → j ≤ row.length → Met g.length st seen → i < st.2.length →
  ∃ seen', Met g.length ((row.drop j).foldl addS st) seen' ∧ i < ((row.drop j).foldl addS st).2.length ∧ ∀ r, Ev (fun k => impl_reached.l0 k g seen' (((row.drop j).foldl addS st).2.drop (i + 1))) r → Ev (fun k => impl_reached.l1 k g seen (st.2.drop i) row (row.length : Int) (j : Int)) r := by
 intro d
 induction d with
 | zero =>
  intro j st seen hd hj hM hi
  rw [List.drop_eq_nil_of_le (by omega)]
  refine ⟨seen, hM, hi, fun r h => Ev.step (fun k => ?_) h⟩
  simp only [impl_reached.l1]
  rw [if_neg (by omega), if_pos (by rw [List.length_drop]; omega), List.drop_drop]
  rfl
 | succ d ih =>
  intro j st seen hd hj hM hi
  have hlt : j < row.length := by omega
  have hv := hr _ (Mine.getD_mem row 0 j hlt)
  have hs := hM.small
  have hat := hM.at_ (row.getD j 0).toNat (by omega)
  rw [Int.toNat_of_nonneg hv.1] at hat
  have hrd : rdOf false seen (row.getD j 0) = seen.getD (row.getD j 0).toNat false := rfl
  have body : ∀ k, impl_reached.l1 (k + 1) g seen (st.2.drop i) row (row.length : Int) (j : Int) = if Mine.anyP (fun x => x == row.getD j 0) st.2 = true then impl_reached.l1 k g seen (st.2.drop i) row (row.length : Int) ((j + 1 : Nat) : Int) else impl_reached.l1 k g (seen.set (row.getD j 0).toNat true) (st.2.drop i ++ [row.getD j 0]) row (row.length : Int) ((j + 1 : Nat) : Int) := by
   intro k
   simp only [impl_reached.l1]
   rw [if_pos (by omega), if_pos (by omega), if_pos (by omega), rd_nat, if_pos hv.1, if_pos (by rw [hM.len]; exact hv.2), wrap_next hlt hm, if_pos (show (st.2.drop i).length < 17592186044416 by rw [List.length_drop]; omega), hrd, hat]
  rw [Mine.drop_at row 0 j hlt, List.foldl_cons]
  cases hh : Mine.anyP (fun x => x == row.getD j 0) st.2 with
  | true =>
   have e : addS st (row.getD j 0) = st := by unfold addS; rw [if_pos hh]
   rw [e]
   obtain ⟨s', h1, h2, h3⟩ := ih (j + 1) st seen (by omega) (by omega) hM hi
   exact ⟨s', h1, h2, fun r h => Ev.step (fun k => by rw [body, hh, if_pos rfl]) (h3 r h)⟩
  | false =>
   have e : addS st (row.getD j 0) = (putL st.1 (row.getD j 0), st.2 ++ [row.getD j 0]) := by unfold addS; rw [if_neg (by rw [hh]; simp)]
   rw [e]
   have hM' := hM.add (row.getD j 0) hv.1 hv.2 hh
   obtain ⟨s', h1, h2, h3⟩ := ih (j + 1) _ _ (by omega) (by omega) hM' (by simp; omega)
   refine ⟨s', h1, h2, fun r h => Ev.step (fun k => by rw [body, hh, if_neg (by simp)]) ?_⟩
   have := h3 r h
   simp only at this
   rwa [List.drop_append_of_le_length (by omega)] at this
theorem implReach_out (seen : List Bool) (hs : seen.length ≤ 40) : ∀ (d i : Nat) (acc : List Int), seen.length - i = d → i ≤ seen.length → acc.length ≤ i → Ev (fun k => impl_reached.l2 k acc seen (seen.length : Int) (i : Int)) (acc ++ posL (seen.drop i) i) := by
 intro d
 induction d with
 | zero =>
  intro i acc hd hi ha
  rw [List.drop_eq_nil_of_le (by omega), posL, List.append_nil]
  exact Ev.step (f := fun _ => some acc) (fun k => by simp only [impl_reached.l2]; rw [if_neg (by omega)]) (Ev.now _)
 | succ d ih =>
  intro i acc hd hi ha
  have hlt : i < seen.length := by omega
  have hrd : rdOf false seen (i : Int) = seen.getD i false := by unfold rdOf; rw [Int.toNat_natCast]
  have body : ∀ k, impl_reached.l2 (k + 1) acc seen (seen.length : Int) (i : Int) = if seen.getD i false = true then impl_reached.l2 k (acc ++ [(i : Int)]) seen (seen.length : Int) ((i + 1 : Nat) : Int) else impl_reached.l2 k acc seen (seen.length : Int) ((i + 1 : Nat) : Int) := by
   intro k
   simp only [impl_reached.l2]
   rw [if_pos (by omega), if_pos (by omega), if_pos (by omega), if_pos (show acc.length < 17592186044416 by omega), wrap_next hlt (by omega), hrd]
  rw [Mine.drop_at seen false i hlt, posL]
  by_cases hb : seen.getD i false = true
  ·rw [if_pos hb]
   have := ih (i + 1) (acc ++ [(i : Int)]) (by omega) (by omega) (by rw [List.length_append]; simp; omega)
   rw [List.append_assoc] at this
   exact Ev.step (fun k => by rw [body, if_pos hb]) this
  ·rw [if_neg hb]
   exact Ev.step (fun k => by rw [body, if_neg hb]) (ih (i + 1) acc (by omega) (by omega) (by omega))
theorem implReach_l (g : List (List Int)) (hg : goodG g = true) (hi : ∀ y ∈ g, y.length ≤ 9223372036854775807) : ∀ (f i : Nat) (st : List Int × List Int) (seen : List Bool), g.length - i < f → i ≤ st.2.length → Met g.length st seen →
  Ev (fun k => impl_reached.l0 k g seen (st.2.drop i)) (bfsL g f st i) := by
 obtain ⟨hg1, hg2⟩ := goodG_rows hg
 intro f
 induction f with
 | zero => intro i st seen hf; omega
 | succ f ih =>
  intro i st seen hf hi2 hM
  have hs := hM.small
  rw [bfsL]
  by_cases hlt : i < st.2.length
  ·rw [if_pos hlt]
   have hv := hM.range _ (Mine.getD_mem st.2 0 i hlt)
   have hrow : g.getD (st.2.getD i 0).toNat [] ∈ g := mem_getD [] (by omega)
   obtain ⟨seen', hM', hlen, h2⟩ := implReach_in g hg1 (g.getD (st.2.getD i 0).toNat []) (hi _ hrow) (hg2 _ hrow) i _ 0 st seen rfl (by omega) hM hlt
   simp only [List.drop_zero] at hM' h2 hlen
   have h3 := ih (i + 1) _ seen' (by omega) (by omega) hM'
   refine Ev.step (fun k => ?_) (h2 _ h3)
   have e0 : rd (st.2.drop i) 0 = st.2.getD i 0 := by
    rw [Mine.drop_at st.2 0 i hlt]; rfl
   have e : rd_L2 g (st.2.getD i 0) = g.getD (st.2.getD i 0).toNat [] := rfl
   simp only [impl_reached.l0]
   rw [if_pos (by rw [List.length_drop]; omega), if_pos (by rw [List.length_drop]; omega), e0, if_pos hv.1, if_pos hv.2, e]
   rfl
  ·rw [if_neg hlt]
   have h := implReach_out seen (by rw [hM.len]; exact hg1) _ 0 [] rfl (by omega) (by simp)
   rw [List.drop_zero, List.nil_append, show ((0 : Nat) : Int) = 0 from rfl, hM.out] at h
   exact Ev.step (fun k => by simp only [impl_reached.l0]; rw [if_neg (by rw [List.length_drop]; omega)]) h
theorem implReach_ev (g : List (List Int)) (hg : goodG g = true) (hi : ∀ y ∈ g, y.length ≤ 9223372036854775807) (k : Int) (h0 : 0 ≤ k) (h1 : k < (g.length : Int)) : Ev (fun n => impl_reached.f n g k) (reachL g k) := by
 have hg1 := (goodG_rows hg).1
 have h := implReach_l g hg hi (g.length + 1) 0 ([k], [k]) _ (by omega) (by simp) (met_start g.length k h0 h1)
 refine Ev.congr (fun n => ?_) h
 unfold impl_reached.f
 rw [if_pos (by omega), if_pos (by omega), Option.bind_some, if_pos h0, if_pos (by simpa using h1)]
 simp
theorem reachL_len (g : List (List Int)) (hg : goodG g = true) (hi : ∀ y ∈ g, y.length ≤ 9223372036854775807) (k : Int) (h0 : 0 ≤ k) (h1 : k < (g.length : Int)) : (reachL g k).length ≤ 40 := by
 obtain ⟨hg1, hg2⟩ := goodG_rows hg
 have key : ∀ (f i : Nat) (st : List Int × List Int) (seen : List Bool), Met g.length st seen → (bfsL g f st i).length ≤ 40 := by
  intro f
  induction f with
  | zero => intro i st seen hM; have := hM.small; rw [bfsL, hM.lens]; omega
  | succ f ih =>
   intro i st seen hM
   rw [bfsL]
   by_cases hlt : i < st.2.length
   ·rw [if_pos hlt]
    have hv := hM.range _ (Mine.getD_mem st.2 0 i hlt)
    have hrow : g.getD (st.2.getD i 0).toNat [] ∈ g := mem_getD [] (by have := hM.small; omega)
    obtain ⟨seen', hM', _, _⟩ := implReach_in g hg1 (g.getD (st.2.getD i 0).toNat []) (hi _ hrow) (hg2 _ hrow) i _ 0 st seen rfl (by omega) hM hlt
    simp only [List.drop_zero] at hM'
    exact ih _ _ _ hM'
   ·rw [if_neg hlt]; have := hM.small; rw [hM.lens]; omega
 exact key _ _ _ _ (met_start g.length k h0 h1)

theorem specReach_in (g : List (List Int)) (hg : g.length ≤ 40) (row : List Int) (hm : row.length ≤ 9223372036854775807) (hr : ∀ v ∈ row, 0 ≤ v ∧ v < (g.length : Int)) (i : Int) : ∀ (d j : Nat) (st : List Int × List Int) (seen : List Bool), row.length - j = d → j ≤ row.length → Met g.length st seen →
  (∃ seen', Met g.length ((row.drop j).foldl addS st) seen') ∧ ∀ r, Ev (fun k => spec_l5Reached.l0 k g ((row.drop j).foldl addS st).1 ((row.drop j).foldl addS st).2 (wrap64 (i + 1))) r → Ev (fun k => spec_l5Reached.l1 k g st.1 st.2 i row (row.length : Int) (j : Int)) r := by
 intro d
 induction d with
 | zero =>
  intro j st seen hd hj hM
  rw [List.drop_eq_nil_of_le (by omega)]
  exact ⟨⟨seen, hM⟩, fun r h => Ev.step (fun k => by simp only [spec_l5Reached.l1]; rw [if_neg (by omega)]; rfl) h⟩
 | succ d ih =>
  intro j st seen hd hj hM
  have hlt : j < row.length := by omega
  have hv := hr _ (Mine.getD_mem row 0 j hlt)
  have hs := hM.small
  have body : ∀ k, spec_l5Reached.l1 (k + 1) g st.1 st.2 i row (row.length : Int) (j : Int) = (spec_l1Has.f k st.2 (row.getD j 0)).bind fun t => if t = true then spec_l5Reached.l1 k g st.1 st.2 i row (row.length : Int) ((j + 1 : Nat) : Int) else (spec_l1Put.f k st.1 (row.getD j 0)).bind fun t182 => spec_l5Reached.l1 k g t182 (st.2 ++ [row.getD j 0]) i row (row.length : Int) ((j + 1 : Nat) : Int) := by
   intro k
   simp only [spec_l5Reached.l1]
   rw [if_pos (by omega), if_pos (by omega), if_pos (by omega), rd_nat, wrap_next hlt hm, if_pos (show st.2.length < 17592186044416 by omega)]
  rw [Mine.drop_at row 0 j hlt, List.foldl_cons]
  have hA := l1Has_ev st.2 (row.getD j 0) (by omega)
  cases hh : Mine.anyP (fun x => x == row.getD j 0) st.2 with
  | true =>
   have e : addS st (row.getD j 0) = st := by unfold addS; rw [if_pos hh]
   rw [e]
   obtain ⟨h1, h2⟩ := ih (j + 1) st seen (by omega) (by omega) hM
   rw [hh] at hA
   exact ⟨h1, fun r h => Ev.step body (Ev.bind hA (by simpa using h2 r h))⟩
  | false =>
   have e : addS st (row.getD j 0) = (putL st.1 (row.getD j 0), st.2 ++ [row.getD j 0]) := by unfold addS; rw [if_neg (by rw [hh]; simp)]
   rw [e]
   have hM' := hM.add (row.getD j 0) hv.1 hv.2 hh
   obtain ⟨h1, h2⟩ := ih (j + 1) _ _ (by omega) (by omega) hM'
   rw [hh] at hA
   have hl := hM.lens
   exact ⟨h1, fun r h => Ev.step body (Ev.bind hA (by simpa using Ev.bind (l1Put_ev st.1 (row.getD j 0) (by omega)) (h2 r h)))⟩
theorem specReach_l (g : List (List Int)) (hg : goodG g = true) (hi : ∀ y ∈ g, y.length ≤ 9223372036854775807) : ∀ (f i : Nat) (st : List Int × List Int) (seen : List Bool), g.length - i < f → i ≤ st.2.length → Met g.length st seen →
  Ev (fun k => spec_l5Reached.l0 k g st.1 st.2 (i : Int)) (bfsL g f st i) := by
 obtain ⟨hg1, hg2⟩ := goodG_rows hg
 intro f
 induction f with
 | zero => intro i st seen hf; omega
 | succ f ih =>
  intro i st seen hf hi2 hM
  have hs := hM.small
  rw [bfsL]
  by_cases hlt : i < st.2.length
  ·rw [if_pos hlt]
   have hv := hM.range _ (Mine.getD_mem st.2 0 i hlt)
   have hrow : g.getD (st.2.getD i 0).toNat [] ∈ g := mem_getD [] (by omega)
   obtain ⟨⟨seen', hM'⟩, h2⟩ := specReach_in g hg1 (g.getD (st.2.getD i 0).toNat []) (hi _ hrow) (hg2 _ hrow) (i : Int) _ 0 st seen rfl (by omega) hM
   simp only [List.drop_zero] at hM' h2
   have hlen : i + 1 ≤ ((g.getD (st.2.getD i 0).toNat []).foldl addS st).2.length := by
    have : ∀ (row : List Int) (s : List Int × List Int), s.2.length ≤ (row.foldl addS s).2.length := by
     intro row
     induction row with
     | nil => intro s; exact Nat.le_refl _
     | cons v row ihr =>
      intro s
      refine Nat.le_trans ?_ (ihr (addS s v))
      unfold addS; split
      ·exact Nat.le_refl _
      ·simp
    have := this (g.getD (st.2.getD i 0).toNat []) st
    omega
   have h3 := ih (i + 1) _ seen' (by omega) hlen hM'
   refine Ev.step (fun k => ?_) (h2 _ (by rw [wrap_next (n := st.2.length) hlt (by omega)]; exact h3))
   simp only [spec_l5Reached.l0]
   rw [if_pos (by omega), if_pos (by omega), rd_nat, if_pos hv.1, if_pos hv.2]
   have e : rd_L2 g (st.2.getD i 0) = g.getD (st.2.getD i 0).toNat [] := rfl
   rw [e]; rfl
  ·rw [if_neg hlt]
   exact Ev.step (f := fun _ => some st.1) (fun k => by simp only [spec_l5Reached.l0]; rw [if_neg (by omega)]) (Ev.now _)
theorem specReach_ev (g : List (List Int)) (hg : goodG g = true) (hi : ∀ y ∈ g, y.length ≤ 9223372036854775807) (k : Int) (h0 : 0 ≤ k) (h1 : k < (g.length : Int)) : Ev (fun n => spec_l5Reached.f n g k) (reachL g k) := by
 unfold spec_l5Reached.f reachL
 exact specReach_l g hg hi (g.length + 1) 0 ([k], [k]) _ (by omega) (by simp) (met_start g.length k h0 h1)

def idxI (n : Int) : List Int → Int → Int
 | [], _ => -1
 | x :: xs, i => if n = x then i else idxI n xs (i + 1)
theorem index_l (xs : List Int) (n : Int) (hm : xs.length ≤ 9223372036854775807) : ∀ (d i : Nat), xs.length - i = d → Ev (fun k => slices_Index_int_int.l0 k xs n (xs.length : Int) (i : Int)) (idxI n (xs.drop i) i) := by
 intro d
 induction d with
 | zero => intro i hd; rw [List.drop_eq_nil_of_le (by omega)]; exact Ev.step (f := fun _ => some (-1)) (fun k => by simp only [slices_Index_int_int.l0]; rw [if_neg (by omega)]) (Ev.now _)
 | succ d ih =>
  intro i hd
  have hlt : i < xs.length := by omega
  rw [Mine.drop_at xs 0 i hlt, idxI]
  have body : ∀ k, slices_Index_int_int.l0 (k + 1) xs n (xs.length : Int) (i : Int) = if n = xs.getD i 0 then some (i : Int) else slices_Index_int_int.l0 k xs n (xs.length : Int) ((i + 1 : Nat) : Int) := by
   intro k
   simp only [slices_Index_int_int.l0]
   rw [if_pos (by omega), if_pos (by omega), if_pos (by omega), rd_nat, wrap_next hlt hm]
  by_cases h : n = xs.getD i 0
  ·rw [if_pos h]; exact Ev.step (f := fun _ => some (i : Int)) (fun k => by rw [body, if_pos h]) (Ev.now _)
  ·rw [if_neg h]; exact Ev.step (fun k => by rw [body, if_neg h]) (by simpa using ih (i + 1) (by omega))
theorem idxI_any (n : Int) : ∀ (xs : List Int) (i : Int), 0 ≤ i → decide (idxI n xs i ≥ 0) = Mine.anyP (fun x => x == n) xs
 | [], i, _ => by simp [idxI, Mine.anyP]
 | x :: xs, i, hi => by
  rw [idxI, Mine.anyP_cons]
  by_cases h : n = x
  ·rw [if_pos h]; simp [h, hi]
  ·rw [if_neg h, idxI_any n xs (i + 1) (by omega)]; simp [show ¬ x = n from fun e => h e.symm]
theorem index_ev (xs : List Int) (n : Int) (hm : xs.length ≤ 9223372036854775807) : Ev (fun k => slices_Index_int_int.f k xs n) (idxI n xs 0) := by
 simpa [slices_Index_int_int.f] using index_l xs n hm _ 0 rfl

theorem contains_ev (xs : List Int) (n : Int) (hm : xs.length ≤ 9223372036854775807) : Ev (fun k => slices_Contains_int_int.f k xs n) (Mine.anyP (fun x => x == n) xs) := by
 have h := Ev.map (index_ev xs n hm) (fun t => decide (t ≥ 0))
 rw [idxI_any n xs 0 (Int.le_refl 0)] at h
 exact h

theorem Ev.mapO {α β : Type} {g : Nat → Option α} {a : α} (h : Ev g a) (f : α → β) : Ev (fun k => (g k).map f) (f a) := by
 obtain ⟨K, h⟩ := h
 exact ⟨K, fun k hk => by show (g k).map f = _; rw [h k hk]; rfl⟩
def allR (g : List (List Int)) (d i : Nat) : List (List Int) := (List.range' i d).map fun j : Nat => reachL g (j : Int)
theorem allR_at (g : List (List Int)) {j : Nat} (h : j < g.length) : (allR g g.length 0).getD j [] = reachL g (j : Int) := by
 unfold allR
 rw [List.getD_eq_getElem?_getD, List.getElem?_map, List.getElem?_range' h]
 simp
section comps3
variable {g : List (List Int)} (hg : goodG g = true) (hi : ∀ y ∈ g, y.length ≤ 9223372036854775807)
include hg hi
theorem specAll_ev : ∀ d i, i + d ≤ g.length → Ev (fun k => spec_l5Groups.al k g d i) (allR g d i)
 | 0, i, _ => Ev.now _
 | d + 1, i, h => by
  refine Ev.congr (f := fun k => (spec_l5Reached.f k g (i : Int)).bind fun r => (spec_l5Groups.al k g d (i + 1)).map (r :: ·)) (fun k => rfl) (Ev.bind (specReach_ev g hg hi (i : Int) (by omega) (by omega)) ?_)
  have h1 := Ev.mapO (specAll_ev d (i + 1) (by omega)) (reachL g (i : Int) :: ·)
  have e : allR g (d + 1) i = reachL g (i : Int) :: allR g d (i + 1) := by unfold allR; rw [List.range'_succ]; rfl
  rw [e]
  exact h1
theorem implAll_ev : ∀ d i, i + d ≤ g.length → Ev (fun k => impl_components.al k g d i) (allR g d i)
 | 0, i, _ => Ev.now _
 | d + 1, i, h => by
  refine Ev.congr (f := fun k => (impl_reached.f k g (i : Int)).bind fun r => (impl_components.al k g d (i + 1)).map (r :: ·)) (fun k => rfl) (Ev.bind (implReach_ev g hg hi (i : Int) (by omega) (by omega)) ?_)
  have h1 := Ev.mapO (implAll_ev d (i + 1) (by omega)) (reachL g (i : Int) :: ·)
  have e : allR g (d + 1) i = reachL g (i : Int) :: allR g d (i + 1) := by unfold allR; rw [List.range'_succ]; rfl
  rw [e]
  exact h1
end comps3
section comps4
variable {g : List (List Int)} (hg : goodG g = true)
include hg
theorem specGr {i : Nat} (h : i < g.length) : spec_l5Groups.gr (allR g g.length 0) i = groupL g (i : Int) := by
 unfold spec_l5Groups.gr groupL
 rw [allR_at g h]
 refine List.filter_congr (fun n hn => ?_)
 obtain ⟨h0, h1⟩ := reach_range hg (by omega) (by omega) hn
 rw [allR_at g (show n.toNat < g.length by omega), Int.toNat_of_nonneg h0]
theorem specGs : ∀ d i, i + d ≤ g.length → spec_l5Groups.gs (allR g g.length 0) d i = groupsF g d i
 | 0, i, _ => rfl
 | d + 1, i, h => by
  rw [spec_l5Groups.gs, groupsF, specGr hg (show i < g.length by omega), specGs d (i + 1) (by omega)]
theorem implGr {i : Nat} (h : i < g.length) : impl_components.gr (allR g g.length 0) g.length i = groupL g (i : Int) := by
 refine sorted_ext _ _ ?_ (group_sorted hg (by omega) (by omega)) (fun x => ?_)
 ·unfold impl_components.gr
  rw [List.pairwise_map]
  refine List.Pairwise.imp (fun hab => by omega) ((List.pairwise_lt_range' (s := 0) (n := g.length)).filter _)
 ·unfold impl_components.gr
  rw [mem_groupL, List.mem_map]
  constructor
  ·rintro ⟨p, hp, rfl⟩
   rw [List.mem_filter, List.mem_range'_1] at hp
   obtain ⟨hp1, hp2⟩ := hp
   unfold impl_components.q at hp2
   rw [allR_at g h, allR_at g (show p < g.length by omega), Bool.and_eq_true, anyP_mem, anyP_mem] at hp2
   exact hp2
  ·rintro ⟨h1, h2⟩
   obtain ⟨h3, h4⟩ := reach_range hg (by omega) (by omega) h1
   refine ⟨x.toNat, ?_, Int.toNat_of_nonneg h3⟩
   rw [List.mem_filter, List.mem_range'_1]
   refine ⟨by omega, ?_⟩
   unfold impl_components.q
   rw [allR_at g h, allR_at g (show x.toNat < g.length by omega), Bool.and_eq_true, anyP_mem, anyP_mem, Int.toNat_of_nonneg h3]
   exact ⟨h1, h2⟩
theorem implGs : ∀ d i, i + d ≤ g.length → impl_components.gs (allR g g.length 0) g.length d i = groupsF g d i
 | 0, i, _ => rfl
 | d + 1, i, h => by
  rw [impl_components.gs, groupsF, implGr hg (show i < g.length by omega), implGs d (i + 1) (by omega)]
end comps4
theorem groupsF_len (g : List (List Int)) : ∀ d i, (groupsF g d i).length ≤ d
 | 0, i => Nat.le_refl _
 | d + 1, i => by
  rw [groupsF]
  have := groupsF_len g d (i + 1)
  split
  ·rw [List.length_cons]; omega
  ·omega
theorem specGroups_ev (g : List (List Int)) (hg : goodG g = true) (hi : ∀ y ∈ g, y.length ≤ 9223372036854775807) : Ev (fun k => spec_l5Groups.f k g) (groupsL g) := by
 have hn := (goodG_rows hg).1
 have hok : spec_l5Groups.ok g.length (allR g g.length 0) = true := by
  unfold spec_l5Groups.ok
  simp only [Bool.and_eq_true, decide_eq_true_eq, List.all_eq_true, List.mem_range]
  refine ⟨⟨by omega, fun a ha => ?_⟩, fun i h => ?_⟩
  ·unfold allR at ha
   obtain ⟨j, hj, rfl⟩ := List.mem_map.1 ha
   rw [List.mem_range'_1] at hj
   have h1 := reachL_len g hg hi (j : Int) (by omega) (by omega)
   exact ⟨by omega, fun p hp => reach_range hg (by omega) (by omega) hp⟩
  ·rw [specGr hg h]
   exact group_ne hg (by omega) (by omega)
 refine Ev.congr (f := fun k => (spec_l5Groups.al k g g.length 0).bind fun all => if spec_l5Groups.ok g.length all = true then some (spec_l5Groups.gs all g.length 0) else none) (fun k => rfl) (Ev.bind (specAll_ev hg hi g.length 0 (by omega)) ?_)
 rw [if_pos hok, specGs hg g.length 0 (by omega)]
 exact Ev.now _
theorem containsK (xs : List Int) (n : Int) (hm : xs.length ≤ 1000) (k : Nat) (hk : xs.length < k) : slices_Contains_int_int.f k xs n = some (Mine.anyP (fun x => x == n) xs) := by
 have key : ∀ d i k, xs.length - i = d → i ≤ xs.length → d < k → slices_Index_int_int.l0 k xs n (xs.length : Int) (i : Int) = some (idxI n (xs.drop i) i) := by
  intro d
  induction d with
  | zero =>
   intro i k hd hi hk
   obtain ⟨k, rfl⟩ : ∃ m, k = m + 1 := ⟨k - 1, by omega⟩
   rw [List.drop_eq_nil_of_le (by omega)]
   simp only [slices_Index_int_int.l0]
   rw [if_neg (by omega)]
   rfl
  | succ d ih =>
   intro i k hd hi hk
   obtain ⟨k, rfl⟩ : ∃ m, k = m + 1 := ⟨k - 1, by omega⟩
   have hlt : i < xs.length := by omega
   rw [Mine.drop_at xs 0 i hlt, idxI]
   simp only [slices_Index_int_int.l0]
   rw [if_pos (by omega), if_pos (by omega), if_pos (by omega), rd_nat, wrap_next hlt (by omega)]
   by_cases h : n = xs.getD i 0
   ·rw [if_pos h, if_pos h]
   ·rw [if_neg h, if_neg h, ih (i + 1) k (by omega) (by omega) (by omega)]
    simp
 unfold slices_Contains_int_int.f slices_Index_int_int.f
 rw [show (0 : Int) = ((0 : Nat) : Int) from rfl, key xs.length 0 k (by omega) (by omega) hk, Option.bind_some, List.drop_zero]
 rw [← idxI_any n xs 0 (Int.le_refl 0)]
 rfl
def freeI (all : List (List Int)) (dn : List Bool) (x : List Int) : Bool := !Mine.anyP (fun p : Int => !(dn.getD p.toNat false) && !Mine.anyP (fun y => y == p) x) (all.getD (x.getD 0 0).toNat [])
theorem implFree (all : List (List Int)) (dn : List Bool) (x : List Int) (hx : 0 < x.length) (hxl : x.length ≤ 1000) (h0 : 0 ≤ x.getD 0 0) (h1 : x.getD 0 0 < (all.length : Int)) (hr : ∀ p ∈ all.getD (x.getD 0 0).toNat [], 0 ≤ p ∧ p < (dn.length : Int)) (k : Nat) (hk : x.length < k) :
  impl_components_1.f k x all dn = some (freeI all dn x) := by
 unfold impl_components_1.f impl_components_1_1_in_c.f
 have e0 : rd x 0 = x.getD 0 0 := rfl
 have e1 : rd_L2 all (x.getD 0 0) = all.getD (x.getD 0 0).toNat [] := rfl
 rw [if_pos (by omega), e0, if_pos h0, if_pos h1, e1]
 rw [Mine.anyO_total (q := fun p : Int => !(dn.getD p.toNat false) && !Mine.anyP (fun y => y == p) x) (fun p hp => ?_)]
 ·rfl
 ·obtain ⟨h2, h3⟩ := hr p hp
  unfold impl_components_1_1.f
  rw [if_pos h2, if_pos h3]
  have e2 : rdOf false dn p = dn.getD p.toNat false := rfl
  rw [e2]
  cases hd : dn.getD p.toNat false with
  | true => simp
  | false => rw [if_neg (by simp), containsK x p hxl k hk]; simp
theorem set_len (dn : List Bool) (x : List Int) : (impl_components.set dn x).length = dn.length := by
 unfold impl_components.set
 induction x generalizing dn with
 | nil => rfl
 | cons p x ih => rw [List.foldl_cons, ih, List.length_set]
theorem set_at (x : List Int) : ∀ (dn : List Bool), (∀ p ∈ x, 0 ≤ p ∧ p < (dn.length : Int)) → ∀ q : Int, 0 ≤ q → ((impl_components.set dn x).getD q.toNat false = true ↔ dn.getD q.toNat false = true ∨ q ∈ x) := by
 unfold impl_components.set
 induction x with
 | nil => intro dn _ q _; simp
 | cons p x ih =>
  intro dn h q hq
  obtain ⟨hp0, hp1⟩ := h p (List.mem_cons_self ..)
  rw [List.foldl_cons, ih (dn.set p.toNat true) (fun y hy => by rw [List.length_set]; exact h y (List.mem_cons_of_mem _ hy)) q hq, List.mem_cons]
  have e : (dn.set p.toNat true).getD q.toNat false = true ↔ dn.getD q.toNat false = true ∨ q = p := by
   rw [List.getD_eq_getElem?_getD, List.getElem?_set, List.getD_eq_getElem?_getD]
   by_cases hpq : p.toNat = q.toNat
   ·have : q = p := by omega
    rw [if_pos hpq, if_pos (by omega)]
    simp [this]
   ·have : q ≠ p := fun h => hpq (by rw [h])
    rw [if_neg hpq]
    simp [this]
  rw [e, or_assoc]
theorem find_idx {α : Type} (p : α → Bool) (d : α) (l : List α) (k : Nat) (hk : k < l.length) (h1 : p (l.getD k d) = true) (h2 : ∀ j, j < k → p (l.getD j d) = false) : Mine.idxP p l 0 = (k : Int) := Mine.idxP_hit p l d k hk h2 h1
theorem implS (g : List (List Int)) (hg : goodG g = true) (k : Nat) (hk : 1000 < k) : ∀ (f : Nat) (left : List (List Int)) (dn : List Bool), CI g left (fun p => 0 ≤ p ∧ dn.getD p.toNat false = true) → dn.length = g.length → left.length ≤ f → impl_components.s k (allR g g.length 0) (f + 1) left dn = some (compsL g f left)
 | f, left, dn, C, hd, h => by
  rw [impl_components.s]
  by_cases hne : left = []
  ·subst hne
   rw [if_pos rfl]
   cases f <;> simp [compsL]
  ·have hn := (goodG_rows hg).1
   have hall : (allR g g.length 0).length = g.length := by simp [allR]
   obtain ⟨f, rfl⟩ : ∃ m, f = m + 1 := ⟨f - 1, by have := List.length_pos_iff.2 hne; omega⟩
   obtain ⟨j, h1, h2, h3, h4⟩ := find_free hg C hne
   have hgr : ∀ a ∈ left, 0 < a.length ∧ a.length ≤ 1000 ∧ 0 ≤ a.getD 0 0 ∧ a.getD 0 0 < (g.length : Int) ∧ (allR g g.length 0).getD (a.getD 0 0).toNat [] = reachL g (a.getD 0 0) ∧ (∀ p ∈ a, 0 ≤ p ∧ p < (g.length : Int)) := fun a ha => by
    obtain ⟨x, x0, x1, rfl, ex⟩ := C.grp a ha
    have hs := sorted_len _ 0 (g.length : Int) (group_sorted hg x0 x1) (fun y hy => group_range hg x0 x1 hy)
    rw [ex]
    refine ⟨List.length_pos_iff.2 (group_ne hg x0 x1), by rcases hs with hs | hs; omega; rw [hs]; simp, x0, x1, ?_, fun p hp => group_range hg x0 x1 hp⟩
    rw [allR_at g (show x.toNat < g.length by omega), Int.toNat_of_nonneg x0]
   have hfree : ∀ i, i < left.length → freeI (allR g g.length 0) dn (left.getD i []) = freeB g left i := fun i hi => by
    obtain ⟨a1, a2, a3, a4, a5, a6⟩ := hgr _ (mem_getD [] hi)
    have h5 := free_iff hg C hi
    have h6 : freeI (allR g g.length 0) dn (left.getD i []) = true ↔ ∀ y ∈ reachL g ((left.getD i []).getD 0 0), (0 ≤ y ∧ dn.getD y.toNat false = true) ∨ y ∈ left.getD i [] := by
     unfold freeI
     rw [a5, Bool.not_eq_true', Mine.anyP_false]
     refine ⟨fun h y hy => ?_, fun h y hy => ?_⟩
     ·have h7 := h y hy
      have h8 := (reach_range hg a3 a4 hy).1
      cases hd : dn.getD y.toNat false with
      | true => exact Or.inl ⟨h8, rfl⟩
      | false =>
       rw [hd] at h7
       right
       have : Mine.anyP (fun z => z == y) (left.getD i []) = true := by simpa using h7
       exact (anyP_mem _ _).1 this
     ·rcases h y hy with h7 | h7
      ·rw [h7.2]; rfl
      ·rw [(anyP_mem _ _).2 h7]; simp
    cases hb : freeB g left i with
    | true => exact h6.2 (h5.1 hb)
    | false =>
     cases hc : freeI (allR g g.length 0) dn (left.getD i []) with
     | false => rfl
     | true => have := h5.2 (h6.1 hc); rw [hb] at this; cases this
   have hidx : Mine.idxO (fun x => impl_components_1.f k x (allR g g.length 0) dn) left 0 = some (j : Int) := by
    rw [Mine.idxO_total (q := freeI (allR g g.length 0) dn) (fun x hx => ?_) 0]
    ·rw [find_idx _ [] left j h2 (by rw [hfree j h2]; exact h3) (fun i hi => by rw [hfree i (by omega)]; exact h4 i hi)]
    ·obtain ⟨a1, a2, a3, a4, a5, a6⟩ := hgr x hx
     exact implFree _ dn x a1 a2 a3 (by rw [hall]; exact a4) (fun p hp => by rw [a5] at hp; rw [hd]; exact reach_range hg a3 a4 hp) k (by omega)
   obtain ⟨a1, a2, a3, a4, a5, a6⟩ := hgr _ (mem_getD [] h2)
   have hset := set_at (left.getD j []) dn (fun p hp => by rw [hd]; exact a6 p hp)
   have C2 : CI g (left.eraseIdx j) (fun p => 0 ≤ p ∧ (impl_components.set dn (left.getD j [])).getD p.toNat false = true) := by
    have C1 := ci_step hg C h2 h3
    have e : (fun p : Int => 0 ≤ p ∧ (impl_components.set dn (left.getD j [])).getD p.toNat false = true) = (fun p : Int => (0 ≤ p ∧ dn.getD p.toNat false = true) ∨ p ∈ left.getD j []) := by
     funext p
     apply propext
     constructor
     ·rintro ⟨p0, p1⟩
      rcases (hset p p0).1 p1 with p2 | p2
      ·exact Or.inl ⟨p0, p2⟩
      ·exact Or.inr p2
     ·rintro (⟨p0, p1⟩ | p1)
      ·exact ⟨p0, (hset p p0).2 (Or.inl p1)⟩
      ·exact ⟨(a6 p p1).1, (hset p (a6 p p1).1).2 (Or.inr p1)⟩
    rw [e]
    exact C1
   rw [if_neg hne, hidx, Option.bind_some, if_pos ⟨by omega, by omega, by
    rw [Int.toNat_natCast, List.all_eq_true]
    intro p hp
    rw [hd]
    exact decide_eq_true (a6 p hp)⟩, Int.toNat_natCast, implS g hg k hk f (left.eraseIdx j) _ C2 (by rw [set_len]; exact hd) (by rw [List.length_eraseIdx_of_lt h2]; omega), compsL, h1]
   rfl
theorem compsL_more (g : List (List Int)) : ∀ (f f' : Nat) (left : List (List Int)), left.length ≤ f → left.length ≤ f' → compsL g f left = compsL g f' left
 | 0, f', left, h, _ => by
  obtain rfl := List.eq_nil_of_length_eq_zero (show left.length = 0 by omega)
  cases f' <;> simp [compsL]
 | f + 1, 0, left, _, h => by
  obtain rfl := List.eq_nil_of_length_eq_zero (show left.length = 0 by omega)
  simp [compsL]
 | f + 1, f' + 1, left, h1, h2 => by
  rw [compsL, compsL]
  cases h : (List.range left.length).find? (freeB g left) with
  | none => rfl
  | some k =>
   have hk : k < left.length := by
    rw [List.find?_range_eq_some] at h
    simpa using h.2.1
   have := List.length_eraseIdx_of_lt hk
   show left.getD k [] :: compsL g f (left.eraseIdx k) = left.getD k [] :: compsL g f' (left.eraseIdx k)
   rw [compsL_more g f f' (left.eraseIdx k) (by omega) (by omega)]
theorem implComps_ev (g : List (List Int)) (hg : goodG g = true) (hi : ∀ y ∈ g, y.length ≤ 9223372036854775807) : Ev (fun k => impl_components.f k g) (compsL g g.length (groupsL g)) := by
 have hn := (goodG_rows hg).1
 have hok : impl_components.ok g.length (allR g g.length 0) = true := by
  unfold impl_components.ok
  simp only [Bool.and_eq_true, decide_eq_true_eq, List.all_eq_true, List.mem_range]
  refine ⟨by omega, fun i h => ?_⟩
  rw [implGr hg h]
  exact group_ne hg (by omega) (by omega)
 refine Ev.congr (f := fun k => (impl_components.al k g g.length 0).bind fun all => if impl_components.ok g.length all = true then impl_components.s k all k (impl_components.gs all g.length g.length 0) (List.replicate g.length false) else none) (fun k => rfl) (Ev.bind (implAll_ev hg hi g.length 0 (by omega)) ?_)
 simp only [hok, if_true]
 rw [implGs hg g.length 0 (by omega)]
 have C : CI g (groupsL g) (fun p => 0 ≤ p ∧ (List.replicate g.length false).getD p.toNat false = true) := by
  have C0 := ci_start g hg
  have e : (fun p : Int => 0 ≤ p ∧ (List.replicate g.length false).getD p.toNat false = true) = (fun _ => False) := by
   funext p
   apply propext
   constructor
   ·rintro ⟨_, h⟩
    rw [List.getD_eq_getElem?_getD, List.getElem?_replicate] at h
    split at h <;> simp at h
   ·intro h; exact h.elim
  rw [e]
  exact C0
 refine ⟨1002, fun k hk => ?_⟩
 have hlen := groupsF_len g g.length 0
 obtain ⟨f, rfl⟩ : ∃ m, k = m + 1 := ⟨k - 1, by omega⟩
 show impl_components.s (f + 1) (allR g g.length 0) (f + 1) (groupsL g) (List.replicate g.length false) = _
 rw [implS g hg (f + 1) (by omega) f (groupsL g) _ C (by simp) (by unfold groupsL; omega), compsL_more g f g.length (groupsL g) (by unfold groupsL; omega) hlen]
theorem compsL_sub (g : List (List Int)) : ∀ (f : Nat) (left : List (List Int)), (compsL g f left).length ≤ f ∧ ∀ a ∈ compsL g f left, a ∈ left
 | 0, left => ⟨Nat.le_refl _, fun a h => by simp [compsL] at h⟩
 | f + 1, left => by
  rw [compsL]
  cases h : (List.range left.length).find? (freeB g left) with
  | none => exact ⟨by simp, fun a h => by simp at h⟩
  | some k =>
   have hk : k < left.length := by
    rw [List.find?_range_eq_some] at h
    simpa using h.2.1
   obtain ⟨h1, h2⟩ := compsL_sub g f (left.eraseIdx k)
   refine ⟨by simp; omega, fun a ha => ?_⟩
   rcases List.mem_cons.1 ha with rfl | ha
   ·exact mem_getD [] hk
   ·exact (List.eraseIdx_sublist _ _).subset (h2 a ha)
def compsG (g : List (List Int)) : List (List Int) := compsL g g.length (groupsL g)
theorem compsG_small (g : List (List Int)) (hg : goodG g = true) : (compsG g).length ≤ 40 ∧ ∀ a ∈ compsG g, a.length ≤ 40 ∧ a.Pairwise (· < ·) ∧ ∀ p ∈ a, 0 ≤ p ∧ p < (g.length : Int) := by
 have hn := (goodG_rows hg).1
 obtain ⟨h1, h2⟩ := compsL_sub g g.length (groupsL g)
 refine ⟨by unfold compsG; omega, fun a ha => ?_⟩
 obtain ⟨k, _, h3, rfl, _⟩ := (mem_groupsF g a g.length 0).1 (h2 a ha)
 have hs := sorted_len _ 0 (g.length : Int) (group_sorted hg (by omega) (by omega)) (fun y hy => group_range hg (k := (k : Int)) (by omega) (by omega) hy)
 exact ⟨by rcases hs with hs | hs; omega; rw [hs]; simp, group_sorted hg (by omega) (by omega), fun p hp => group_range hg (by omega) (by omega) hp⟩

theorem fr_eq (g left : List (List Int)) (k : Nat) : spec_l5Components.fr g left k = freeB g left k := by
 unfold spec_l5Components.fr freeB
 congr 2
 funext p
 unfold Mine.anyP
 rw [List.range_eq_range']
 congr 1
 funext i
 unfold spec_l5Components.fe Mine.anyP
 by_cases h : i = k
 ·simp [h]
 ·simp [h]
theorem specS_ev {g : List (List Int)} (hg : goodG g = true) : ∀ (f : Nat) (left : List (List Int)) (done : Int → Prop), CI g left done → left.length ≤ f → Ev (fun k => spec_l5Components.s g k left) (compsL g f left)
 | 0, left, done, C, h => by
  obtain rfl := List.eq_nil_of_length_eq_zero (show left.length = 0 by omega)
  exact Ev.step (f := fun _ => some []) (fun k => by rw [spec_l5Components.s, if_pos rfl]) (Ev.now _)
 | f + 1, left, done, C, h => by
  by_cases hne : left = []
  ·subst hne
   exact Ev.step (f := fun _ => some []) (fun k => by rw [spec_l5Components.s, if_pos rfl]) (Ev.now _)
  ·obtain ⟨k, h1, h2, h3, h4⟩ := find_free hg C hne
   have e : spec_l5Components.fr g left = freeB g left := funext (fr_eq g left)
   have h5 := Ev.mapO (specS_ev hg f (left.eraseIdx k) _ (ci_step hg C h2 h3) (by rw [List.length_eraseIdx_of_lt h2]; omega)) (left.getD k [] :: ·)
   have e2 : compsL g (f + 1) left = left.getD k [] :: compsL g f (left.eraseIdx k) := by rw [compsL, h1]
   rw [e2]
   exact Ev.step (f := fun n => (spec_l5Components.s g n (left.eraseIdx k)).map (left.getD k [] :: ·)) (fun n => by rw [spec_l5Components.s, if_neg hne, e, h1]; rfl) h5
theorem specComps_ev (g : List (List Int)) (hg : goodG g = true) (hi : ∀ y ∈ g, y.length ≤ 9223372036854775807) : Ev (fun k => spec_l5Components.f k g) (compsL g g.length (groupsL g)) := by
 have hn := (goodG_rows hg).1
 have h1 := specGroups_ev g hg hi
 refine Ev.congr (f := fun k => (spec_l5Groups.f k g).bind fun left => if spec_l5Components.ok g.length left = true then spec_l5Components.s g k left else none) (fun k => rfl) (Ev.bind h1 ?_)
 have hok2 : spec_l5Components.ok g.length (groupsL g) = true := by
  unfold spec_l5Components.ok
  simp only [Bool.and_eq_true, decide_eq_true_eq, List.all_eq_true]
  refine ⟨by have := groupsF_len g g.length 0; unfold groupsL; omega, fun a ha p hp => ?_⟩
  obtain ⟨k, _, h2, rfl, _⟩ := (mem_groupsF g a g.length 0).1 ha
  exact group_range hg (by omega) (by omega) hp
 simp only [hok2, if_true]
 exact specS_ev hg g.length _ _ (ci_start g hg) (groupsF_len g g.length 0)



def compR (g : List (List Int)) : List (List Int) × Bool := if goodG g = true then (compsG g, true) else ([], false)
theorem specComponentsOf_ev (g : List (List Int)) (hm : g.length ≤ 9223372036854775807) (hi : ∀ y ∈ g, y.length ≤ 9223372036854775807) : Ev (fun n => spec_ComponentsOf.f n g) (compR g) := by
 unfold spec_ComponentsOf.f compR
 refine Ev.bind (specGoodGraph_ev g hm hi) ?_
 cases hg : goodG g with
 | false => simpa using Ev.now _
 | true =>
  simp only [if_true]
  exact Ev.map (specComps_ev g hg hi) (fun t => (t, true))
theorem implComponentsOf_ev (g : List (List Int)) (hi : ∀ y ∈ g, y.length ≤ 9223372036854775807) : Ev (fun n => impl_ComponentsOf.f n g) (compR g) := by
 unfold impl_ComponentsOf.f compR
 simp only [implGoodGraph_f, Option.bind_some]
 cases hg : goodG g with
 | false => simpa using Ev.now _
 | true =>
  simp only [if_true]
  exact Ev.map (implComps_ev g hg hi) (fun t => (t, true))
theorem compR_small (g : List (List Int)) : (compR g).1.length ≤ 40 ∧ ∀ a ∈ (compR g).1, a.length ≤ 40 := by
 unfold compR
 split
 ·rename_i h
  obtain ⟨h1, h2⟩ := compsG_small g h
  exact ⟨h1, fun a ha => (h2 a ha).1⟩
 ·simp

def allP (n : Nat) : List Int := (List.range n).map fun k : Nat => (k : Int)
theorem allP_nodup (n : Nat) : (allP n).Nodup := by
 unfold allP
 rw [List.Nodup, List.pairwise_map]
 exact List.Pairwise.imp (fun {a b} h e => h (by omega)) (List.nodup_range (n := n))
theorem allP_len (n : Nat) : (allP n).length = n := by unfold allP; simp
theorem allP_mem (n : Nat) (x : Int) : x ∈ allP n ↔ 0 ≤ x ∧ x < (n : Int) := by
 unfold allP
 rw [List.mem_map]
 constructor
 ·rintro ⟨k, hk, rfl⟩
  rw [List.mem_range] at hk
  omega
 ·intro h
  exact ⟨x.toNat, List.mem_range.2 (by omega), by omega⟩
theorem compsL_all {g : List (List Int)} (hg : goodG g = true) : ∀ (f : Nat) (left : List (List Int)) (done : Int → Prop), CI g left done → left.length ≤ f → ∀ a ∈ left, a ∈ compsL g f left
 | 0, left, _, _, hl, a, ha => by
  have := List.length_pos_of_mem ha
  omega
 | f + 1, left, done, C, hl, a, ha => by
  obtain ⟨k, h1, h2, h3, _⟩ := find_free hg C (List.ne_nil_of_mem ha)
  rw [compsL, h1]
  by_cases he : a = left.getD k []
  ·rw [he]; exact List.mem_cons_self ..
  ·refine List.mem_cons_of_mem _ (compsL_all hg f (left.eraseIdx k) _ (ci_step hg C h2 h3) (by rw [List.length_eraseIdx_of_lt h2]; omega) a ?_)
   obtain ⟨i, hi, rfl⟩ := at_of_mem ha
   have hik : i ≠ k := fun e => he (by rw [e])
   rw [List.getD_eq_getElem?_getD, List.getElem?_eq_getElem hi]
   exact List.mem_eraseIdx_iff_getElem.2 ⟨i, hi, hik, rfl⟩
theorem groups_comps {g : List (List Int)} (hg : goodG g = true) (a : List Int) : a ∈ groupsL g ↔ a ∈ compsG g :=
 ⟨fun h => compsL_all hg g.length _ _ (ci_start g hg) (groupsF_len g g.length 0) a h, fun h => (compsL_sub g g.length (groupsL g)).2 a h⟩
def NoEdge (g : List (List Int)) (a b : List Int) : Prop := (∀ p ∈ a, ∀ n ∈ b, ¬ edge g p n) ∧ Apart a b
theorem compsL_pw {g : List (List Int)} (hg : goodG g = true) : ∀ (f : Nat) (left : List (List Int)) (done : Int → Prop), CI g left done → left.Pairwise Apart → left.length ≤ f → (compsL g f left).Pairwise (NoEdge g)
 | 0, left, _, _, _, _ => List.Pairwise.nil
 | f + 1, left, done, C, ha, hl => by
  by_cases hne : left = []
  ·subst hne
   rw [compsL]
   have : (List.range ([] : List (List Int)).length).find? (freeB g []) = none := rfl
   rw [this]
   exact List.Pairwise.nil
  ·obtain ⟨k, h1, h2, h3, _⟩ := find_free hg C hne
   rw [compsL, h1]
   refine List.pairwise_cons.2 ⟨fun b hb => ?_, compsL_pw hg f (left.eraseIdx k) _ (ci_step hg C h2 h3) (ha.sublist (List.eraseIdx_sublist ..)) (by rw [List.length_eraseIdx_of_lt h2]; omega)⟩
   have hb2 := (compsL_sub g f (left.eraseIdx k)).2 b hb
   obtain ⟨i, hi, hik, hbi⟩ := List.mem_eraseIdx_iff_getElem.1 hb2
   have hbe : left.getD i [] = b := by rw [List.getD_eq_getElem?_getD, List.getElem?_eq_getElem hi]; exact hbi
   refine ⟨fun p hp n hn => (freeB_true g left k).1 h3 p hp i hi hik n (by rw [hbe]; exact hn), fun x hx hxb => ?_⟩
   exact pw_at ha hi h2 hik (x := x) (by rw [hbe]; exact hxb) hx
theorem compsG_pw {g : List (List Int)} (hg : goodG g = true) : (compsG g).Pairwise (NoEdge g) :=
 compsL_pw hg g.length _ _ (ci_start g hg) (groupsF_apart g hg g.length 0 (by omega)) (groupsF_len g g.length 0)
theorem comps_cover {g : List (List Int)} (hg : goodG g = true) (p : Int) (h0 : 0 ≤ p) (h1 : p < (g.length : Int)) : groupL g p ∈ compsG g ∧ p ∈ groupL g p := by
 have hs := group_self hg h0 h1
 have hh := group_head hg h0 h1
 have he := group_eq hg h0 h1 hh
 have hr := group_range hg h0 h1 hh
 refine ⟨(groups_comps hg _).1 ((mem_groupsF g _ g.length 0).2 ⟨((groupL g p).getD 0 0).toNat, by omega, by omega, ?_, ?_⟩), hs⟩
 ·rw [Int.toNat_of_nonneg hr.1]
  exact he.symm
 ·rw [Int.toNat_of_nonneg hr.1, he]
theorem comps_shape {g : List (List Int)} (hg : goodG g = true) {c : List Int} (hc : c ∈ compsG g) : ∃ k : Nat, k < g.length ∧ c = groupL g (k : Int) := by
 obtain ⟨k, h1, h2, h3, _⟩ := (mem_groupsF g c g.length 0).1 ((groups_comps hg c).2 hc)
 exact ⟨k, by omega, h3⟩

def reachR (g : List (List Int)) (k : Int) : List Int × Bool := if goodG g = true ∧ Mine.inB 0 (wrap64 ((g.length : Int) - 1)) k = true then (reachL g k, true) else ([], false)
theorem inB_point {g : List (List Int)} {k : Int} (hg : goodG g = true) (h : Mine.inB 0 (wrap64 ((g.length : Int) - 1)) k = true) : 0 ≤ k ∧ k < (g.length : Int) := by
 have := (goodG_rows hg).1
 have hw : wrap64 ((g.length : Int) - 1) = (g.length : Int) - 1 := by unfold wrap64; omega
 rw [hw] at h
 have := Mine.inB_iff.1 h
 omega
theorem implReachedFrom_ev (g : List (List Int)) (k : Int) (hi : ∀ y ∈ g, y.length ≤ 9223372036854775807) : Ev (fun n => impl_ReachedFrom.f n g k) (reachR g k) := by
 unfold impl_ReachedFrom.f reachR
 simp only [implGoodGraph_f, Option.bind_some]
 cases hg : goodG g with
 | false => simpa using Ev.now _
 | true =>
  simp only [if_true, within_f, Option.bind_some]
  cases hk : Mine.inB 0 (wrap64 ((g.length : Int) - 1)) k with
  | false => simpa using Ev.now _
  | true =>
   obtain ⟨h0, h1⟩ := inB_point hg hk
   simp only [if_true, and_self]
   exact Ev.map (implReach_ev g hg hi k h0 h1) (fun t => (t, true))
theorem reachR_len (g : List (List Int)) (k : Int) (hi : ∀ y ∈ g, y.length ≤ 9223372036854775807) : (reachR g k).1.length ≤ 40 := by
 unfold reachR
 split
 ·rename_i h
  obtain ⟨h0, h1⟩ := inB_point h.1 h.2
  exact reachL_len g h.1 hi k h0 h1
 ·simp

theorem specReachedFrom_ev (g : List (List Int)) (k : Int) (hm : g.length ≤ 9223372036854775807) (hi : ∀ y ∈ g, y.length ≤ 9223372036854775807) : Ev (fun n => spec_ReachedFrom.f n g k) (reachR g k) := by
 unfold spec_ReachedFrom.f reachR
 refine Ev.bind (specGoodGraph_ev g hm hi) ?_
 cases hg : goodG g with
 | false => simpa using Ev.now _
 | true =>
  simp only [if_true, l1In_f, Option.bind_some]
  cases hk : Mine.inB 0 (wrap64 ((g.length : Int) - 1)) k with
  | false => simpa using Ev.now _
  | true =>
   obtain ⟨h0, h1⟩ := inB_point hg hk
   simp only [if_true, and_self]
   exact Ev.map (specReach_ev g hg hi k h0 h1) (fun t => (t, true))

theorem anyO_ev {α : Type} (p : Nat → α → Option Bool) : ∀ (xs : List α) (q : α → Bool), (∀ x ∈ xs, Ev (fun k => p k x) (q x)) → Ev (fun k => Mine.anyO (p k) xs) (Mine.anyP q xs)
 | [], q, _ => Ev.const rfl
 | x :: xs, q, h => by
  simp only [Mine.anyO]
  refine Ev.bind (h x (by simp)) ?_
  rw [Mine.anyP_cons]
  cases hq : q x with
  | true => simpa using Ev.now true
  | false => simpa using anyO_ev p xs q (fun y hy => h y (by simp [hy]))

theorem delO_ev {α : Type} (p : Nat → α → Option Bool) : ∀ (xs : List α) (q : α → Bool), (∀ x ∈ xs, Ev (fun k => p k x) (q x)) → Ev (fun k => Mine.delO (p k) xs) (xs.filter fun x => !q x)
 | [], q, _ => Ev.const rfl
 | x :: xs, q, h => by
  simp only [Mine.delO]
  refine Ev.bind (h x (by simp)) (Ev.bind (delO_ev p xs q (fun y hy => h y (by simp [hy]))) ?_)
  cases hq : q x with
  | true => simpa [hq] using Ev.now _
  | false => simpa [hq] using Ev.now _
def openB (g : List (List Int)) (have_ : List Int) (p : Int) : Bool := Mine.anyP (fun n => !Mine.anyP (fun x => x == n) have_) (reachL g p)
def closedR (g : List (List Int)) (have_ : List Int) : List Int × Bool :=
 if goodG g = true ∧ risesIn 0 (wrap64 ((g.length : Int) - 1)) have_ = true then (have_.filter (fun p => !openB g have_ p), true) else ([], false)
theorem members_range {g : List (List Int)} {l : List Int} (hg : goodG g = true) (h : risesIn 0 (wrap64 ((g.length : Int) - 1)) l = true) : ∀ v ∈ l, 0 ≤ v ∧ v < (g.length : Int) := by
 have h1 := (goodG_rows hg).1
 intro v hv
 unfold risesIn at h
 simp only [Bool.and_eq_true, Bool.not_eq_true'] at h
 have h3 := Mine.outB_false.1 (Mine.anyP_false.1 h.2 v hv)
 have hw : wrap64 ((g.length : Int) - 1) = (g.length : Int) - 1 := by unfold wrap64; omega
 rw [hw] at h3
 omega
theorem implClosed1_ev (g : List (List Int)) (hg : goodG g = true) (hi : ∀ y ∈ g, y.length ≤ 9223372036854775807) (hv : List Int) (hm : hv.length ≤ 1048576) (p : Int) (h0 : 0 ≤ p) (h1 : p < (g.length : Int)) : Ev (fun k => impl_ClosedIn_1.f k p g hv) (openB g hv p) := by
 unfold impl_ClosedIn_1.f impl_ClosedIn_1_1_in_c.f
 exact Ev.bind (implReach_ev g hg hi p h0 h1) (Ev.map (anyO_ev (fun k x => impl_ClosedIn_1_1.f k x hv) (reachL g p) (fun n => !Mine.anyP (fun x => x == n) hv) (fun x _ => Ev.map (contains_ev hv x (by omega)) (fun t => !t))) (fun t => t))
theorem implClosedIn_ev (g : List (List Int)) (hv : List Int) (hi : ∀ y ∈ g, y.length ≤ 9223372036854775807) (hm : hv.length ≤ 1048576) : Ev (fun k => impl_ClosedIn.f k g hv) (closedR g hv) := by
 unfold impl_ClosedIn.f closedR
 simp only [implGoodGraph_f, Option.bind_some, impl_areMembers.f]
 cases hg : goodG g with
 | false => simpa using Ev.now _
 | true =>
  simp only [if_true]
  rw [show (Mine.riseB hv && !Mine.anyP (Mine.outB 0 (wrap64 ((g.length : Int) - 1))) hv) = risesIn 0 (wrap64 ((g.length : Int) - 1)) hv from rfl]
  cases hr : risesIn 0 (wrap64 ((g.length : Int) - 1)) hv with
  | false => simpa using Ev.now _
  | true =>
   have hc : slices_Clone_int_int.f hv = some hv := by unfold slices_Clone_int_int.f; rw [if_pos (by omega)]
   simp only [and_self, if_true, hc, Option.bind_some]
   have hrng := members_range hg hr
   exact Ev.map (delO_ev (fun k x => impl_ClosedIn_1.f k x g hv) hv (fun p => openB g hv p) (fun x hx => implClosed1_ev g hg hi hv hm x (hrng x hx).1 (hrng x hx).2)) (fun r => (r, true))
theorem closedR_len (g : List (List Int)) (hv : List Int) : (closedR g hv).1.length ≤ hv.length := by
 unfold closedR
 split
 ·exact List.length_filter_le _ _
 ·simp

theorem specClosed_in (g : List (List Int)) (hv acc : List Int) (hm : hv.length ≤ 1048576) (ha : acc.length ≤ 1048576) (p : Int) (i : Int) (row : List Int) (hr : row.length ≤ 9223372036854775807) (r : List Int × Bool) : ∀ (d j : Nat) (b : Bool), row.length - j = d → j ≤ row.length →
  Ev (fun k => spec_ClosedIn.l0 k g hv (if (b && !Mine.anyP (fun n => !Mine.anyP (fun x => x == n) hv) (row.drop j)) = true then acc ++ [p] else acc) hv (hv.length : Int) (wrap64 (i + 1))) r →
  Ev (fun k => spec_ClosedIn.l1 k g hv acc p b hv (hv.length : Int) i row (row.length : Int) (j : Int)) r := by
 intro d
 induction d with
 | zero =>
  intro j b hd hj h
  rw [List.drop_eq_nil_of_le (by omega)] at h
  cases b with
  | true => exact Ev.step (fun k => by simp only [spec_ClosedIn.l1]; rw [if_neg (by omega), if_pos trivial, if_pos (by omega)]) (by simpa [Mine.anyP] using h)
  | false => exact Ev.step (fun k => by simp only [spec_ClosedIn.l1]; rw [if_neg (by omega), if_neg (by simp)]) (by simpa [Mine.anyP] using h)
 | succ d ih =>
  intro j b hd hj h
  have hlt : j < row.length := by omega
  rw [Mine.drop_at row 0 j hlt, Mine.anyP_cons] at h
  cases b with
  | true =>
   refine Ev.step (f := fun k => (spec_l1Has.f k hv (row.getD j 0)).bind fun t => spec_ClosedIn.l1 k g hv acc p t hv (hv.length : Int) i row (row.length : Int) ((j + 1 : Nat) : Int)) (fun k => ?_) (Ev.bind (l1Has_ev hv (row.getD j 0) (by omega)) (ih (j + 1) _ (by omega) (by omega) ?_))
   ·simp only [spec_ClosedIn.l1]
    rw [if_pos (by omega), if_pos (by omega), if_pos (by omega), if_pos trivial, rd_nat, wrap_next hlt hr]
   ·have e : (Mine.anyP (fun x => x == row.getD j 0) hv && !Mine.anyP (fun n => !Mine.anyP (fun x => x == n) hv) (row.drop (j + 1))) = (true && !(!Mine.anyP (fun x => x == row.getD j 0) hv || Mine.anyP (fun n => !Mine.anyP (fun x => x == n) hv) (row.drop (j + 1)))) := by
     cases Mine.anyP (fun x => x == row.getD j 0) hv <;> simp
    rw [e]; exact h
  | false =>
   refine Ev.step (f := fun k => spec_ClosedIn.l1 k g hv acc p false hv (hv.length : Int) i row (row.length : Int) ((j + 1 : Nat) : Int)) (fun k => ?_) (ih (j + 1) false (by omega) (by omega) (by simpa using h))
   simp only [spec_ClosedIn.l1]
   rw [if_pos (by omega), if_pos (by omega), if_pos (by omega), if_neg (by simp), wrap_next hlt hr]
theorem specClosed_l (g : List (List Int)) (hg : goodG g = true) (hi : ∀ y ∈ g, y.length ≤ 9223372036854775807) (hv : List Int) (hm : hv.length ≤ 1048576) (hr : ∀ v ∈ hv, 0 ≤ v ∧ v < (g.length : Int)) : ∀ (d i : Nat) (acc : List Int), hv.length - i = d → i ≤ hv.length → acc.length ≤ i →
  Ev (fun k => spec_ClosedIn.l0 k g hv acc hv (hv.length : Int) (i : Int)) (acc ++ (hv.drop i).filter (fun p => !openB g hv p), true) := by
 intro d
 induction d with
 | zero =>
  intro i acc hd hi2 ha
  rw [List.drop_eq_nil_of_le (by omega)]
  exact Ev.step (f := fun _ => some (acc, true)) (fun k => by simp only [spec_ClosedIn.l0]; rw [if_neg (by omega)]) (by simpa using Ev.now (acc, true))
 | succ d ih =>
  intro i acc hd hi2 ha
  have hlt : i < hv.length := by omega
  have hp := hr _ (Mine.getD_mem hv 0 i hlt)
  have hl := reachL_len g hg hi (hv.getD i 0) hp.1 hp.2
  rw [Mine.drop_at hv 0 i hlt]
  refine Ev.step (f := fun k => (spec_l5Reached.f k g (hv.getD i 0)).bind fun t => spec_ClosedIn.l1 k g hv acc (hv.getD i 0) true hv (hv.length : Int) (i : Int) t (t.length : Int) 0) (fun k => ?_) (Ev.bind (specReach_ev g hg hi (hv.getD i 0) hp.1 hp.2) (specClosed_in g hv acc hm (by omega) (hv.getD i 0) (i : Int) (reachL g (hv.getD i 0)) (by omega) _ _ 0 true rfl (by omega) ?_))
  ·simp only [spec_ClosedIn.l0]
   rw [if_pos (by omega), if_pos (by omega), if_pos (by omega), rd_nat]
  ·rw [List.drop_zero, Bool.true_and, wrap_next hlt (by omega), show Mine.anyP (fun n => !Mine.anyP (fun x => x == n) hv) (reachL g (hv.getD i 0)) = openB g hv (hv.getD i 0) from rfl]
   cases hb : openB g hv (hv.getD i 0) with
   | true =>
    have ef : List.filter (fun p => !openB g hv p) (hv.getD i 0 :: hv.drop (i + 1)) = List.filter (fun p => !openB g hv p) (hv.drop (i + 1)) := List.filter_cons_of_neg (by rw [hb]; simp)
    rw [ef]
    simp only [Bool.not_true, Bool.false_eq_true, if_false]
    exact ih (i + 1) acc (by omega) (by omega) (by omega)
   | false =>
    have := ih (i + 1) (acc ++ [hv.getD i 0]) (by omega) (by omega) (by rw [List.length_append]; simp; omega)
    rw [List.append_assoc, List.singleton_append] at this
    have ef : List.filter (fun p => !openB g hv p) (hv.getD i 0 :: hv.drop (i + 1)) = hv.getD i 0 :: List.filter (fun p => !openB g hv p) (hv.drop (i + 1)) := List.filter_cons_of_pos (by rw [hb]; rfl)
    rw [ef]
    simp only [Bool.not_false, if_true]
    exact this
theorem specClosedIn_ev (g : List (List Int)) (hv : List Int) (hgl : g.length ≤ 9223372036854775807) (hi : ∀ y ∈ g, y.length ≤ 9223372036854775807) (hm : hv.length ≤ 1048576) : Ev (fun k => spec_ClosedIn.f k g hv) (closedR g hv) := by
 have hj : Ev (fun k => spec_ClosedIn.j0 k g hv true) ([], false) := Ev.step (f := fun _ => some _) (fun k => by simp only [spec_ClosedIn.j0]; rw [if_pos trivial]) (Ev.now _)
 unfold spec_ClosedIn.f closedR
 refine Ev.bind (specGoodGraph_ev g hgl hi) ?_
 cases hg : goodG g with
 | false => simpa using hj
 | true =>
  simp only [if_true]
  refine Ev.bind (l1Rising_ev hv 0 (wrap64 ((g.length : Int) - 1)) (by omega)) ?_
  cases hr : risesIn 0 (wrap64 ((g.length : Int) - 1)) hv with
  | false => simpa using hj
  | true =>
   simp only [and_self, if_true, Bool.not_true]
   exact Ev.step (fun k => by simp only [spec_ClosedIn.j0]; rw [if_neg (by simp)]) (by simpa using specClosed_l g hg hi hv hm (members_range hg hr) _ 0 [] rfl (by omega) (by simp))

/-! what the cursor of the draws gives -/
theorem and255 (x : Int) : 0 ≤ wrap64 (Go.bits .and .u64 x 255) ∧ wrap64 (Go.bits .and .u64 x 255) ≤ 255 := by
 have h : ∃ n : Nat, n ≤ 255 ∧ Go.bits .and .u64 x 255 = (n : Int) := by
  refine ⟨(BitVec.ofInt 64 x &&& BitVec.ofInt 64 255).toNat, ?_, ?_⟩
  ·rw [BitVec.toNat_and]
   exact Nat.le_trans (Nat.and_le_right) (by decide)
  ·have hle : (BitVec.ofInt 64 x &&& BitVec.ofInt 64 255).toNat ≤ 255 := by
    rw [BitVec.toNat_and]; exact Nat.le_trans (Nat.and_le_right) (by decide)
   show IntKind.u64.wrap (((BitVec.ofInt 64 x &&& BitVec.ofInt 64 255).toNat : Nat) : Int) = _
   generalize (BitVec.ofInt 64 x &&& BitVec.ofInt 64 255).toNat = m at hle
   simp [IntKind.wrap, IntKind.min, IntKind.max, IntKind.signed, IntKind.bits]
   omega
 obtain ⟨n, hn, e⟩ := h
 rw [e]
 unfold wrap64
 omega
theorem u8s {l : List Int} (h : ∀ y ∈ l, (Lit.int .u8 y).wf = true) : ∀ y ∈ l, 0 ≤ y ∧ y ≤ 255 := by
 intro y hy
 have := h y hy
 simp [Lit.wf, IntKind.min, IntKind.max, IntKind.signed, IntKind.bits] at this
 omega
theorem rd_mem {l : List Int} {a : Int} (h0 : 0 ≤ a) (h : a < (l.length : Int)) : rd l a ∈ l := by
 unfold rd
 rw [List.getD_eq_getElem?_getD, List.getElem?_eq_getElem (show a.toNat < l.length by omega)]
 exact List.getElem_mem _
theorem next_ok (l : List Int) (a s : Int) (hu : ∀ y ∈ l, 0 ≤ y ∧ y ≤ 255) (h0 : 0 ≤ a) (h1 : a ≤ 4611686018427387904) : ∃ v s', spec_l1Cur_next.f l a s = some (v, a + 1, s') ∧ 0 ≤ v ∧ v ≤ 255 := by
 have hw : wrap64 (a + 1) = a + 1 := by unfold wrap64; omega
 unfold spec_l1Cur_next.f
 rw [hw]
 by_cases h : a < (l.length : Int)
 ·rw [if_pos h, if_pos h0, if_pos (by omega)]
  have := hu _ (rd_mem h0 h)
  exact ⟨_, _, rfl, by unfold wrap64; omega, by unfold wrap64; omega⟩
 ·rw [if_neg h, if_neg (by omega)]
  exact ⟨_, _, rfl, (and255 _).1, (and255 _).2⟩
theorem pick_ok (l : List Int) (a s n : Int) (hu : ∀ y ∈ l, 0 ≤ y ∧ y ≤ 255) (h0 : 0 ≤ a) (h1 : a ≤ 2305843009213693952) (hn : 1 ≤ n) (hn' : n ≤ 65536) : ∃ v a' s', spec_l1Cur_pick.f l a s n = some (v, a', s') ∧ 0 ≤ v ∧ v < n ∧ a ≤ a' ∧ a' ≤ a + 2 := by
 unfold spec_l1Cur_pick.f
 by_cases h : n ≤ 1
 ·rw [if_pos h]; exact ⟨0, a, s, rfl, by omega, by omega, by omega, by omega⟩
 rw [if_neg h]
 obtain ⟨v, s', e, hv, hv'⟩ := next_ok l a s hu h0 (by omega)
 rw [e, Option.bind_some]
 dsimp only
 by_cases h2 : n > 200
 ·rw [if_pos h2]
  obtain ⟨v2, s2, e2, hv2, hv2'⟩ := next_ok l (a + 1) s' hu (by omega) (by omega)
  rw [e2, Option.bind_some, if_neg (by omega)]
  have hw : wrap64 (wrap64 (v * 256) + v2) = v * 256 + v2 := by unfold wrap64; omega
  dsimp only
  rw [hw]
  exact ⟨_, _, _, rfl, Int.tmod_nonneg _ (by omega), Int.tmod_lt_of_pos _ (by omega), by omega, by omega⟩
 ·rw [if_neg h2, if_neg (by omega)]
  exact ⟨_, _, _, rfl, Int.tmod_nonneg _ hv, Int.tmod_lt_of_pos _ (by omega), by omega, by omega⟩

theorem one_ok (l : List Int) (a s n : Int) (hu : ∀ y ∈ l, 0 ≤ y ∧ y ≤ 255) (h0 : 0 ≤ a) (h1 : a ≤ 2305843009213693952) (hn : 1 ≤ n) (hn' : n ≤ 65536) : ∃ v a' s', spec_l1Cur_one.f l a s n = some (v, a', s') ∧ a ≤ a' ∧ a' ≤ a + 2 := by
 unfold spec_l1Cur_one.f
 obtain ⟨v, a', s', e, _, _, ha, ha'⟩ := pick_ok l a s n hu h0 h1 hn hn'
 rw [e, Option.bind_some]
 exact ⟨_, _, _, rfl, ha, ha'⟩

theorem Ev.mapO2 {α β : Type} {g : Nat → Option α} {a : α} (h : Ev g a) (f : α → β) : Ev (fun k => (g k).map f) (f a) := by
 obtain ⟨K, h⟩ := h
 exact ⟨K, fun k hk => by show (g k).map f = _; rw [h k hk]; rfl⟩
theorem graphI_ok (l : List Int) (hu : ∀ y ∈ l, 0 ≤ y ∧ y ≤ 255) (n : Int) (hn : 1 ≤ n) (hn' : n ≤ 1000) : ∀ (m : Nat) (x : List Int) (a s : Int), x.length + m ≤ 1000 → m ≤ 1000 → 0 ≤ a → a + 2 * (m : Int) ≤ 1000000000000 →
  ∃ y a' s', Ev (fun k => spec_l1Cur_graph.i k l n x (m : Int) a s) (y, a', s') ∧ y.length ≤ x.length + m ∧ a ≤ a' ∧ a' ≤ a + 2 * (m : Int)
 | 0, x, a, s, _, _, _, _ => ⟨x, a, s, Ev.step (f := fun _ => some (x, a, s)) (fun k => by simp only [spec_l1Cur_graph.i]; rw [if_neg (by omega)]) (Ev.now _), by omega, by omega, by omega⟩
 | m + 1, x, a, s, hx, hm, h0, h1 => by
  obtain ⟨p, a1, s1, e1, p1, p2, p3, p4⟩ := pick_ok l a s n hu h0 (by omega) (by omega) (by omega)
  have hp := l1Put_ev x p (by omega)
  have hpl := putL_length p x
  obtain ⟨y, a2, s2, hy, q1, q2, q3⟩ := graphI_ok l hu n hn hn' m (putL x p) a1 s1 (by omega) (by omega) (by omega) (by omega)
  refine ⟨y, a2, s2, Ev.step (f := fun k => (spec_l1Put.f k x p).bind fun y => if y.length ≤ 1000000 then spec_l1Cur_graph.i k l n y (m : Int) a1 s1 else none) (fun k => ?_) (Ev.bind hp ?_), by omega, by omega, by omega⟩
  ·simp only [spec_l1Cur_graph.i]
   rw [if_pos (by omega), e1]
   simp only [Option.bind_some]
   have hw : wrap64 (((m + 1 : Nat) : Int) - 1) = (m : Int) := by unfold wrap64; omega
   rw [hw]
  ·simp only [if_pos (show (putL x p).length ≤ 1000000 by omega)]
   exact hy
theorem graphO_ok (l : List Int) (hu : ∀ y ∈ l, 0 ≤ y ∧ y ≤ 255) (n : Int) (hn : 1 ≤ n) (hn' : n ≤ 1000) : ∀ (d : Nat) (a s : Int), 0 ≤ a → a + 10 * (d : Int) ≤ 100000000000 →
  ∃ rows a' s', Ev (fun k => spec_l1Cur_graph.o k l n d a s) (rows, a', s') ∧ rows.length = d ∧ (∀ y ∈ rows, y.length ≤ 5) ∧ a ≤ a' ∧ a' ≤ a + 10 * (d : Int)
 | 0, a, s, _, _ => ⟨[], a, s, Ev.now _, rfl, by simp, by omega, by omega⟩
 | d + 1, a, s, h0, h1 => by
  obtain ⟨p, a1, s1, e1, p1, p2, p3, p4⟩ := pick_ok l a s 3 hu h0 (by omega) (by omega) (by omega)
  obtain ⟨x, a2, s2, hx, q1, q2, q3⟩ := graphI_ok l hu n hn hn' p.toNat [] a1 s1 (by simp; omega) (by omega) (by omega) (by omega)
  rw [Int.toNat_of_nonneg p1] at hx
  obtain ⟨rows, a3, s3, hr, r1, r2, r3, r4⟩ := graphO_ok l hu n hn hn' d a2 s2 (by omega) (by omega)
  refine ⟨x :: rows, a3, s3, ?_, by rw [List.length_cons, r1], fun y hy => ?_, by omega, by omega⟩
  ·refine Ev.congr (f := fun k => (spec_l1Cur_graph.i k l n [] p a1 s1).bind fun q => (spec_l1Cur_graph.o k l n d q.2.1 q.2.2).map fun r => (q.1 :: r.1, r.2)) (fun k => ?_) (Ev.bind hx ?_)
   ·rw [spec_l1Cur_graph.o, e1, Option.bind_some]
   ·exact Ev.mapO2 hr _
  ·rcases List.mem_cons.1 hy with e | e
   ·rw [e]; simp at q1; omega
   ·exact r2 y e
theorem graph_ok (l : List Int) (hu : ∀ y ∈ l, 0 ≤ y ∧ y ≤ 255) (a s : Int) (h0 : 0 ≤ a) (h1 : a ≤ 1000000) : ∃ g a' s', Ev (fun k => spec_l1Cur_graph.f k l a s) (g, a', s') ∧ g.length ≤ 41 ∧ (∀ y ∈ g, y.length ≤ 5) ∧ a ≤ a' ∧ a' ≤ a + 1000 := by
 obtain ⟨p, a1, s1, e1, p1, p2, p3, p4⟩ := pick_ok l a s 8 hu h0 (by omega) (by omega) (by omega)
 obtain ⟨b, a2, s2, e2, q1, q2⟩ := one_ok l a1 s1 30 hu (by omega) (by omega) (by omega) (by omega)
 obtain ⟨u, a3, s3, e3, u1, u2, u3, u4⟩ := pick_ok l a2 s2 2 hu (by omega) (by omega) (by omega) (by omega)
 have hN : ∃ n a4 s4, spec_l1Cur_graph.n l a s = some (n, a4, s4) ∧ 0 ≤ n ∧ n ≤ 41 ∧ a ≤ a4 ∧ a4 ≤ a + 6 := by
  unfold spec_l1Cur_graph.n
  rw [e1, Option.bind_some]
  dsimp only
  rw [e2, Option.bind_some]
  cases b with
  | true =>
   rw [if_pos rfl, e3, Option.bind_some]
   exact ⟨_, _, _, rfl, by (try dsimp only); unfold wrap64; omega, by (try dsimp only); unfold wrap64; omega, by (try dsimp only); omega, by (try dsimp only); omega⟩
  | false =>
   rw [if_neg (by simp)]
   exact ⟨_, _, _, rfl, p1, by (try dsimp only); omega, by (try dsimp only); omega, by (try dsimp only); omega⟩
 obtain ⟨n, a4, s4, e4, n1, n2, n3, n4⟩ := hN
 unfold spec_l1Cur_graph.f
 simp only [e4, Option.bind_some, if_pos (show 0 ≤ n ∧ n ≤ 1000 by omega)]
 by_cases hn : n = 0
 ·subst hn
  refine ⟨[], a4, s4, ?_, by simp, by simp, by omega, by omega⟩
  refine Ev.congr (f := fun _ => some (([] : List (List Int)), a4, s4)) (fun k => ?_) (Ev.now _)
  show (spec_l1Cur_graph.o k l 0 0 a4 s4).bind _ = _
  rw [spec_l1Cur_graph.o, Option.bind_some]
  unfold spec_l1Cur_graph.z
  rw [if_neg (by omega)]
 ·obtain ⟨rows, a5, s5, hr, r1, r2, r3, r4⟩ := graphO_ok l hu n (by omega) (by omega) n.toNat a4 s4 (by omega) (by omega)
  obtain ⟨c, a6, s6, e6, c1, c2⟩ := one_ok l a5 s5 30 hu (by omega) (by omega) (by omega) (by omega)
  cases c with
  | true =>
   refine ⟨rows.set 0 [n], a6, s6, Ev.bind hr ?_, by rw [List.length_set]; omega, fun y hy => ?_, by omega, by omega⟩
   ·unfold spec_l1Cur_graph.z
    simp only [if_pos (show n > 0 by omega), e6, Option.bind_some, if_true]
    exact Ev.now _
   ·rcases List.mem_or_eq_of_mem_set hy with h | h
    ·exact r2 y h
    ·rw [h]; simp
  | false =>
   refine ⟨rows, a6, s6, Ev.bind hr ?_, by omega, r2, by omega, by omega⟩
   unfold spec_l1Cur_graph.z
   simp only [if_pos (show n > 0 by omega), e6, Option.bind_some, Bool.false_eq_true, if_false]
   exact Ev.now _

theorem sameInts_l (xs : List Int) (hm : xs.length ≤ 9223372036854775807) : ∀ (d i : Nat), xs.length - i = d → Ev (fun k => laws_sameInts.l0 k xs xs (xs.length : Int) (i : Int)) true := by
 intro d
 induction d with
 | zero => intro i hd; exact Ev.step (f := fun _ => some true) (fun k => by simp only [laws_sameInts.l0]; rw [if_neg (by omega)]) (Ev.now _)
 | succ d ih =>
  intro i hd
  refine Ev.step (f := fun k => laws_sameInts.l0 k xs xs (xs.length : Int) ((i + 1 : Nat) : Int)) (fun k => ?_) (ih (i + 1) (by omega))
  simp only [laws_sameInts.l0]
  rw [if_pos (by omega), if_pos (by omega), if_pos (by omega), if_pos (by omega), if_pos trivial, wrap_next (n := xs.length) (by omega) hm]
theorem sameInts_ev (xs : List Int) (hm : xs.length ≤ 9223372036854775807) : Ev (fun k => laws_sameInts.f k xs xs) true := by
 refine Ev.congr (f := fun k => laws_sameInts.l0 k xs xs (xs.length : Int) ((0 : Nat) : Int)) (fun k => ?_) (sameInts_l xs hm _ 0 rfl)
 unfold laws_sameInts.f
 rw [if_pos rfl]
 rfl

theorem sameLists_l (xs : List (List Int)) (hm : xs.length ≤ 9223372036854775807) (hi : ∀ y ∈ xs, y.length ≤ 9223372036854775807) : ∀ (d i : Nat), xs.length - i = d → Ev (fun k => laws_sameLists.l0 k xs xs (xs.length : Int) (i : Int)) true := by
 intro d
 induction d with
 | zero => intro i hd; exact Ev.step (f := fun _ => some true) (fun k => by simp only [laws_sameLists.l0]; rw [if_neg (by omega)]) (Ev.now _)
 | succ d ih =>
  intro i hd
  refine Ev.step (f := fun k => (laws_sameInts.f k (xs.getD i []) (xs.getD i [])).bind fun t => if t = true then laws_sameLists.l0 k xs xs (xs.length : Int) ((i + 1 : Nat) : Int) else some false) (fun k => ?_) (Ev.bind (sameInts_ev _ (hi _ (mem_getD [] (by omega)))) (by simpa using ih (i + 1) (by omega)))
  simp only [laws_sameLists.l0]
  rw [if_pos (by omega), if_pos (by omega), if_pos (by omega), if_pos (by omega), rdLL_nat, wrap_next (n := xs.length) (by omega) hm]
theorem sameLists_ev (xs : List (List Int)) (hm : xs.length ≤ 9223372036854775807) (hi : ∀ y ∈ xs, y.length ≤ 9223372036854775807) : Ev (fun k => laws_sameLists.f k xs xs) true := by
 refine Ev.congr (f := fun k => laws_sameLists.l0 k xs xs (xs.length : Int) ((0 : Nat) : Int)) (fun k => ?_) (sameLists_l xs hm hi _ 0 rfl)
 unfold laws_sameLists.f
 rw [if_pos rfl]
 rfl

theorem lawHas_ev (l : List Int) (n : Int) (hm : l.length ≤ 9223372036854775807) : Ev (fun k => laws_has.f k l n) (Mine.anyP (fun x => x == n) l) := by
 have h := loop_any (fun k i => laws_has.l0 k n l (l.length : Int) i) l 0 (fun x => x == n) true false (fun i hi => ⟨fun hb => ?_, fun hb r hr => ?_⟩) (fun _ => ?_)
 ·refine Ev.congr (f := fun k => laws_has.l0 k n l (l.length : Int) 0) (fun k => rfl) ?_
  refine cast (congrArg (fun r => Ev _ r) ?_) h
  cases Mine.anyP (fun x => x == n) l <;> rfl
 ·have e : l.getD i 0 = n := by simpa using hb
  exact Ev.step (f := fun _ => some true) (fun k => by simp only [laws_has.l0]; rw [if_pos (by omega), if_pos (by omega), if_pos (by omega), rd_nat, if_pos e]) (Ev.now _)
 ·have e : ¬ l.getD i 0 = n := by simpa using hb
  exact Ev.step (f := fun k => laws_has.l0 k n l (l.length : Int) ((i + 1 : Nat) : Int)) (fun k => by simp only [laws_has.l0]; rw [if_pos (by omega), if_pos (by omega), if_pos (by omega), rd_nat, if_neg e, wrap_next hi hm]) hr
 ·exact Ev.step (f := fun _ => some false) (fun k => by simp only [laws_has.l0]; rw [if_neg (by omega)]) (Ev.now _)
theorem setG_len (k : Int) : ∀ (pl c : List Int), (laws_FnComponents.setG k pl c).length = pl.length
 | _, [] => rfl
 | pl, p :: ps => by rw [laws_FnComponents.setG, setG_len k, List.length_set]
theorem setG_far (k : Int) (q : Int) (h0 : 0 ≤ q) : ∀ (pl c : List Int), q ∉ c → (∀ p ∈ c, 0 ≤ p) → rd (laws_FnComponents.setG k pl c) q = rd pl q
 | _, [], _, _ => rfl
 | pl, p :: ps, hq, hp => by
  rw [laws_FnComponents.setG, setG_far k q h0 _ ps (fun h => hq (List.mem_cons_of_mem _ h)) (fun x hx => hp x (List.mem_cons_of_mem _ hx))]
  have h1 := hp p (List.mem_cons_self ..)
  have h2 : q ≠ p := fun e => hq (by rw [e]; exact List.mem_cons_self ..)
  unfold rd
  rw [List.getD_eq_getElem?_getD, List.getD_eq_getElem?_getD, List.getElem?_set_ne (by omega)]
theorem setG_hit (k : Int) (q : Int) : ∀ (pl c : List Int), q ∈ c → (∀ p ∈ c, 0 ≤ p ∧ p < (pl.length : Int)) → rd (laws_FnComponents.setG k pl c) q = k
 | _, [], hq, _ => by simp at hq
 | pl, p :: ps, hq, hp => by
  have h1 := hp p (List.mem_cons_self ..)
  rw [laws_FnComponents.setG]
  by_cases hin : q ∈ ps
  ·exact setG_hit k q _ ps hin (fun x hx => by rw [List.length_set]; exact hp x (List.mem_cons_of_mem _ hx))
  ·have e : q = p := by
    rcases List.mem_cons.1 hq with e | e
    ·exact e
    ·exact absurd e hin
   subst e
   rw [setG_far k q h1.1 _ ps hin (fun x hx => (hp x (List.mem_cons_of_mem _ hx)).1)]
   unfold rd
   rw [List.getD_eq_getElem?_getD, List.getElem?_set_self (by omega)]
   rfl
theorem plF_far (q : Int) (h0 : 0 ≤ q) : ∀ (C : List (List Int)) (pl : List Int) (k : Nat), (∀ c ∈ C, q ∉ c) → (∀ c ∈ C, ∀ p ∈ c, 0 ≤ p) → rd (laws_FnComponents.plF pl k C) q = rd pl q
 | [], _, _, _, _ => rfl
 | c :: cs, pl, k, hq, hp => by
  rw [laws_FnComponents.plF, plF_far q h0 cs _ _ (fun d hd => hq d (List.mem_cons_of_mem _ hd)) (fun d hd => hp d (List.mem_cons_of_mem _ hd)), setG_far _ q h0 _ c (hq c (List.mem_cons_self ..)) (hp c (List.mem_cons_self ..))]
theorem plF_at (q : Int) : ∀ (C : List (List Int)) (pl : List Int) (k : Nat), C.Pairwise Apart → (∀ c ∈ C, ∀ p ∈ c, 0 ≤ p ∧ p < (pl.length : Int)) → ∀ j, j < C.length → q ∈ C.getD j [] → rd (laws_FnComponents.plF pl k C) q = ((k + j : Nat) : Int)
 | [], _, _, _, _, j, hj, _ => by simp at hj
 | c :: cs, pl, k, ha, hp, 0, _, hq => by
  have hqc : q ∈ c := hq
  have h1 := hp c (List.mem_cons_self ..) q hqc
  obtain ⟨ha1, ha2⟩ := List.pairwise_cons.1 ha
  rw [laws_FnComponents.plF, plF_far q h1.1 cs _ _ (fun d hd hx => ha1 d hd q hqc hx) (fun d hd p hpd => (hp d (List.mem_cons_of_mem _ hd) p hpd).1), setG_hit _ q pl c hqc (hp c (List.mem_cons_self ..))]
  rfl
 | c :: cs, pl, k, ha, hp, j + 1, hj, hq => by
  obtain ⟨ha1, ha2⟩ := List.pairwise_cons.1 ha
  rw [laws_FnComponents.plF, plF_at q cs _ (k + 1) ha2 (fun d hd p hpd => by rw [setG_len]; exact hp d (List.mem_cons_of_mem _ hd) p hpd) j (by simpa using hj) hq]
  omega
section
variable {g : List (List Int)}
def placeG (g : List (List Int)) (p : Int) : Int := rd (laws_FnComponents.plF (List.replicate g.length 0) 0 (compsG g)) p
theorem apartG (hg : goodG g = true) : (compsG g).Pairwise Apart := List.Pairwise.imp (fun {a b} h => h.2) (compsG_pw hg)
theorem placeG_at (hg : goodG g = true) {p : Int} {j : Nat} (hj : j < (compsG g).length) (hp : p ∈ (compsG g).getD j []) : placeG g p = (j : Int) := by
 unfold placeG
 rw [plF_at p (compsG g) _ 0 (apartG hg) (fun c hc x hx => by rw [List.length_replicate]; exact ((compsG_small g hg).2 c hc).2.2 x hx) j hj hp]
 omega
theorem placeG_of (hg : goodG g = true) {p : Int} (h0 : 0 ≤ p) (h1 : p < (g.length : Int)) : ∃ j, j < (compsG g).length ∧ (compsG g).getD j [] = groupL g p ∧ p ∈ (compsG g).getD j [] ∧ placeG g p = (j : Int) := by
 obtain ⟨h2, h3⟩ := comps_cover hg p h0 h1
 obtain ⟨j, hj, he⟩ := List.getElem_of_mem h2
 have e : (compsG g).getD j [] = groupL g p := by rw [List.getD_eq_getElem?_getD, List.getElem?_eq_getElem hj]; exact he
 have hm : p ∈ (compsG g).getD j [] := by rw [e]; exact h3
 exact ⟨j, hj, e, hm, placeG_at hg hj hm⟩
theorem edge_place (hg : goodG g = true) {x y : Int} (h0 : 0 ≤ x) (h1 : x < (g.length : Int)) (he : edge g x y) : 0 ≤ y ∧ y < (g.length : Int) ∧ placeG g y ≤ placeG g x := by
 have hr : 0 ≤ y ∧ y < (g.length : Int) := by
  unfold edge at he
  exact (goodG_rows hg).2 _ (Mine.getD_mem g [] x.toNat (by omega)) y he
 refine ⟨hr.1, hr.2, ?_⟩
 obtain ⟨i, hi, _, hxi, hpx⟩ := placeG_of hg h0 h1
 obtain ⟨j, hj, _, hyj, hpy⟩ := placeG_of hg hr.1 hr.2
 rw [hpx, hpy]
 by_cases hij : i < j
 ·exfalso
  have h2 := (List.pairwise_iff_getElem.1 (compsG_pw hg)) i j hi hj hij
  have e1 : (compsG g)[i] = (compsG g).getD i [] := by rw [List.getD_eq_getElem?_getD, List.getElem?_eq_getElem hi]; rfl
  have e2 : (compsG g)[j] = (compsG g).getD j [] := by rw [List.getD_eq_getElem?_getD, List.getElem?_eq_getElem hj]; rfl
  rw [e1, e2] at h2
  exact h2.1 x hxi y hyj he
 ·omega
theorem reach_place (hg : goodG g = true) {p q : Int} (h0 : 0 ≤ p) (h1 : p < (g.length : Int)) (hq : q ∈ reachL g p) : placeG g q ≤ placeG g p :=
 reach_ind hg h0 h1 (fun z => placeG g z ≤ placeG g p) (Int.le_refl _) (fun x y hx0 hx1 hx he => Int.le_trans (edge_place hg hx0 hx1 he).2.2 hx) hq
theorem same_place (hg : goodG g = true) {p q : Int} (hp0 : 0 ≤ p) (hp1 : p < (g.length : Int)) (hq0 : 0 ≤ q) (hq1 : q < (g.length : Int)) (h : placeG g p = placeG g q) : q ∈ reachL g p := by
 obtain ⟨i, hi, ei, hpi, e1⟩ := placeG_of hg hp0 hp1
 obtain ⟨j, hj, ej, hqj, e2⟩ := placeG_of hg hq0 hq1
 have hij : i = j := by omega
 subst hij
 rw [ei] at hqj
 exact ((mem_groupL g p q).1 hqj).1
theorem sum_comps (hg : goodG g = true) : ((compsG g).map List.length).sum = g.length := by
 rw [← List.length_flatten]
 have hnd : (compsG g).flatten.Nodup := by
  rw [List.Nodup, List.pairwise_flatten]
  refine ⟨fun a ha => List.Pairwise.imp (fun {a b} h e => by omega) ((compsG_small g hg).2 a ha).2.1, List.Pairwise.imp (fun {a b} h x hx y hy e => ?_) (apartG hg)⟩
  subst e
  exact h x hx hy
 have h1 := List.Nodup.length_le_of_subset (l₂ := allP g.length) hnd (fun x hx => by
  obtain ⟨c, hc, hxc⟩ := List.mem_flatten.1 hx
  exact (allP_mem g.length x).2 (((compsG_small g hg).2 c hc).2.2 x hxc))
 have h2 := List.Nodup.length_le_of_subset (l₂ := (compsG g).flatten) (allP_nodup g.length) (fun x hx => by
  have h3 := (allP_mem g.length x).1 hx
  obtain ⟨h4, h5⟩ := comps_cover hg x h3.1 h3.2
  exact List.mem_flatten.2 ⟨_, h4, h5⟩)
 rw [allP_len] at h1 h2
 omega
end
theorem drawReached_ok (l : List Int) (hu : ∀ y ∈ l, 0 ≤ y ∧ y ≤ 255) : ∃ g p, Ev (fun k => spec_DrawReachedFrom.f k l) (g, p) ∧ g.length ≤ 41 ∧ ∀ y ∈ g, y.length ≤ 5 := by
 obtain ⟨g, a, s, hg, h1, h2, h3, h4⟩ := graph_ok l hu 0 0 (by omega) (by omega)
 have hw : wrap64 ((g.length : Int) + 1) = (g.length : Int) + 1 := by unfold wrap64; omega
 obtain ⟨p, a1, s1, e1, p1, p2, p3, p4⟩ := pick_ok l a s ((g.length : Int) + 1) hu (by omega) (by omega) (by omega) (by omega)
 obtain ⟨q, a2, s2, e2, q1, q2, q3, q4⟩ := pick_ok l a1 s1 20 hu (by omega) (by omega) (by omega) (by omega)
 refine ⟨g, wrap64 (p - wrap64 (Int.tdiv q 19)), ?_, h1, h2⟩
 unfold spec_DrawReachedFrom.f
 refine Ev.bind hg ?_
 simp only [hw, e1, Option.bind_some, e2]
 exact Ev.now _
theorem closedL_ok (l : List Int) (hu : ∀ y ∈ l, 0 ≤ y ∧ y ≤ 255) : ∀ (d i : Nat) (a s : Int), 0 ≤ a → a + 2 * (d : Int) ≤ 1000000000 → ∃ r, spec_DrawClosedIn.l l d i a s = some r ∧ r.1.length ≤ d
 | 0, i, a, s, _, _ => ⟨_, rfl, by simp⟩
 | d + 1, i, a, s, h0, h1 => by
  obtain ⟨b, a1, s1, e1, p1, p2⟩ := one_ok l a s 4 hu h0 (by omega) (by omega) (by omega)
  obtain ⟨r, hr, hl⟩ := closedL_ok l hu d (i + 1) a1 s1 (by omega) (by omega)
  rw [spec_DrawClosedIn.l, e1, Option.bind_some]
  dsimp only
  rw [hr]
  refine ⟨_, rfl, ?_⟩
  dsimp only
  split
  ·omega
  ·rw [List.length_cons]; omega
theorem drawClosed_ok (l : List Int) (hu : ∀ y ∈ l, 0 ≤ y ∧ y ≤ 255) : ∃ g h, Ev (fun k => spec_DrawClosedIn.f k l) (g, h) ∧ g.length ≤ 41 ∧ (∀ y ∈ g, y.length ≤ 5) ∧ h.length ≤ 41 := by
 obtain ⟨g, a, s, hg, h1, h2, h3, h4⟩ := graph_ok l hu 0 0 (by omega) (by omega)
 obtain ⟨r, hr, hl⟩ := closedL_ok l hu g.length 0 a s (by omega) (by omega)
 refine ⟨g, r.1, ?_, h1, h2, by omega⟩
 unfold spec_DrawClosedIn.f
 refine Ev.bind hg ?_
 simp only [if_pos (show g.length ≤ 1000 by omega), hr, Option.bind_some]
 exact Ev.now _
theorem FnComponents : laws_FnComponents.Pure := by
 intro l0 l1 h0 h1
 have hu := u8s h0.2
 have hv := u8s h1.2
 unfold laws_FnComponents.Facts
 by_cases hb : laws_big.f l0 l1 = some true
 ·exact Or.inl ⟨hb, trivial⟩
 refine Or.inr ⟨?_, ?_⟩
 ·unfold laws_big.f at hb ⊢
  split
  ·rename_i h; rw [if_pos h] at hb; exact absurd rfl hb
  ·rename_i h; rw [if_neg h] at hb
   cases hd : decide ((l1.length : Int) > wrap64 (1048576 - (l0.length : Int))) with
   | true => rw [hd] at hb; exact absurd rfl hb
   | false => rfl
 obtain ⟨g, a, s, hg, g1, g2, g3, g4⟩ := graph_ok l0 hu 0 0 (by omega) (by omega)
 have hD : Ev (fun k => spec_DrawComponentsOf.f k l0) g := by
  unfold spec_DrawComponentsOf.f spec_DrawGoodGraph.f
  exact Ev.bind (Ev.bind hg (Ev.now g)) (Ev.now _)
 have hi : ∀ y ∈ g, y.length ≤ 9223372036854775807 := fun y hy => by have := g2 y hy; omega
 obtain ⟨hh, kk, hR, r1, r2⟩ := drawReached_ok l1 hv
 have hi2 : ∀ y ∈ hh, y.length ≤ 9223372036854775807 := fun y hy => by have := r2 y hy; omega
 obtain ⟨ee, hv2, hC, c1, c2, c3⟩ := drawClosed_ok l1 hv
 have hi3 : ∀ y ∈ ee, y.length ≤ 9223372036854775807 := fun y hy => by have := c2 y hy; omega
 have hR1 := implReachedFrom_ev hh kk hi2
 have hR2 := specReachedFrom_ev hh kk (by omega) hi2
 have hRl := reachR_len hh kk hi2
 generalize reachR hh kk = RQ at hR1 hR2 hRl
 obtain ⟨RQ1, RQ2⟩ := RQ
 dsimp only at hRl
 have hC1 := implClosedIn_ev ee hv2 hi3 (by omega)
 have hC2 := specClosedIn_ev ee hv2 (by omega) hi3 (by omega)
 have hCl := closedR_len ee hv2
 generalize closedR ee hv2 = CQ at hC1 hC2 hCl
 obtain ⟨CQ1, CQ2⟩ := CQ
 dsimp only at hCl
 have hs1 := sameInts_ev RQ1 (by omega)
 have hs2 := sameInts_ev CQ1 (by omega)
 have hG1 : impl_GoodGraph.f g = some (goodG g) := implGoodGraph_f g
 have hG2 := specGoodGraph_ev g (by omega) hi
 have hO1 := implComponentsOf_ev g hi
 have hO2 := specComponentsOf_ev g (by omega) hi
 refine ⟨g, hD.rounds, ?_⟩
 by_cases hgd : goodG g = true
 ·have hr : compR g = (compsG g, true) := by unfold compR; rw [if_pos hgd]
  rw [hr] at hO1 hO2
  obtain ⟨k1, k2⟩ := compsG_small g hgd
  have hS := sameLists_ev (compsG g) (by omega) (fun y hy => by have := (k2 y hy).1; omega)
  refine Or.inl ⟨_, hO1.rounds, _, hO2.rounds, hS.rounds, _, hG1, hG2.rounds, ?_⟩
  by_cases hn : (g.length : Int) ≤ 10
  ·refine Or.inl ⟨hn, ⟨by omega, fun c hc => ⟨by have := (k2 c hc).1; omega, fun p hp => (k2 c hc).2.2 p hp⟩, sum_comps hgd⟩, (List.range g.length).map (fun p : Nat => reachL g (p : Int)), ⟨?_, ?_⟩, hh, kk, hR.rounds, _, _, hR1.rounds, _, hR2.rounds, ee, hv2, hC.rounds, _, _, hC1.rounds, _, hC2.rounds, hs1.rounds, hs2.rounds, trivial⟩
   ·intro p hp
    have e : ((List.range g.length).map (fun p : Nat => reachL g (p : Int))).getD p [] = reachL g (p : Int) := by rw [List.getD_eq_getElem?_getD, List.getElem?_map, List.getElem?_range hp]; rfl
    rw [e]
    have h2 := implReachedFrom_ev g (p : Int) hi
    have hw : wrap64 ((g.length : Int) - 1) = (g.length : Int) - 1 := by unfold wrap64; omega
    have h3 : reachR g (p : Int) = (reachL g (p : Int), true) := by
     unfold reachR
     rw [if_pos ⟨hgd, by rw [hw]; exact Mine.inB_iff.2 (by omega)⟩]
    rw [h3] at h2
    exact h2.rounds
   ·intro p q hp hq
    have e1 : ((List.range g.length).map (fun p : Nat => reachL g (p : Int))).getD p [] = reachL g (p : Int) := by rw [List.getD_eq_getElem?_getD, List.getElem?_map, List.getElem?_range hp]; rfl
    have e2 : ((List.range g.length).map (fun p : Nat => reachL g (p : Int))).getD q [] = reachL g (q : Int) := by rw [List.getD_eq_getElem?_getD, List.getElem?_map, List.getElem?_range hq]; rfl
    rw [e1, e2]
    have hp0 : (0 : Int) ≤ (p : Int) := by omega
    have hp1 : (p : Int) < (g.length : Int) := by omega
    have hq0 : (0 : Int) ≤ (q : Int) := by omega
    have hq1 : (q : Int) < (g.length : Int) := by omega
    obtain ⟨Ka, ha⟩ := lawHas_ev (reachL g (p : Int)) (q : Int) (by have := reachL_len g hgd hi _ hp0 hp1; omega)
    obtain ⟨Kb, hb2⟩ := lawHas_ev (reachL g (q : Int)) (p : Int) (by have := reachL_len g hgd hi _ hq0 hq1; omega)
    refine ⟨Ka + Kb, _, _, ha _ (by omega), hb2 _ (by omega), ?_, ?_⟩
    ·rw [Bool.eq_iff_iff, Bool.and_eq_true, anyP_mem, anyP_mem, decide_eq_true_eq]
     constructor
     ·rintro ⟨x, y⟩
      have h2 := reach_place hgd hp0 hp1 x
      have h3 := reach_place hgd hq0 hq1 y
      unfold placeG at h2 h3
      omega
     ·intro h
      exact ⟨same_place hgd hp0 hp1 hq0 hq1 h, same_place hgd hq0 hq1 hp0 hp1 h.symm⟩
    ·intro x
     rw [anyP_mem] at x
     exact reach_place hgd hp0 hp1 x
  ·exact Or.inr ⟨by omega, hh, kk, hR.rounds, _, _, hR1.rounds, _, hR2.rounds, ee, hv2, hC.rounds, _, _, hC1.rounds, _, hC2.rounds, hs1.rounds, hs2.rounds, trivial⟩
 ·have hr : compR g = ([], false) := by unfold compR; rw [if_neg hgd]
  rw [hr] at hO1 hO2
  have hS := sameLists_ev ([] : List (List Int)) (by simp) (by simp)
  exact Or.inr ⟨_, hO1.rounds, _, hO2.rounds, hS.rounds, _, hG1, hG2.rounds, hh, kk, hR.rounds, _, _, hR1.rounds, _, hR2.rounds, ee, hv2, hC.rounds, _, _, hC1.rounds, _, hC2.rounds, hs1.rounds, hs2.rounds, trivial⟩

end Go.Proofs.Ytpboalgecejoeaa.Pure
