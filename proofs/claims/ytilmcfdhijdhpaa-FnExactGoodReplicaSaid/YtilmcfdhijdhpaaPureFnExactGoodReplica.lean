/- The law FnExactGoodReplica holds, for every input. -/
import Derived.Test.YtilmcfdhijdhpaaVFnExactGoodReplica
import Derived.Test.YtilmcfdhijdhpaaQFnExactGoodReplicax16
namespace Go.Proofs.Ytilmcfdhijdhpaa.Pure
open Go.RowKit Go.Proofs.Ytilmcfdhijdhpaa.QFnExactGoodReplica Go.Proofs.YtilmcfdhijdhpaaW.PrintWords Go.Proofs.YtilmcfdhijdhpaaW.PrintLast Go.Proofs.YtilmcfdhijdhpaaW.PrintMore
set_option linter.unusedVariables false
set_option linter.unusedSimpArgs false

theorem wrap_next {i : Nat} {n : Nat} (h : i < n) (hn : n ≤ 9223372036854775807) : wrap64 ((i : Int) + 1) = ((i + 1 : Nat) : Int) := by
 unfold wrap64
 omega
theorem rd_nat (l : List Int) (i : Nat) : rd l (i : Int) = l.getD i 0 := by unfold rd; rw [Int.toNat_natCast]
theorem wrap_small {x : Int} (h0 : -9223372036854775808 ≤ x) (h1 : x ≤ 9223372036854775807) : wrap64 x = x := by unfold wrap64; omega
theorem Ev.const {α : Type} {o : Option α} {a : α} (h : o = some a) : Ev (fun _ => o) a := ⟨0, fun _ _ => h⟩
theorem Ev.map {α β : Type} {g : Nat → Option α} {a : α} (h : Ev g a) (f : α → β) : Ev (fun k => (g k).bind fun t => some (f t)) (f a) := by
 obtain ⟨K, h⟩ := h
 exact ⟨K, fun k hk => by show (g k).bind _ = _; rw [h k hk, Option.bind_some]⟩
theorem loop_any {α ρ : Type} (F : Nat → Int → Option ρ) (xs : List α) (d : α) (p : α → Bool) (hit miss : ρ)
  (hs : ∀ i, i < xs.length → (p (xs.getD i d) = true → Ev (fun k => F k (i : Int)) hit) ∧ (p (xs.getD i d) = false → ∀ r, Ev (fun k => F k ((i + 1 : Nat) : Int)) r → Ev (fun k => F k (i : Int)) r))
  (he : Mine.anyP p xs = false → Ev (fun k => F k (xs.length : Int)) miss) : Ev (fun k => F k 0) (if Mine.anyP p xs = true then hit else miss) := by
 have key : ∀ (n i : Nat), xs.length - i = n → i ≤ xs.length → Mine.anyP p (xs.take i) = false → Ev (fun k => F k (i : Int)) (if Mine.anyP p (xs.drop i) = true then hit else miss) := by
  intro n
  induction n with
  | zero =>
   intro i hn hi hb
   obtain rfl : i = xs.length := by omega
   rw [List.drop_eq_nil_of_le (Nat.le_refl _)]
   rw [List.take_of_length_le (Nat.le_refl _)] at hb
   simpa [Mine.anyP] using he hb
  | succ n ih =>
   intro i hn hi hb
   rw [Mine.drop_at xs d i (by omega), Mine.anyP_cons]
   cases hp : p (xs.getD i d) with
   | true => simpa using (hs i (by omega)).1 hp
   | false =>
    have hb' : Mine.anyP p (xs.take (i + 1)) = false := by
     have e : xs.take (i + 1) = xs.take i ++ [xs.getD i d] := by
      rw [List.take_add_one, List.getD_eq_getElem?_getD, List.getElem?_eq_getElem (show i < xs.length by omega)]; rfl
     rw [e]
     unfold Mine.anyP at hb ⊢
     rw [List.any_append, hb, List.any_cons, hp]
     rfl
    simpa using (hs i (by omega)).2 hp _ (ih (i + 1) (by omega) (by omega) hb')
 simpa using key xs.length 0 (by omega) (by omega) (by simp [Mine.anyP])
def scan {σ α ρ : Type} (step : α → σ → Sum σ ρ) (fin : σ → ρ) : List α → σ → ρ
 | [], s => fin s
 | x :: xs, s => match step x s with
  | .inl s' => scan step fin xs s'
  | .inr r => r
theorem loop_scan {σ α ρ : Type} (F : Nat → σ → Int → Option ρ) (xs : List α) (d : α) (step : α → σ → Sum σ ρ) (fin : σ → ρ) (P : Nat → σ → Prop)
  (hs : ∀ (i : Nat) (s : σ), i < xs.length → P i s → (∀ s', step (xs.getD i d) s = .inl s' → P (i + 1) s' ∧ ∀ r, Ev (fun k => F k s' ((i + 1 : Nat) : Int)) r → Ev (fun k => F k s (i : Int)) r) ∧ (∀ r, step (xs.getD i d) s = .inr r → Ev (fun k => F k s (i : Int)) r))
  (he : ∀ s, P xs.length s → Ev (fun k => F k s (xs.length : Int)) (fin s)) (s : σ) (h0 : P 0 s) : Ev (fun k => F k s 0) (scan step fin xs s) := by
 have key : ∀ (n i : Nat) (s : σ), xs.length - i = n → i ≤ xs.length → P i s → Ev (fun k => F k s (i : Int)) (scan step fin (xs.drop i) s) := by
  intro n
  induction n with
  | zero =>
   intro i s hn hi hp
   obtain rfl : i = xs.length := by omega
   rw [List.drop_eq_nil_of_le (Nat.le_refl _)]
   exact he s hp
  | succ n ih =>
   intro i s hn hi hp
   rw [Mine.drop_at xs d i (by omega), scan]
   cases hst : step (xs.getD i d) s with
   | inl s' => exact ((hs i s (by omega) hp).1 s' hst).2 _ (ih (i + 1) s' (by omega) (by omega) ((hs i s (by omega) hp).1 s' hst).1)
   | inr r => exact (hs i s (by omega) hp).2 r hst
 simpa using key xs.length 0 s (by omega) (by omega) h0

theorem loop_sz {α : Type} (F : Nat → Int → Int → Option Int) (g : Nat → α → Int → Option Int) (xs : List α) (d : α) (P : α → Prop)
  (hb : ∀ k (i : Nat) a, i < xs.length → 0 ≤ a → a ≤ 1048576 → F (k + 1) a (i : Int) = (g k (xs.getD i d) a).bind fun t => if t < 0 then some (-1) else F k t ((i + 1 : Nat) : Int))
  (he : ∀ k a, F (k + 1) a (xs.length : Int) = some a)
  (hg : ∀ x ∈ xs, ∀ a, 0 ≤ a → a ≤ 1048576 → Ev (fun k => g k x a) (-1) ∨ ∃ b, 0 ≤ b ∧ b ≤ a ∧ Ev (fun k => g k x a) b ∧ P x) (a : Int) (h0 : 0 ≤ a) (h1 : a ≤ 1048576) :
  Ev (fun k => F k a 0) (-1) ∨ ∃ b, 0 ≤ b ∧ b ≤ a ∧ Ev (fun k => F k a 0) b ∧ ∀ x ∈ xs, P x := by
 have key : ∀ (n i : Nat) (a : Int), xs.length - i = n → i ≤ xs.length → 0 ≤ a → a ≤ 1048576 → Ev (fun k => F k a (i : Int)) (-1) ∨ ∃ b, 0 ≤ b ∧ b ≤ a ∧ Ev (fun k => F k a (i : Int)) b ∧ ∀ x ∈ xs.drop i, P x := by
  intro n
  induction n with
  | zero =>
   intro i a hn hi h0 h1
   obtain rfl : i = xs.length := by omega
   exact .inr ⟨a, h0, Int.le_refl _, Ev.step (f := fun _ => some a) (fun k => he k a) (Ev.now _), by rw [List.drop_length]; intro x hx; cases hx⟩
  | succ n ih =>
   intro i a hn hi h0 h1
   have hlt : i < xs.length := by omega
   have hmem : xs.getD i d ∈ xs := by rw [List.getD_eq_getElem?_getD, List.getElem?_eq_getElem hlt]; exact List.getElem_mem _
   rcases hg _ hmem a h0 h1 with h | ⟨b, hb0, hb1, h, hP⟩
   ·exact .inl (Ev.step (fun k => hb k i a hlt h0 h1) (Ev.bind h (by simp only [if_pos (show (-1 : Int) < 0 by omega)]; exact Ev.now _)))
   ·have st : ∀ r, Ev (fun k => F k b ((i + 1 : Nat) : Int)) r → Ev (fun k => F k a (i : Int)) r := fun r hr => Ev.step (fun k => hb k i a hlt h0 h1) (Ev.bind h (by simp only [if_neg (show ¬ b < 0 by omega)]; exact hr))
    rcases ih (i + 1) b (by omega) (by omega) hb0 (by omega) with hr | ⟨c, hc0, hc1, hr, hp⟩
    ·exact .inl (st _ hr)
    ·refine .inr ⟨c, hc0, by omega, st _ hr, ?_⟩
     rw [Mine.drop_at xs d i hlt]
     intro x hx
     rcases List.mem_cons.1 hx with rfl | hx
     ·exact hP
     ·exact hp x hx
 simpa using key xs.length 0 a rfl (by omega) h0 h1
theorem loop_to {α β : Type} (F : Nat → List β → Int → Option (List β)) (xs : List α) (f : α → β) (d : α) (e : β)
  (hs : ∀ (i : Nat) acc r, i < xs.length → acc.length = xs.length → Ev (fun k => F k (acc.set i (f (xs.getD i d))) ((i + 1 : Nat) : Int)) r → Ev (fun k => F k acc (i : Int)) r)
  (he : ∀ acc, Ev (fun k => F k acc (xs.length : Int)) acc) : Ev (fun k => F k (List.replicate xs.length e) 0) (xs.map f) := by
 have key : ∀ (n i : Nat) (acc : List β), xs.length - i = n → i ≤ xs.length → acc.length = (xs.map f).length → acc.take i = (xs.map f).take i → Ev (fun k => F k acc (i : Int)) (xs.map f) := by
  intro n
  induction n with
  | zero =>
   intro i acc hn hi hl ht
   have e : acc = xs.map f := Mine.take_all (i := i) (by rw [List.length_map]; omega) hl ht
   obtain rfl : i = xs.length := by omega
   have := he acc
   rw [← e]; exact this
  | succ n ih =>
   intro i acc hn hi hl ht
   have hlt : i < xs.length := by omega
   have hq := Mine.take_set (xs.map f) acc e i (by rw [List.length_map]; exact hlt) hl ht
   have hg : (xs.map f).getD i e = f (xs.getD i d) := by simp [List.getD_eq_getElem?_getD, hlt]
   rw [hg] at hq
   exact hs i acc _ hlt (by rw [hl, List.length_map]) (ih (i + 1) _ (by omega) (by omega) (by rw [List.length_set]; exact hl) hq)
 simpa using key xs.length 0 (List.replicate xs.length e) rfl (by omega) (by simp) (by simp)
theorem loop_up {ρ : Type} (F : Nat → Int → Option ρ) (n : Nat) (r : ρ) (hs : ∀ (i : Nat), i < n → Ev (fun k => F k ((i + 1 : Nat) : Int)) r → Ev (fun k => F k (i : Int)) r) (he : Ev (fun k => F k (n : Int)) r) : Ev (fun k => F k 0) r := by
 have key : ∀ (d i : Nat), n - i = d → i ≤ n → Ev (fun k => F k (i : Int)) r := by
  intro d
  induction d with
  | zero => intro i hd hi; obtain rfl : i = n := (by omega); exact he
  | succ d ih => intro i hd hi; exact hs i (by omega) (ih (i + 1) (by omega) (by omega))
 simpa using key n 0 (by omega) (by omega)
theorem mem_at {α : Type} {l : List α} {i : Nat} (d : α) (h : i < l.length) : l.getD i d ∈ l := by
 rw [List.getD_eq_getElem?_getD, List.getElem?_eq_getElem h]; exact List.getElem_mem _

theorem rdR_nat (l : List S39) (i : Nat) : rd_T39 l (i : Int) = l.getD i z39 := by unfold rd_T39; rw [Int.toNat_natCast]
theorem rdRR_nat (l : List (List S39)) (i : Nat) : rd_L11 l (i : Int) = l.getD i [] := by unfold rd_L11; rw [Int.toNat_natCast]
def okR (x : S39) : Prop := x.f4.f1.length ≤ 1048576
def okRS (y : List S39) : Prop := y.length ≤ 1048576 ∧ ∀ x ∈ y, okR x
def okRSS (l : List (List S39)) : Prop := l.length ≤ 1048576 ∧ ∀ y ∈ l, okRS y

def goodS (c : S28) : Bool := Mine.goodCmdB c.f0 c.f1 c.f2 c.f3 c.f4
theorem rdC_nat (l : List S28) (i : Nat) : rd_T28 l (i : Int) = l.getD i z28 := by unfold rd_T28; rw [Int.toNat_natCast]
theorem getD_set_self {α : Type} (xs : List α) (i : Nat) (v d : α) (h : i < xs.length) : (xs.set i v).getD i d = v := by simp [List.getD_eq_getElem?_getD, h]
theorem getD_map {α β : Type} (f : α → β) (xs : List α) (i : Nat) (a : α) (b : β) (h : i < xs.length) : (xs.map f).getD i b = f (xs.getD i a) := by
 simp [List.getD_eq_getElem?_getD, h]

def cv (x : S104) : S28 := ⟨x.f0, x.f1, x.f2, x.f3, x.f4⟩
theorem rdA_nat (l : List S104) (i : Nat) : rd_T104 l (i : Int) = l.getD i z104 := by unfold rd_T104; rw [Int.toNat_natCast]

theorem szIntS_f (l : List Int) (a : Int) (h0 : 0 ≤ a) (h1 : a ≤ 1048576) (hl : l.length ≤ 9223372036854775807) : laws_szIntS.f l a = some (if (l.length : Int) ≤ a then a - (l.length : Int) else -1) := by
 have hw : wrap64 (a - (l.length : Int)) = a - (l.length : Int) := by unfold wrap64; omega
 unfold laws_szIntS.f
 rw [hw]
 by_cases h : (l.length : Int) ≤ a
 ·rw [if_neg (by omega), if_pos h]
 ·rw [if_pos (by omega), if_neg h]

theorem szAttr_f (s : Int) (l : List Int) (a : Int) (h0 : 0 ≤ a) (h1 : a ≤ 1048576) (hl : l.length ≤ 9223372036854775807) : laws_szAttr.f s l a = some (if (l.length : Int) ≤ a then a - (l.length : Int) else -1) := by
 unfold laws_szAttr.f
 rw [szIntS_f l a h0 h1 hl, Option.bind_some]
 by_cases h : (l.length : Int) ≤ a
 ·rw [if_pos h, if_neg (by omega)]
 ·rw [if_neg h, if_pos (by omega)]

theorem toIntS_l (xs : List Int) (hm : xs.length ≤ 9223372036854775807) : ∀ (d i : Nat) (acc : List Int), xs.length - i = d → i ≤ xs.length → acc.length = xs.length → acc.take i = xs.take i → Ev (fun k => laws_toIntS.l0 k xs acc (i : Int)) xs := by
 intro d
 induction d with
 | zero =>
  intro i acc hd hi hl ht
  have e : acc = xs := Mine.take_all (i := i) (by omega) hl ht
  exact Ev.step (f := fun _ => some xs) (fun k => by simp only [laws_toIntS.l0]; rw [if_neg (by omega), e]) (Ev.now _)
 | succ d ih =>
  intro i acc hd hi hl ht
  refine Ev.step (f := fun k => laws_toIntS.l0 k xs (acc.set i (xs.getD i 0)) ((i + 1 : Nat) : Int)) (fun k => ?_) (ih (i + 1) _ (by omega) (by omega) (by simpa using hl) (Mine.take_set xs acc 0 i (by omega) hl ht))
  simp only [laws_toIntS.l0]
  rw [if_pos (by omega), if_pos (by omega), if_pos (by omega), wrap_next (n := xs.length) (by omega) hm, rd_nat, Int.toNat_natCast]
theorem toIntS_ev (xs : List Int) (hm : xs.length ≤ 1048576) : Ev (fun k => laws_toIntS.f k xs) xs := by
 refine Ev.congr (f := fun k => laws_toIntS.l0 k xs (List.replicate xs.length 0) ((0 : Nat) : Int)) (fun k => ?_) (toIntS_l xs (by omega) _ 0 _ rfl (by omega) (by simp) (by simp))
 unfold laws_toIntS.f
 rw [if_pos (by omega), if_pos (by omega)]
 simp

theorem toAttr_ev (s : Int) (l : List Int) (hm : l.length ≤ 1048576) : Ev (fun k => laws_toAttr.f k s l) (s, l) := Ev.bind (toIntS_ev l hm) (Ev.now _)

theorem eqIntS_l (xs : List Int) (hm : xs.length ≤ 9223372036854775807) : ∀ (d i : Nat), xs.length - i = d → Ev (fun k => laws_eqIntS.l0 k xs xs (i : Int)) true := by
 intro d
 induction d with
 | zero => intro i hd; exact Ev.step (f := fun _ => some true) (fun k => by simp only [laws_eqIntS.l0]; rw [if_neg (by omega)]) (Ev.now _)
 | succ d ih =>
  intro i hd
  refine Ev.step (f := fun k => laws_eqIntS.l0 k xs xs ((i + 1 : Nat) : Int)) (fun k => ?_) (ih (i + 1) (by omega))
  simp only [laws_eqIntS.l0]
  rw [if_pos (by omega), if_pos (by omega), if_pos (by omega), if_pos trivial, wrap_next (n := xs.length) (by omega) hm]
theorem eqIntS_ev (xs : List Int) (hm : xs.length ≤ 9223372036854775807) : Ev (fun k => laws_eqIntS.f k xs xs) true := by
 refine Ev.congr (f := fun k => laws_eqIntS.l0 k xs xs ((0 : Nat) : Int)) (fun k => ?_) (eqIntS_l xs hm _ 0 rfl)
 unfold laws_eqIntS.f
 rw [if_pos rfl]
 rfl

theorem eqAttr_ev (s : Int) (l : List Int) (hm : l.length ≤ 9223372036854775807) : Ev (fun k => laws_eqAttr.f k s l s l) true := by
 unfold laws_eqAttr.f
 simp only [if_true]
 refine Ev.bind (eqIntS_ev l hm) ?_
 simp only [if_true]
 exact Ev.now _

def rc (x : S132) : S39 := ⟨x.f0, x.f1, x.f2, cv x.f3, ⟨x.f4.f0, x.f4.f1⟩⟩
theorem rdRA_nat (l : List S132) (i : Nat) : rd_T132 l (i : Int) = l.getD i z132 := by unfold rd_T132; rw [Int.toNat_natCast]
theorem rdRRA_nat (l : List (List S132)) (i : Nat) : rd_L5 l (i : Int) = l.getD i [] := by unfold rd_L5; rw [Int.toNat_natCast]
def smallR (x : S132) : Prop := x.f4.f1.length ≤ 1048576
def smallRS (y : List S132) : Prop := y.length ≤ 1048576 ∧ ∀ x ∈ y, smallR x
def smallRSS (l : List (List S132)) : Prop := l.length ≤ 1048576 ∧ ∀ y ∈ l, smallRS y
def wideR (x : S132) : Prop := x.f4.f1.length ≤ 9223372036854775807
def wideRS (y : List S132) : Prop := y.length ≤ 9223372036854775807 ∧ ∀ x ∈ y, wideR x
theorem szRow_or (x : S132) (hx : wideR x) (a : Int) (h0 : 0 ≤ a) (h1 : a ≤ 1048576) : ∃ t, laws_szRow.f x.f0 x.f1 x.f2 x.f3.f0 x.f3.f1 x.f3.f2 x.f3.f3 x.f3.f4 x.f4.f0 x.f4.f1 a = some t ∧ (t = -1 ∨ (0 ≤ t ∧ t ≤ a ∧ smallR x)) := by
 unfold laws_szRow.f
 rw [szAttr_f _ _ a h0 h1 hx, Option.bind_some]
 by_cases h : (x.f4.f1.length : Int) ≤ a
 ·rw [if_pos h, if_neg (by omega)]
  exact ⟨_, rfl, .inr ⟨by omega, by omega, by unfold smallR; omega⟩⟩
 ·rw [if_neg h, if_pos (by omega)]
  exact ⟨_, rfl, .inl rfl⟩
theorem szRowS_or (xs : List S132) (hx : wideRS xs) (a : Int) (h0 : 0 ≤ a) (h1 : a ≤ 1048576) : Ev (fun k => laws_szRowS.f k xs a) (-1) ∨ ∃ b, 0 ≤ b ∧ b ≤ a ∧ Ev (fun k => laws_szRowS.f k xs a) b ∧ smallRS xs := by
 obtain ⟨hm, hi⟩ := hx
 have hw : wrap64 (a - (xs.length : Int)) = a - (xs.length : Int) := wrap_small (by omega) (by omega)
 unfold laws_szRowS.f
 rw [hw]
 by_cases h : a - (xs.length : Int) < 0
 ·simp only [if_pos h]
  exact .inl (Ev.now _)
 ·simp only [if_neg h]
  rcases loop_sz (fun k a i => laws_szRowS.l0 k xs a i) (fun _ x a => laws_szRow.f x.f0 x.f1 x.f2 x.f3.f0 x.f3.f1 x.f3.f2 x.f3.f3 x.f3.f4 x.f4.f0 x.f4.f1 a) xs z132 smallR
   (fun k i a hlt _ _ => by simp only [laws_szRowS.l0]; rw [if_pos (by omega), if_pos (by omega), rdRA_nat, wrap_next hlt hm])
   (fun k a => by simp only [laws_szRowS.l0]; rw [if_neg (by omega)])
   (fun x hx a h0 h1 => by
    obtain ⟨t, ht, h⟩ := szRow_or x (hi x hx) a h0 h1
    rcases h with rfl | ⟨h2, h3, h4⟩
    ·exact .inl (Ev.const ht)
    ·exact .inr ⟨t, h2, h3, Ev.const ht, h4⟩) (a - (xs.length : Int)) (by omega) (by omega) with h2 | ⟨b, hb0, hb1, h2, h3⟩
  ·exact .inl h2
  ·exact .inr ⟨b, hb0, by omega, h2, by omega, h3⟩
theorem szRowSS_or (xs : List (List S132)) (hm : xs.length ≤ 9223372036854775807) (hi : ∀ y ∈ xs, wideRS y) (a : Int) (h0 : 0 ≤ a) (h1 : a ≤ 1048576) : Ev (fun k => laws_szRowSS.f k xs a) (-1) ∨ ∃ b, 0 ≤ b ∧ b ≤ a ∧ Ev (fun k => laws_szRowSS.f k xs a) b ∧ smallRSS xs := by
 have hw : wrap64 (a - (xs.length : Int)) = a - (xs.length : Int) := wrap_small (by omega) (by omega)
 unfold laws_szRowSS.f
 rw [hw]
 by_cases h : a - (xs.length : Int) < 0
 ·simp only [if_pos h]
  exact .inl (Ev.now _)
 ·simp only [if_neg h]
  rcases loop_sz (fun k a i => laws_szRowSS.l0 k xs a i) (fun k y a => laws_szRowS.f k y a) xs [] smallRS
   (fun k i a hlt _ _ => by simp only [laws_szRowSS.l0]; rw [if_pos (by omega), if_pos (by omega), rdRRA_nat, wrap_next hlt hm])
   (fun k a => by simp only [laws_szRowSS.l0]; rw [if_neg (by omega)])
   (fun y hy a h0 h1 => szRowS_or y (hi y hy) a h0 h1) (a - (xs.length : Int)) (by omega) (by omega) with h2 | ⟨b, hb0, hb1, h2, h3⟩
  ·exact .inl h2
  ·exact .inr ⟨b, hb0, by omega, h2, by omega, h3⟩
theorem szTable_or (n : Int) (xs : List (List S132)) (hm : xs.length ≤ 9223372036854775807) (hi : ∀ y ∈ xs, wideRS y) (a : Int) (h0 : 0 ≤ a) (h1 : a ≤ 1048576) : Ev (fun k => laws_szTable.f k n xs a) (-1) ∨ ∃ b, 0 ≤ b ∧ b ≤ a ∧ Ev (fun k => laws_szTable.f k n xs a) b ∧ smallRSS xs := by
 unfold laws_szTable.f
 rcases szRowSS_or xs hm hi a h0 h1 with h | ⟨b, hb0, hb1, h, hs⟩
 ·exact .inl (Ev.bind h (by simp only [if_pos (show (-1 : Int) < 0 by omega)]; exact Ev.now _))
 ·exact .inr ⟨b, hb0, hb1, Ev.bind h (by simp only [if_neg (show ¬ b < 0 by omega)]; exact Ev.now _), hs⟩
theorem toRow_ev (x : S132) (hx : smallR x) : Ev (fun k => laws_toRow.f k x.f0 x.f1 x.f2 x.f3.f0 x.f3.f1 x.f3.f2 x.f3.f3 x.f3.f4 x.f4.f0 x.f4.f1) (x.f0, x.f1, x.f2, x.f3.f0, x.f3.f1, x.f3.f2, x.f3.f3, x.f3.f4, x.f4.f0, x.f4.f1) := by
 unfold laws_toRow.f laws_toCmd.f
 exact Ev.congr (f := fun k => (laws_toAttr.f k x.f4.f0 x.f4.f1).bind fun bt => some (x.f0, x.f1, x.f2, x.f3.f0, x.f3.f1, x.f3.f2, x.f3.f3, x.f3.f4, bt.1, bt.2)) (fun k => by rw [Option.bind_some]) (Ev.bind (toAttr_ev x.f4.f0 x.f4.f1 hx) (Ev.now _))
theorem toRowS_ev (xs : List S132) (hx : smallRS xs) : Ev (fun k => laws_toRowS.f k xs) (xs.map rc) := by
 obtain ⟨hm, hi⟩ := hx
 refine Ev.congr (f := fun k => laws_toRowS.l0 k xs (List.replicate xs.length z39) 0) (fun k => by unfold laws_toRowS.f; rw [if_pos (by omega), if_pos (by omega), Int.toNat_natCast]) ?_
 refine loop_to (fun k acc i => laws_toRowS.l0 k xs acc i) xs rc z132 z39 (fun i acc r hlt hl hr => ?_) (fun acc => Ev.step (f := fun _ => some acc) (fun k => by simp only [laws_toRowS.l0]; rw [if_neg (by omega)]) (Ev.now _))
 refine Ev.step (fun k => by simp only [laws_toRowS.l0]; rw [if_pos (by omega), if_pos (by omega), rdRA_nat, wrap_next hlt (by omega)]) (Ev.bind (toRow_ev (xs.getD i z132) (hi _ (mem_at _ hlt))) ?_)
 simp only [if_pos (show (i : Int) < (acc.length : Int) by omega), Int.toNat_natCast]
 exact hr
theorem toRowSS_ev (xs : List (List S132)) (hx : smallRSS xs) : Ev (fun k => laws_toRowSS.f k xs) (xs.map (List.map rc)) := by
 obtain ⟨hm, hi⟩ := hx
 refine Ev.congr (f := fun k => laws_toRowSS.l0 k xs (List.replicate xs.length []) 0) (fun k => by unfold laws_toRowSS.f; rw [if_pos (by omega), if_pos (by omega), Int.toNat_natCast]) ?_
 refine loop_to (fun k acc i => laws_toRowSS.l0 k xs acc i) xs (List.map rc) [] [] (fun i acc r hlt hl hr => ?_) (fun acc => Ev.step (f := fun _ => some acc) (fun k => by simp only [laws_toRowSS.l0]; rw [if_neg (by omega)]) (Ev.now _))
 refine Ev.step (fun k => by simp only [laws_toRowSS.l0]; rw [if_pos (by omega), if_pos (by omega), rdRRA_nat, wrap_next hlt (by omega)]) (Ev.bind (toRowS_ev (xs.getD i []) (hi _ (mem_at _ hlt))) ?_)
 simp only [if_pos (show (i : Int) < (acc.length : Int) by omega), Int.toNat_natCast]
 exact hr
theorem toTable_ev (n : Int) (xs : List (List S132)) (hx : smallRSS xs) : Ev (fun k => laws_toTable.f k n xs) (n, xs.map (List.map rc)) := by
 unfold laws_toTable.f
 exact Ev.bind (toRowSS_ev xs hx) (Ev.now _)
theorem ok_of_small {l : List (List S132)} (h : smallRSS l) : okRSS (l.map (List.map rc)) := by
 refine ⟨by rw [List.length_map]; exact h.1, fun y hy => ?_⟩
 obtain ⟨z, hz, rfl⟩ := List.mem_map.1 hy
 refine ⟨by rw [List.length_map]; exact (h.2 z hz).1, fun x hx => ?_⟩
 obtain ⟨u, hu, rfl⟩ := List.mem_map.1 hx
 exact (h.2 z hz).2 u hu
theorem eqRow_ev (x : S39) (hx : okR x) : Ev (fun k => laws_eqRow.f k x.f0 x.f1 x.f2 x.f3.f0 x.f3.f1 x.f3.f2 x.f3.f3 x.f3.f4 x.f4.f0 x.f4.f1 x.f0 x.f1 x.f2 x.f3.f0 x.f3.f1 x.f3.f2 x.f3.f3 x.f3.f4 x.f4.f0 x.f4.f1) true := by
 unfold laws_eqRow.f laws_eqCmd.f
 simp only [if_true, Option.bind_some]
 refine Ev.bind (eqAttr_ev x.f4.f0 x.f4.f1 (by have : x.f4.f1.length ≤ 1048576 := hx; omega)) ?_
 simp only [if_true]
 exact Ev.now _
theorem eqRowS_ev (xs : List S39) (hx : okRS xs) : Ev (fun k => laws_eqRowS.f k xs xs) true := by
 obtain ⟨hm, hi⟩ := hx
 refine Ev.congr (f := fun k => laws_eqRowS.l0 k xs xs 0) (fun k => by unfold laws_eqRowS.f; rw [if_pos rfl]) ?_
 refine loop_up (fun k i => laws_eqRowS.l0 k xs xs i) xs.length true (fun i hlt hr => ?_) (Ev.step (f := fun _ => some true) (fun k => by simp only [laws_eqRowS.l0]; rw [if_neg (by omega)]) (Ev.now _))
 refine Ev.step (fun k => by simp only [laws_eqRowS.l0]; rw [if_pos (by omega), if_pos (by omega), if_pos (by omega), rdR_nat, wrap_next hlt (by omega)]) (Ev.bind (eqRow_ev (xs.getD i z39) (hi _ (mem_at _ hlt))) ?_)
 simp only [if_true]
 exact hr
theorem eqRowSS_ev (xs : List (List S39)) (hx : okRSS xs) : Ev (fun k => laws_eqRowSS.f k xs xs) true := by
 obtain ⟨hm, hi⟩ := hx
 refine Ev.congr (f := fun k => laws_eqRowSS.l0 k xs xs 0) (fun k => by unfold laws_eqRowSS.f; rw [if_pos rfl]) ?_
 refine loop_up (fun k i => laws_eqRowSS.l0 k xs xs i) xs.length true (fun i hlt hr => ?_) (Ev.step (f := fun _ => some true) (fun k => by simp only [laws_eqRowSS.l0]; rw [if_neg (by omega)]) (Ev.now _))
 refine Ev.step (fun k => by simp only [laws_eqRowSS.l0]; rw [if_pos (by omega), if_pos (by omega), if_pos (by omega), rdRR_nat, wrap_next hlt (by omega)]) (Ev.bind (eqRowS_ev (xs.getD i []) (hi _ (mem_at _ hlt))) ?_)
 simp only [if_true]
 exact hr
theorem eqTable_ev (n : Int) (xs : List (List S39)) (hx : okRSS xs) : Ev (fun k => laws_eqTable.f k n xs n xs) true := by
 unfold laws_eqTable.f
 simp only [if_true]
 exact Ev.bind (eqRowSS_ev xs hx) (Ev.now _)

def cL (x : S108) : S77 := ⟨x.f0, x.f1, x.f2, x.f3, cv x.f4, ⟨x.f5.f0, x.f5.f1⟩, ⟨x.f6.f0, x.f6.f1⟩, x.f7, x.f8, x.f9.map rc⟩
theorem rdL_nat (l : List S77) (i : Nat) : rd_T77 l (i : Int) = l.getD i z77 := by unfold rd_T77; rw [Int.toNat_natCast]
theorem rdLA_nat (l : List S108) (i : Nat) : rd_T108 l (i : Int) = l.getD i z108 := by unfold rd_T108; rw [Int.toNat_natCast]
def smallL (x : S108) : Prop := x.f5.f1.length ≤ 1048576 ∧ x.f6.f1.length ≤ 1048576 ∧ x.f8.length ≤ 1048576 ∧ smallRS x.f9
def wideL (x : S108) : Prop := x.f5.f1.length ≤ 9223372036854775807 ∧ x.f6.f1.length ≤ 9223372036854775807 ∧ x.f8.length ≤ 9223372036854775807 ∧ wideRS x.f9
def smallLS (l : List S108) : Prop := l.length ≤ 1048576 ∧ ∀ x ∈ l, smallL x
def szL (k : Nat) (x : S108) (a : Int) : Option Int := laws_szLead.f k x.f0 x.f1 x.f2 x.f3 x.f4.f0 x.f4.f1 x.f4.f2 x.f4.f3 x.f4.f4 x.f5.f0 x.f5.f1 x.f6.f0 x.f6.f1 x.f7 x.f8 x.f9 a
theorem szLead_or (x : S108) (hx : wideL x) (a : Int) (h0 : 0 ≤ a) (h1 : a ≤ 1048576) : Ev (fun k => szL k x a) (-1) ∨ ∃ b, 0 ≤ b ∧ b ≤ a ∧ Ev (fun k => szL k x a) b ∧ smallL x := by
 obtain ⟨w1, w2, w3, w4⟩ := hx
 unfold szL laws_szLead.f
 simp only [szAttr_f x.f5.f0 _ a h0 h1 w1, Option.bind_some]
 by_cases c1 : (x.f5.f1.length : Int) ≤ a
 case neg => simp only [if_neg c1, if_pos (show (-1 : Int) < 0 by omega)]; exact .inl (Ev.now _)
 simp only [if_pos c1, if_neg (show ¬ a - (x.f5.f1.length : Int) < 0 by omega), szAttr_f x.f6.f0 _ (a - (x.f5.f1.length : Int)) (by omega) (by omega) w2, Option.bind_some]
 by_cases c2 : (x.f6.f1.length : Int) ≤ a - (x.f5.f1.length : Int)
 case neg => simp only [if_neg c2, if_pos (show (-1 : Int) < 0 by omega)]; exact .inl (Ev.now _)
 simp only [if_pos c2, if_neg (show ¬ a - (x.f5.f1.length : Int) - (x.f6.f1.length : Int) < 0 by omega), szIntS_f x.f8 (a - (x.f5.f1.length : Int) - (x.f6.f1.length : Int)) (by omega) (by omega) w3, Option.bind_some]
 by_cases c3 : (x.f8.length : Int) ≤ a - (x.f5.f1.length : Int) - (x.f6.f1.length : Int)
 case neg => simp only [if_neg c3, if_pos (show (-1 : Int) < 0 by omega)]; exact .inl (Ev.now _)
 simp only [if_pos c3, if_neg (show ¬ a - (x.f5.f1.length : Int) - (x.f6.f1.length : Int) - (x.f8.length : Int) < 0 by omega)]
 rcases szRowS_or x.f9 w4 (a - (x.f5.f1.length : Int) - (x.f6.f1.length : Int) - (x.f8.length : Int)) (by omega) (by omega) with h | ⟨b, hb0, hb1, h, hs⟩
 ·exact .inl (Ev.bind h (by simp only [if_pos (show (-1 : Int) < 0 by omega)]; exact Ev.now _))
 ·exact .inr ⟨b, hb0, by omega, Ev.bind h (by simp only [if_neg (show ¬ b < 0 by omega)]; exact Ev.now _), by omega, by omega, by omega, hs⟩
theorem szLeadS_or (xs : List S108) (hm : xs.length ≤ 9223372036854775807) (hi : ∀ x ∈ xs, wideL x) (a : Int) (h0 : 0 ≤ a) (h1 : a ≤ 1048576) : Ev (fun k => laws_szLeadS.f k xs a) (-1) ∨ ∃ b, 0 ≤ b ∧ b ≤ a ∧ Ev (fun k => laws_szLeadS.f k xs a) b ∧ smallLS xs := by
 have hw : wrap64 (a - (xs.length : Int)) = a - (xs.length : Int) := wrap_small (by omega) (by omega)
 unfold laws_szLeadS.f
 rw [hw]
 by_cases h : a - (xs.length : Int) < 0
 ·simp only [if_pos h]
  exact .inl (Ev.now _)
 ·simp only [if_neg h]
  rcases loop_sz (fun k a i => laws_szLeadS.l0 k xs a i) szL xs z108 smallL
   (fun k i a hlt _ _ => by simp only [laws_szLeadS.l0]; rw [if_pos (by omega), if_pos (by omega), rdLA_nat, wrap_next hlt hm]; rfl)
   (fun k a => by simp only [laws_szLeadS.l0]; rw [if_neg (by omega)])
   (fun x hx a h0 h1 => szLead_or x (hi x hx) a h0 h1) (a - (xs.length : Int)) (by omega) (by omega) with h2 | ⟨b, hb0, hb1, h2, h3⟩
  ·exact .inl h2
  ·exact .inr ⟨b, hb0, by omega, h2, by omega, h3⟩
theorem szReplica_or (me n : Int) (l : List (List S132)) (ls : List S108) (hm : l.length ≤ 9223372036854775807) (hi : ∀ y ∈ l, wideRS y) (hm2 : ls.length ≤ 9223372036854775807) (hi2 : ∀ x ∈ ls, wideL x) (a : Int) (h0 : 0 ≤ a) (h1 : a ≤ 1048576) : Ev (fun k => laws_szReplica.f k me n l ls a) (-1) ∨ ∃ b, 0 ≤ b ∧ b ≤ a ∧ Ev (fun k => laws_szReplica.f k me n l ls a) b ∧ smallRSS l ∧ smallLS ls := by
 unfold laws_szReplica.f
 rcases szTable_or n l hm hi a h0 h1 with h | ⟨b, hb0, hb1, h, hs⟩
 ·exact .inl (Ev.bind h (by simp only [if_pos (show (-1 : Int) < 0 by omega)]; exact Ev.now _))
 ·rcases szLeadS_or ls hm2 hi2 b hb0 (by omega) with h2 | ⟨c, hc0, hc1, h2, hs2⟩
  ·exact .inl (Ev.bind h (by simp only [if_neg (show ¬ b < 0 by omega)]; exact Ev.bind h2 (by simp only [if_pos (show (-1 : Int) < 0 by omega)]; exact Ev.now _)))
  ·exact .inr ⟨c, hc0, by omega, Ev.bind h (by simp only [if_neg (show ¬ b < 0 by omega)]; exact Ev.bind h2 (by simp only [if_neg (show ¬ c < 0 by omega)]; exact Ev.now _)), hs, hs2⟩
theorem toLead_ev (x : S108) (hx : smallL x) : Ev (fun k => laws_toLead.f k x.f0 x.f1 x.f2 x.f3 x.f4.f0 x.f4.f1 x.f4.f2 x.f4.f3 x.f4.f4 x.f5.f0 x.f5.f1 x.f6.f0 x.f6.f1 x.f7 x.f8 x.f9) (x.f0, x.f1, x.f2, x.f3, x.f4.f0, x.f4.f1, x.f4.f2, x.f4.f3, x.f4.f4, x.f5.f0, x.f5.f1, x.f6.f0, x.f6.f1, x.f7, x.f8, x.f9.map rc) := by
 obtain ⟨w1, w2, w3, w4⟩ := hx
 unfold laws_toLead.f laws_toCmd.f
 simp only [Option.bind_some]
 refine Ev.bind (toAttr_ev x.f5.f0 x.f5.f1 w1) ?_
 refine Ev.bind (toAttr_ev x.f6.f0 x.f6.f1 w2) ?_
 refine Ev.bind (toIntS_ev x.f8 w3) ?_
 refine Ev.bind (toRowS_ev x.f9 w4) ?_
 exact Ev.now _
theorem toLeadS_ev (xs : List S108) (hx : smallLS xs) : Ev (fun k => laws_toLeadS.f k xs) (xs.map cL) := by
 obtain ⟨hm, hi⟩ := hx
 refine Ev.congr (f := fun k => laws_toLeadS.l0 k xs (List.replicate xs.length z77) 0) (fun k => by unfold laws_toLeadS.f; rw [if_pos (by omega), if_pos (by omega), Int.toNat_natCast]) ?_
 refine loop_to (fun k acc i => laws_toLeadS.l0 k xs acc i) xs cL z108 z77 (fun i acc r hlt hl hr => ?_) (fun acc => Ev.step (f := fun _ => some acc) (fun k => by simp only [laws_toLeadS.l0]; rw [if_neg (by omega)]) (Ev.now _))
 refine Ev.step (fun k => by simp only [laws_toLeadS.l0]; rw [if_pos (by omega), if_pos (by omega), rdLA_nat, wrap_next hlt (by omega)]) (Ev.bind (toLead_ev (xs.getD i z108) (hi _ (mem_at _ hlt))) ?_)
 simp only [if_pos (show (i : Int) < (acc.length : Int) by omega), Int.toNat_natCast]
 exact hr
theorem toReplica_ev (me n : Int) (l : List (List S132)) (ls : List S108) (hx : smallRSS l) (hy : smallLS ls) : Ev (fun k => laws_toReplica.f k me n l ls) (me, n, l.map (List.map rc), ls.map cL) := by
 unfold laws_toReplica.f
 exact Ev.bind (toTable_ev n l hx) (Ev.bind (toLeadS_ev ls hy) (Ev.now _))
def okL (x : S77) : Prop := x.f5.f1.length ≤ 1048576 ∧ x.f6.f1.length ≤ 1048576 ∧ x.f8.length ≤ 1048576 ∧ okRS x.f9
def okLS (l : List S77) : Prop := l.length ≤ 1048576 ∧ ∀ x ∈ l, okL x
theorem okL_of_small {l : List S108} (h : smallLS l) : okLS (l.map cL) := by
 refine ⟨by rw [List.length_map]; exact h.1, fun x hx => ?_⟩
 obtain ⟨y, hy, rfl⟩ := List.mem_map.1 hx
 obtain ⟨w1, w2, w3, w4, w5⟩ := h.2 y hy
 refine ⟨w1, w2, w3, by show (y.f9.map rc).length ≤ _; rw [List.length_map]; exact w4, fun z hz => ?_⟩
 obtain ⟨u, hu, rfl⟩ := List.mem_map.1 (show z ∈ y.f9.map rc from hz)
 exact w5 u hu
theorem eqLead_ev (x : S77) (hx : okL x) : Ev (fun k => laws_eqLead.f k x.f0 x.f1 x.f2 x.f3 x.f4.f0 x.f4.f1 x.f4.f2 x.f4.f3 x.f4.f4 x.f5.f0 x.f5.f1 x.f6.f0 x.f6.f1 x.f7 x.f8 x.f9 x.f0 x.f1 x.f2 x.f3 x.f4.f0 x.f4.f1 x.f4.f2 x.f4.f3 x.f4.f4 x.f5.f0 x.f5.f1 x.f6.f0 x.f6.f1 x.f7 x.f8 x.f9) true := by
 obtain ⟨w1, w2, w3, w4⟩ := hx
 unfold laws_eqLead.f laws_eqCmd.f
 simp only [if_true, Option.bind_some]
 refine Ev.bind (eqAttr_ev x.f5.f0 x.f5.f1 (by omega)) ?_
 simp only [if_true]
 refine Ev.bind (eqAttr_ev x.f6.f0 x.f6.f1 (by omega)) ?_
 simp only [if_true]
 refine Ev.bind (eqIntS_ev x.f8 (by omega)) ?_
 simp only [if_true]
 refine Ev.bind (eqRowS_ev x.f9 w4) ?_
 simp only [if_true]
 exact Ev.now _
theorem eqLeadS_ev (xs : List S77) (hx : okLS xs) : Ev (fun k => laws_eqLeadS.f k xs xs) true := by
 obtain ⟨hm, hi⟩ := hx
 refine Ev.congr (f := fun k => laws_eqLeadS.l0 k xs xs 0) (fun k => by unfold laws_eqLeadS.f; rw [if_pos rfl]) ?_
 refine loop_up (fun k i => laws_eqLeadS.l0 k xs xs i) xs.length true (fun i hlt hr => ?_) (Ev.step (f := fun _ => some true) (fun k => by simp only [laws_eqLeadS.l0]; rw [if_neg (by omega)]) (Ev.now _))
 refine Ev.step (fun k => by simp only [laws_eqLeadS.l0]; rw [if_pos (by omega), if_pos (by omega), if_pos (by omega), rdL_nat, wrap_next hlt (by omega)]) (Ev.bind (eqLead_ev (xs.getD i z77) (hi _ (mem_at _ hlt))) ?_)
 simp only [if_true]
 exact hr
theorem eqReplica_ev (me n : Int) (l : List (List S39)) (ls : List S77) (hx : okRSS l) (hy : okLS ls) : Ev (fun k => laws_eqReplica.f k me n l ls me n l ls) true := by
 unfold laws_eqReplica.f
 simp only [if_true]
 refine Ev.bind (eqTable_ev n l hx) ?_
 simp only [if_true]
 refine Ev.bind (eqLeadS_ev ls hy) ?_
 simp only [if_true]
 exact Ev.now _

theorem l1Same_l (xs ys : List Int) (he : xs.length = ys.length) (hm : xs.length ≤ 9223372036854775807) : ∀ (d i : Nat), xs.length - i = d → Ev (fun k => spec_l1Same.l0 k xs ys (xs.length : Int) (i : Int)) (decide (xs.drop i = ys.drop i)) := by
 intro d
 induction d with
 | zero =>
  intro i hd
  rw [List.drop_eq_nil_of_le (show xs.length ≤ i by omega), List.drop_eq_nil_of_le (show ys.length ≤ i by omega)]
  exact Ev.step (f := fun _ => some true) (fun k => by simp only [spec_l1Same.l0]; rw [if_neg (by omega)]) (Ev.now _)
 | succ d ih =>
  intro i hd
  have hlt : i < xs.length := by omega
  rw [Mine.drop_at xs 0 i hlt, Mine.drop_at ys 0 i (by omega)]
  have body : ∀ k, spec_l1Same.l0 (k + 1) xs ys (xs.length : Int) (i : Int) = if xs.getD i 0 = ys.getD i 0 then spec_l1Same.l0 k xs ys (xs.length : Int) ((i + 1 : Nat) : Int) else some false := by
   intro k
   simp only [spec_l1Same.l0]
   rw [if_pos (by omega), if_pos (by omega), if_pos (by omega), if_pos (by omega), rd_nat, rd_nat, wrap_next hlt hm]
  by_cases hb : xs.getD i 0 = ys.getD i 0
  ·refine Ev.step (f := fun k => spec_l1Same.l0 k xs ys (xs.length : Int) ((i + 1 : Nat) : Int)) (fun k => by rw [body, if_pos hb]) ?_
   have : decide (xs.getD i 0 :: xs.drop (i + 1) = ys.getD i 0 :: ys.drop (i + 1)) = decide (xs.drop (i + 1) = ys.drop (i + 1)) := by rw [hb]; simp
   rw [this]
   exact ih (i + 1) (by omega)
  ·refine Ev.step (f := fun _ => some false) (fun k => by rw [body, if_neg hb]) ?_
   have : decide (xs.getD i 0 :: xs.drop (i + 1) = ys.getD i 0 :: ys.drop (i + 1)) = false := by
    rw [decide_eq_false_iff_not]; intro h; exact hb (List.cons.inj h).1
   rw [this]
   exact Ev.now _
theorem l1Same_ev (xs ys : List Int) (hm : xs.length ≤ 9223372036854775807) : Ev (fun k => spec_l1Same.f k xs ys) (decide (xs = ys)) := by
 unfold spec_l1Same.f
 by_cases h : xs.length = ys.length
 ·exact Ev.congr (f := fun k => spec_l1Same.l0 k xs ys (xs.length : Int) ((0 : Nat) : Int)) (fun k => by rw [if_pos (by omega)]; rfl) (l1Same_l xs ys h hm _ 0 rfl)
 ·refine Ev.congr (f := fun _ => some false) (fun k => by rw [if_neg (by omega)]) ?_
  rw [decide_eq_false (fun e => h (by rw [e]))]
  exact Ev.now _

theorem equalInts_l (xs ys : List Int) (he : xs.length = ys.length) (hm : xs.length ≤ 9223372036854775807) : ∀ (d i : Nat), xs.length - i = d → Ev (fun k => slices_Equal_int_int.l0 k xs ys (xs.length : Int) (i : Int)) (decide (xs.drop i = ys.drop i)) := by
 intro d
 induction d with
 | zero =>
  intro i hd
  rw [List.drop_eq_nil_of_le (show xs.length ≤ i by omega), List.drop_eq_nil_of_le (show ys.length ≤ i by omega)]
  exact Ev.step (f := fun _ => some true) (fun k => by simp only [slices_Equal_int_int.l0]; rw [if_neg (by omega)]) (Ev.now _)
 | succ d ih =>
  intro i hd
  have hlt : i < xs.length := by omega
  rw [Mine.drop_at xs 0 i hlt, Mine.drop_at ys 0 i (by omega)]
  have body : ∀ k, slices_Equal_int_int.l0 (k + 1) xs ys (xs.length : Int) (i : Int) = if xs.getD i 0 = ys.getD i 0 then slices_Equal_int_int.l0 k xs ys (xs.length : Int) ((i + 1 : Nat) : Int) else some false := by
   intro k
   simp only [slices_Equal_int_int.l0]
   rw [if_pos (by omega), if_pos (by omega), if_pos (by omega), if_pos (by omega), rd_nat, rd_nat, wrap_next hlt hm]
  by_cases hb : xs.getD i 0 = ys.getD i 0
  ·refine Ev.step (f := fun k => slices_Equal_int_int.l0 k xs ys (xs.length : Int) ((i + 1 : Nat) : Int)) (fun k => by rw [body, if_pos hb]) ?_
   have : decide (xs.getD i 0 :: xs.drop (i + 1) = ys.getD i 0 :: ys.drop (i + 1)) = decide (xs.drop (i + 1) = ys.drop (i + 1)) := by rw [hb]; simp
   rw [this]
   exact ih (i + 1) (by omega)
  ·refine Ev.step (f := fun _ => some false) (fun k => by rw [body, if_neg hb]) ?_
   have : decide (xs.getD i 0 :: xs.drop (i + 1) = ys.getD i 0 :: ys.drop (i + 1)) = false := by
    rw [decide_eq_false_iff_not]; intro h; exact hb (List.cons.inj h).1
   rw [this]
   exact Ev.now _
theorem equalInts_ev (xs ys : List Int) (hm : xs.length ≤ 9223372036854775807) : Ev (fun k => slices_Equal_int_int.f k xs ys) (decide (xs = ys)) := by
 unfold slices_Equal_int_int.f
 by_cases h : xs.length = ys.length
 ·exact Ev.congr (f := fun k => slices_Equal_int_int.l0 k xs ys (xs.length : Int) ((0 : Nat) : Int)) (fun k => by rw [if_pos (by omega)]; rfl) (equalInts_l xs ys h hm _ 0 rfl)
 ·refine Ev.congr (f := fun _ => some false) (fun k => by rw [if_neg (by omega)]) ?_
  rw [decide_eq_false (fun e => h (by rw [e]))]
  exact Ev.now _

def sameA (s t : Int) (l m : List Int) : Bool := decide (s = t) && decide (l = m)
theorem specSameA_ev (s t : Int) (l m : List Int) (hl : l.length ≤ 9223372036854775807) : Ev (fun k => spec_SameAttr.f k s l t m) (sameA s t l m) := by
 unfold spec_SameAttr.f sameA
 by_cases h : s = t
 ·simp only [if_pos h, decide_eq_true h, Bool.true_and]
  exact Ev.bind (l1Same_ev l m hl) (Ev.now _)
 ·simp only [if_neg h, decide_eq_false h, Bool.false_and]
  exact Ev.now _
theorem implSameA_ev (s t : Int) (l m : List Int) (hl : l.length ≤ 9223372036854775807) : Ev (fun k => impl_SameAttr.f k s l t m) (sameA s t l m) := by
 unfold impl_SameAttr.f sameA
 by_cases h : s = t
 ·simp only [if_pos h, decide_eq_true h, Bool.true_and]
  exact Ev.bind (equalInts_ev l m hl) (Ev.now _)
 ·simp only [if_neg h, decide_eq_false h, Bool.false_and]
  exact Ev.now _

theorem specGroup (n : Int) : spec_IsGroup.f n = some (decide (n = 3 ∨ n = 5)) := by
 unfold spec_IsGroup.f
 by_cases h : n = 3
 ·rw [if_pos h]; simp [h]
 ·rw [if_neg h]; by_cases h5 : n = 5 <;> simp [h, h5]

theorem implGroup (n : Int) : impl_IsGroup.f n = some (decide (n = 3 ∨ n = 5)) := by
 unfold impl_IsGroup.f
 by_cases h : n = 3
 ·rw [if_pos h]; simp [h]
 ·rw [if_neg h]; by_cases h5 : n = 5 <;> simp [h, h5]

theorem l1In_f (a b c : Int) : spec_l1In.f a b c = some (Mine.inB b c a) := by
 unfold spec_l1In.f Mine.inB
 by_cases h : a ≥ b
 ·rw [if_pos h]; simp [show b ≤ a from h]
 ·rw [if_neg h]; simp [show ¬ b ≤ a from h]

theorem l1All_l (xs : List Int) (lo hi : Int) (hm : xs.length ≤ 9223372036854775807) : ∀ (d i : Nat), xs.length - i = d → Ev (fun k => spec_l1All.l0 k lo hi xs (xs.length : Int) (i : Int)) (!Mine.anyP (Mine.outB lo hi) (xs.drop i)) := by
 intro d
 induction d with
 | zero =>
  intro i hd
  rw [List.drop_eq_nil_of_le (by omega)]
  exact Ev.step (f := fun _ => some true) (fun k => by simp only [spec_l1All.l0]; rw [if_neg (by omega)]) (Ev.now _)
 | succ d ih =>
  intro i hd
  have hlt : i < xs.length := by omega
  rw [Mine.drop_at xs 0 i hlt, Mine.anyP_cons]
  have body : ∀ k, spec_l1All.l0 (k + 1) lo hi xs (xs.length : Int) (i : Int) = if Mine.inB lo hi (xs.getD i 0) = true then spec_l1All.l0 k lo hi xs (xs.length : Int) ((i + 1 : Nat) : Int) else some false := by
   intro k
   simp only [spec_l1All.l0]
   rw [if_pos (by omega), if_pos (by omega), if_pos (by omega), rd_nat, l1In_f, Option.bind_some, wrap_next hlt hm]
  cases hb : Mine.inB lo hi (xs.getD i 0) with
  | true =>
   refine Ev.step (f := fun k => spec_l1All.l0 k lo hi xs (xs.length : Int) ((i + 1 : Nat) : Int)) (fun k => by rw [body, if_pos hb]) ?_
   have : Mine.outB lo hi (xs.getD i 0) = false := by unfold Mine.outB; rw [hb]; rfl
   rw [this, Bool.false_or]
   exact ih (i + 1) (by omega)
  | false =>
   refine Ev.step (f := fun _ => some false) (fun k => by rw [body, if_neg (by rw [hb]; simp)]) ?_
   have : Mine.outB lo hi (xs.getD i 0) = true := by unfold Mine.outB; rw [hb]; rfl
   rw [this, Bool.true_or]
   exact Ev.now _
theorem l1All_ev (xs : List Int) (lo hi : Int) (hm : xs.length ≤ 9223372036854775807) : Ev (fun k => spec_l1All.f k xs lo hi) (!Mine.anyP (Mine.outB lo hi) xs) := l1All_l xs lo hi hm _ 0 rfl

def goodAttrB (n s : Int) (l : List Int) : Bool := decide (n = 3 ∨ n = 5) && (Mine.inB 0 999 s && (decide ((l.length : Int) = n) && !Mine.anyP (Mine.outB 0 6) l))
theorem l3Attr_ev (n s : Int) (l : List Int) (hm : l.length ≤ 9223372036854775807) : Ev (fun k => spec_l3Attr.f k n s l) (Mine.inB 0 999 s && (decide ((l.length : Int) = n) && !Mine.anyP (Mine.outB 0 6) l)) := by
 unfold spec_l3Attr.f
 cases hs : Mine.inB 0 999 s with
 | false => exact Ev.congr (f := fun _ => some false) (fun k => by rw [l1In_f, Option.bind_some, hs, if_neg (by simp)]) (Ev.now _)
 | true =>
  by_cases hl : (l.length : Int) = n
  ·refine Ev.congr (f := fun k => (spec_l1All.f k l 0 6).bind fun t => some t) (fun k => by rw [l1In_f, Option.bind_some, hs, if_pos rfl, if_pos hl]) ?_
   rw [decide_eq_true hl, Bool.true_and, Bool.true_and]
   exact Ev.bind (l1All_ev l 0 6 hm) (Ev.now _)
  ·rw [decide_eq_false hl, Bool.false_and, Bool.and_false]
   exact Ev.congr (f := fun _ => some false) (fun k => by rw [l1In_f, Option.bind_some, hs, if_pos rfl, if_neg hl]) (Ev.now _)

theorem within_f (a b c : Int) : impl_within.f a b c = some (Mine.inB b c a) := by
 unfold impl_within.f Mine.inB
 by_cases h : b ≤ a
 ·rw [if_pos h]; simp [h]
 ·rw [if_neg h]; simp [h]

theorem l2Account_f (a : Int) : spec_l2Account.f a = some (Mine.inB 0 3 a) := by unfold spec_l2Account.f; rw [l1In_f, Option.bind_some]

theorem specGoodCmd (k i f t a : Int) : spec_GoodCmd.f k i f t a = some (Mine.goodCmdB k i f t a) := by
 unfold spec_GoodCmd.f spec_l2Code.f Mine.goodCmdB
 simp only [l1In_f, l2Account_f, Option.bind_some]
 by_cases h0 : k = 0
 ·simp [h0]
 ·rw [if_neg h0, if_neg h0]
  by_cases h1 : k = 1
  ·rw [if_pos h1, if_pos h1, if_pos h1]
   by_cases hft : f = t
   ·cases Mine.inB 1 999 i <;> cases Mine.inB 0 3 f <;> cases Mine.inB 0 3 t <;> simp [hft]
   ·cases Mine.inB 1 999 i <;> cases Mine.inB 0 3 f <;> cases Mine.inB 0 3 t <;> cases Mine.inB 1 1000 a <;> simp [hft]
  ·rw [if_neg h1, if_neg h1, if_neg h1]
   by_cases h2 : k = 2
   ·rw [if_pos h2, if_pos h2]
    by_cases ht : t = 0
    ·cases Mine.inB 1 999 i <;> cases Mine.inB 0 3 f <;> simp [ht]
    ·cases Mine.inB 1 999 i <;> cases Mine.inB 0 3 f <;> simp [ht]
   ·rw [if_neg h2, if_neg h2]

theorem implGoodCmd (k i f t a : Int) : impl_GoodCmd.f k i f t a = some (Mine.goodCmdB k i f t a) := by
 unfold impl_GoodCmd.f impl_isAccount.f Mine.goodCmdB
 simp only [within_f, Option.bind_some]
 by_cases h0 : k = 0
 ·simp [h0]
 ·rw [if_neg h0, if_neg h0]
  by_cases h1 : k = 1
  ·rw [if_pos h1, if_pos h1]
   by_cases hft : f = t
   ·cases Mine.inB 1 999 i <;> cases Mine.inB 0 3 f <;> cases Mine.inB 0 3 t <;> simp [hft]
   ·cases Mine.inB 1 999 i <;> cases Mine.inB 0 3 f <;> cases Mine.inB 0 3 t <;> cases Mine.inB 1 1000 a <;> simp [hft]
  ·rw [if_neg h1, if_neg h1]
   by_cases h2 : k = 2
   ·rw [if_pos h2, if_pos h2]
    by_cases ht : t = 0
    ·cases Mine.inB 1 999 i <;> cases Mine.inB 0 3 f <;> simp [ht]
    ·cases Mine.inB 1 999 i <;> cases Mine.inB 0 3 f <;> simp [ht]
   ·rw [if_neg h2, if_neg h2]

theorem anyO_ev {α : Type} (p : Nat → α → Option Bool) : ∀ (xs : List α) (q : α → Bool), (∀ x ∈ xs, Ev (fun k => p k x) (q x)) → Ev (fun k => Mine.anyO (p k) xs) (Mine.anyP q xs)
 | [], q, _ => Ev.const rfl
 | x :: xs, q, h => by
  simp only [Mine.anyO]
  refine Ev.bind (h x (by simp)) ?_
  rw [Mine.anyP_cons]
  cases hq : q x with
  | true => simpa using Ev.now true
  | false => simpa using anyO_ev p xs q (fun y hy => h y (by simp [hy]))

def zeroC (c : S28) : Bool := c.f0 == 0 && (c.f1 == 0 && (c.f2 == 0 && (c.f3 == 0 && (c.f4 == 0))))
def rowB (n : Int) (x : S39) : Bool :=
 Mine.inB 0 9999 x.f0 && (Mine.inB 0 x.f0 x.f1 && (Mine.inB 0 3 x.f2 && (if x.f2 = 0 then decide (x.f1 = 0) && (zeroC x.f3 && sameA x.f4.f0 0 x.f4.f1 (List.replicate n.toNat 0)) else goodS x.f3 && goodAttrB n x.f4.f0 x.f4.f1)))
def listB (n : Int) (y : List S39) : Bool := decide (y.length ≤ 6) && !Mine.anyP (fun x => !rowB n x) y
def tableB (n : Int) (l : List (List S39)) : Bool := decide (n = 3 ∨ n = 5) && (decide ((l.length : Int) = n) && !Mine.anyP (fun y => !listB n y) l)
theorem none_good {n : Int} (hn : n = 3 ∨ n = 5) : goodAttrB n 0 (List.replicate n.toNat 0) = true := by
 rcases hn with rfl | rfl <;> decide
theorem zero_good {c : S28} (h : zeroC c = true) : goodS c = true := by
 unfold zeroC at h
 simp only [Bool.and_eq_true, beq_iff_eq] at h
 unfold goodS
 rw [h.1, h.2.1, h.2.2.1, h.2.2.2.1, h.2.2.2.2]
 decide
theorem zeroC_of (a b c d e : Int) : (a == 0 && (b == 0 && (c == 0 && (d == 0 && (e == 0))))) = zeroC ⟨a, b, c, d, e⟩ := rfl
theorem l3None_f {n : Int} (hn : n = 3 ∨ n = 5) : spec_l3None.f n = some (0, List.replicate n.toNat 0) := by
 unfold spec_l3None.f
 rw [if_pos (by omega), if_pos (by omega)]
theorem noneAttr_f {n : Int} (hn : n = 3 ∨ n = 5) : impl_noneAttr.f n = some (0, List.replicate n.toNat 0) := by
 unfold impl_noneAttr.f
 rw [if_pos (by omega), if_pos (by omega)]
theorem specRow_ev (n : Int) (hn : n = 3 ∨ n = 5) (x : S39) (hx : okR x) : Ev (fun k => spec_l4Row.f k n x.f0 x.f1 x.f2 x.f3.f0 x.f3.f1 x.f3.f2 x.f3.f3 x.f3.f4 x.f4.f0 x.f4.f1) (rowB n x) := by
 have hl : x.f4.f1.length ≤ 9223372036854775807 := by have : x.f4.f1.length ≤ 1048576 := hx; omega
 have bad : Ev (fun k => spec_l4Row.j0 k n true x.f0 x.f1 x.f2 x.f3.f0 x.f3.f1 x.f3.f2 x.f3.f3 x.f3.f4 x.f4.f0 x.f4.f1) false := Ev.step (f := fun _ => some false) (fun k => by simp only [spec_l4Row.j0]; rw [if_pos trivial]) (Ev.now _)
 unfold spec_l4Row.f rowB
 simp only [l1In_f, Option.bind_some]
 cases h1 : Mine.inB 0 9999 x.f0 with
 | false => simpa using bad
 | true =>
  simp only [if_true, Bool.true_and]
  cases h2 : Mine.inB 0 x.f0 x.f1 with
  | false => simpa using bad
  | true =>
   simp only [if_true, Bool.true_and]
   cases h3 : Mine.inB 0 3 x.f2 with
   | false => simpa using bad
   | true =>
    simp only [Bool.not_true, Bool.true_and]
    by_cases h4 : x.f2 = 0
    ·rw [if_pos h4]
     by_cases h5 : x.f1 = 0
     ·rw [decide_eq_true h5, Bool.true_and]
      cases h6 : zeroC x.f3 with
      | false =>
       refine Ev.step (f := fun _ => some false) (fun k => by simp only [spec_l4Row.j0]; rw [if_neg (by simp), if_pos h4, if_pos h5, zeroC_of, h6, if_neg (by simp)]) (Ev.now _)
      | true =>
       rw [Bool.true_and]
       refine Ev.step (fun k => by simp only [spec_l4Row.j0]; rw [if_neg (by simp), if_pos h4, if_pos h5, zeroC_of, h6, if_pos rfl, l3None_f hn, Option.bind_some]) (Ev.bind (specSameA_ev x.f4.f0 0 x.f4.f1 (List.replicate n.toNat 0) hl) (Ev.now _))
     ·rw [decide_eq_false h5, Bool.false_and]
      refine Ev.step (f := fun _ => some false) (fun k => by simp only [spec_l4Row.j0]; rw [if_neg (by simp), if_pos h4, if_neg h5]) (Ev.now _)
    ·rw [if_neg h4]
     cases h6 : goodS x.f3 with
     | false =>
      refine Ev.step (f := fun _ => some false) (fun k => by simp only [spec_l4Row.j0]; rw [if_neg (by simp), if_neg h4, specGoodCmd, Option.bind_some, show Mine.goodCmdB x.f3.f0 x.f3.f1 x.f3.f2 x.f3.f3 x.f3.f4 = goodS x.f3 from rfl, h6, if_neg (by simp)]) (Ev.now _)
     | true =>
      rw [Bool.true_and]
      have e2 : (Mine.inB 0 999 x.f4.f0 && (decide ((x.f4.f1.length : Int) = n) && !Mine.anyP (Mine.outB 0 6) x.f4.f1)) = goodAttrB n x.f4.f0 x.f4.f1 := by
       unfold goodAttrB; rw [decide_eq_true hn, Bool.true_and]
      have h7 := l3Attr_ev n x.f4.f0 x.f4.f1 hl
      rw [e2] at h7
      exact Ev.step (fun k => by simp only [spec_l4Row.j0]; rw [if_neg (by simp), if_neg h4, specGoodCmd, Option.bind_some, show Mine.goodCmdB x.f3.f0 x.f3.f1 x.f3.f2 x.f3.f3 x.f3.f4 = goodS x.f3 from rfl, h6, if_pos rfl]) (Ev.bind h7 (Ev.now _))
theorem implRow_ev (n : Int) (hn : n = 3 ∨ n = 5) (x : S39) (hx : okR x) : Ev (fun k => impl_goodRow.f k n x.f0 x.f1 x.f2 x.f3.f0 x.f3.f1 x.f3.f2 x.f3.f3 x.f3.f4 x.f4.f0 x.f4.f1) (rowB n x) := by
 have hl : x.f4.f1.length ≤ 9223372036854775807 := by have : x.f4.f1.length ≤ 1048576 := hx; omega
 have bad : Ev (fun k => impl_goodRow.j0 k n true x.f0 x.f1 x.f2 x.f3.f0 x.f3.f1 x.f3.f2 x.f3.f3 x.f3.f4 x.f4.f0 x.f4.f1) false := Ev.step (f := fun _ => some false) (fun k => by simp only [impl_goodRow.j0]; rw [if_pos trivial]) (Ev.now _)
 have hg : impl_GoodAttr.f n x.f4.f0 x.f4.f1 = some (goodAttrB n x.f4.f0 x.f4.f1) := rfl
 unfold impl_goodRow.f rowB
 simp only [within_f, implGoodCmd, hg, Option.bind_some]
 cases h1 : Mine.inB 0 9999 x.f0 with
 | false => simpa using bad
 | true =>
  simp only [if_true, Bool.true_and]
  cases h2 : Mine.inB 0 x.f0 x.f1 with
  | false => simpa using bad
  | true =>
   simp only [if_true, Bool.true_and]
   cases h3 : Mine.inB 0 3 x.f2 with
   | false => simpa using bad
   | true =>
    simp only [if_true, Bool.true_and]
    rw [show Mine.goodCmdB x.f3.f0 x.f3.f1 x.f3.f2 x.f3.f3 x.f3.f4 = goodS x.f3 from rfl]
    by_cases h4 : x.f2 = 0
    ·rw [if_pos h4]
     by_cases h8 : goodS x.f3 = true ∧ goodAttrB n x.f4.f0 x.f4.f1 = true
     ·obtain ⟨h8, h9⟩ := h8
      simp only [h8, h9, if_true, Bool.not_true]
      by_cases h5 : x.f1 = 0
      ·rw [decide_eq_true h5, Bool.true_and]
       cases h6 : zeroC x.f3 with
       | false =>
        refine Ev.step (f := fun _ => some false) (fun k => by simp only [impl_goodRow.j0]; rw [if_neg (by simp), if_pos h4, if_pos h5, zeroC_of, h6, if_neg (by simp)]) (Ev.now _)
       | true =>
        rw [Bool.true_and]
        refine Ev.step (fun k => by simp only [impl_goodRow.j0]; rw [if_neg (by simp), if_pos h4, if_pos h5, zeroC_of, h6, if_pos rfl, noneAttr_f hn, Option.bind_some]) (Ev.bind (implSameA_ev x.f4.f0 0 x.f4.f1 (List.replicate n.toNat 0) hl) (Ev.now _))
      ·rw [decide_eq_false h5, Bool.false_and]
       refine Ev.step (f := fun _ => some false) (fun k => by simp only [impl_goodRow.j0]; rw [if_neg (by simp), if_pos h4, if_neg h5]) (Ev.now _)
     ·have e : (decide (x.f1 = 0) && (zeroC x.f3 && sameA x.f4.f0 0 x.f4.f1 (List.replicate n.toNat 0))) = false := by
       rw [Bool.eq_false_iff]
       intro h
       rw [Bool.and_eq_true, Bool.and_eq_true] at h
       obtain ⟨_, h6, h7⟩ := h
       unfold sameA at h7
       rw [Bool.and_eq_true, decide_eq_true_eq, decide_eq_true_eq] at h7
       exact h8 ⟨zero_good h6, by rw [h7.1, h7.2]; exact none_good hn⟩
      rw [e]
      cases h6 : goodS x.f3 with
      | false => simpa using bad
      | true =>
       cases h7 : goodAttrB n x.f4.f0 x.f4.f1 with
       | false => simpa using bad
       | true => exact absurd ⟨h6, h7⟩ h8
    ·rw [if_neg h4]
     cases h6 : goodS x.f3 with
     | false => simpa using bad
     | true =>
      cases h7 : goodAttrB n x.f4.f0 x.f4.f1 with
      | false => simpa using bad
      | true =>
       simp only [if_true, Bool.not_true, Bool.true_and]
       exact Ev.step (f := fun _ => some true) (fun k => by simp only [impl_goodRow.j0]; rw [if_neg (by simp), if_neg h4]) (Ev.now _)
theorem specTable_in (n : Int) (hn : n = 3 ∨ n = 5) (xs : List (List S39)) (i : Nat) (y : List S39) (hy : okRS y) (hw : wrap64 ((i : Int) + 1) = ((i + 1 : Nat) : Int)) (R : Bool)
  (hR : Ev (fun k => spec_GoodTable.l0 k xs (xs.length : Int) ((i + 1 : Nat) : Int) n xs) R) : ∀ (d j : Nat), y.length - j = d → j ≤ y.length → Mine.anyP (fun x => !rowB n x) (y.take j) = false →
  Ev (fun k => spec_GoodTable.l1 k y xs (xs.length : Int) (i : Int) y (y.length : Int) (j : Int) n xs) (if listB n y = true then R else false) := by
 obtain ⟨hm, hi⟩ := hy
 intro d
 induction d with
 | zero =>
  intro j hd hj hb
  rw [List.take_of_length_le (by omega)] at hb
  by_cases h6 : y.length ≤ 6
  ·have e : listB n y = true := by unfold listB; rw [hb, decide_eq_true h6]; rfl
   rw [if_pos e]
   exact Ev.step (fun k => by simp only [spec_GoodTable.l1]; rw [if_neg (by omega), if_neg (by omega), hw]) hR
  ·have e : listB n y = false := by unfold listB; rw [decide_eq_false h6]; rfl
   rw [if_neg (by rw [e]; simp)]
   exact Ev.step (f := fun _ => some false) (fun k => by simp only [spec_GoodTable.l1]; rw [if_neg (by omega), if_pos (by omega)]) (Ev.now _)
 | succ d ih =>
  intro j hd hj hb
  have hlt : j < y.length := by omega
  have hx := specRow_ev n hn (y.getD j z39) (hi _ (mem_at _ hlt))
  refine Ev.step (fun k => by simp only [spec_GoodTable.l1]; rw [if_pos (by omega), if_pos (by omega), if_pos (by omega), rdR_nat, wrap_next hlt (by omega)]) (Ev.bind hx ?_)
  cases hr : rowB n (y.getD j z39) with
  | false =>
   have e : listB n y = false := by
    unfold listB
    rw [Mine.anyP, List.any_eq_true.2 ⟨_, mem_at z39 hlt, by rw [hr]; rfl⟩]
    simp
   rw [if_neg (by rw [e]; simp)]
   simp only [Bool.false_eq_true, if_false]
   exact Ev.now _
  | true =>
   simp only [if_true]
   refine ih (j + 1) (by omega) (by omega) ?_
   have e : y.take (j + 1) = y.take j ++ [y.getD j z39] := by
    rw [List.take_add_one, List.getD_eq_getElem?_getD, List.getElem?_eq_getElem hlt]; rfl
   unfold Mine.anyP at hb ⊢
   rw [e, List.any_append, hb, List.any_cons, hr]
   rfl
theorem specTable_l (n : Int) (hn : n = 3 ∨ n = 5) (xs : List (List S39)) (hx : okRSS xs) : ∀ (d i : Nat), xs.length - i = d → i ≤ xs.length →
  Ev (fun k => spec_GoodTable.l0 k xs (xs.length : Int) (i : Int) n xs) (!Mine.anyP (fun y => !listB n y) (xs.drop i)) := by
 obtain ⟨hm, hi⟩ := hx
 intro d
 induction d with
 | zero =>
  intro i hd hi'
  rw [List.drop_eq_nil_of_le (by omega)]
  exact Ev.step (f := fun _ => some true) (fun k => by simp only [spec_GoodTable.l0]; rw [if_neg (by omega)]) (Ev.now _)
 | succ d ih =>
  intro i hd hi'
  have hlt : i < xs.length := by omega
  have h := specTable_in n hn xs i (xs.getD i []) (hi _ (mem_at _ hlt)) (wrap_next hlt (by omega)) _ (ih (i + 1) (by omega) (by omega)) _ 0 rfl (by omega) (by simp [Mine.anyP])
  rw [Mine.drop_at xs [] i hlt, Mine.anyP_cons]
  have e : (!(!listB n (xs.getD i []) || Mine.anyP (fun y => !listB n y) (xs.drop (i + 1)))) = (if listB n (xs.getD i []) = true then !Mine.anyP (fun y => !listB n y) (xs.drop (i + 1)) else false) := by
   cases listB n (xs.getD i []) <;> simp
  rw [e]
  exact Ev.step (fun k => by simp only [spec_GoodTable.l0]; rw [if_pos (by omega), if_pos (by omega), if_pos (by omega), rdRR_nat]; rfl) h
theorem specTable_ev (n : Int) (xs : List (List S39)) (hx : okRSS xs) : Ev (fun k => spec_GoodTable.f k n xs) (tableB n xs) := by
 have bad : Ev (fun k => spec_GoodTable.j0 k true n xs) false := Ev.step (f := fun _ => some false) (fun k => by simp only [spec_GoodTable.j0]; rw [if_pos trivial]) (Ev.now _)
 unfold spec_GoodTable.f tableB
 rw [specGroup]
 simp only [Option.bind_some]
 by_cases hn : n = 3 ∨ n = 5
 ·rw [decide_eq_true hn]
  simp only [if_true, Bool.true_and]
  by_cases hl : (xs.length : Int) = n
  ·rw [decide_eq_true hl, Bool.true_and, show ((xs.length : Int) != n) = false by simp [hl]]
   exact Ev.step (fun k => by simp only [spec_GoodTable.j0]; rw [if_neg (by simp)]; rfl) (specTable_l n hn xs hx _ 0 rfl (by omega))
  ·rw [decide_eq_false hl, Bool.false_and, show ((xs.length : Int) != n) = true by simp [hl]]
   exact bad
 ·rw [decide_eq_false hn]
  simpa using bad
theorem implTable_ev (n : Int) (xs : List (List S39)) (hx : okRSS xs) : Ev (fun k => impl_GoodTable.f k n xs) (tableB n xs) := by
 unfold impl_GoodTable.f tableB
 rw [implGroup]
 simp only [Option.bind_some]
 by_cases hn : n = 3 ∨ n = 5
 ·rw [decide_eq_true hn]
  simp only [if_true, Bool.true_and]
  by_cases hl : (xs.length : Int) = n
  ·rw [decide_eq_true hl, Bool.true_and]
   simp only [if_pos hl]
   refine Ev.bind (a := Mine.anyP (fun y => !listB n y) xs) ?_ (Ev.now _)
   unfold impl_GoodTable_1_in_c.f
   refine anyO_ev (fun k y => impl_GoodTable_1.f k y n xs) xs (fun y => !listB n y) (fun y hy => ?_)
   obtain ⟨hm, hi⟩ := hx.2 y hy
   show Ev (fun k => impl_GoodTable_1.f k y n xs) (!listB n y)
   unfold impl_GoodTable_1.f listB
   by_cases h6 : y.length ≤ 6
   ·rw [decide_eq_true h6, Bool.true_and, Bool.not_not]
    simp only [if_neg (show ¬ (y.length : Int) > 6 by omega)]
    refine Ev.bind (a := Mine.anyP (fun x => !rowB n x) y) ?_ (Ev.now _)
    unfold impl_GoodTable_1_1_in_c.f
    refine anyO_ev (fun k (x : S39) => impl_GoodTable_1_1.f k x.f0 x.f1 x.f2 x.f3.f0 x.f3.f1 x.f3.f2 x.f3.f3 x.f3.f4 x.f4.f0 x.f4.f1 n xs) y (fun x => !rowB n x) (fun x hx' => ?_)
    show Ev (fun k => impl_GoodTable_1_1.f k x.f0 x.f1 x.f2 x.f3.f0 x.f3.f1 x.f3.f2 x.f3.f3 x.f3.f4 x.f4.f0 x.f4.f1 n xs) (!rowB n x)
    unfold impl_GoodTable_1_1.f
    exact Ev.bind (implRow_ev n hn x (hi x hx')) (Ev.now _)
   ·rw [decide_eq_false h6, Bool.false_and]
    simp only [if_pos (show (y.length : Int) > 6 by omega)]
    exact Ev.now _
  ·rw [decide_eq_false hl, Bool.false_and]
   simp only [if_neg hl]
   exact Ev.now _
 ·rw [decide_eq_false hn]
  simp only [Bool.false_eq_true, if_false, Bool.false_and]
  exact Ev.now _

def instB (n rep no : Int) : Bool := Mine.inB 0 (wrap64 (n - 1)) rep && Mine.inB 1 6 no
theorem l3Inst_f (n rep no : Int) : spec_l3Inst.f n rep no = some (instB n rep no) := by
 unfold spec_l3Inst.f instB
 rw [l1In_f, Option.bind_some]
 cases h : Mine.inB 0 (wrap64 (n - 1)) rep with
 | false => simp
 | true => simp [l1In_f]
theorem isInst_f (n rep no : Int) (hn : n = 3 ∨ n = 5) : impl_isInstance.f n rep no = some (instB n rep no) := by
 unfold impl_isInstance.f instB
 rw [implGroup, decide_eq_true hn, Option.bind_some, if_pos rfl, within_f, Option.bind_some]
 cases h : Mine.inB 0 (wrap64 (n - 1)) rep with
 | false => simp
 | true => simp [within_f]

def risesIn (lo hi : Int) (l : List Int) : Bool := Mine.riseB l && !Mine.anyP (Mine.outB lo hi) l
theorem l1Rising_l (xs : List Int) (lo hi : Int) (hm : xs.length ≤ 9223372036854775807) : ∀ (d j : Nat), 1 ≤ j → xs.length - j = d → Mine.outB lo hi (xs.getD (j - 1) 0) = false ∨ xs.length = 0 →
  Ev (fun k => spec_l1Rising.l0 k xs lo hi xs (xs.length : Int) (j : Int)) (risesIn lo hi (xs.drop (j - 1))) := by
 intro d
 induction d with
 | zero =>
  intro j hj hd ho
  refine Ev.step (f := fun _ => some _) (fun k => by simp only [spec_l1Rising.l0]; rw [if_neg (by omega)]) (?_ : Ev (fun _ => some true) _)
  have e : risesIn lo hi (xs.drop (j - 1)) = true := by
   have hl : (xs.drop (j - 1)).length ≤ 1 := by rw [List.length_drop]; omega
   by_cases h0 : j - 1 < xs.length
   ·rw [Mine.drop_at xs 0 (j - 1) h0, List.drop_eq_nil_of_le (by omega)]
    rcases ho with ho | ho
    ·show (true && !Mine.anyP _ [_]) = true
     rw [Mine.anyP_cons, ho]; rfl
    ·omega
   ·rw [List.drop_eq_nil_of_le (by omega)]; rfl
  rw [e]; exact Ev.now _
 | succ d ih =>
  intro j hj hd ho
  have hlt : j < xs.length := by omega
  have e1 := Mine.drop_at xs 0 (j - 1) (by omega)
  rw [show j - 1 + 1 = j by omega] at e1
  have e2 := Mine.drop_at xs 0 j hlt
  have ho' : Mine.outB lo hi (xs.getD (j - 1) 0) = false := by rcases ho with h | h; exact h; omega
  have r2 : rd xs ((j : Int) - 1) = xs.getD (j - 1) 0 := by rw [show ((j : Int) - 1) = ((j - 1 : Nat) : Int) by omega, rd_nat]
  have hp : wrap64 ((j : Int) - 1) = (j : Int) - 1 := by unfold wrap64; omega
  have body : ∀ k, spec_l1Rising.l0 (k + 1) xs lo hi xs (xs.length : Int) (j : Int) = if Mine.inB lo hi (xs.getD j 0) = true then (if xs.getD (j - 1) 0 ≥ xs.getD j 0 then some false else spec_l1Rising.l0 k xs lo hi xs (xs.length : Int) ((j + 1 : Nat) : Int)) else some false := by
   intro k
   simp only [spec_l1Rising.l0]
   rw [if_pos (by omega), if_pos (by omega), if_pos (by omega), rd_nat, l1In_f, Option.bind_some, hp, if_pos (by omega : (j : Int) > 0), if_pos (by omega : (0 : Int) ≤ (j : Int) - 1), if_pos (by omega : (j : Int) - 1 < (xs.length : Int)), r2, wrap_next hlt hm]
  have er : risesIn lo hi (xs.drop (j - 1)) = ((decide (xs.getD (j - 1) 0 < xs.getD j 0)) && risesIn lo hi (xs.drop j)) := by
   rw [e1, e2]
   simp only [risesIn, Mine.riseB, Mine.anyP_cons, ho', Bool.false_or]
   cases decide (xs.getD (j - 1) 0 < xs.getD j 0) <;> simp
  by_cases hi1 : Mine.inB lo hi (xs.getD j 0) = true
  ·by_cases h : xs.getD (j - 1) 0 ≥ xs.getD j 0
   ·refine Ev.step (f := fun _ => some false) (fun k => by rw [body, if_pos hi1, if_pos h]) ?_
    rw [er, decide_eq_false (by omega : ¬ xs.getD (j - 1) 0 < xs.getD j 0), Bool.false_and]; exact Ev.now _
   ·refine Ev.step (f := fun k => spec_l1Rising.l0 k xs lo hi xs (xs.length : Int) ((j + 1 : Nat) : Int)) (fun k => by rw [body, if_pos hi1, if_neg h]) ?_
    rw [er, decide_eq_true (by omega : xs.getD (j - 1) 0 < xs.getD j 0), Bool.true_and]
    have := ih (j + 1) (by omega) (by omega) (.inl (by rw [show j + 1 - 1 = j by omega]; unfold Mine.outB; rw [hi1]; rfl))
    rwa [show j + 1 - 1 = j by omega] at this
  ·refine Ev.step (f := fun _ => some false) (fun k => by rw [body, if_neg hi1]) ?_
   have : risesIn lo hi (xs.drop j) = false := by
    rw [e2]
    simp only [risesIn, Mine.anyP_cons, Mine.outB, hi1]
    simp
   rw [er, this, Bool.and_false]; exact Ev.now _
theorem l1Rising_ev (xs : List Int) (lo hi : Int) (hm : xs.length ≤ 9223372036854775807) : Ev (fun k => spec_l1Rising.f k xs lo hi) (risesIn lo hi xs) := by
 unfold spec_l1Rising.f
 by_cases h0 : xs.length = 0
 ·have : xs = [] := List.eq_nil_of_length_eq_zero h0
  subst this
  exact Ev.step (f := fun _ => some true) (fun k => by simp only [spec_l1Rising.l0]; rw [if_neg (by simp)]) (Ev.now _)
 ·have body : ∀ k, spec_l1Rising.l0 (k + 1) xs lo hi xs (xs.length : Int) 0 = if Mine.inB lo hi (xs.getD 0 0) = true then spec_l1Rising.l0 k xs lo hi xs (xs.length : Int) ((1 : Nat) : Int) else some false := by
   intro k
   simp only [spec_l1Rising.l0]
   rw [if_pos (by omega), if_pos (by omega), if_pos (by omega), show rd xs 0 = xs.getD 0 0 from rfl, l1In_f, Option.bind_some, if_neg (by omega : ¬ (0 : Int) > 0), show wrap64 (0 + 1) = ((1 : Nat) : Int) from by unfold wrap64; omega]
  have e0 := Mine.drop_at xs 0 0 (by omega)
  by_cases hi1 : Mine.inB lo hi (xs.getD 0 0) = true
  ·refine Ev.step (f := fun k => spec_l1Rising.l0 k xs lo hi xs (xs.length : Int) ((1 : Nat) : Int)) (fun k => by rw [body, if_pos hi1]) ?_
   have := l1Rising_l xs lo hi hm (xs.length - 1) 1 (by omega) rfl (.inl (by unfold Mine.outB; rw [show (1 : Nat) - 1 = 0 from rfl, hi1]; rfl))
   simpa using this
  ·refine Ev.step (f := fun _ => some false) (fun k => by rw [body, if_neg hi1]) ?_
   have : risesIn lo hi xs = false := by
    rw [show xs = xs.getD 0 0 :: xs.drop 1 from by simpa using e0]
    simp only [risesIn, Mine.anyP_cons, Mine.outB, hi1]
    simp
   rw [this]; exact Ev.now _

def idxI (n : Int) : List Int → Int → Int
 | [], _ => -1
 | x :: xs, i => if n = x then i else idxI n xs (i + 1)
theorem index_l (xs : List Int) (n : Int) (hm : xs.length ≤ 9223372036854775807) : ∀ (d i : Nat), xs.length - i = d → Ev (fun k => slices_Index_int_int.l0 k xs n (xs.length : Int) (i : Int)) (idxI n (xs.drop i) i) := by
 intro d
 induction d with
 | zero => intro i hd; rw [List.drop_eq_nil_of_le (by omega)]; exact Ev.step (f := fun _ => some (-1)) (fun k => by simp only [slices_Index_int_int.l0]; rw [if_neg (by omega)]) (Ev.now _)
 | succ d ih =>
  intro i hd
  have hlt : i < xs.length := by omega
  rw [Mine.drop_at xs 0 i hlt, idxI]
  have body : ∀ k, slices_Index_int_int.l0 (k + 1) xs n (xs.length : Int) (i : Int) = if n = xs.getD i 0 then some (i : Int) else slices_Index_int_int.l0 k xs n (xs.length : Int) ((i + 1 : Nat) : Int) := by
   intro k
   simp only [slices_Index_int_int.l0]
   rw [if_pos (by omega), if_pos (by omega), if_pos (by omega), rd_nat, wrap_next hlt hm]
  by_cases h : n = xs.getD i 0
  ·rw [if_pos h]; exact Ev.step (f := fun _ => some (i : Int)) (fun k => by rw [body, if_pos h]) (Ev.now _)
  ·rw [if_neg h]; exact Ev.step (fun k => by rw [body, if_neg h]) (by simpa using ih (i + 1) (by omega))
theorem idxI_any (n : Int) : ∀ (xs : List Int) (i : Int), 0 ≤ i → decide (idxI n xs i ≥ 0) = Mine.anyP (fun x => x == n) xs
 | [], i, _ => by simp [idxI, Mine.anyP]
 | x :: xs, i, hi => by
  rw [idxI, Mine.anyP_cons]
  by_cases h : n = x
  ·rw [if_pos h]; simp [h, hi]
  ·rw [if_neg h, idxI_any n xs (i + 1) (by omega)]; simp [show ¬ x = n from fun e => h e.symm]
theorem index_ev (xs : List Int) (n : Int) (hm : xs.length ≤ 9223372036854775807) : Ev (fun k => slices_Index_int_int.f k xs n) (idxI n xs 0) := by
 simpa [slices_Index_int_int.f] using index_l xs n hm _ 0 rfl

theorem contains_ev (xs : List Int) (n : Int) (hm : xs.length ≤ 9223372036854775807) : Ev (fun k => slices_Contains_int_int.f k xs n) (Mine.anyP (fun x => x == n) xs) := by
 have h := Ev.map (index_ev xs n hm) (fun t => decide (t ≥ 0))
 rw [idxI_any n xs 0 (Int.le_refl 0)] at h
 exact h

theorem l1Has_ev (l : List Int) (n : Int) (hm : l.length ≤ 9223372036854775807) : Ev (fun k => spec_l1Has.f k l n) (Mine.anyP (fun x => x == n) l) := by
 have h := loop_any (fun k => spec_l1Has.l0 k n l (l.length : Int)) l 0 (fun x => x == n) true false (by
  intro i hlt
  have body : ∀ k, spec_l1Has.l0 (k + 1) n l (l.length : Int) (i : Int) = if l.getD i 0 = n then some true else spec_l1Has.l0 k n l (l.length : Int) ((i + 1 : Nat) : Int) := by
   intro k
   simp only [spec_l1Has.l0]
   rw [if_pos (by omega), if_pos (by omega), if_pos (by omega), rd_nat, wrap_next hlt hm]
  refine ⟨fun hp => Ev.step (f := fun _ => some true) (fun k => by rw [body, if_pos (by simpa using hp)]) (Ev.now _), fun hp r hr => Ev.step (fun k => by rw [body, if_neg (by simpa using hp)]) hr⟩) (fun _ => Ev.step (f := fun _ => some false) (fun k => by simp only [spec_l1Has.l0]; rw [if_neg (by omega)]) (Ev.now _))
 have e : (if Mine.anyP (fun x => x == n) l = true then true else false) = Mine.anyP (fun x => x == n) l := by cases Mine.anyP (fun x => x == n) l <;> rfl
 rw [e] at h
 exact h

theorem Ev.gate {g t : Nat → Option Bool} {a b : Bool} (h : Ev g a) (ht : Ev t b) : Ev (fun k => (g k).bind fun q => if q = true then t k else some false) (if a = true then b else false) := by
 refine Ev.bind h ?_
 cases a with
 | false => simpa using Ev.now false
 | true => simpa using ht
def seenB (n : Int) : List S39 → Bool
 | [] => true
 | y :: ys => if rowB n y = true then (if y.f2 = 3 then false else seenB n ys) else false
def phaseB (n : Int) (x : S77) : Bool :=
 if x.f3 = 1 then (if goodS x.f4 = true then (if x.f9.length = 0 then true else false) else false) else
 if x.f3 = 2 then (if goodS x.f4 = true then (if x.f9.length = 0 then (if sameA x.f5.f0 x.f6.f0 x.f5.f1 x.f6.f1 = true then !x.f7 else false) else false) else false) else
 if x.f3 = 3 then (if zeroC x.f4 = true then (if sameA x.f5.f0 0 x.f5.f1 (List.replicate n.toNat 0) = true then (if sameA x.f6.f0 0 x.f6.f1 (List.replicate n.toNat 0) = true then (if x.f7 = true then false else if x.f9.length = x.f8.length then seenB n x.f9 else false) else false) else false) else false) else false
def phase0 (n : Int) (x : S77) : Bool :=
 if x.f3 = 1 then (if goodS x.f4 = true then (if x.f9.length = 0 then true else false) else false) else
 if x.f3 = 2 then (if goodS x.f4 = true then (if x.f9.length = 0 then (if x.f7 = true then false else sameA x.f5.f0 x.f6.f0 x.f5.f1 x.f6.f1) else false) else false) else
 if x.f3 = 3 then (if zeroC x.f4 = true then (if sameA x.f5.f0 0 x.f5.f1 (List.replicate n.toNat 0) = true then (if sameA x.f6.f0 0 x.f6.f1 (List.replicate n.toNat 0) = true then (if x.f7 = true then false else if x.f9.length = x.f8.length then true else false) else false) else false) else false) else false
theorem phase_eq (n : Int) (x : S77) : (if seenB n x.f9 = true then phase0 n x else false) = phaseB n x := by
 unfold phase0 phaseB
 cases hs : seenB n x.f9 with
 | true =>
  simp only [if_true]
  cases x.f7 <;> cases sameA x.f5.f0 x.f6.f0 x.f5.f1 x.f6.f1 <;> simp
 | false =>
  have hne : ¬ x.f9.length = 0 := fun h => by rw [List.eq_nil_of_length_eq_zero h] at hs; cases hs
  simp [hne]
def hasB (me : Int) (l : List Int) : Bool := Mine.anyP (fun x => x == me) l
def leadB (n me : Int) (x : S77) : Bool := if instB n x.f0 x.f1 = true then (if Mine.inB 0 9999 x.f2 = true then (if risesIn 0 (wrap64 (n - 1)) x.f8 = true then (if hasB me x.f8 = true then (if goodAttrB n x.f5.f0 x.f5.f1 = true then (if goodAttrB n x.f6.f0 x.f6.f1 = true then phaseB n x else false) else false) else false) else false) else false) else false
theorem seen_any (n : Int) : ∀ l : List S39, Mine.anyP (fun y => !(rowB n y && !(y.f2 == 3))) l = !seenB n l
 | [] => rfl
 | y :: ys => by
  have ih := seen_any n ys
  unfold seenB
  show ((!(rowB n y && !(y.f2 == 3))) || Mine.anyP (fun y => !(rowB n y && !(y.f2 == 3))) ys) = _
  rw [ih]
  cases rowB n y with
  | false => simp
  | true => by_cases h : y.f2 = 3 <;> simp [h]
theorem implSeen_ev (n : Int) (hn : n = 3 ∨ n = 5) (l : List S39) (hx : ∀ y ∈ l, okR y) : Ev (fun k => impl_goodLead.any k l n) (!seenB n l) := by
 rw [← seen_any]
 unfold impl_goodLead.any
 refine anyO_ev _ l _ (fun y hy => ?_)
 unfold impl_goodLead_1.f
 refine Ev.bind (implRow_ev n hn y (hx y hy)) ?_
 cases rowB n y with
 | false => simpa using Ev.now _
 | true => simpa using Ev.now _
theorem implPhase_ev (n : Int) (hn : n = 3 ∨ n = 5) (x : S77) (hx : okL x) : Ev (fun k => impl_goodLead.s7 k n x) (phaseB n x) := by
 obtain ⟨w1, w2, w3, w4⟩ := hx
 unfold impl_goodLead.s7 phaseB
 by_cases p1 : x.f3 = 1
 ·simp only [if_pos p1]
  unfold impl_goodLead.p1
  refine Ev.gate (Ev.const (implGoodCmd _ _ _ _ _)) ?_
  unfold impl_goodLead.z9
  split <;> exact Ev.now _
 simp only [if_neg p1]
 by_cases p2 : x.f3 = 2
 ·simp only [if_pos p2]
  unfold impl_goodLead.p2
  refine Ev.gate (Ev.const (implGoodCmd _ _ _ _ _)) ?_
  unfold impl_goodLead.y2
  by_cases h : x.f9.length = 0
  ·simp only [if_pos h]
   unfold impl_goodLead.y3
   exact Ev.gate (implSameA_ev _ _ _ _ (by omega)) (Ev.now _)
  ·simp only [if_neg h]
   exact Ev.now _
 simp only [if_neg p2]
 by_cases p3 : x.f3 = 3
 ·simp only [if_pos p3, noneAttr_f hn, Option.bind_some]
  unfold impl_goodLead.p3
  rw [zeroC_of]
  cases hz : zeroC ⟨x.f4.f0, x.f4.f1, x.f4.f2, x.f4.f3, x.f4.f4⟩ with
  | false => simpa using Ev.now _
  | true =>
   simp only [if_true]
   unfold impl_goodLead.u1
   refine Ev.gate (implSameA_ev _ _ _ _ (by omega)) ?_
   unfold impl_goodLead.u2
   refine Ev.gate (implSameA_ev _ _ _ _ (by omega)) ?_
   unfold impl_goodLead.u3
   by_cases h7 : x.f7 = true
   ·simp only [if_pos h7]; exact Ev.now _
   simp only [if_neg h7]
   by_cases hl : x.f9.length = x.f8.length
   ·simp only [if_pos hl]
    unfold impl_goodLead.u4
    refine Ev.bind (implSeen_ev n hn x.f9 w4.2) ?_
    cases seenB n x.f9 with
    | false => simpa using Ev.now _
    | true => simpa using Ev.now _
   ·simp only [if_neg hl]; exact Ev.now _
 ·simp only [if_neg p3]
  exact Ev.now _
theorem implLead_ev (n me : Int) (hn : n = 3 ∨ n = 5) (x : S77) (hx : okL x) : Ev (fun k => impl_goodLead.f k n me x) (leadB n me x) := by
 have hp := implPhase_ev n hn x hx
 obtain ⟨w1, w2, w3, w4⟩ := hx
 unfold impl_goodLead.f leadB
 refine Ev.gate (Ev.const (isInst_f n _ _ hn)) ?_
 unfold impl_goodLead.s2
 refine Ev.gate (Ev.const (within_f _ _ _)) ?_
 unfold impl_goodLead.s3
 refine Ev.gate (Ev.const rfl) ?_
 unfold impl_goodLead.s4
 refine Ev.gate (contains_ev x.f8 me (by omega)) ?_
 unfold impl_goodLead.s5
 refine Ev.gate (Ev.const rfl) ?_
 unfold impl_goodLead.s6
 exact Ev.gate (Ev.const rfl) hp
theorem specSeen_ev (n : Int) (hn : n = 3 ∨ n = 5) : ∀ (l : List S39), (∀ y ∈ l, okR y) → Ev (fun k => spec_l8Lead.g k n l) (seenB n l)
 | [], _ => by unfold spec_l8Lead.g seenB; exact Ev.now _
 | y :: ys, hx => by
  unfold spec_l8Lead.g seenB
  refine Ev.gate (specRow_ev n hn y (hx y (by simp))) ?_
  by_cases h : y.f2 = 3
  ·simp only [if_pos h]; exact Ev.now _
  ·simp only [if_neg h]; exact specSeen_ev n hn ys (fun z hz => hx z (by simp [hz]))
theorem specPhase_ev (n : Int) (hn : n = 3 ∨ n = 5) (x : S77) (hx : okL x) : Ev (fun k => spec_l8Lead.s7 k n x) (phase0 n x) := by
 obtain ⟨w1, w2, w3, w4⟩ := hx
 unfold spec_l8Lead.s7 phase0
 by_cases p1 : x.f3 = 1
 ·simp only [if_pos p1]
  unfold spec_l8Lead.p1
  refine Ev.gate (Ev.const (specGoodCmd _ _ _ _ _)) ?_
  unfold spec_l8Lead.z9
  split <;> exact Ev.now _
 simp only [if_neg p1]
 by_cases p2 : x.f3 = 2
 ·simp only [if_pos p2]
  unfold spec_l8Lead.p2
  refine Ev.gate (Ev.const (specGoodCmd _ _ _ _ _)) ?_
  unfold spec_l8Lead.y2
  by_cases h : x.f9.length = 0
  ·simp only [if_pos h]
   unfold spec_l8Lead.y3
   by_cases h7 : x.f7 = true
   ·simp only [if_pos h7]; exact Ev.now _
   ·simp only [if_neg h7]
    unfold spec_l8Lead.y4
    exact specSameA_ev _ _ _ _ (by omega)
  ·simp only [if_neg h]
   exact Ev.now _
 simp only [if_neg p2]
 by_cases p3 : x.f3 = 3
 ·simp only [if_pos p3, l3None_f hn, Option.bind_some]
  unfold spec_l8Lead.p3
  rw [zeroC_of]
  cases hz : zeroC ⟨x.f4.f0, x.f4.f1, x.f4.f2, x.f4.f3, x.f4.f4⟩ with
  | false => simpa using Ev.now _
  | true =>
   simp only [if_true]
   unfold spec_l8Lead.u1
   refine Ev.gate (specSameA_ev _ _ _ _ (by omega)) ?_
   unfold spec_l8Lead.u2
   refine Ev.gate (specSameA_ev _ _ _ _ (by omega)) ?_
   unfold spec_l8Lead.u3
   by_cases h7 : x.f7 = true
   ·simp only [if_pos h7]; exact Ev.now _
   simp only [if_neg h7]
   by_cases hl : x.f9.length = x.f8.length
   ·simp only [if_pos hl]; exact Ev.now _
   ·simp only [if_neg hl]; exact Ev.now _
 ·simp only [if_neg p3]
  exact Ev.now _
theorem l3A_ev (n s : Int) (l : List Int) (hn : n = 3 ∨ n = 5) (hm : l.length ≤ 9223372036854775807) : Ev (fun k => spec_l3Attr.f k n s l) (goodAttrB n s l) := by
 have h := l3Attr_ev n s l hm
 unfold goodAttrB
 rw [decide_eq_true hn, Bool.true_and]
 exact h
theorem specLead_ev (n me : Int) (hn : n = 3 ∨ n = 5) (x : S77) (hx : okL x) : Ev (fun k => spec_l8Lead.f k n me x) (leadB n me x) := by
 have hp := specPhase_ev n hn x hx
 obtain ⟨w1, w2, w3, w4⟩ := hx
 unfold spec_l8Lead.f leadB
 refine Ev.gate (Ev.const (l3Inst_f n _ _)) ?_
 unfold spec_l8Lead.s2
 refine Ev.gate (Ev.const (l1In_f _ _ _)) ?_
 unfold spec_l8Lead.s3
 refine Ev.gate (l1Rising_ev _ _ _ (by omega)) ?_
 unfold spec_l8Lead.s4
 refine Ev.gate (l1Has_ev x.f8 me (by omega)) ?_
 unfold spec_l8Lead.s5
 refine Ev.gate (l3A_ev n _ _ hn (by omega)) ?_
 unfold spec_l8Lead.s6
 refine Ev.gate (l3A_ev n _ _ hn (by omega)) ?_
 rw [← phase_eq]
 exact Ev.gate (specSeen_ev n hn x.f9 w4.2) hp
def ltB (p : Option (Int × Int)) (x : S77) (b : Bool) : Bool := match p with
 | none => b
 | some q => if x.f0 < q.1 then false else if q.1 = x.f0 then (if x.f1 ≤ q.2 then false else b) else b
def leadsB (n me : Int) : Option (Int × Int) → List S77 → Bool
 | _, [] => true
 | p, x :: xs => if leadB n me x = true then ltB p x (leadsB n me (some (x.f0, x.f1)) xs) else false
def repB (me n : Int) (l : List (List S39)) (ls : List S77) : Bool := if tableB n l = true then (if Mine.inB 0 (wrap64 (n - 1)) me = true then leadsB n me none ls else false) else false
theorem specLeads_ev (n me : Int) (hn : n = 3 ∨ n = 5) : ∀ (ls : List S77) (p : Option (Int × Int)), (∀ x ∈ ls, okL x) → Ev (fun k => spec_GoodReplica.o k n me p ls) (leadsB n me p ls)
 | [], p, _ => by unfold spec_GoodReplica.o leadsB; exact Ev.now _
 | x :: xs, p, hx => by
  have ih := specLeads_ev n me hn xs (some (x.f0, x.f1)) (fun z hz => hx z (by simp [hz]))
  unfold spec_GoodReplica.o leadsB
  refine Ev.gate (specLead_ev n me hn x (hx x (by simp))) ?_
  unfold spec_GoodReplica.nx ltB
  cases p with
  | none => exact ih
  | some q =>
   dsimp only
   by_cases c1 : x.f0 < q.1
   ·simp only [if_pos c1]; exact Ev.now _
   simp only [if_neg c1]
   by_cases c2 : q.1 = x.f0
   ·simp only [if_pos c2]
    by_cases c3 : x.f1 ≤ q.2
    ·simp only [if_pos c3]; exact Ev.now _
    ·simp only [if_neg c3]; exact ih
   ·simp only [if_neg c2]; exact ih
theorem cmpI (a b : Int) : cmp_Compare_int.f a b = some (if a < b then -1 else if a > b then 1 else 0) := by
 unfold cmp_Compare_int.f cmp_isNaN_int.f
 simp only [Option.bind_some, bne_self_eq_false, Bool.false_eq_true, if_false]
 split
 ·rfl
 ·split <;> rfl
theorem cmp2_ev (a b c d : Int) : Ev (fun k => slices_Compare_int_int.f k [a, b] [c, d]) (if a < c then -1 else if a > c then 1 else if b < d then -1 else if b > d then 1 else 0) := by
 unfold slices_Compare_int_int.f
 refine Ev.step (f := fun k => if a < c then some (-1) else if a > c then some 1 else slices_Compare_int_int.l0 k [a, b] [c, d] [a, b] 2 1) (fun k => ?_) ?_
 ·simp only [slices_Compare_int_int.l0]
  rw [if_pos (by simp), if_pos (by omega), if_pos (by simp), if_neg (by simp), if_pos (by simp)]
  rw [show rd [a, b] 0 = a from rfl, show rd [c, d] 0 = c from rfl, cmpI, Option.bind_some]
  by_cases h1 : a < c
  ·rw [if_pos h1, if_neg (by omega), if_pos h1]
  ·rw [if_neg h1, if_neg h1]
   by_cases h2 : a > c
   ·rw [if_pos h2, if_neg (by omega), if_pos h2]
   ·rw [if_neg h2, if_pos rfl, if_neg h2, show wrap64 (0 + 1) = 1 by unfold wrap64; omega]; rfl
 ·by_cases h1 : a < c
  ·simp only [if_pos h1]; exact Ev.now _
  simp only [if_neg h1]
  by_cases h2 : a > c
  ·simp only [if_pos h2]; exact Ev.now _
  simp only [if_neg h2]
  refine Ev.step (f := fun k => if b < d then some (-1) else if b > d then some 1 else slices_Compare_int_int.l0 k [a, b] [c, d] [a, b] 2 2) (fun k => ?_) ?_
  ·simp only [slices_Compare_int_int.l0]
   rw [if_pos (by omega), if_pos (by omega), if_pos (by simp), if_neg (by simp), if_pos (by simp)]
   rw [show rd [a, b] 1 = b from rfl, show rd [c, d] 1 = d from rfl, cmpI, Option.bind_some]
   by_cases h3 : b < d
   ·rw [if_pos h3, if_neg (by omega), if_pos h3]
   ·rw [if_neg h3, if_neg h3]
    by_cases h4 : b > d
    ·rw [if_pos h4, if_neg (by omega), if_pos h4]
    ·rw [if_neg h4, if_pos rfl, if_neg h4, show wrap64 (1 + 1) = 2 by unfold wrap64; omega]
  ·by_cases h3 : b < d
   ·simp only [if_pos h3]; exact Ev.now _
   simp only [if_neg h3]
   by_cases h4 : b > d
   ·simp only [if_pos h4]; exact Ev.now _
   simp only [if_neg h4]
   exact Ev.step (f := fun _ => some 0) (fun k => by simp only [slices_Compare_int_int.l0]; rw [if_neg (by omega), if_neg (by simp)]) (Ev.now _)
theorem implLeads_ev (n me : Int) (hn : n = 3 ∨ n = 5) : ∀ (ls : List S77) (p : Option (Int × Int)), (∀ x ∈ ls, okL x) → Ev (fun k => impl_GoodReplica.o k n me p ls) (leadsB n me p ls)
 | [], p, _ => by unfold impl_GoodReplica.o leadsB; exact Ev.now _
 | x :: xs, p, hx => by
  have ih := implLeads_ev n me hn xs (some (x.f0, x.f1)) (fun z hz => hx z (by simp [hz]))
  unfold impl_GoodReplica.o leadsB
  refine Ev.gate (implLead_ev n me hn x (hx x (by simp))) ?_
  unfold impl_GoodReplica.nx ltB
  cases p with
  | none => exact ih
  | some q =>
   dsimp only
   refine Ev.bind (cmp2_ev x.f0 x.f1 q.1 q.2) ?_
   by_cases c1 : x.f0 < q.1
   ·simp only [if_pos c1, if_pos (show (-1 : Int) ≤ 0 by omega)]; exact Ev.now _
   simp only [if_neg c1]
   by_cases c2 : q.1 = x.f0
   ·simp only [if_neg (show ¬ x.f0 > q.1 by omega), if_pos c2]
    by_cases c3 : x.f1 ≤ q.2
    ·simp only [if_pos c3]
     by_cases c4 : x.f1 < q.2
     ·simp only [if_pos c4, if_pos (show (-1 : Int) ≤ 0 by omega)]; exact Ev.now _
     ·simp only [if_neg c4, if_neg (show ¬ x.f1 > q.2 by omega), if_pos (show (0 : Int) ≤ 0 by omega)]; exact Ev.now _
    ·simp only [if_neg c3, if_neg (show ¬ x.f1 < q.2 by omega), if_pos (show x.f1 > q.2 by omega), if_neg (show ¬ (1 : Int) ≤ 0 by omega)]; exact ih
   ·simp only [if_neg c2, if_pos (show x.f0 > q.1 by omega), if_neg (show ¬ (1 : Int) ≤ 0 by omega)]; exact ih
theorem table_n {n : Int} {l : List (List S39)} (h : tableB n l = true) : n = 3 ∨ n = 5 := by
 unfold tableB at h
 rw [Bool.and_eq_true, decide_eq_true_eq] at h
 exact h.1
theorem specRep_ev (me n : Int) (l : List (List S39)) (ls : List S77) (hx : okRSS l) (hy : okLS ls) : Ev (fun k => spec_GoodReplica.f k me n l ls) (repB me n l ls) := by
 unfold spec_GoodReplica.f repB
 refine Ev.bind (specTable_ev n l hx) ?_
 cases ht : tableB n l with
 | false => simpa using Ev.now _
 | true =>
  simp only [if_true]
  unfold spec_GoodReplica.s2
  exact Ev.gate (Ev.const (l1In_f _ _ _)) (specLeads_ev n me (table_n ht) ls none hy.2)
theorem implRep_ev (me n : Int) (l : List (List S39)) (ls : List S77) (hx : okRSS l) (hy : okLS ls) : Ev (fun k => impl_GoodReplica.f k me n l ls) (repB me n l ls) := by
 unfold impl_GoodReplica.f repB
 refine Ev.bind (implTable_ev n l hx) ?_
 cases ht : tableB n l with
 | false => simpa using Ev.now _
 | true =>
  simp only [if_true]
  unfold impl_GoodReplica.s2
  exact Ev.gate (Ev.const (within_f _ _ _)) (implLeads_ev n me (table_n ht) ls none hy.2)

theorem FnExactGoodReplica : laws_FnExactGoodReplica.Pure := by
 rintro ⟨me, ⟨n, l⟩, ls⟩ ⟨_, ⟨_, hl, hq⟩, hm, hp⟩
 dsimp only at hl hq hm hp ⊢
 have wr : ∀ {y : List S132}, (y.length ≤ 9223372036854775807 ∧ ∀ x ∈ y, q132 x) → wideRS y := fun h => ⟨h.1, fun x hx => (h.2 x hx).2.2.2.2.2.1⟩
 have hi : ∀ y ∈ l, wideRS y := fun y hy => wr (hq y hy)
 have hi2 : ∀ x ∈ ls, wideL x := fun x hx => by
  obtain ⟨_, _, _, _, _, h5, h6, _, h8, h9⟩ := hp x hx
  exact ⟨h5.2.1, h6.2.1, h8.1, wr h9⟩
 unfold laws_FnExactGoodReplica.Facts
 rcases szReplica_or me n l ls hl hi hm hi2 1048576 (by omega) (by omega) with h | ⟨b, hb0, hb1, h, hs, hs2⟩
 ·exact ⟨-1, Ev.rounds h, .inl (by omega)⟩
 ·have ho := ok_of_small hs
  have ho2 := okL_of_small hs2
  exact ⟨b, Ev.rounds h, .inr ⟨hb0, me, n, _, _, Ev.rounds (toReplica_ev me n l ls hs hs2), repB me n (l.map (List.map rc)) (ls.map cL), Ev.rounds (specRep_ev me n _ _ ho ho2), Ev.rounds (implRep_ev me n _ _ ho ho2), Ev.rounds (eqReplica_ev me n _ _ ho ho2), trivial⟩⟩

end Go.Proofs.Ytilmcfdhijdhpaa.Pure
