/-
  Plain words that the hand-walked functions use: where the first element stands of which a predicate holds; numbers within bounds; numbers that rise.
-/
import Derived.RowKit
namespace Go.Proofs.YtmknjfnhfcljcaaDoor.Mine
set_option linter.unusedVariables false
set_option linter.unusedSimpArgs false

/-- Where the first element stands of which p holds, from i on; -1 if there is none. -/
def idxP {α : Type} (p : α → Bool) : List α → Int → Int
  | [], _ => -1
  | x :: xs, i => if p x = true then i else idxP p xs (i + 1)

theorem drop_at {α : Type} (xs : List α) (d : α) (kk : Nat) (h : kk < xs.length) : xs.drop kk = xs.getD kk d :: xs.drop (kk + 1) := by
  rw [List.drop_eq_getElem_cons h, List.getD_eq_getElem?_getD, List.getElem?_eq_getElem h]; rfl

theorem getD_mem {α : Type} (xs : List α) (d : α) (kk : Nat) (h : kk < xs.length) : xs.getD kk d ∈ xs := by
  rw [List.getD_eq_getElem?_getD, List.getElem?_eq_getElem h]; exact List.getElem_mem _

theorem idxP_drop {α : Type} (p : α → Bool) (xs : List α) (d : α) : ∀ kk : Nat, kk ≤ xs.length → (∀ j, j < kk → p (xs.getD j d) = false) → idxP p xs 0 = idxP p (xs.drop kk) kk
  | 0, _, _ => by simp
  | kk + 1, h, hp => by
    rw [idxP_drop p xs d kk (by omega) (fun j hj => hp j (by omega)), drop_at xs d kk (by omega), idxP, if_neg (by rw [hp kk (by omega)]; simp)]
    simp

theorem idxP_hit {α : Type} (p : α → Bool) (xs : List α) (d : α) (kk : Nat) (h : kk < xs.length) (hb : ∀ j, j < kk → p (xs.getD j d) = false) (hp : p (xs.getD kk d) = true) : idxP p xs 0 = kk := by
  rw [idxP_drop p xs d kk (by omega) hb, drop_at xs d kk h, idxP, if_pos hp]

theorem idxP_miss {α : Type} (p : α → Bool) (xs : List α) (d : α) (hb : ∀ j, j < xs.length → p (xs.getD j d) = false) : idxP p xs 0 = -1 := by
  rw [idxP_drop p xs d xs.length (Nat.le_refl _) hb, List.drop_eq_nil_of_le (Nat.le_refl _)]
  rfl

theorem idxP_any {α : Type} (p : α → Bool) : ∀ (xs : List α) (i : Int), 0 ≤ i → decide (0 ≤ idxP p xs i) = xs.any p
  | [], i, _ => by simp [idxP]
  | x :: xs, i, hi => by
    rw [idxP, List.any_cons]
    by_cases h : p x = true
    · rw [if_pos h, h]; simpa using hi
    · rw [if_neg h, idxP_any p xs (i + 1) (by omega)]; simp at h; simp [h]

/-- A function's word for List.any, that no simp set opens. -/
def anyP {α : Type} (p : α → Bool) (xs : List α) : Bool := xs.any p
theorem anyP_idx {α : Type} (p : α → Bool) (xs : List α) : decide (0 ≤ idxP p xs 0) = anyP p xs := idxP_any p xs 0 (Int.le_refl 0)
theorem anyP_congr {α : Type} {p q : α → Bool} (h : ∀ x, p x = q x) (xs : List α) : anyP p xs = anyP q xs := by
  rw [show p = q from funext h]
theorem anyP_false {α : Type} {p : α → Bool} {xs : List α} : anyP p xs = false ↔ ∀ x ∈ xs, p x = false := by
  unfold anyP; simp
theorem anyP_true {α : Type} {p : α → Bool} {xs : List α} : anyP p xs = true ↔ ∃ x ∈ xs, p x = true := by
  unfold anyP; simp

/-- Is a number within bounds? -/
def inB (lo hi x : Int) : Bool := decide (lo ≤ x ∧ x ≤ hi)
def outB (lo hi x : Int) : Bool := !inB lo hi x
theorem inB_iff {lo hi x : Int} : inB lo hi x = true ↔ lo ≤ x ∧ x ≤ hi := by unfold inB; simp
theorem outB_iff {lo hi x : Int} : outB lo hi x = true ↔ ¬ (lo ≤ x ∧ x ≤ hi) := by unfold outB inB; rw [Bool.not_eq_true', decide_eq_false_iff_not]
theorem outB_false {lo hi x : Int} : outB lo hi x = false ↔ lo ≤ x ∧ x ≤ hi := by unfold outB inB; rw [Bool.not_eq_false', decide_eq_true_iff]

/-- Do numbers rise? -/
def riseB : List Int → Bool
  | a :: b :: r => decide (a < b) && riseB (b :: r)
  | _ => true

def notB (b : Bool) : Bool := !b
def andB (a b : Bool) : Bool := a && b

/-- A copy that goes on: what has been copied so far. -/
theorem take_set {α : Type} (xs acc : List α) (d : α) (i : Nat) (h : i < xs.length) (hl : acc.length = xs.length) (ht : acc.take i = xs.take i) : (acc.set i (xs.getD i d)).take (i + 1) = xs.take (i + 1) := by
  apply List.ext_getElem?
  intro j
  have hj := congrArg (fun l => l[j]?) ht
  simp only [List.getElem?_take] at hj
  simp only [List.getElem?_take, List.getElem?_set]
  by_cases h1 : j < i
  · rw [if_pos (show j < i + 1 by omega), if_neg (show ¬ i = j by omega)]
    rw [if_pos h1] at hj
    simpa [if_pos (show j < i + 1 by omega), h1] using hj
  · by_cases h2 : j = i
    · subst h2
      simp [List.getElem?_eq_getElem h, hl, h]
    · simp [show ¬ j < i + 1 by omega]
theorem take_all {α : Type} {xs acc : List α} {i : Nat} (h : xs.length ≤ i) (hl : acc.length = xs.length) (ht : acc.take i = xs.take i) : acc = xs := by
  have h1 := List.take_of_length_le (l := acc) (show acc.length ≤ i by omega)
  have h2 := List.take_of_length_le (l := xs) h
  rw [← h1, ← h2, ht]
theorem riseB_cons (a b : Int) (r : List Int) : riseB (a :: b :: r) = (decide (a < b) && riseB (b :: r)) := rfl
theorem anyP_cons {α : Type} (p : α → Bool) (x : α) (xs : List α) : anyP p (x :: xs) = (p x || anyP p xs) := List.any_cons
/-- Is a command good? (its kind, number, from, to, amount) -/
def goodCmdB (k i f t a : Int) : Bool :=
  if k = 0 then (i == 0 && (f == 0 && (t == 0 && a == 0)))
  else if k = 1 then (inB 1 999 i && (inB 0 3 f && (inB 0 3 t && (!(f == t) && inB 1 1000 a))))
  else if k = 2 then (inB 1 999 i && (inB 0 3 f && (t == 0 && a == 0))) else false
/-- m, m + 1, .. : n numbers. -/
def seqI (m : Int) (n : Nat) : List Int := (List.range n).map fun (j : Nat) => m + (j : Int)
theorem seqI_length (m : Int) (n : Nat) : (seqI m n).length = n := by simp [seqI]
theorem seqI_get (m : Int) (n i : Nat) (d : Int) (h : i < n) : (seqI m n).getD i d = m + (i : Int) := by
  simp [seqI, List.getD_eq_getElem?_getD, h]
/-- A sum, with Go's own overflow. -/
def sumW (w : Int → Int) (l : List Int) : Int := l.foldl (fun a x => w (a + x)) 0
/-- The same with a predicate that may not tell. -/
def idxO {α : Type} (p : α → Option Bool) : List α → Int → Option Int
  | [], _ => some (-1)
  | x :: xs, i => (p x).bind fun b => if b = true then some i else idxO p xs (i + 1)
def anyO {α : Type} (p : α → Option Bool) : List α → Option Bool
  | [] => some false
  | x :: xs => (p x).bind fun b => if b = true then some true else anyO p xs
theorem idxO_total {α : Type} {p : α → Option Bool} {q : α → Bool} : ∀ {xs : List α}, (∀ x ∈ xs, p x = some (q x)) → ∀ i : Int, idxO p xs i = some (idxP q xs i)
  | [], _, _ => rfl
  | x :: xs, h, i => by
    rw [idxO, h x (by simp), Option.bind_some, idxP]
    by_cases hq : q x = true
    · rw [if_pos hq, if_pos hq]
    · rw [if_neg hq, if_neg hq, idxO_total (fun y hy => h y (by simp [hy]))]
theorem anyO_total {α : Type} {p : α → Option Bool} {q : α → Bool} : ∀ {xs : List α}, (∀ x ∈ xs, p x = some (q x)) → anyO p xs = some (anyP q xs)
  | [], _ => rfl
  | x :: xs, h => by
    rw [anyO, h x (by simp), Option.bind_some]
    show _ = some (q x || anyP q xs)
    by_cases hq : q x = true
    · rw [if_pos hq, hq]; rfl
    · rw [if_neg hq, anyO_total (fun y hy => h y (by simp [hy]))]; simp at hq; rw [hq]; rfl
theorem anyO_idx' {α : Type} (p : α → Option Bool) : ∀ (xs : List α) (r : Bool) (i : Int), 0 ≤ i → anyO p xs = some r → ∃ y, idxO p xs i = some y ∧ decide (0 ≤ y) = r
  | [], r, i, _, h => by cases h; exact ⟨-1, rfl, rfl⟩
  | x :: xs, r, i, hi, h => by
    rw [anyO] at h
    cases hp : p x with
    | none => rw [hp] at h; simp at h
    | some b =>
      rw [hp, Option.bind_some] at h
      cases b with
      | true =>
        cases h
        exact ⟨i, by rw [idxO, hp]; rfl, by simpa using hi⟩
      | false =>
        obtain ⟨y, hy, he⟩ := anyO_idx' p xs r (i + 1) (by omega) h
        exact ⟨y, by rw [idxO, hp]; exact hy, he⟩
theorem anyO_idx {α : Type} (p : α → Option Bool) (xs : List α) (r : Bool) (h : anyO p xs = some r) : ∃ y, idxO p xs 0 = some y ∧ decide (0 ≤ y) = r := anyO_idx' p xs r 0 (Int.le_refl 0) h
theorem anyO_mono {α : Type} {p q : α → Option Bool} (h : ∀ x, ∀ b, p x = some b → q x = some b) : ∀ (xs : List α) (r : Bool), anyO p xs = some r → anyO q xs = some r
  | [], r, hr => hr
  | x :: xs, r, hr => by
    rw [anyO] at hr ⊢
    cases hp : p x with
    | none => rw [hp] at hr; simp at hr
    | some b =>
      rw [h x b hp, Option.bind_some]
      rw [hp, Option.bind_some] at hr
      cases b with
      | true => exact hr
      | false => exact anyO_mono h xs r hr
theorem idxO_mono {α : Type} {p q : α → Option Bool} (h : ∀ x, ∀ b, p x = some b → q x = some b) : ∀ (xs : List α) (i : Int) (r : Int), idxO p xs i = some r → idxO q xs i = some r
  | [], i, r, hr => hr
  | x :: xs, i, r, hr => by
    rw [idxO] at hr ⊢
    cases hp : p x with
    | none => rw [hp] at hr; simp at hr
    | some b =>
      rw [h x b hp, Option.bind_some]
      rw [hp, Option.bind_some] at hr
      cases b with
      | true => exact hr
      | false => exact idxO_mono h xs (i + 1) r hr
/-- What is left of a list, where a predicate may not tell. -/
def delO {α : Type} (p : α → Option Bool) : List α → Option (List α)
  | [] => some []
  | x :: xs => (p x).bind fun b => (delO p xs).bind fun r => some (if b = true then r else x :: r)
theorem delO_idx {α : Type} (p : α → Option Bool) : ∀ (xs r : List α) (s : Int), 0 ≤ s → delO p xs = some r → ∃ i, idxO p xs s = some i ∧ ((i = -1 ∧ r = xs) ∨ ∃ m : Nat, i = s + (m : Int) ∧ m < xs.length ∧ ∃ rest, delO p (xs.drop (m + 1)) = some rest ∧ r = xs.take m ++ rest)
  | [], r, s, _, h => by cases h; exact ⟨-1, rfl, .inl ⟨rfl, rfl⟩⟩
  | x :: xs, r, s, hs, h => by
    rw [delO] at h
    cases hp : p x with
    | none => rw [hp] at h; cases h
    | some b =>
      rw [hp, Option.bind_some] at h
      cases hd : delO p xs with
      | none => rw [hd] at h; cases h
      | some r' =>
        rw [hd, Option.bind_some] at h
        rw [idxO, hp, Option.bind_some]
        cases b with
        | true =>
          simp only [if_true, Option.some.injEq] at h
          subst h
          exact ⟨s, by simp, .inr ⟨0, by simp, by simp, r', by simpa using hd, by simp⟩⟩
        | false =>
          simp only [Bool.false_eq_true, if_false, Option.some.injEq] at h ⊢
          subst h
          obtain ⟨i, hi, hh⟩ := delO_idx p xs r' (s + 1) (by omega) hd
          refine ⟨i, hi, ?_⟩
          rcases hh with ⟨h1, h2⟩ | ⟨m, h1, h2, rest, h3, h4⟩
          · exact .inl ⟨h1, by rw [h2]⟩
          · exact .inr ⟨m + 1, by omega, by simpa using h2, rest, by simpa using h3, by rw [h4]; simp⟩
theorem delO_total {α : Type} {p : α → Option Bool} {q : α → Bool} : ∀ {xs : List α}, (∀ x ∈ xs, p x = some (q x)) → delO p xs = some (xs.filter fun x => !q x)
  | [], _ => rfl
  | x :: xs, h => by
    rw [delO, h x (by simp), Option.bind_some, delO_total (fun y hy => h y (by simp [hy])), Option.bind_some]
    cases hq : q x <;> simp [hq]
theorem delO_mono {α : Type} {p q : α → Option Bool} (h : ∀ x, ∀ b, p x = some b → q x = some b) : ∀ (xs r : List α), delO p xs = some r → delO q xs = some r
  | [], r, hr => hr
  | x :: xs, r, hr => by
    rw [delO] at hr ⊢
    cases hp : p x with
    | none => rw [hp] at hr; cases hr
    | some b =>
      rw [h x b hp, Option.bind_some]
      rw [hp, Option.bind_some] at hr
      cases hd : delO p xs with
      | none => rw [hd] at hr; cases hr
      | some r' => rw [delO_mono h xs r' hd]; rw [hd] at hr; exact hr
end Go.Proofs.YtmknjfnhfcljcaaDoor.Mine
