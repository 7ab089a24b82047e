/-
  What the claims' reader tells of an argument, in the words of a kind: for every type whose parts are whole numbers, bools, strings, slices and structs.
-/
import Derived.Test.YtilmcfdhijdhpaaVFnExactGoodReplica
import Derived.ProofKit
import Derived.ChangeArms
import Derived.DataReads
import Derived.DataElems
namespace Go.Proofs.Ytilmcfdhijdhpaa.Opens
set_option linter.unusedVariables false
set_option linter.unusedSimpArgs false
open Go.RowKit Go.Proofs.YtilmcfdhijdhpaaW.PrintWords

/-- What is read as data of type T lies as the kind d tells it, and q holds of it. -/
structure Opens {α : Type} (P : Program) (T : TypeId) (d : Kd α) (q : α → Prop) : Prop where
  out : ∀ {H : Type} (enc : TypeId × Value → H) (w : World) (base : Nat) (sp : Nat → Bool) (held : Bool) (fuel : Nat) (cs : List Value) (x : DataW H × List MemPlace),
    DataW.trod enc P w base sp held fuel T cs = some x → ∃ a : α, d.K w a cs ∧ q a

theorem Opens.imp {α : Type} {P : Program} {T : TypeId} {d : Kd α} {q q' : α → Prop} (h : Opens P T d q) (hq : ∀ a, q a → q' a) : Opens P T d q' := by
  constructor
  intro H enc w base sp held fuel cs x hx
  obtain ⟨a, hK, ha⟩ := h.out enc w base sp held fuel cs x hx
  exact ⟨a, hK, hq a ha⟩

theorem opens_int {P : Program} {T : TypeId} {k : IntKind} (ht : P.underlying T = some (.int k)) : Opens P T (Kd.int k) (fun n => (Lit.int k n).wf = true) := by
  constructor
  intro H enc w base sp held fuel cs x h
  obtain ⟨n, e, _, hw⟩ := DataW.trod_int ht h
  exact ⟨n, e, hw⟩

theorem opens_bool {P : Program} {T : TypeId} (ht : P.underlying T = some .bool) : Opens P T Kd.bool (fun _ => True) := by
  constructor
  intro H enc w base sp held fuel cs x h
  obtain ⟨n, e, _⟩ := DataW.trod_bool ht h
  exact ⟨n, e, trivial⟩

theorem opens_string {P : Program} {T : TypeId} (ht : P.underlying T = some .string) : Opens P T Kd.string (fun s => s.size ≤ 9223372036854775807) := by
  constructor
  intro H enc w base sp held fuel cs x h
  obtain ⟨n, e, _, hw⟩ := DataW.trod_string ht h
  exact ⟨n, e, by simpa [maxLen] using hw⟩

theorem choices {α : Type} {R : Nat → α → Prop} : ∀ n : Nat, (∀ i, i < n → ∃ y, R i y) → ∃ ys : List α, ys.length = n ∧ ∀ i y, ys[i]? = some y → R i y
  | 0, _ => ⟨[], rfl, fun i y h => by simp at h⟩
  | n + 1, h => by
    obtain ⟨ys, hl, hys⟩ := choices n (fun i hi => h i (by omega))
    obtain ⟨y, hy⟩ := h n (by omega)
    refine ⟨ys ++ [y], by simp [hl], fun i z hz => ?_⟩
    rcases Nat.lt_or_ge i n with hi | hi
    · rw [List.getElem?_append_left (by omega)] at hz
      exact hys i z hz
    · rw [List.getElem?_append_right (by omega)] at hz
      have h0 : i - ys.length = 0 := by
        have := (List.getElem?_eq_some_iff.1 hz).1
        simp at this
        omega
      rw [h0] at hz
      simp at hz
      subst hz
      obtain rfl : i = n := by omega
      exact hy

theorem opens_slice {α : Type} {P : Program} {T e : TypeId} {d : Kd α} {q : α → Prop} (ht : P.underlying T = some (.slice e)) (hs : P.cellsOf e = d.sz) (h0 : Opens P e d q) :
    Opens P T (Kd.slice e d) (fun xs => xs.length ≤ 9223372036854775807 ∧ ∀ x ∈ xs, q x) := by
  constructor
  intro H enc w base sp held fuel cs x h
  rcases DataW.trod_slice ht h with ⟨rfl, _⟩ | ⟨a, len, cap, elems, rest, n, _, rfl, _, hb, hl, hc, hel, hget, _, _⟩
  · exact ⟨[], ⟨none, 0, rfl, Nat.le_refl _, rfl, by simp, fun h => absurd h (by simp)⟩, by simp, by simp⟩
  · have hm : cap ≤ 9223372036854775807 := by simpa [maxLen] using hc
    have each : ∀ i, i < len → ∃ y : α, (∃ c : List Value, c.length = d.sz ∧ d.K w y c ∧ ∀ j u, c[j]? = some u → w.cell? (a.add (i * d.sz + j)) = some u) ∧ q y := by
      intro i hi
      have hg := hget i hi
      rw [List.getElem?_eq_getElem (by omega)] at hg
      obtain ⟨cs', h1, h2⟩ := Option.bind_eq_some_iff.1 hg
      obtain ⟨_, hlen, hcell⟩ := World.cells?_some h1
      obtain ⟨y, hK, hq⟩ := h0.out enc w base sp held n cs' _ h2
      refine ⟨y, ⟨cs', by rw [hlen, hs], hK, fun j u hu => ?_⟩, hq⟩
      have hj : j < P.cellsOf e := by rw [← hlen]; exact (List.getElem?_eq_some_iff.1 hu).1
      have hz := hcell j hj
      rw [Addr.add_add, hs] at hz
      rw [hz]
      exact hu
    obtain ⟨ys, hyl, hys⟩ := choices len each
    subst hyl
    refine ⟨ys, ⟨some a, cap, rfl, hl, rfl, Nat.le_trans hl hm, fun _ => ⟨a, rfl, fun j y hy => ?_⟩⟩, Nat.le_trans hl hm, fun y hy => ?_⟩
    · exact (hys j y hy).1
    · obtain ⟨i, hi⟩ := List.mem_iff_getElem?.1 hy
      exact (hys i y hi).2

/-- The fields from one on, in line. -/
structure OpensF {α : Type} (P : Program) (off : Nat) (fs : List Field) (d : Kd α) (q : α → Prop) : Prop where
  out : ∀ {H : Type} (enc : TypeId × Value → H) (w : World) (base : Nat) (sp : Nat → Bool) (held : Bool) (n : Nat) (cs : List Value), cs.length = off + d.sz →
    (∀ f ∈ fs, ∃ x, DataW.trod enc P w base sp held n f.type ((cs.drop f.offset).take (P.cellsOf f.type)) = some x) → ∃ a : α, d.K w a (cs.drop off) ∧ q a

theorem opensF_one {α : Type} {P : Program} {off : Nat} {f : Field} {d : Kd α} {q : α → Prop} (ho : f.offset = off) (hs : P.cellsOf f.type = d.sz) (h : Opens P f.type d q) : OpensF P off [f] d q := by
  constructor
  intro H enc w base sp held n cs hl hf
  obtain ⟨x, hx⟩ := hf f (by simp)
  rw [ho, hs, List.take_of_length_le (by rw [List.length_drop]; omega)] at hx
  exact h.out enc w base sp held n _ x hx

theorem opensF_cons {α β : Type} {P : Program} {off : Nat} {f : Field} {fs : List Field} {d0 : Kd α} {d1 : Kd β} {q0 : α → Prop} {q1 : β → Prop} (ho : f.offset = off) (hs : P.cellsOf f.type = d0.sz) (h : Opens P f.type d0 q0)
    (h1 : OpensF P (off + d0.sz) fs d1 q1) : OpensF P off (f :: fs) (Kd.pair d0 d1) (fun x => q0 x.1 ∧ q1 x.2) := by
  constructor
  intro H enc w base sp held n cs hl hf
  have hl' : cs.length = off + (d0.sz + d1.sz) := hl
  obtain ⟨x, hx⟩ := hf f (by simp)
  rw [ho, hs] at hx
  obtain ⟨a, hKa, hqa⟩ := h.out enc w base sp held n _ x hx
  obtain ⟨b, hKb, hqb⟩ := h1.out enc w base sp held n cs (by omega) (fun g hg => hf g (by simp [hg]))
  exact ⟨(a, b), ⟨(cs.drop off).take d0.sz, cs.drop (off + d0.sz), by rw [← List.drop_drop, List.take_append_drop], hKa, hKb⟩, hqa, hqb⟩

theorem opens_struct {α β : Type} {P : Program} {T : TypeId} {fs : Array Field} {d : Kd α} {q : α → Prop} (f : β → α) (g : α → β) (hg : ∀ a, f (g a) = a) (ht : P.underlying T = some (.struct fs)) (hs : P.cellsOf T = d.sz)
    (h : OpensF P 0 fs.toList d q) : Opens P T (Kd.iso d f) (fun b => q (f b)) := by
  constructor
  intro H enc w base sp held fuel cs x hx
  obtain ⟨xs, n, _, _, hl, hlen, hf⟩ := DataW.trod_struct ht hx
  obtain ⟨a, hK, hq⟩ := h.out enc w base sp held n cs (by omega) (fun fl hfl => by
    obtain ⟨i, hi⟩ := List.mem_iff_getElem?.1 hfl
    have hi' : fs[i]? = some fl := by simpa using hi
    have hz := hf i fl hi'
    have hlt : i < xs.length := by rw [hlen]; exact (Array.getElem?_eq_some_iff.1 hi').1
    rw [List.getElem?_eq_getElem hlt] at hz
    exact ⟨_, hz⟩)
  refine ⟨g a, ?_, ?_⟩
  · show d.K w (f (g a)) cs
    rw [hg]
    simpa using hK
  · show q (f (g a)); rw [hg]; exact hq

/-- A struct's value is told by its cells. -/
theorem agg_of {P : Program} {w : World} {r : Reach} {base : Nat} {t : TypeId} {fs : Array Field} {v : Value} (ht : P.underlying t = some (.struct fs)) (h : Value.okWide P w r base t v) : ∃ cs, v = .agg cs ∧ v.cells = cs := by
  unfold Value.okWide at h
  rw [ht] at h
  obtain ⟨cs, rfl, _⟩ := h
  exact ⟨cs, rfl, rfl⟩
end Go.Proofs.Ytilmcfdhijdhpaa.Opens
