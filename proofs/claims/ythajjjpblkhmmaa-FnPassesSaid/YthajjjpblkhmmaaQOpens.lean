/-
  Words of my own: an argument of any shape (numbers, bools, strings, slices and structs of these), read as data, is opened as the kinds of the printed words want it.
-/
import Derived.Test.YthajjjpblkhmmaaQWWords
import Derived.Deep.Slices
import Derived.ChangeSame
import Derived.DataReads
import Derived.Carry
namespace Go.Proofs.Ythajjjpblkhmmaa.Op
open Go.RowKit Go.Proofs.YthajjjpblkhmmaaW.PrintWords
open Go.ChangeShapes Go.WideShapes

/-- What reads as data of type t is of kind d, and Q holds of it. -/
def Opens {α : Type} (P : Program) (t : TypeId) (d : Kd α) (Q : α → Prop) : Prop :=
  ∀ (H : Type) (enc : TypeId × Value → H) (W : World) (fuel : Nat) (cs : List Value) (x : DataW H × List MemPlace),
    DataW.trod enc P W 0 (fun _ => true) true fuel t cs = some x → ∃ a, d.K W a cs ∧ Q a

theorem opens_int {P : Program} {t : TypeId} {k : IntKind} (ht : P.underlying t = some (.int k)) : Opens P t (Kd.int k) (fun n => (Lit.int k n).wf = true) := by
  intro H enc W fuel cs x h
  cases fuel with
  | zero => simp [DataW.trod] at h
  | succ n =>
    obtain ⟨m, rfl, _, hw⟩ := DataW.trod_int ht h
    exact ⟨m, rfl, hw⟩

theorem opens_slice {α : Type} {P : Program} {t e : TypeId} {d : Kd α} {Q : α → Prop} (ht : P.underlying t = some (.slice e)) (hsz : P.cellsOf e = d.sz) (ho : Opens P e d Q) :
    Opens P t (Kd.slice e d) (fun xs => xs.length ≤ maxLen ∧ ∀ x ∈ xs, Q x) := by
  intro H enc W fuel cs x h
  rcases Go.Deep.open_slice ht h with ⟨rfl, _⟩ | ⟨a, len, cap, m, n, D, Pl, rfl, _, hl, hm, hmm, _, hel⟩
  · refine ⟨[], ⟨none, 0, rfl, Nat.le_refl _, rfl, by simp, fun h0 => by simp at h0⟩, by simp⟩
  · have hlm : len ≤ m := by
      rw [hmm]
      simp [hl]
    have each : ∀ i, i < len → ∃ (y : α) (cs' : List Value), d.K W y cs' ∧ Q y ∧ W.cells? 0 (a.add (i * P.cellsOf e)) (P.cellsOf e) = some cs' := by
      intro i hi
      obtain ⟨cs', hc, ht'⟩ := hel i (by omega)
      obtain ⟨y, hk, hq⟩ := ho H enc W n cs' _ ht'
      exact ⟨y, cs', hk, hq, hc⟩
    have all : ∀ k, k ≤ len → ∃ xs : List α, xs.length = k ∧ (∀ i y, xs[i]? = some y → Q y ∧ ∃ cs', d.K W y cs' ∧ W.cells? 0 (a.add (i * P.cellsOf e)) (P.cellsOf e) = some cs') := by
      intro k
      induction k with
      | zero => exact fun _ => ⟨[], rfl, fun i y hy => by simp at hy⟩
      | succ k ih =>
        intro hk
        obtain ⟨xs, hxl, hx⟩ := ih (by omega)
        obtain ⟨y, cs', hky, hqy, hcy⟩ := each k (by omega)
        refine ⟨xs ++ [y], by simp [hxl], fun i z hz => ?_⟩
        rcases Nat.lt_or_ge i k with hi | hi
        · rw [List.getElem?_append_left (by omega)] at hz
          exact hx i z hz
        · have : i = k := by
            have := (List.getElem?_eq_some_iff.1 hz).1
            simp [hxl] at this
            omega
          subst this
          rw [List.getElem?_append_right (by omega)] at hz
          simp [hxl] at hz
          subst hz
          exact ⟨hqy, cs', hky, hcy⟩
    obtain ⟨xs, hxl, hx⟩ := all len (Nat.le_refl _)
    refine ⟨xs, ⟨some a, cap, by rw [hxl], by omega, ?_⟩, ?_, ?_⟩
    · refine ⟨rfl, by rw [hxl]; unfold maxLen at hm; omega, fun _ => ⟨a, rfl, ?_⟩⟩
      intro j p hp
      obtain ⟨_, cs', hk, hc⟩ := hx j p hp
      refine ⟨cs', d.K_len hk, hk, fun i u hu => ?_⟩
      have hi : i < P.cellsOf e := by
        have := (List.getElem?_eq_some_iff.1 hu).1
        rw [d.K_len hk] at this
        omega
      obtain ⟨_, hlen, hcell⟩ := World.cells?_some hc
      have h1 := hcell i hi
      rw [hu] at h1
      rw [← hsz, ← Addr.add_add]
      exact h1
    · unfold maxLen at hm ⊢
      omega
    · intro z hz
      obtain ⟨i, hi⟩ := List.getElem?_of_mem hz
      exact (hx i z hi).1

/-- A slice that came in as an argument. -/
theorem arg_slice {α : Type} {H : Type} {enc : TypeId × Value → H} {P : Program} {W : World} {t e : TypeId} {d : Kd α} {Q : α → Prop} {a : Option Addr} {len cap : Nat} {x : DataW H} {ps : List MemPlace}
    (ho : Opens P t (Kd.slice e d) (fun xs => xs.length ≤ maxLen ∧ ∀ x ∈ xs, Q x)) (h : DataW.Trod enc P W 0 (fun _ => true) true t (.slice a len cap) x ps) :
    ∃ xs : List α, len = xs.length ∧ Kd.C d W a xs.length xs ∧ xs.length ≤ cap ∧ xs.length ≤ maxLen ∧ ∀ x ∈ xs, Q x := by
  obtain ⟨fuel, hf⟩ := h
  obtain ⟨xs, ⟨A, c, hcs, hl, hc⟩, hm, hq⟩ := ho H enc W fuel _ _ hf
  simp [Value.cells] at hcs
  obtain ⟨rfl, rfl, rfl⟩ := hcs
  exact ⟨xs, rfl, hc, hl, hm, hq⟩

end Go.Proofs.Ythajjjpblkhmmaa.Op
