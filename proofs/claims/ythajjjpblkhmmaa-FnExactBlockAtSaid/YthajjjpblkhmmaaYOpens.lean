/-
  Words of my own: an argument of any shape (numbers, bools, strings, slices and structs of these), read as data, is opened as the kinds of the printed words want it.
-/
import Derived.Test.YthajjjpblkhmmaaYWWords
import Derived.Deep.Slices
import Derived.ChangeSame
import Derived.DataReads
import Derived.Carry
namespace Go.Proofs.Ythajjjpblkhmmaa.Op
open Go.RowKit Go.Proofs.YthajjjpblkhmmaaW.PrintWords
open Go.ChangeShapes Go.WideShapes

/-- What reads as data of type t is of kind d, and Q holds of it. -/
def Opens {α : Type} (P : Program) (t : TypeId) (d : Kd α) (Q : α → Prop) : Prop :=
  ∀ (H : Type) (enc : TypeId × Value → H) (W : World) (fuel : Nat) (cs : List Value) (x : DataW H × List MemPlace),
    DataW.trod enc P W 0 (fun _ => true) true fuel t cs = some x → ∃ a, d.K W a cs ∧ Q a

theorem opens_int {P : Program} {t : TypeId} {k : IntKind} (ht : P.underlying t = some (.int k)) : Opens P t (Kd.int k) (fun n => (Lit.int k n).wf = true) := by
  intro H enc W fuel cs x h
  cases fuel with
  | zero => simp [DataW.trod] at h
  | succ n =>
    obtain ⟨m, rfl, _, hw⟩ := DataW.trod_int ht h
    exact ⟨m, rfl, hw⟩

theorem opens_slice {α : Type} {P : Program} {t e : TypeId} {d : Kd α} {Q : α → Prop} (ht : P.underlying t = some (.slice e)) (hsz : P.cellsOf e = d.sz) (ho : Opens P e d Q) :
    Opens P t (Kd.slice e d) (fun xs => xs.length ≤ maxLen ∧ ∀ x ∈ xs, Q x) := by
  intro H enc W fuel cs x h
  rcases Go.Deep.open_slice ht h with ⟨rfl, _⟩ | ⟨a, len, cap, m, n, D, Pl, rfl, _, hl, hm, hmm, _, hel⟩
  · refine ⟨[], ⟨none, 0, rfl, Nat.le_refl _, rfl, by simp, fun h0 => by simp at h0⟩, by simp⟩
  · have hlm : len ≤ m := by
      rw [hmm]
      simp [hl]
    have each : ∀ i, i < len → ∃ (y : α) (cs' : List Value), d.K W y cs' ∧ Q y ∧ W.cells? 0 (a.add (i * P.cellsOf e)) (P.cellsOf e) = some cs' := by
      intro i hi
      obtain ⟨cs', hc, ht'⟩ := hel i (by omega)
      obtain ⟨y, hk, hq⟩ := ho H enc W n cs' _ ht'
      exact ⟨y, cs', hk, hq, hc⟩
    have all : ∀ k, k ≤ len → ∃ xs : List α, xs.length = k ∧ (∀ i y, xs[i]? = some y → Q y ∧ ∃ cs', d.K W y cs' ∧ W.cells? 0 (a.add (i * P.cellsOf e)) (P.cellsOf e) = some cs') := by
      intro k
      induction k with
      | zero => exact fun _ => ⟨[], rfl, fun i y hy => by simp at hy⟩
      | succ k ih =>
        intro hk
        obtain ⟨xs, hxl, hx⟩ := ih (by omega)
        obtain ⟨y, cs', hky, hqy, hcy⟩ := each k (by omega)
        refine ⟨xs ++ [y], by simp [hxl], fun i z hz => ?_⟩
        rcases Nat.lt_or_ge i k with hi | hi
        · rw [List.getElem?_append_left (by omega)] at hz
          exact hx i z hz
        · have : i = k := by
            have := (List.getElem?_eq_some_iff.1 hz).1
            simp [hxl] at this
            omega
          subst this
          rw [List.getElem?_append_right (by omega)] at hz
          simp [hxl] at hz
          subst hz
          exact ⟨hqy, cs', hky, hcy⟩
    obtain ⟨xs, hxl, hx⟩ := all len (Nat.le_refl _)
    refine ⟨xs, ⟨some a, cap, by rw [hxl], by omega, ?_⟩, ?_, ?_⟩
    · refine ⟨rfl, by rw [hxl]; unfold maxLen at hm; omega, fun _ => ⟨a, rfl, ?_⟩⟩
      intro j p hp
      obtain ⟨_, cs', hk, hc⟩ := hx j p hp
      refine ⟨cs', d.K_len hk, hk, fun i u hu => ?_⟩
      have hi : i < P.cellsOf e := by
        have := (List.getElem?_eq_some_iff.1 hu).1
        rw [d.K_len hk] at this
        omega
      obtain ⟨_, hlen, hcell⟩ := World.cells?_some hc
      have h1 := hcell i hi
      rw [hu] at h1
      rw [← hsz, ← Addr.add_add]
      exact h1
    · unfold maxLen at hm ⊢
      omega
    · intro z hz
      obtain ⟨i, hi⟩ := List.getElem?_of_mem hz
      exact (hx i z hi).1

/-- The fields of a struct, from the cell off on. -/
def OpensF {α : Type} (P : Program) (fs : List Field) (off : Nat) (d : Kd α) (Q : α → Prop) : Prop :=
  ∀ (H : Type) (enc : TypeId × Value → H) (W : World) (fuel : Nat) (cs : List Value),
    cs.length = off + d.sz →
    (∀ (i : Nat) (f : Field), fs[i]? = some f → ∃ y, DataW.trod enc P W 0 (fun _ => true) true fuel f.type ((cs.drop f.offset).take (P.cellsOf f.type)) = some y) →
    ∃ a, d.K W a (cs.drop off) ∧ Q a

theorem opensF_last {α : Type} {P : Program} {f : Field} {off : Nat} {d : Kd α} {Q : α → Prop} (ho : f.offset = off) (hsz : P.cellsOf f.type = d.sz) (h : Opens P f.type d Q) : OpensF P [f] off d Q := by
  intro H enc W fuel cs hl hf
  obtain ⟨y, hy⟩ := hf 0 f rfl
  rw [ho, hsz, List.take_of_length_le (by simp; omega)] at hy
  exact h H enc W fuel _ _ hy

theorem opensF_cons {α β : Type} {P : Program} {f : Field} {fs : List Field} {off : Nat} {d : Kd α} {d2 : Kd β} {Q : α → Prop} {Q2 : β → Prop} (ho : f.offset = off) (hsz : P.cellsOf f.type = d.sz) (h : Opens P f.type d Q)
    (h2 : OpensF P fs (off + d.sz) d2 Q2) : OpensF P (f :: fs) off (Kd.pair d d2) (fun x => Q x.1 ∧ Q2 x.2) := by
  intro H enc W fuel cs hl hf
  have hl' : cs.length = off + (d.sz + d2.sz) := hl
  obtain ⟨y, hy⟩ := hf 0 f rfl
  rw [ho, hsz] at hy
  obtain ⟨a, ha, qa⟩ := h H enc W fuel _ _ hy
  obtain ⟨b, hb, qb⟩ := h2 H enc W fuel cs (by omega) (fun i g hg => hf (i + 1) g (by simpa using hg))
  refine ⟨(a, b), ⟨_, _, ?_, ha, hb⟩, qa, qb⟩
  rw [← List.drop_drop, List.take_append_drop]

theorem opens_struct {α β : Type} {P : Program} {t : TypeId} {fs : Array Field} {d : Kd α} {Q : α → Prop} {f : β → α} (g : α → β) (hfg : ∀ x, f (g x) = x) (ht : P.underlying t = some (.struct fs)) (hsz : P.cellsOf t = d.sz)
    (h : OpensF P fs.toList 0 d Q) : Opens P t (Kd.iso d f) (fun x => Q (f x)) := by
  intro H enc W fuel cs x hx
  obtain ⟨xs, n, _, _, hl, hlen, hf⟩ := DataW.trod_struct ht hx
  obtain ⟨a, ha, qa⟩ := h H enc W n cs (by omega) (fun i fd hfd => by
    have hi : i < fs.size := by
      have := (List.getElem?_eq_some_iff.1 hfd).1
      simpa using this
    exact ⟨xs[i], (hf i fd (by simpa using hfd)).trans (List.getElem?_eq_getElem (by omega))⟩)
  rw [List.drop_zero] at ha
  exact ⟨g a, by show d.K W (f (g a)) cs; rw [hfg]; exact ha, by show Q (f (g a)); rw [hfg]; exact qa⟩

theorem opens_mono {α : Type} {P : Program} {t : TypeId} {d : Kd α} {Q Q' : α → Prop} (h : Opens P t d Q) (hq : ∀ a, Q a → Q' a) : Opens P t d Q' := by
  intro H enc W fuel cs x hx
  obtain ⟨a, ha, qa⟩ := h H enc W fuel cs x hx
  exact ⟨a, ha, hq a qa⟩

/-- A struct that came in as an argument. -/
theorem arg_struct {α : Type} {H : Type} {enc : TypeId × Value → H} {P : Program} {W : World} {t : TypeId} {d : Kd α} {Q : α → Prop} {v : Value} {fs : Array Field} {base : Nat} {x : DataW H} {ps : List MemPlace}
    (hu : P.underlying t = some (.struct fs)) (hval : Value.okWide P W .any base t v) (ho : Opens P t d Q) (h : DataW.Trod enc P W 0 (fun _ => true) true t v x ps) :
    ∃ (cs : List Value) (a : α), v = .agg cs.toArray ∧ d.K W a cs ∧ Q a := by
  unfold Value.okWide at hval
  rw [hu] at hval
  obtain ⟨cs, rfl, _, _⟩ := hval
  obtain ⟨fuel, hf⟩ := h
  obtain ⟨a, hk, hq⟩ := ho H enc W fuel _ _ hf
  refine ⟨cs.toList, a, by simp, ?_, hq⟩
  simpa [Value.cells] using hk
end Go.Proofs.Ythajjjpblkhmmaa.Op
