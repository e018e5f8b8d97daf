/-
  Plain words of my own for the printed functions: what holds from some number of rounds on, whole numbers without wrap, reads of lists.
-/
import Derived.Test.YtmgjglegooehbaaZWWords
import Derived.Test.YtmgjglegooehbaaZWApart
import Derived.Test.YtmgjglegooehbaaZWMore
namespace Go.Proofs.Ytmgjglegooehbaa.B
open Go.RowKit Go.Proofs.YtmgjglegooehbaaW.PrintWords Go.Proofs.YtmgjglegooehbaaW.PrintMore

theorem w64 {x : Int} (h0 : -9223372036854775808 ≤ x) (h1 : x ≤ 9223372036854775807) : wrap64 x = x := by
  unfold wrap64
  omega

theorem noArm {r : Bool} {P : Prop} (h : (some false : Option Bool) = some r) (ht : r = true) : P := by
  cases h
  cases ht
theorem w64n {n : Nat} (h : n ≤ 1152921504606846976) : wrap64 (n : Int) = n := w64 (by omega) (by omega)

theorem rd_nat {l : List Int} {i : Nat} (h : i < l.length) : rd l (i : Int) = l[i] := by
  simp [rd, List.getD, h]

theorem evIf {α : Type} {c : Prop} [Decidable c] {f g : Nat → Option α} {r : α} (hf : c → Ev f r) (hg : ¬ c → Ev g r) : Ev (fun k => if c then f k else g k) r := by
  by_cases h : c
  · simp only [if_pos h]; exact hf h
  · simp only [if_neg h]; exact hg h

theorem evPos {α : Type} {c : Prop} [Decidable c] {f g : Nat → Option α} {r : α} (h : c) (hf : Ev f r) : Ev (fun k => if c then f k else g k) r := by
  simp only [if_pos h]; exact hf

theorem evNeg {α : Type} {c : Prop} [Decidable c] {f g : Nat → Option α} {r : α} (h : ¬ c) (hg : Ev g r) : Ev (fun k => if c then f k else g k) r := by
  simp only [if_neg h]; exact hg

/-- What is the same at each number of rounds. -/
theorem evConst {α : Type} {o : Option α} {r : α} (h : o = some r) : Ev (fun _ => o) r := ⟨0, fun _ _ => h⟩

theorem evBind {α β : Type} {g : Nat → Option α} {f : Nat → α → Option β} {a : α} {r : β} (h : Ev g a) (k : Ev (fun n => f n a) r) : Ev (fun n => (g n).bind (f n)) r := Ev.bind h k

theorem evCast {α : Type} {g : Nat → Option α} {r r' : α} (h : Ev g r) (e : r = r') : Ev g r' := e ▸ h

/-- Whether a number lies between two others. -/
def inR (x lo hi : Int) : Bool := decide (lo ≤ x) && decide (x ≤ hi)
theorem inR_ite (x lo hi : Int) : (if x ≥ lo then (some (decide (x ≤ hi))) else (some false)) = some (inR x lo hi) := by
  by_cases h : lo ≤ x
  · simp [inR, h]
  · simp [inR, h]

def allR (l : List Int) (lo hi : Int) : Bool := l.all (fun x => inR x lo hi)

/-- The numbers from a on, one more each. -/
def countL (a : Int) (n : Nat) : List Int := (List.range n).map (fun (i : Nat) => a + i)
theorem countL_length (a : Int) (n : Nat) : (countL a n).length = n := by simp [countL]
theorem countL_succ (a : Int) (n : Nat) : countL a (n + 1) = countL a n ++ [a + n] := by simp [countL, List.range_succ]
theorem rowSlice {α : Type} {d : Kd α} {e : TypeId} {w : World} {base : Nat} {ok : Nat → Prop} {v : Value} {xs : List α} (h : Aside0 (d.R e w base ok v xs)) : ∃ A n c, v = .slice A n c := (Kd.R_slice h.out).imp fun _ h => ⟨_, h⟩
theorem rowSliceS {α : Type} {d : Kd α} {e : TypeId} {w : World} {base : Nat} {ok : Nat → Prop} {v : Value} {xs : List α} (h : Aside0 (d.S e w base ok v xs)) : ∃ A n c, v = .slice A n c := (Kd.R_slice (Kd.S_R h.out)).imp fun _ h => ⟨_, h⟩
theorem drop_get {α : Type} {l : List α} {i : Nat} (h : i < l.length) : l.drop i = l[i] :: l.drop (i + 1) := List.drop_eq_getElem_cons h

/-- From some number of rounds on there is an answer, and Q holds of it. -/
def EvP {α : Type} (g : Nat → Option α) (Q : α → Prop) : Prop := ∃ r, Ev g r ∧ Q r
theorem evpNow {α : Type} {o : Option α} {r : α} {Q : α → Prop} (e : o = some r) (h : Q r) : EvP (fun _ => o) Q := ⟨r, evConst e, h⟩
theorem evpOf {α : Type} {g : Nat → Option α} {r : α} {Q : α → Prop} (e : Ev g r) (h : Q r) : EvP g Q := ⟨r, e, h⟩
theorem evpBind {α β : Type} {g : Nat → Option α} {f : Nat → α → Option β} {Q : α → Prop} {R : β → Prop} (h : EvP g Q) (k : ∀ a, Q a → EvP (fun n => f n a) R) : EvP (fun n => (g n).bind (f n)) R := by
  obtain ⟨a, ha, hq⟩ := h
  obtain ⟨r, hr, hR⟩ := k a hq
  exact ⟨r, Ev.bind ha hr, hR⟩
theorem evpPos {α : Type} {c : Prop} [Decidable c] {f g : Nat → Option α} {Q : α → Prop} (h : c) (hf : EvP f Q) : EvP (fun k => if c then f k else g k) Q := by
  simp only [if_pos h]; exact hf
theorem evpNeg {α : Type} {c : Prop} [Decidable c] {f g : Nat → Option α} {Q : α → Prop} (h : ¬ c) (hg : EvP g Q) : EvP (fun k => if c then f k else g k) Q := by
  simp only [if_neg h]; exact hg
theorem evpStep {α : Type} {g f : Nat → Option α} {Q : α → Prop} (h : ∀ k, g (k + 1) = f k) (k : EvP f Q) : EvP g Q := by
  obtain ⟨r, hr, hq⟩ := k
  exact ⟨r, Ev.step h hr, hq⟩
theorem evpMono {α : Type} {g : Nat → Option α} {Q R : α → Prop} (h : EvP g Q) (k : ∀ a, Q a → R a) : EvP g R := by
  obtain ⟨r, hr, hq⟩ := h
  exact ⟨r, hr, k r hq⟩
/-- What hands out drawn numbers: where it stands, its seed. -/
structure CurOk (m : Nat) (at_ seed : Int) : Prop where
  a0 : 0 ≤ at_
  a1 : at_ ≤ m
  s0 : 0 ≤ seed
  s1 : seed ≤ 70000
end Go.Proofs.Ytmgjglegooehbaa.B
