/-
  Plain words of my own for the printed functions: what holds from some number of rounds on, whole numbers without wrap, reads of lists.
-/
import Derived.Test.YthajjjpblkhmmaaQWWords
import Derived.Test.YthajjjpblkhmmaaQWApart
import Derived.Test.YthajjjpblkhmmaaQWMore
import Derived.Test.YthajjjpblkhmmaaQWKept
import Derived.Test.YthajjjpblkhmmaaQWLast
namespace Go.Proofs.Ythajjjpblkhmmaa.B
open Go.RowKit Go.Proofs.YthajjjpblkhmmaaW.PrintWords Go.Proofs.YthajjjpblkhmmaaW.PrintMore

theorem w64 {x : Int} (h0 : -9223372036854775808 ≤ x) (h1 : x ≤ 9223372036854775807) : wrap64 x = x := by
  unfold wrap64
  omega

theorem shr_lo {k : IntKind} {x y : Int} (h : 0 ≤ x) : 0 ≤ shr k x y := Int.ediv_nonneg h (Int.le_of_lt (Int.pow_pos (by omega)))
theorem shr_hi {k : IntKind} {x y : Int} (h : 0 ≤ x) : shr k x y ≤ x := Int.ediv_le_self _ h
theorem noArm {r : Bool} {P : Prop} (h : (some false : Option Bool) = some r) (ht : r = true) : P := by
  cases h
  cases ht
theorem w64n {n : Nat} (h : n ≤ 1152921504606846976) : wrap64 (n : Int) = n := w64 (by omega) (by omega)

theorem rd_nat {l : List Int} {i : Nat} (h : i < l.length) : rd l (i : Int) = l[i] := by
  simp [rd, List.getD, h]

theorem evIf {α : Type} {c : Prop} [Decidable c] {f g : Nat → Option α} {r : α} (hf : c → Ev f r) (hg : ¬ c → Ev g r) : Ev (fun k => if c then f k else g k) r := by
  by_cases h : c
  · simp only [if_pos h]; exact hf h
  · simp only [if_neg h]; exact hg h

theorem evPos {α : Type} {c : Prop} [Decidable c] {f g : Nat → Option α} {r : α} (h : c) (hf : Ev f r) : Ev (fun k => if c then f k else g k) r := by
  simp only [if_pos h]; exact hf

theorem evNeg {α : Type} {c : Prop} [Decidable c] {f g : Nat → Option α} {r : α} (h : ¬ c) (hg : Ev g r) : Ev (fun k => if c then f k else g k) r := by
  simp only [if_neg h]; exact hg

/-- What is the same at each number of rounds. -/
theorem evConst {α : Type} {o : Option α} {r : α} (h : o = some r) : Ev (fun _ => o) r := ⟨0, fun _ _ => h⟩

theorem evBind {α β : Type} {g : Nat → Option α} {f : Nat → α → Option β} {a : α} {r : β} (h : Ev g a) (k : Ev (fun n => f n a) r) : Ev (fun n => (g n).bind (f n)) r := Ev.bind h k

/-- Whether a number lies between two others. -/
def inR (x lo hi : Int) : Bool := decide (lo ≤ x) && decide (x ≤ hi)
theorem inR_iff {x lo hi : Int} : inR x lo hi = true ↔ lo ≤ x ∧ x ≤ hi := by simp [inR]
theorem inR_ite (x lo hi : Int) : (if x ≥ lo then (some (decide (x ≤ hi))) else (some false)) = some (inR x lo hi) := by
  by_cases h : lo ≤ x
  · simp [inR, h]
  · simp [inR, h]

def allR (l : List Int) (lo hi : Int) : Bool := l.all (fun x => inR x lo hi)

theorem drop_get {α : Type} {l : List α} {i : Nat} (h : i < l.length) : l.drop i = l[i] :: l.drop (i + 1) := List.drop_eq_getElem_cons h

/-- From some number of rounds on there is an answer, and Q holds of it. -/
def EvP {α : Type} (g : Nat → Option α) (Q : α → Prop) : Prop := ∃ r, Ev g r ∧ Q r
theorem evpNow {α : Type} {o : Option α} {r : α} {Q : α → Prop} (e : o = some r) (h : Q r) : EvP (fun _ => o) Q := ⟨r, evConst e, h⟩
theorem evpOf {α : Type} {g : Nat → Option α} {r : α} {Q : α → Prop} (e : Ev g r) (h : Q r) : EvP g Q := ⟨r, e, h⟩
theorem evpBind {α β : Type} {g : Nat → Option α} {f : Nat → α → Option β} {Q : α → Prop} {R : β → Prop} (h : EvP g Q) (k : ∀ a, Q a → EvP (fun n => f n a) R) : EvP (fun n => (g n).bind (f n)) R := by
  obtain ⟨a, ha, hq⟩ := h
  obtain ⟨r, hr, hR⟩ := k a hq
  exact ⟨r, Ev.bind ha hr, hR⟩
theorem evpIf {α : Type} {c : Prop} [Decidable c] {f g : Nat → Option α} {Q : α → Prop} (hf : c → EvP f Q) (hg : ¬ c → EvP g Q) : EvP (fun k => if c then f k else g k) Q := by
  by_cases h : c
  · simp only [if_pos h]; exact hf h
  · simp only [if_neg h]; exact hg h
theorem evpPos {α : Type} {c : Prop} [Decidable c] {f g : Nat → Option α} {Q : α → Prop} (h : c) (hf : EvP f Q) : EvP (fun k => if c then f k else g k) Q := by
  simp only [if_pos h]; exact hf
theorem evpNeg {α : Type} {c : Prop} [Decidable c] {f g : Nat → Option α} {Q : α → Prop} (h : ¬ c) (hg : EvP g Q) : EvP (fun k => if c then f k else g k) Q := by
  simp only [if_neg h]; exact hg
theorem evpStep {α : Type} {g f : Nat → Option α} {Q : α → Prop} (h : ∀ k, g (k + 1) = f k) (k : EvP f Q) : EvP g Q := by
  obtain ⟨r, hr, hq⟩ := k
  exact ⟨r, Ev.step h hr, hq⟩
theorem evpMono {α : Type} {g : Nat → Option α} {Q R : α → Prop} (h : EvP g Q) (k : ∀ a, Q a → R a) : EvP g R := by
  obtain ⟨r, hr, hq⟩ := h
  exact ⟨r, hr, k r hq⟩
/-- What hands out drawn numbers: where it stands, its seed. -/
structure CurOk (m : Nat) (at_ seed : Int) : Prop where
  a0 : 0 ≤ at_
  a1 : at_ ≤ m
  s0 : 0 ≤ seed
  s1 : seed ≤ 70000
theorem CurOk.more {m n : Nat} {a s : Int} (h : CurOk m a s) (hn : m ≤ n) : CurOk n a s := ⟨h.a0, by have := h.a1; omega, h.s0, h.s1⟩
def CodeOk (code : List Int) : Prop := code.length ≤ 1048576 ∧ ∀ y ∈ code, 0 ≤ y ∧ y ≤ 255
theorem rd_range0 {l : List Int} {lo hi : Int} (h : ∀ y ∈ l, lo ≤ y ∧ y ≤ hi) (h0 : lo ≤ 0) (h1 : 0 ≤ hi) (i : Int) : lo ≤ rd l i ∧ rd l i ≤ hi := by
  unfold rd
  rw [List.getD_eq_getElem?_getD]
  rcases Nat.lt_or_ge i.toNat l.length with hl | hl
  · rw [List.getElem?_eq_getElem hl]
    exact h _ (List.getElem_mem _)
  · rw [List.getElem?_eq_none hl]
    exact ⟨h0, h1⟩
theorem tmod_range {a b : Int} (ha : 0 ≤ a) (hb : 0 < b) : 0 ≤ Int.tmod a b ∧ Int.tmod a b < b := by
  rw [Int.tmod_eq_emod_of_nonneg ha]
  exact ⟨Int.emod_nonneg _ (by omega), Int.emod_lt_of_pos _ hb⟩
theorem wf8 {x : Int} (h : (Lit.int .u8 x).wf = true) : 0 ≤ x ∧ x ≤ 255 := by
  simp [Lit.wf, IntKind.min, IntKind.max, IntKind.signed, IntKind.bits] at h
  omega
theorem tdiv3 {a : Int} (ha : 0 ≤ a) : Int.tdiv a 3 = a / 3 := Int.tdiv_eq_ediv_of_nonneg ha
section
open Go.Proofs.YthajjjpblkhmmaaW.PrintLast
/-- A number that lies between the blocks of two rows of rows. -/
theorem sepN {α : Type} {d : Kd α} {e : Nat} {W : World} {b : Nat} {ok : Nat → Prop} {v : Value} {xs : List α} (_ : d.S e W b ok v xs) : ∃ N, N = b := ⟨_, rfl⟩
theorem sepW {α : Type} {d : Kd α} {e N : Nat} {w1 : World} {b : Nat} {ok : Nat → Prop} {v : Value} {xs : List α} (h : d.S e w1 b ok v xs) (hN : N = b) : d.S e w1 b (fun k => ok k ∧ N ≤ k) v xs := by
  subst hN
  exact Kd.S_mono (Kd.S_bound h) (fun _ hk => ⟨hk.1, hk.2.1⟩)
end
section
abbrev bN := @pw_below_drewN
abbrev b1 := @below_drew1
abbrev bA := @below_alloc
abbrev kC := @blk_cell
abbrev bS := @below_set
abbrev wL := @World.block_lt_of_cell?
abbrev wD := @World.drewN_drewN
abbrev oD := @of_decide_eq_true
abbrev kN := @blk_drewN
abbrev kD := @blk_drew
abbrev kA := @blk_alloc
abbrev oB {α β : Type} {o : Option α} {f : α → Option β} {b : β} (h : o.bind f = some b) := Option.bind_eq_some_iff.mp h
end
end Go.Proofs.Ythajjjpblkhmmaa.B
