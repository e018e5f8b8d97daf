/-
  Plain words of my own for the printed functions: what holds from some number of rounds on, whole numbers without wrap, reads of lists.
-/
import Derived.Test.YtpcfjobojdldnaaYWWords
import Derived.Test.YtpcfjobojdldnaaYWApart
import Derived.Test.YtpcfjobojdldnaaYWMore
import Derived.Test.YtpcfjobojdldnaaYWKept
import Derived.Test.YtpcfjobojdldnaaYWLast
namespace Go.Proofs.Ytpcfjobojdldnaa.B
open Go.RowKit Go.Proofs.YtpcfjobojdldnaaW.PrintWords Go.Proofs.YtpcfjobojdldnaaW.PrintMore

theorem w64 {x : Int} (h0 : -9223372036854775808 ≤ x) (h1 : x ≤ 9223372036854775807) : wrap64 x = x := by
  unfold wrap64
  omega

theorem noArm {r : Bool} {P : Prop} (h : (some false : Option Bool) = some r) (ht : r = true) : P := by
  cases h
  cases ht
theorem w64n {n : Nat} (h : n ≤ 1152921504606846976) : wrap64 (n : Int) = n := w64 (by omega) (by omega)

theorem rd_nat {l : List Int} {i : Nat} (h : i < l.length) : rd l (i : Int) = l[i] := by
  simp [rd, List.getD, h]

theorem evIf {α : Type} {c : Prop} [Decidable c] {f g : Nat → Option α} {r : α} (hf : c → Ev f r) (hg : ¬ c → Ev g r) : Ev (fun k => if c then f k else g k) r := by
  by_cases h : c
  · simp only [if_pos h]; exact hf h
  · simp only [if_neg h]; exact hg h

theorem evPos {α : Type} {c : Prop} [Decidable c] {f g : Nat → Option α} {r : α} (h : c) (hf : Ev f r) : Ev (fun k => if c then f k else g k) r := by
  simp only [if_pos h]; exact hf

theorem evNeg {α : Type} {c : Prop} [Decidable c] {f g : Nat → Option α} {r : α} (h : ¬ c) (hg : Ev g r) : Ev (fun k => if c then f k else g k) r := by
  simp only [if_neg h]; exact hg

/-- What is the same at each number of rounds. -/
theorem evConst {α : Type} {o : Option α} {r : α} (h : o = some r) : Ev (fun _ => o) r := ⟨0, fun _ _ => h⟩

theorem evBind {α β : Type} {g : Nat → Option α} {f : Nat → α → Option β} {a : α} {r : β} (h : Ev g a) (k : Ev (fun n => f n a) r) : Ev (fun n => (g n).bind (f n)) r := Ev.bind h k

/-- Whether a number lies between two others. -/
def inR (x lo hi : Int) : Bool := decide (lo ≤ x) && decide (x ≤ hi)
theorem inR_iff {x lo hi : Int} : inR x lo hi = true ↔ lo ≤ x ∧ x ≤ hi := by simp [inR]
theorem inR_ite (x lo hi : Int) : (if x ≥ lo then (some (decide (x ≤ hi))) else (some false)) = some (inR x lo hi) := by
  by_cases h : lo ≤ x
  · simp [inR, h]
  · simp [inR, h]

def allR (l : List Int) (lo hi : Int) : Bool := l.all (fun x => inR x lo hi)

theorem rowSlice {α : Type} {d : Kd α} {e : TypeId} {w : World} {base : Nat} {ok : Nat → Prop} {v : Value} {xs : List α} (h : Aside0 (d.R e w base ok v xs)) : ∃ A n c, v = .slice A n c := (Kd.R_slice h.out).imp fun _ h => ⟨_, h⟩
theorem rowSliceS {α : Type} {d : Kd α} {e : TypeId} {w : World} {base : Nat} {ok : Nat → Prop} {v : Value} {xs : List α} (h : Aside0 (d.S e w base ok v xs)) : ∃ A n c, v = .slice A n c := (Kd.R_slice (Kd.S_R h.out)).imp fun _ h => ⟨_, h⟩
theorem drop_get {α : Type} {l : List α} {i : Nat} (h : i < l.length) : l.drop i = l[i] :: l.drop (i + 1) := List.drop_eq_getElem_cons h

/-- What hands out drawn numbers: where it stands, its seed. -/
structure CurOk (m : Nat) (at_ seed : Int) : Prop where
  a0 : 0 ≤ at_
  a1 : at_ ≤ m
  s0 : 0 ≤ seed
  s1 : seed ≤ 70000
section
open Go.Proofs.YtpcfjobojdldnaaW.PrintLast
theorem bc {W : World} {g t : Nat} {cs : Array Value} {v : Value} (h : W.heap[g]? = some (.cells cs t (0, 0))) (i : Nat) (e : cs[i]? = some v := by rfl) : W.cell? ⟨g, i, none⟩ = some v := (blk_cell h i).trans e
/-- A number that lies between the blocks of two rows of rows. -/
theorem sepN {α : Type} {d : Kd α} {e : Nat} {W : World} {b : Nat} {ok : Nat → Prop} {v : Value} {xs : List α} (_ : d.S e W b ok v xs) : ∃ N, N = b := ⟨_, rfl⟩
theorem sepO {α : Type} {d : Kd α} {e N : Nat} {W w1 : World} {base : Nat} {ok : Nat → Prop} {v : Value} {xs : List α} (h : d.S e W base ok v xs) (hN : N = W.heap.size) (hb : Below W.heap.size W w1) : d.S e w1 base (fun k => ok k ∧ k < N) v xs := by
  subst hN
  exact Kd.S_old h hb
theorem sepW {α : Type} {d : Kd α} {e N : Nat} {w1 : World} {b : Nat} {ok : Nat → Prop} {v : Value} {xs : List α} (h : d.S e w1 b ok v xs) (hN : N = b) : d.S e w1 b (fun k => ok k ∧ N ≤ k) v xs := by
  subst hN
  exact Kd.S_mono (Kd.S_bound h) (fun _ hk => ⟨hk.1, hk.2.1⟩)
theorem blkNo {W : World} {g t : Nat} {cs : Array Value} {L : List Nat} (hb : W.heap[g]? = some (.cells cs t (0, 0))) (hP : ∃ q, q ∈ L ∧ ∃ cells, W.heap[g]? = some (.cells cells q (0, 0))) (hL : ∀ q ∈ L, q ≠ t) : False := by
  obtain ⟨q, hq, cs2, hc⟩ := hP
  rw [hb] at hc
  injection hc with hc
  injection hc with _ ht
  exact hL q hq ht.symm
/-- A row of rows that was handed over comes back: what the callee has made anew may be told, too. -/
theorem S_handed {α : Type} {d : Kd α} {e n base : Nat} {w : World} {ok Q : Nat → Prop} {v : Value} {xs : List α} (h : d.S e w base (fun k => (ok k ∧ Q k) ∨ n ≤ k) v xs) (hf : ∀ k, n ≤ k → ok k) : d.S e w base ok v xs := Kd.S_mono h (fun k hk => hk.elim (fun h => h.1) (hf k))
end
section
abbrev bN := @pw_below_drewN
abbrev b1 := @below_drew1
abbrev bA := @below_alloc
abbrev kC := @blk_cell
abbrev bS := @below_set
abbrev wL := @World.block_lt_of_cell?
abbrev wD := @World.drewN_drewN
abbrev oD := @of_decide_eq_true
abbrev kN := @blk_drewN
abbrev kD := @blk_drew
abbrev kA := @blk_alloc
abbrev oB {α β : Type} {o : Option α} {f : α → Option β} {b : β} (h : o.bind f = some b) := Option.bind_eq_some_iff.mp h
end
end Go.Proofs.Ytpcfjobojdldnaa.B
