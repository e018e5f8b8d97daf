/-
  Plain words of my own for the printed functions: what holds from some number of rounds on, whole numbers without wrap, reads of lists.
-/
import Derived.Test.YthajjjpblkhmmaaYWWords
import Derived.Test.YthajjjpblkhmmaaYWApart
import Derived.Test.YthajjjpblkhmmaaYWMore
import Derived.Test.YthajjjpblkhmmaaYWKept
import Derived.Test.YthajjjpblkhmmaaYWLast
namespace Go.Proofs.Ythajjjpblkhmmaa.B
open Go.RowKit Go.Proofs.YthajjjpblkhmmaaW.PrintWords Go.Proofs.YthajjjpblkhmmaaW.PrintMore

theorem w64 {x : Int} (h0 : -9223372036854775808 ≤ x) (h1 : x ≤ 9223372036854775807) : wrap64 x = x := by
  unfold wrap64
  omega

theorem noArm {r : Bool} {P : Prop} (h : (some false : Option Bool) = some r) (ht : r = true) : P := by
  cases h
  cases ht
theorem w64n {n : Nat} (h : n ≤ 1152921504606846976) : wrap64 (n : Int) = n := w64 (by omega) (by omega)

theorem rd_nat {l : List Int} {i : Nat} (h : i < l.length) : rd l (i : Int) = l[i] := by
  simp [rd, List.getD, h]

theorem evIf {α : Type} {c : Prop} [Decidable c] {f g : Nat → Option α} {r : α} (hf : c → Ev f r) (hg : ¬ c → Ev g r) : Ev (fun k => if c then f k else g k) r := by
  by_cases h : c
  · simp only [if_pos h]; exact hf h
  · simp only [if_neg h]; exact hg h

theorem evPos {α : Type} {c : Prop} [Decidable c] {f g : Nat → Option α} {r : α} (h : c) (hf : Ev f r) : Ev (fun k => if c then f k else g k) r := by
  simp only [if_pos h]; exact hf

theorem evNeg {α : Type} {c : Prop} [Decidable c] {f g : Nat → Option α} {r : α} (h : ¬ c) (hg : Ev g r) : Ev (fun k => if c then f k else g k) r := by
  simp only [if_neg h]; exact hg

/-- What is the same at each number of rounds. -/
theorem evConst {α : Type} {o : Option α} {r : α} (h : o = some r) : Ev (fun _ => o) r := ⟨0, fun _ _ => h⟩

theorem evBind {α β : Type} {g : Nat → Option α} {f : Nat → α → Option β} {a : α} {r : β} (h : Ev g a) (k : Ev (fun n => f n a) r) : Ev (fun n => (g n).bind (f n)) r := Ev.bind h k

/-- Whether a number lies between two others. -/
def inR (x lo hi : Int) : Bool := decide (lo ≤ x) && decide (x ≤ hi)
theorem inR_iff {x lo hi : Int} : inR x lo hi = true ↔ lo ≤ x ∧ x ≤ hi := by simp [inR]
theorem inR_ite (x lo hi : Int) : (if x ≥ lo then (some (decide (x ≤ hi))) else (some false)) = some (inR x lo hi) := by
  by_cases h : lo ≤ x
  · simp [inR, h]
  · simp [inR, h]

def allR (l : List Int) (lo hi : Int) : Bool := l.all (fun x => inR x lo hi)

/-- The numbers from a on, one more each. -/
def countL (a : Int) (n : Nat) : List Int := (List.range n).map (fun (i : Nat) => a + i)
theorem countL_length (a : Int) (n : Nat) : (countL a n).length = n := by simp [countL]
theorem countL_succ (a : Int) (n : Nat) : countL a (n + 1) = countL a n ++ [a + n] := by simp [countL, List.range_succ]
theorem countL_get {a : Int} {n i : Nat} (h : i < n) : rd (countL a n) (i : Int) = a + i := by
  rw [rd_nat (by rw [countL_length]; exact h)]
  simp [countL]

theorem rowSlice {α : Type} {d : Kd α} {e : TypeId} {w : World} {base : Nat} {ok : Nat → Prop} {v : Value} {xs : List α} (h : Aside0 (d.R e w base ok v xs)) : ∃ A n c, v = .slice A n c := (Kd.R_slice h.out).imp fun _ h => ⟨_, h⟩
theorem rowSliceS {α : Type} {d : Kd α} {e : TypeId} {w : World} {base : Nat} {ok : Nat → Prop} {v : Value} {xs : List α} (h : Aside0 (d.S e w base ok v xs)) : ∃ A n c, v = .slice A n c := (Kd.R_slice (Kd.S_R h.out)).imp fun _ h => ⟨_, h⟩
theorem drop_get {α : Type} {l : List α} {i : Nat} (h : i < l.length) : l.drop i = l[i] :: l.drop (i + 1) := List.drop_eq_getElem_cons h

/-- What hands out drawn numbers: where it stands, its seed. -/
structure CurOk (m : Nat) (at_ seed : Int) : Prop where
  a0 : 0 ≤ at_
  a1 : at_ ≤ m
  s0 : 0 ≤ seed
  s1 : seed ≤ 70000
section
open Go.Proofs.YthajjjpblkhmmaaW.PrintLast
/-- A number that lies between the blocks of two rows of rows. -/
theorem sepN {α : Type} {d : Kd α} {e : Nat} {W : World} {b : Nat} {ok : Nat → Prop} {v : Value} {xs : List α} (_ : d.S e W b ok v xs) : ∃ N, N = b := ⟨_, rfl⟩
theorem sepO {α : Type} {d : Kd α} {e N : Nat} {W w1 : World} {base : Nat} {ok : Nat → Prop} {v : Value} {xs : List α} (h : d.S e W base ok v xs) (hN : N = W.heap.size) (hb : Below W.heap.size W w1) : d.S e w1 base (fun k => ok k ∧ k < N) v xs := by
  subst hN
  exact Kd.S_old h hb
theorem sepW {α : Type} {d : Kd α} {e N : Nat} {w1 : World} {b : Nat} {ok : Nat → Prop} {v : Value} {xs : List α} (h : d.S e w1 b ok v xs) (hN : N = b) : d.S e w1 b (fun k => ok k ∧ N ≤ k) v xs := by
  subst hN
  exact Kd.S_mono (Kd.S_bound h) (fun _ hk => ⟨hk.1, hk.2.1⟩)
/-- What is handed over leads to blocks of other types than this row's. -/
theorem keptT {α : Type} {d : Kd α} {e : Nat} {W W2 : World} {base : Nat} {ok P : Nat → Prop} {v : Value} {xs : List α} {L : List Nat} (hE : d.E = []) (h : d.R e W base ok v xs) (hk : Kept W W2 P) (hP : ∀ k, P k → ∃ q, q ∈ L ∧ ∃ cells, W.heap[k]? = some (.cells cells q (0, 0))) (hL : ∀ q ∈ L, q ≠ e) : d.R e W2 base ok v xs := by
  refine Kd.R_mono (Kd.R_move (Kd.R_bound (Kd.R_tight hE h)) (fun k hk' => ?_)) (fun k hk' => h.1 k hk'.1.symm)
  obtain ⟨h1, h2, h3, q, hq, cs, hc⟩ := hk'
  refine hk.2 k h3 (fun hp => ?_)
  obtain ⟨q2, hq2, cs2, hc2⟩ := hP k hp
  rw [hE] at hq
  rw [List.mem_singleton.1 hq, hc2] at hc
  injection hc with hc
  injection hc with _ ht
  exact hL q2 hq2 ht
/-- What is handed over doesn't lead to this row. -/
theorem keptO {α : Type} {d : Kd α} {e : Nat} {W W2 : World} {base : Nat} {ok P : Nat → Prop} {v : Value} {xs : List α} (hE : d.E = []) (h : d.R e W base ok v xs) (hk : Kept W W2 P) (hn : ∀ k, some k = v.ownBlock → ¬ P k) : d.R e W2 base ok v xs :=
  Kd.R_mono (Kd.R_move (Kd.R_bound (Kd.R_tight hE h)) (fun k hk' => hk.2 k hk'.2.2.1 (hn k hk'.1))) (fun k hk' => h.1 k hk'.1.symm)
theorem blkNo {W : World} {g t : Nat} {cs : Array Value} {L : List Nat} (hb : W.heap[g]? = some (.cells cs t (0, 0))) (hP : ∃ q, q ∈ L ∧ ∃ cells, W.heap[g]? = some (.cells cells q (0, 0))) (hL : ∀ q ∈ L, q ≠ t) : False := by
  obtain ⟨q, hq, cs2, hc⟩ := hP
  rw [hb] at hc
  injection hc with hc
  injection hc with _ ht
  exact hL q hq ht.symm
end
section
abbrev bN := @pw_below_drewN
abbrev b1 := @below_drew1
abbrev bA := @below_alloc
abbrev kC := @blk_cell
abbrev bS := @below_set
abbrev wL := @World.block_lt_of_cell?
abbrev wD := @World.drewN_drewN
abbrev oD := @of_decide_eq_true
abbrev kN := @blk_drewN
abbrev kD := @blk_drew
abbrev kA := @blk_alloc
abbrev oB {α β : Type} {o : Option α} {f : α → Option β} {b : β} (h : o.bind f = some b) := Option.bind_eq_some_iff.mp h
end
end Go.Proofs.Ythajjjpblkhmmaa.B
