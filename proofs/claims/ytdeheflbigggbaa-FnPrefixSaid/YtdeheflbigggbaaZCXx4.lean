/- Functions that a law of this seat reaches: written by a program of this session (wip/xprint.py), and by hand. -/
import Derived.Test.YtdeheflbigggbaaZCXx0
import Derived.Test.YtdeheflbigggbaaZCXx3
namespace Go.Proofs.Ytdeheflbigggbaa.CX
open Go.RowKit Go.Proofs.Ytdeheflbigggbaa.B Go.Proofs.YtdeheflbigggbaaW.PrintWords Go.Proofs.YtdeheflbigggbaaW.PrintLast Go.Proofs.YtdeheflbigggbaaW.PrintMore
attribute [local go_sem] max2_int min2_int max_two min_two max_three min_three max_four min_four   -- for this text's walks alone
set_option linter.unusedVariables false
set_option linter.unusedSimpArgs false

def thN (n : Nat) (l : List S89) : Prop := ∀ x ∈ l, x.f1.length = n
theorem rdTh_nat {l : List S89} {i : Nat} (h : i < l.length) : rd_T89 l (i : Int) = l[i] := by
  simp [rd_T89, List.getD, h]
theorem thN_get {n : Nat} {l : List S89} (h : thN n l) {i : Nat} (hi : i < l.length) : (rd_T89 l (i : Int)).f1.length = n := by
  rw [rdTh_nat hi]
  exact h _ (List.getElem_mem _)
theorem thN_snoc {n : Nat} {l : List S89} (h : thN n l) {x : S89} (hx : x.f1.length = n) : thN n (l ++ [x]) := by
  intro y hy
  rcases List.mem_append.1 hy with hy | hy
  · exact h y hy
  · rw [List.mem_singleton.1 hy]
    exact hx
theorem merge_l1 {n : Nat} (x0 x1 x5 : List S89) (j : Nat) (hj : j + 1 < x1.length) (hx : thN n x1) (hl : x1.length ≤ 100000) (hn : n ≤ 100000) (h5 : x5.length ≤ 100000) {Q : List S89 → Prop}
    (kq : ∀ w acc, acc.length = n → EvP (fun k => spec_l08Merge.l0 k x0 x1 (x5 ++ [⟨w, acc⟩]) ((j + 2 : Nat) : Int)) Q) :
    ∀ (d i : Nat) (acc : List Int) (w : Int), i + d = n → acc.length = i → EvP (fun k => spec_l08Merge.l1 k x0 x1 x5 j i w acc) Q := by
  have g0 := thN_get hx (show j < x1.length by omega)
  have g1 := thN_get hx (show j + 1 < x1.length by omega)
  have e1 : (j : Int) + 1 = ((j + 1 : Nat) : Int) := by omega
  have e2 : (j : Int) + 2 = ((j + 2 : Nat) : Int) := by omega
  intro d
  induction d with
  | zero =>
    intro i acc w hi ha
    refine evpStep (fun k => by rw [spec_l08Merge.l1]) (evpPos (by omega) (evpPos (by omega) (evpNeg (by omega) (evpPos (by omega) ?_))))
    rw [e2, w64n (by omega)]
    exact kq w acc (by omega)
  | succ d ih =>
    intro i acc w hi ha
    refine evpStep (fun k => by rw [spec_l08Merge.l1]) (evpPos (by omega) (evpPos (by omega) (evpPos (by omega) (evpPos (by omega) ?_))))
    rw [e1, w64n (n := j + 1) (by omega)]
    refine evpPos (by omega) (evpPos (by omega) (evpPos (by omega) (evpPos (by omega) ?_)))
    rw [show (i : Int) + 1 = ((i + 1 : Nat) : Int) from by omega, w64n (n := i + 1) (by omega)]
    exact ih (i + 1) _ w (by omega) (by simp [ha])
theorem merge_l2 {n : Nat} (x0 x5 : List S89) (h0 : thN n x0) (h5 : thN n x5) (l0 : x0.length ≤ 100000) (l5 : x5.length ≤ 100000) : ∀ (d a b : Nat) (x9 : List S89), a + b + d = x0.length + x5.length → a ≤ x0.length → b ≤ x5.length → x9.length = a + b → thN n x9 →
    EvP (fun k => spec_l08Merge.l2 k x0 x5 x9 a b) (fun r => thN n r ∧ r.length = x0.length + x5.length) := by
  intro d
  induction d with
  | zero =>
    intro a b x9 hd ha hb h9 hN
    refine evpStep (fun k => by rw [spec_l08Merge.l2]) (evpNeg (by omega) ?_)
    refine evpStep (fun k => by rw [spec_l08Merge.j3]) (evpNeg (by simp; omega) ?_)
    exact evpNow rfl ⟨hN, by omega⟩
  | succ d ih =>
    intro a b x9 hd ha hb h9 hN
    have takeA : a < x0.length → EvP (fun k => if x9.length < 4398046511104 then (spec_l08Merge.l2 k x0 x5 (x9 ++ [(⟨(rd_T89 x0 a).f0, (rd_T89 x0 a).f1⟩ : S89)]) (wrap64 ((a : Int) + 1)) b) else none) (fun r => thN n r ∧ r.length = x0.length + x5.length) := fun hlt => by
      refine evpPos (by omega) ?_
      rw [show (a : Int) + 1 = ((a + 1 : Nat) : Int) from by omega, w64n (by omega)]
      exact ih (a + 1) b _ (by omega) (by omega) hb (by simp [h9]; omega) (thN_snoc hN (thN_get h0 hlt))
    have takeB : b < x5.length → EvP (fun k => if x9.length < 4398046511104 then (spec_l08Merge.l2 k x0 x5 (x9 ++ [(⟨(rd_T89 x5 b).f0, (rd_T89 x5 b).f1⟩ : S89)]) a (wrap64 ((b : Int) + 1))) else none) (fun r => thN n r ∧ r.length = x0.length + x5.length) := fun hlt => by
      refine evpPos (by omega) ?_
      rw [show (b : Int) + 1 = ((b + 1 : Nat) : Int) from by omega, w64n (by omega)]
      exact ih a (b + 1) _ (by omega) ha (by omega) (by simp [h9]; omega) (thN_snoc hN (thN_get h5 hlt))
    have body : EvP (fun k => spec_l08Merge.j3 k x0 x5 x9 a b true) (fun r => thN n r ∧ r.length = x0.length + x5.length) := by
      refine evpStep (fun k => by rw [spec_l08Merge.j3]) (evpPos rfl ?_)
      refine evpIf (fun hc => ?_) (fun hc => ?_)
      · exact evpPos (by omega) (evpPos (by omega) (takeA (by omega)))
      · refine evpIf (fun hc2 => ?_) (fun hc2 => ?_)
        · exact evpPos (by omega) (evpPos (by omega) (evpPos (by omega) (evpIf (fun _ => takeA (by omega)) (fun _ => takeB (by omega)))))
        · exact evpPos (by omega) (evpPos (by omega) (takeB (by omega)))
    refine evpStep (fun k => by rw [spec_l08Merge.l2]) (evpIf (fun hc => body) (fun hc => ?_))
    rw [decide_eq_true (show (b : Int) < (x5.length : Int) by omega)]
    exact body
theorem merge_l0 {n : Nat} (x0 x1 : List S89) (h0 : thN n x0) (h1 : thN n x1) (l0 : x0.length ≤ 100000) (l1 : x1.length ≤ 100000) (hn : n ≤ 100000) : ∀ (d p : Nat) (x5 : List S89), p + d = x1.length / 2 → x5.length = p → thN n x5 →
    EvP (fun k => spec_l08Merge.l0 k x0 x1 x5 ((2 * p : Nat) : Int)) (fun r => thN n r ∧ r.length = x0.length + x1.length / 2) := by
  intro d
  induction d with
  | zero =>
    intro p x5 hd h5 hN
    refine evpStep (fun k => by rw [spec_l08Merge.l0]) (evpNeg (by rw [w64 (by omega) (by omega)]; omega) ?_)
    refine evpMono (merge_l2 x0 x5 h0 hN l0 (by omega) (x0.length + x5.length) 0 0 [] (by omega) (by omega) (by omega) rfl (fun x hx => by cases hx)) (fun r hr => ⟨hr.1, by omega⟩)
  | succ d ih =>
    intro p x5 hd h5 hN
    have ew : wrap64 (((2 * p : Nat) : Int) + 1) = ((2 * p + 1 : Nat) : Int) := by rw [w64 (by omega) (by omega)]; omega
    refine evpStep (fun k => by rw [spec_l08Merge.l0]) (evpPos (by rw [ew]; omega) (evpPos (by omega) (evpPos (by omega) (evpPos (by rw [ew]; omega) ?_))))
    exact merge_l1 (n := n) x0 x1 x5 (2 * p) (by omega) h1 l1 hn (by omega) (fun w acc ha => by
      have := ih (p + 1) (x5 ++ [⟨w, acc⟩]) (by omega) (by simp [h5]) (thN_snoc hN ha)
      rw [show 2 * (p + 1) = 2 * p + 2 from by omega] at this
      exact this) n 0 [] _ (by omega) rfl
theorem merge_f {n : Nat} (x0 x1 : List S89) (h0 : thN n x0) (h1 : thN n x1) (l0 : x0.length ≤ 100000) (l1 : x1.length ≤ 100000) (hn : n ≤ 100000) : EvP (fun k => spec_l08Merge.f k x0 x1) (fun r => thN n r ∧ r.length = x0.length + x1.length / 2) := by
  unfold spec_l08Merge.f
  exact merge_l0 x0 x1 h0 h1 l0 l1 hn (x1.length / 2) 0 [] (by omega) rfl (fun x hx => by cases hx)

end Go.Proofs.Ytdeheflbigggbaa.CX
