/- Functions that a law of this seat reaches: written by a program of this session (wip/xprint.py), and by hand. -/
import Derived.Test.YthajjjpblkhmmaaQMac
import Derived.Test.YthajjjpblkhmmaaQCPx0
import Derived.Test.YthajjjpblkhmmaaQCPx1
import Derived.Test.YthajjjpblkhmmaaQCPx4
namespace Go.Proofs.Ythajjjpblkhmmaa.CP
open Go.RowKit Go.Proofs.Ythajjjpblkhmmaa.B Go.Proofs.YthajjjpblkhmmaaW.PrintWords Go.Proofs.YthajjjpblkhmmaaW.PrintLast Go.Proofs.YthajjjpblkhmmaaW.PrintMore
attribute [local go_sem] max2_int min2_int max_two min_two max_three min_three max_four min_four   -- for this text's walks alone
set_option linter.unusedVariables false
set_option linter.unusedSimpArgs false

/-! ### spec_PutFirst: function 25 -/
theorem mul_bd {n P : Int} (h1 : -16383 ≤ n) (h2 : n ≤ 16383) (p1 : 1 ≤ P) (p2 : P ≤ 8192) : -134209536 ≤ n * P ∧ n * P ≤ 134209536 := by
  have a : n * P ≤ 16383 * P := Int.mul_le_mul_of_nonneg_right h2 (by omega)
  have b : -16383 * P ≤ n * P := Int.mul_le_mul_of_nonneg_right h1 (by omega)
  omega
theorem pow_13 (low : Int) (h0 : 0 ≤ low) (h1 : low ≤ 13) : (1 : Int) ≤ 2 ^ low.toNat ∧ (2 : Int) ^ low.toNat ≤ 8192 := by
  have h4 : (2 : Nat) ^ low.toNat ≤ 8192 := Nat.le_trans (Nat.pow_le_pow_right (by omega) (show low.toNat ≤ 13 by omega)) (by decide)
  have h5 : ((2 ^ low.toNat : Nat) : Int) = 2 ^ low.toNat := by simp
  have h6 := pow_pos' low.toNat
  rw [← h5] at h6 ⊢
  omega
def putB (n low : Int) : Bool := inR n (-16383) 16383 && inR (n * 2 ^ low.toNat) (-16383) 16383
theorem putB_iff {n low : Int} : putB n low = true ↔ (-16383 ≤ n ∧ n ≤ 16383) ∧ (-16383 ≤ n * 2 ^ low.toNat ∧ n * 2 ^ low.toNat ≤ 16383) := by
  simp only [putB, Bool.and_eq_true, inR_iff]
theorem putB_in (n low : Int) (h0 : 0 ≤ low) (h1 : low ≤ 13) : inR n (-(16383 / 2 ^ low.toNat)) (16383 / 2 ^ low.toNat) = putB n low := by
  obtain ⟨p1, p2⟩ := pow_13 low h0 h1
  generalize 2 ^ low.toNat = P at p1 p2 ⊢
  have e : (-(16383 / 2 ^ low.toNat) ≤ n ∧ n ≤ 16383 / 2 ^ low.toNat) ↔ ((-16383 ≤ n ∧ n ≤ 16383) ∧ (-16383 ≤ n * 2 ^ low.toNat ∧ n * 2 ^ low.toNat ≤ 16383)) := by
    obtain ⟨p1, p2⟩ := pow_13 low h0 h1
    generalize (2 : Int) ^ low.toNat = P at p1 p2 ⊢
    have a1 := Int.le_ediv_iff_mul_le (a := n) (b := 16383) (c := P) (by omega)
    have a2 := Int.le_ediv_iff_mul_le (a := -n) (b := 16383) (c := P) (by omega)
    have a3 : -n * P = -(n * P) := Int.neg_mul n P
    rw [a3] at a2
    have a4 : 0 ≤ n → n * 1 ≤ n * P := fun h => Int.mul_le_mul_of_nonneg_left p1 h
    have a5 : 0 ≤ -n → -n * 1 ≤ -n * P := fun h => Int.mul_le_mul_of_nonneg_left p1 h
    rw [a3] at a5
    generalize n * P = X at a1 a2 a4 a5 ⊢
    generalize 16383 / P = Y at a1 a2 ⊢
    omega
  rw [Bool.eq_iff_iff, inR_iff, putB_iff]
  exact e
theorem toZ_mapR (b : List Int) : toZ b = mapR (fun j => rd (toZ b) (j : Int)) := (mapR_self (toZ_length b)).symm
def putF (b list : List Int) (f low : Int) (m : Nat) : Nat → Int := fun p => if f ≤ (zi p : Int) ∧ (zi p : Int) < f + m then rd list ((zi p : Int) - f) * 2 ^ low.toNat else rd b (p : Int)
def putI (b : List Int) (f t h l : Int) (list : List Int) : List Int :=
  if numsB b (-16383) 16383 = true ∧ passB f t h l = true ∧ h = 0 ∧ (list.length : Int) = t - f + 1 ∧ list.all (fun n => putB n l) = true then mapR (putF b list f l list.length) else []
theorem shl_mul (n low : Int) (hn : -16383 ≤ n ∧ n ≤ 16383) (h0 : 0 ≤ low) (h1 : low ≤ 13) : shl .i64 n low = n * 2 ^ low.toNat ∧ wrap64 (n * shl .i64 1 low) = n * 2 ^ low.toNat := by
  obtain ⟨p1, p2⟩ := pow_13 low h0 h1
  have hb := mul_bd hn.1 hn.2 p1 p2
  refine ⟨?_, ?_⟩
  · unfold shl
    rw [Nat.min_eq_left (by simp [IntKind.bits]; omega), i64_w]
    exact w64 (by omega) (by omega)
  · rw [shl1 low h0 (by omega)]
    exact w64 (by omega) (by omega)
end Go.Proofs.Ythajjjpblkhmmaa.CP
