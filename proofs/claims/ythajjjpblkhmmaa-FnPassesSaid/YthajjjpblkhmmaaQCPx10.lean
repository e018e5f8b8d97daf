/- Functions that a law of this seat reaches: written by a program of this session (wip/xprint.py), and by hand. -/
import Derived.Test.YthajjjpblkhmmaaQMac
import Derived.Test.YthajjjpblkhmmaaQCPx0
import Derived.Test.YthajjjpblkhmmaaQCPx1
import Derived.Test.YthajjjpblkhmmaaQCPx4
import Derived.Test.YthajjjpblkhmmaaQCPx9
namespace Go.Proofs.Ythajjjpblkhmmaa.CP
open Go.RowKit Go.Proofs.Ythajjjpblkhmmaa.B Go.Proofs.YthajjjpblkhmmaaW.PrintWords Go.Proofs.YthajjjpblkhmmaaW.PrintLast Go.Proofs.YthajjjpblkhmmaaW.PrintMore
attribute [local go_sem] max2_int min2_int max_two min_two max_three min_three max_four min_four   -- for this text's walks alone
set_option linter.unusedVariables false
set_option linter.unusedSimpArgs false

theorem pow13 (low : Int) (h0 : 0 ≤ low) (h1 : low ≤ 13) : (1 : Int) ≤ 2 ^ low.toNat ∧ (2 : Int) ^ low.toNat ≤ 8192 := by
  have h4 : (2 : Nat) ^ low.toNat ≤ 8192 := Nat.le_trans (Nat.pow_le_pow_right (by omega) (show low.toNat ≤ 13 by omega)) (by decide)
  have h5 : ((2 ^ low.toNat : Nat) : Int) = 2 ^ low.toNat := by simp
  have h6 := pow_pos' low.toNat
  rw [← h5] at h6 ⊢
  omega
def newV (v n low : Int) : Int := v + (if v < 0 then -n else n) * 2 ^ low.toNat
def okB (v n low : Int) : Bool := inR n (-1) 1 && ((decide (0 ≤ n) || decide (v = 0)) && inR (newV v n low) (-16383) 16383)
def bitB (v n : Int) : Bool := inR n (-1) 1 && (decide (0 ≤ n) || decide (v = 0))
theorem okB_iff {v n low : Int} : okB v n low = true ↔ (-1 ≤ n ∧ n ≤ 1) ∧ (0 ≤ n ∨ v = 0) ∧ (-16383 ≤ newV v n low ∧ newV v n low ≤ 16383) := by
  simp only [okB, Bool.and_eq_true, Bool.or_eq_true, inR_iff, decide_eq_true_eq]
theorem bitB_iff {v n : Int} : bitB v n = true ↔ (-1 ≤ n ∧ n ≤ 1) ∧ (0 ≤ n ∨ v = 0) := by
  simp only [bitB, Bool.and_eq_true, Bool.or_eq_true, inR_iff, decide_eq_true_eq]
/-- Of a pass from f on: the number m puts its bit where it may. -/
def okAt (b list : List Int) (f low : Int) (m : Nat) : Bool := okB (rd (toZ b) (f + m)) (rd list (m : Int)) low
def bitAt2 (b list : List Int) (f : Int) (m : Nat) : Bool := bitB (rd (toZ b) (f + m)) (rd list (m : Int))
def okAll (b list : List Int) (f low : Int) : Bool := (List.range list.length).all (okAt b list f low)
def prF (b list : List Int) (f low : Int) (m : Nat) : Nat → Int := fun p => if f ≤ (zi p : Int) ∧ (zi p : Int) < f + m then newV (rd b (p : Int)) (rd list ((zi p : Int) - f)) low else rd b (p : Int)
def prI (b : List Int) (f t h l : Int) (list : List Int) : List Int :=
  if numsB b (-16383) 16383 = true ∧ passB f t h l = true ∧ h ≠ 0 ∧ (list.length : Int) = t - f + 1 ∧ okAll b list f l = true then mapR (prF b list f l list.length) else []
theorem pr_set (b list : List Int) (f low : Int) (m j : Nat) (hj : f + m = j) (hm : j < 64) :
    (mapR (prF b list f low m)).set (rd zzL (j : Int)).toNat (newV (rd b (rd zzL (j : Int))) (rd list (m : Int)) low) = mapR (prF b list f low (m + 1)) := by
  have hr := zz_rd j hm
  rw [mapR_set]
  refine mapR_congr fun p hp => ?_
  obtain ⟨h1, h2⟩ := zi_all hp
  unfold prF
  by_cases e : p = (rd zzL (j : Int)).toNat
  · have hz := zz_zi hm
    rw [← e] at hz
    rw [if_pos e, if_pos ⟨by omega, by omega⟩, show (zi p : Int) - f = m from by omega, show (p : Int) = rd zzL (j : Int) from by omega]
  · rw [if_neg e]
    have hne : zi p ≠ j := fun h => e (by rw [h] at h2; omega)
    by_cases h : f ≤ (zi p : Int) ∧ (zi p : Int) < f + m
    · rw [if_pos h, if_pos ⟨h.1, by omega⟩]
    · rw [if_neg h, if_neg (fun h3 => h ⟨h3.1, by omega⟩)]
theorem pr_at (b list : List Int) (f low : Int) (m j : Nat) (hj : f + m = j) (hm : j < 64) : rd (mapR (prF b list f low m)) (rd zzL (j : Int)) = rd b (rd zzL (j : Int)) := by
  have hr := zz_rd j hm
  obtain ⟨p, hp⟩ : ∃ p : Nat, rd zzL (j : Int) = p := ⟨(rd zzL (j : Int)).toNat, by omega⟩
  have hz := zz_zi hm
  rw [hp] at hr hz ⊢
  rw [mapR_rd _ (by omega)]
  unfold prF
  rw [Int.toNat_natCast] at hz
  rw [if_neg (by rw [hz]; omega)]
theorem okAll_of {b list : List Int} {f low : Int} (h : ∀ j : Nat, j < list.length → okAt b list f low j = true) : okAll b list f low = true := List.all_eq_true.2 fun j hj => h j (List.mem_range.1 hj)
theorem okAll_no {b list : List Int} {f low : Int} {m : Nat} (hm : m < list.length) (h : okAt b list f low m = false) : okAll b list f low = false := by
  refine Bool.eq_false_iff.2 fun ha => ?_
  have := List.all_eq_true.1 ha m (List.mem_range.2 hm)
  rw [h] at this
  cases this
end Go.Proofs.Ythajjjpblkhmmaa.CP
