/- Functions that a law of this seat reaches: written by a program of this session (wip/xprint.py), and by hand. -/
import Derived.Test.YthajjjpblkhmmaaQMac
import Derived.Test.YthajjjpblkhmmaaQCPx0
import Derived.Test.YthajjjpblkhmmaaQCPx1
namespace Go.Proofs.Ythajjjpblkhmmaa.CP
open Go.RowKit Go.Proofs.Ythajjjpblkhmmaa.B Go.Proofs.YthajjjpblkhmmaaW.PrintWords Go.Proofs.YthajjjpblkhmmaaW.PrintLast Go.Proofs.YthajjjpblkhmmaaW.PrintMore
attribute [local go_sem] max2_int min2_int max_two min_two max_three min_three max_four min_four   -- for this text's walks alone
set_option linter.unusedVariables false
set_option linter.unusedSimpArgs false

/-! ### spec_FromZig: function 77 -/
def spec_FromZig.T8 : Bool × List (List Nat × List Nat) := (true, [([], []), ([], []), ([], []), ([1, 2], [1, 2]), ([3], [3]), ([], []), ([], []), ([5, 6], [5, 6]), ([7], [7]), ([0, 4, 0, 1, 2, 3, 4, 5, 6, 7, 8], [0, 4]), ([9, 8, 0, 1, 2, 3, 4, 5, 6, 7, 8], [8, 9])])
def spec_FromZig.B8 : List Nat := [0, 0, 0, 6, 14, 0, 0, 96, 224, 511, 1023]
theorem spec_FromZig.tab8 : rtab .any (opsOf Try.f77 8) = spec_FromZig.T8 := by kernel_rfl
theorem spec_FromZig.bits8 : waitsOk spec_FromZig.T8.2 spec_FromZig.B8 = true := by kernel_rfl
/-- Where a place of a block stands in the order of the passes. -/
def zzI : List Nat := [0, 1, 5, 6, 14, 15, 27, 28, 2, 4, 7, 13, 16, 26, 29, 42, 3, 8, 12, 17, 25, 30, 41, 43, 9, 11, 18, 24, 31, 40, 44, 53, 10, 19, 23, 32, 39, 45, 52, 54, 20, 22, 33, 38, 46, 51, 55, 60, 21, 34, 37, 47, 50, 56, 59, 61, 35, 36, 48, 49, 57, 58, 62, 63]
def zi (p : Nat) : Nat := zzI.getD p 0
theorem zi_all {p : Nat} (h : p < 64) : zi p < 64 ∧ rd zzL (zi p : Int) = p := by
  have hh : (List.range 64).all (fun p => decide (zi p < 64) && decide (rd zzL (zi p : Int) = p)) = true := by decide +kernel
  have := List.all_eq_true.1 hh p (List.mem_range.2 h)
  simpa using this
theorem zz_zi {j : Nat} (h : j < 64) : zi (rd zzL (j : Int)).toNat = j := by
  have hh : (List.range 64).all (fun j => decide (zi (rd zzL (j : Int)).toNat = j)) = true := by decide +kernel
  have := List.all_eq_true.1 hh j (List.mem_range.2 h)
  simpa using this
def mapR (g : Nat → Int) : List Int := (List.range 64).map g
theorem mapR_length (g : Nat → Int) : (mapR g).length = 64 := by simp [mapR]
theorem mapR_congr {g f : Nat → Int} (h : ∀ p, p < 64 → g p = f p) : mapR g = mapR f := List.map_congr_left fun p hp => h p (List.mem_range.1 hp)
theorem mapR_rd (g : Nat → Int) {p : Nat} (h : p < 64) : rd (mapR g) (p : Int) = g p := by
  rw [rd_nat (by rw [mapR_length]; exact h)]
  simp [mapR]
theorem mapR_set (g : Nat → Int) (q : Nat) (v : Int) : (mapR g).set q v = mapR (fun p => if p = q then v else g p) := by
  apply List.ext_getElem
  · simp [mapR]
  · intro i h1 h2
    rw [List.getElem_set]
    simp only [mapR, List.getElem_map, List.getElem_range]
    by_cases e : q = i
    · simp [e]
    · rw [if_neg e, if_neg (fun h => e h.symm)]
theorem mapR_all {g : Nat → Int} {lo hi : Int} (h : ∀ p, p < 64 → lo ≤ g p ∧ g p ≤ hi) : numsB (mapR g) lo hi = true := by
  simp only [numsB, Bool.and_eq_true, decide_eq_true_eq, allR, List.all_eq_true, inR_iff]
  refine ⟨by rw [mapR_length]; rfl, fun y hy => ?_⟩
  obtain ⟨p, hp, rfl⟩ := List.mem_map.1 hy
  exact h p (List.mem_range.1 hp)
theorem mapR_self {l : List Int} (h : l.length = 64) : mapR (fun p => rd l (p : Int)) = l := by
  apply List.ext_getElem
  · rw [mapR_length, h]
  · intro i h1 h2
    simp only [mapR, List.getElem_map, List.getElem_range]
    exact rd_nat h2
end Go.Proofs.Ythajjjpblkhmmaa.CP
