/-
  What the small functions on lists and sides come to (plain law, no program in sight).
-/
import Derived.Test.YtdakegolcmcgmaaBase
import Derived.Test.YtdakegolcmcgmaaCAx2
namespace Go.Proofs.Ytdakegolcmcgmaa.L
open Go.RowKit Go.Proofs.Ytdakegolcmcgmaa.B Go.Proofs.Ytdakegolcmcgmaa.CA Go.Proofs.YtdakegolcmcgmaaW.PrintWords

theorem within_f (a b c : Int) : impl_within.f a b c = some (inR a b c) := inR_ite a b c
theorem between_f (a b c : Int) : spec_l01Between.f a b c = some (inR a b c) := inR_ite a b c

def sidesB (w h : Int) : Bool := inR w 1 1024 && (inR h 1 1024 && decide (wrap64 (w * h) ≤ 131072))
theorem areSides_f (w h : Int) : impl_areSides.f w h = some (sidesB w h) := by
  simp only [impl_areSides.f, within_f, Option.bind_some, sidesB]
  cases inR w 1 1024 <;> cases inR h 1 1024 <;> simp
theorem sides_f (w h : Int) : spec_l16Sides.f w h = some (sidesB w h) := by
  simp only [spec_l16Sides.f, between_f, Option.bind_some, sidesB]
  cases inR w 1 1024 <;> cases inR h 1 1024 <;> simp

def allR (l : List Int) (lo hi : Int) : Bool := l.all (fun x => inR x lo hi)

theorem allWithin_l0 (lo up : Int) (l : List Int) (hl : l.length ≤ maxLen) : ∀ (d i : Nat), i + d = l.length → Ev (fun k => impl_allWithin.l0 k lo up l (l.length : Int) i) (allR (l.drop i) lo up) := by
  unfold maxLen at hl
  intro d
  induction d with
  | zero =>
    intro i hi
    refine Ev.step (fun k => by rw [impl_allWithin.l0]) ?_
    rw [List.drop_eq_nil_of_le (by omega)]
    exact evNeg (by omega) (Ev.now true)
  | succ d ih =>
    intro i hi
    have h1 : i < l.length := by omega
    refine Ev.step (fun k => by rw [impl_allWithin.l0]) ?_
    refine evPos (by omega) (evPos (by omega) (evPos (by omega) ?_))
    rw [drop_get h1, rd_nat h1, within_f]
    simp only [Option.bind_some, allR, List.all_cons]
    cases inR l[i] lo up with
    | false => exact evNeg (by simp) (Ev.now false)
    | true =>
      refine evPos rfl ?_
      rw [w64 (by omega) (by omega)]
      exact ih (i + 1) (by omega)
theorem allWithin_f (l : List Int) (lo hi : Int) (hl : l.length ≤ maxLen) : Ev (fun k => impl_allWithin.f k l lo hi) (allR l lo hi) := by
  have := allWithin_l0 lo hi l hl l.length 0 (by omega)
  simpa [impl_allWithin.f] using this

def planeB (l : List Int) (w h : Int) : Bool := sidesB w h && (decide ((l.length : Int) = wrap64 (w * h)) && allR l 0 4095)
theorem iPlaneOk_f (l : List Int) (w h : Int) (hl : l.length ≤ maxLen) : Ev (fun k => impl_PlaneOk.f k l w h) (planeB l w h) := by
  unfold impl_PlaneOk.f planeB
  rw [areSides_f]
  simp only [Option.bind_some]
  cases sidesB w h with
  | false => exact evNeg (by simp) (Ev.now false)
  | true =>
    refine evPos rfl (evIf (fun hc => ?_) (fun hc => ?_))
    · refine evBind (allWithin_f l 0 4095 hl) ?_
      simp only [hc, decide_true, Bool.true_and]
      exact Ev.now _
    · simp only [hc, decide_false, Bool.false_and, Bool.and_false]
      exact Ev.now _

theorem sPlaneOk_l0 (l : List Int) (hl : l.length ≤ maxLen) : ∀ (d i : Nat), i + d = l.length → Ev (fun k => spec_PlaneOk.l0 k l i) (allR (l.drop i) 0 4095) := by
  unfold maxLen at hl
  intro d
  induction d with
  | zero =>
    intro i hi
    refine Ev.step (fun k => by rw [spec_PlaneOk.l0]) ?_
    rw [List.drop_eq_nil_of_le (by omega)]
    exact evNeg (by omega) (Ev.now true)
  | succ d ih =>
    intro i hi
    have h1 : i < l.length := by omega
    refine Ev.step (fun k => by rw [spec_PlaneOk.l0]) ?_
    refine evPos (by omega) (evPos (by omega) ?_)
    rw [drop_get h1, rd_nat h1, between_f]
    simp only [Option.bind_some, allR, List.all_cons]
    cases inR l[i] 0 4095 with
    | false => exact evNeg (by simp) (Ev.now false)
    | true =>
      refine evPos rfl ?_
      rw [w64 (by omega) (by omega)]
      exact ih (i + 1) (by omega)
theorem sPlaneOk_f (l : List Int) (w h : Int) (hl : l.length ≤ maxLen) : Ev (fun k => spec_PlaneOk.f k l w h) (planeB l w h) := by
  unfold spec_PlaneOk.f planeB
  rw [sides_f]
  simp only [Option.bind_some]
  cases sidesB w h with
  | false => exact evNeg (by simp) (Ev.step (fun k => by rw [spec_PlaneOk.j0]) (evPos rfl (Ev.now false)))
  | true =>
    refine evPos rfl (Ev.step (fun k => by rw [spec_PlaneOk.j0]) ?_)
    by_cases hc : (l.length : Int) = wrap64 (w * h)
    · refine evNeg (by simp [hc]) ?_
      simp only [hc, decide_true, Bool.true_and]
      exact sPlaneOk_l0 l hl l.length 0 (by omega)
    · refine evPos (by simp [hc]) ?_
      simp only [hc, decide_false, Bool.false_and, Bool.and_false]
      exact Ev.now _

theorem toIntS_l0 (l : List Int) (hl : l.length ≤ 1048576) : ∀ (d i : Nat) (m : List Int), i + d = l.length → m.length = l.length → m.take i = l.take i → Ev (fun k => laws_toIntS.l0 k l m i) l := by
  intro d
  induction d with
  | zero =>
    intro i m hi hm ht
    refine Ev.step (fun k => by rw [laws_toIntS.l0]) ?_
    rw [List.take_of_length_le (by omega), List.take_of_length_le (by omega)] at ht
    subst ht
    exact evNeg (by omega) (Ev.now _)
  | succ d ih =>
    intro i m hi hm ht
    have h1 : i < l.length := by omega
    refine Ev.step (fun k => by rw [laws_toIntS.l0]) ?_
    refine evPos (by omega) (evPos (by omega) (evPos (by omega) ?_))
    rw [rd_nat h1, w64 (by omega) (by omega), Int.toNat_natCast]
    refine ih (i + 1) _ (by omega) (by simp [hm]) ?_
    rw [List.take_succ_eq_append_getElem (by simp; omega), List.take_succ_eq_append_getElem h1, List.take_set_of_le (Nat.le_refl _), ht]
    simp
theorem toIntS_f (l : List Int) (hl : l.length ≤ 1048576) : Ev (fun k => laws_toIntS.f k l) l := by
  unfold laws_toIntS.f
  refine evPos (by omega) (evPos (by omega) ?_)
  exact toIntS_l0 l hl l.length 0 _ (by omega) (by simp) (by simp)

theorem eqIntS_l0 (l : List Int) (hl : l.length ≤ 1048576) : ∀ (d i : Nat), i + d = l.length → Ev (fun k => laws_eqIntS.l0 k l l i) true := by
  intro d
  induction d with
  | zero =>
    intro i hi
    refine Ev.step (fun k => by rw [laws_eqIntS.l0]) ?_
    exact evNeg (by omega) (Ev.now _)
  | succ d ih =>
    intro i hi
    refine Ev.step (fun k => by rw [laws_eqIntS.l0]) ?_
    refine evPos (by omega) (evPos (by omega) (evPos (by omega) (evPos rfl ?_)))
    rw [w64 (by omega) (by omega)]
    exact ih (i + 1) (by omega)
/-- A list is the same as itself. -/
theorem eqIntS_f (l : List Int) (hl : l.length ≤ 1048576) : Ev (fun k => laws_eqIntS.f k l l) true := by
  unfold laws_eqIntS.f
  exact evPos rfl (eqIntS_l0 l hl l.length 0 (by omega))
end Go.Proofs.Ytdakegolcmcgmaa.L
