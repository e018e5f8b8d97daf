/- Functions that a law of this seat reaches: written by a program of this session (wip/xprint.py), and by hand. -/
import Derived.Test.YtpcfjobojdldnaaYMac
import Derived.Test.YtpcfjobojdldnaaYCVx0
import Derived.Test.YtpcfjobojdldnaaYCVx1
import Derived.Test.YtpcfjobojdldnaaYCVx3
namespace Go.Proofs.Ytpcfjobojdldnaa.CV
open Go.RowKit Go.Proofs.Ytpcfjobojdldnaa.B Go.Proofs.YtpcfjobojdldnaaW.PrintWords Go.Proofs.YtpcfjobojdldnaaW.PrintLast Go.Proofs.YtpcfjobojdldnaaW.PrintMore
attribute [local go_sem] max2_int min2_int max_two min_two max_three min_three max_four min_four   -- for this text's walks alone
set_option linter.unusedVariables false
set_option linter.unusedSimpArgs false

/-! ### laws_eqComp: function 75 -/
def laws_eqComp.f (a0_0 : Int) (a0_1 : Int) (a0_2 : Int) (a0_3 : Int) (a1_0 : Int) (a1_1 : Int) (a1_2 : Int) (a1_3 : Int) : Option (Bool) := if a0_0 = a1_0 then (if a0_1 = a1_1 then (if a0_2 = a1_2 then (if a0_3 = a1_3 then (some true) else (some false)) else (some false)) else (some false)) else (some false)
set_option maxHeartbeats 8000000 in
set_option maxRecDepth 100000 in
theorem laws_eqComp.calls (a0_0 : Int) (a0_1 : Int) (a0_2 : Int) (a0_3 : Int) (a1_0 : Int) (a1_1 : Int) (a1_2 : Int) (a1_3 : Int) (r : Bool) (w : World) (HTRUE_ : Aside0 (r = true)) (h : laws_eqComp.f a0_0 a0_1 a0_2 a0_3 a1_0 a1_1 a1_2 a1_3 = some r) :
  Calls Try.prog 75 #[.agg #[.int .i64 a0_0, .int .i64 a0_1, .int .i64 a0_2, .int .i64 a0_3], .agg #[.int .i64 a1_0, .int .i64 a1_1, .int .i64 a1_2, .int .i64 a1_3]] w fun e w' => e = .returned (.bool r) ∧ Below w.heap.size w w' := by
 have hu74 := Try.underlying74
 have HB := aM (Below.refl w.heap.size w)
 have H : (if a0_0 = a1_0 then (if a0_1 = a1_1 then (if a0_2 = a1_2 then (if a0_3 = a1_3 then (some true) else (some false)) else (some false)) else (some false)) else (some false)) = some r := h
 clear h
 by_cases c3 : a0_0 = a1_0
 ·rw [if_pos c3] at H
  have c3b0 : (a0_0 == a1_0) = true := beq_iff_eq.mpr c3
  have c3b1 : (a0_0 != a1_0) = false := bne_eq_false_iff_eq.mpr c3
  clear c3
  by_cases c4 : a0_1 = a1_1
  ·rw [if_pos c4] at H
   have c4b0 : (a0_1 == a1_1) = true := beq_iff_eq.mpr c4
   have c4b1 : (a0_1 != a1_1) = false := bne_eq_false_iff_eq.mpr c4
   clear c4
   by_cases c5 : a0_2 = a1_2
   ·rw [if_pos c5] at H
    have c5b0 : (a0_2 == a1_2) = true := beq_iff_eq.mpr c5
    have c5b1 : (a0_2 != a1_2) = false := bne_eq_false_iff_eq.mpr c5
    clear c5
    by_cases c6 : a0_3 = a1_3
    ·rw [if_pos c6] at H
     have c6b0 : (a0_3 == a1_3) = true := beq_iff_eq.mpr c6
     have c6b1 : (a0_3 != a1_3) = false := bne_eq_false_iff_eq.mpr c6
     clear c6
     obtain rfl := Option.some.inj H
     go_enter Try.func75, Try.ntmps75
     go_wp2_with (first | ((with_reducible refine gate_dst (N := 2) rfl ?_); refine box_event ?hg (N := 2) ?hd (cs := #[.int .i64 a0_0, .int .i64 a0_1, .int .i64 a0_2, .int .i64 a0_3]) (t := 74) ?hr ?_; (case hd => rfl); (case hg => rfl); (case hr => first | (go_simp; done) | (go_simp; rfl)); intro gb469 hg w7 hbox hb; have BK469 := aM hbox; have GW469 := aM (zG hg : w.heap.size ≤ gb469); have GE469 := aM (zG hg : w.heap.size ≤ gb469); replace HB := cH HB hb; clear hb hbox hg) | ((with_reducible refine gate_dst (N := 3) rfl ?_); refine box_event ?hg (N := 3) ?hd (cs := #[.int .i64 a1_0, .int .i64 a1_1, .int .i64 a1_2, .int .i64 a1_3]) (t := 74) ?hr ?_; (case hd => rfl); (case hg => rfl); (case hr => first | (go_simp; done) | (go_simp; rfl)); intro gb470 hg w8 hbox hb; have BK470 := aM hbox; have GW470 := aM (zG hg : w.heap.size ≤ gb470); have GE470 := aM (zG hg : w.heap.size ≤ gb470); replace HB := cH HB hb; have NB469_470 := aM ((zL hg BK469)); have NB470_469 := aM ((zM hg BK469)); replace BK469 := cB BK469 hb; clear hb hbox hg; have hnb9 := NB469_470.out; have hnc9 := NB470_469.out; obtain ⟨hcz10_0, hcz10_1, hcz10_2, hcz10_3⟩ := kk4 BK469; obtain ⟨hfz10_0, hfz10_1, hfz10_2, hfz10_3⟩ := kg4 BK469; obtain ⟨hcz11_0, hcz11_1, hcz11_2, hcz11_3⟩ := kk4 BK470; obtain ⟨hfz11_0, hfz11_1, hfz11_2, hfz11_3⟩ := kg4 BK470))
     go_ret
     exact ⟨zR, zH⟩
    ·rw [if_neg c6] at H
     have c6b0 : (a0_3 == a1_3) = false := beq_eq_false_iff_ne.mpr c6
     have c6b1 : (a0_3 != a1_3) = true := bne_iff_ne.mpr c6
     exact noArm H HTRUE_.out
   ·rw [if_neg c5] at H
    have c5b0 : (a0_2 == a1_2) = false := beq_eq_false_iff_ne.mpr c5
    have c5b1 : (a0_2 != a1_2) = true := bne_iff_ne.mpr c5
    exact noArm H HTRUE_.out
  ·rw [if_neg c4] at H
   have c4b0 : (a0_1 == a1_1) = false := beq_eq_false_iff_ne.mpr c4
   have c4b1 : (a0_1 != a1_1) = true := bne_iff_ne.mpr c4
   exact noArm H HTRUE_.out
 ·rw [if_neg c3] at H
  have c3b0 : (a0_0 == a1_0) = false := beq_eq_false_iff_ne.mpr c3
  have c3b1 : (a0_0 != a1_0) = true := bne_iff_ne.mpr c3
  exact noArm H HTRUE_.out

/-! ### laws_eqCompS: function 57 -/
def laws_eqCompS.l0 : Nat → List (S74) → List (S74) → Int → Option (Bool)
  | 0, _, _, _ => none
  | k + 1, x0, x1, x5 => if x5 < (x0.length : Int) then (if 0 ≤ x5 then (if x5 < (x1.length : Int) then ((laws_eqComp.f ((rd_T74 x0 x5).f0) ((rd_T74 x0 x5).f1) ((rd_T74 x0 x5).f2) ((rd_T74 x0 x5).f3) ((rd_T74 x1 x5).f0) ((rd_T74 x1 x5).f1) ((rd_T74 x1 x5).f2) ((rd_T74 x1 x5).f3)).bind fun t473 => (if t473 = true then (laws_eqCompS.l0 k x0 x1 (wrap64 (x5 + 1))) else (some false))) else (none)) else (none)) else (some true)
def laws_eqCompS.f (k : Nat) (l0 : List (S74)) (l1 : List (S74)) : Option (Bool) := if (l0.length : Int) = (l1.length : Int) then (laws_eqCompS.l0 k l0 l1 0) else (some false)
theorem laws_eqCompS.mono_l : ∀ k, (∀ y0 y1 y2, LeO (laws_eqCompS.l0 k y0 y1 y2) (laws_eqCompS.l0 (k + 1) y0 y1 y2))
 | 0 => fun _ _ _ r h => by simp [laws_eqCompS.l0] at h
 | k + 1 => by
  have ih0 := laws_eqCompS.mono_l k
  ·intro y0 y1 y2
   unfold laws_eqCompS.l0
   repeat' first
   | (with_reducible exact ih0 _ _ _)
   | (with_reducible exact LeO.refl _)
   | (with_reducible exact LeO.none _)
   | (with_reducible refine LeO.ite ?_ ?_)
   | (with_reducible refine LeO.bind ?_ (fun _ => ?_))
   | exact ih0 _ _ _
   | exact LeO.none _
   | refine LeO.ite ?_ ?_
   | refine LeO.bind ?_ (fun _ => ?_)
theorem laws_eqCompS.mono : ∀ a0 a1 k, LeO (laws_eqCompS.f k a0 a1) (laws_eqCompS.f (k + 1) a0 a1) := by
 intro a0 a1 k
 have ih0 := laws_eqCompS.mono_l k
 unfold laws_eqCompS.f
 repeat' first
   | (with_reducible exact ih0 _ _ _)
   | (with_reducible exact LeO.refl _)
   | (with_reducible exact LeO.none _)
   | (with_reducible refine LeO.ite ?_ ?_)
   | (with_reducible refine LeO.bind ?_ (fun _ => ?_))
   | exact ih0 _ _ _
   | exact LeO.none _
   | refine LeO.ite ?_ ?_
   | refine LeO.bind ?_ (fun _ => ?_)
def laws_eqCompS.T6 : Bool × List (List Nat × List Nat) := (true, [([], []), ([], []), ([0, 1], [0, 1]), ([2], [2]), ([], []), ([], []), ([4, 5], [4, 5]), ([6], [6]), ([3, 7], [3, 7]), ([8], [8])])
def laws_eqCompS.B6 : List Nat := [0, 0, 3, 7, 0, 0, 48, 112, 255, 511]
theorem laws_eqCompS.tab6 : rtab .any (opsOf Try.f57 6) = laws_eqCompS.T6 := by kernel_rfl
theorem laws_eqCompS.bits6 : waitsOk laws_eqCompS.T6.2 laws_eqCompS.B6 = true := by kernel_rfl
set_option maxHeartbeats 8000000 in
set_option maxRecDepth 100000 in
theorem laws_eqCompS.calls (k : Nat) (A0 : Option Addr) (c0 : Nat) (l0 : List (S74)) (A1 : Option Addr) (c1 : Nat) (l1 : List (S74)) (r : Bool) (w : World) (hr0 : Kd.C k74 w A0 l0.length l0) (hc0 : l0.length ≤ c0) (hr1 : Kd.C k74 w A1 l1.length l1) (hc1 : l1.length ≤ c1) (HTRUE_ : Aside0 (r = true)) (h : laws_eqCompS.f k l0 l1 = some r) :
  Calls Try.prog 57 #[.slice A0 l0.length c0, .slice A1 l1.length c1] w fun e w' => e = .returned (.bool r) ∧ Below w.heap.size w w' := by
 have hu74 := Try.underlying74
 have HR0 := aM hr0
 have HC0 := aM hc0
 clear hr0 hc0
 have HR1 := aM hr1
 have HC1 := aM hc1
 clear hr1 hc1
 have HB := aM (Below.refl w.heap.size w)
 have H : (if (l0.length : Int) = (l1.length : Int) then (laws_eqCompS.l0 k l0 l1 0) else (some false)) = some r := h
 clear h
 by_cases c3 : (l0.length : Int) = (l1.length : Int)
 ·rw [if_pos c3] at H
  have c3b0 : ((l0.length : Int) == (l1.length : Int)) = true := beq_iff_eq.mpr c3
  have c3b1 : ((l0.length : Int) != (l1.length : Int)) = false := bne_eq_false_iff_eq.mpr c3
  have c3b2 : (l0.length == l1.length) = true := by first | simpa using c3 | (simp at c3 ⊢; omega)
  clear c3
  have H' := aM H
  clear H
  go_enter Try.func57, Try.ntmps57
  go_wp2
  go_loopg [5] k (fun kq v5 w' => ∃ (x5_1 : Int), v5 = .int .i64 x5_1 ∧ Aside0 (laws_eqCompS.l0 kq l0 l1 x5_1 = some r) ∧ Aside0 (kq ≤ k) ∧ Aside0 (Below w.heap.size w w'))
  case atStart => exact ⟨(0), zS, H', ⟨Nat.le_refl _⟩, ⟨zH⟩⟩
  case round =>
   clear H'
   (try clear c1); (try clear c3b0); (try clear c3b1); (try clear c3b2)
   obtain ⟨x5_1, rfl, HA, HK1, HB⟩ := hrel
   cases gk with
   | zero => exact absurd HA.out (by simp [laws_eqCompS.l0])
   | succ k1 =>
    have H := HA.out
    clear HA
    simp only [laws_eqCompS.l0] at H
    by_cases c4 : x5_1 < (l0.length : Int)
    ·rw [if_pos c4] at H
     have c4b0 : decide (x5_1 < (l0.length : Int)) = true := decide_eq_true c4
     clear c4
     by_cases c5 : 0 ≤ x5_1
     ·rw [if_pos c5] at H
      have c5b0 : decide (0 ≤ x5_1) = true := decide_eq_true c5
      clear c5
      by_cases c6 : x5_1 < (l1.length : Int)
      ·rw [if_pos c6] at H
       have c6b0 : decide (x5_1 < (l1.length : Int)) = true := decide_eq_true c6
       clear c6
       obtain ⟨t473, A7, H⟩ := oH H
       by_cases c8 : t473 = true
       ·subst c8
        replace H := iT H
        have H' := aM H
        clear H
        try go_wp2
        have n0_ := aM (b1 HB.out)
        clear HB
        have HB := n0_
        clear n0_
        have p471 : 0 ≤ (x5_1 : Int) := zA
        have q471 : x5_1 < (l0.length : Int) := zA
        obtain ⟨ad471, e471, hx471_0, hx471_1, hx471_2, hx471_3⟩ := at_T74 HR0.out x5_1 p471 q471
        have hw471_3 := hx471_3
        have hw471_2 := hx471_2
        have hw471_1 := hx471_1
        have hw471_0 := hx471_0
        cases e471
        replace hx471_0 := hX HB hx471_0
        replace hx471_1 := hX HB hx471_1
        replace hx471_2 := hX HB hx471_2
        replace hx471_3 := hX HB hx471_3
        replace p471 := eq_true p471
        replace q471 := eq_true q471
        have p472 : 0 ≤ (x5_1 : Int) := zA
        have q472 : x5_1 < (l1.length : Int) := zA
        obtain ⟨ad472, e472, hx472_0, hx472_1, hx472_2, hx472_3⟩ := at_T74 HR1.out x5_1 p472 q472
        have hw472_3 := hx472_3
        have hw472_2 := hx472_2
        have hw472_1 := hx472_1
        have hw472_0 := hx472_0
        cases e472
        replace hx472_0 := hX HB hx472_0
        replace hx472_1 := hX HB hx472_1
        replace hx472_2 := hX HB hx472_2
        replace hx472_3 := hX HB hx472_3
        replace p472 := eq_true p472
        replace q472 := eq_true q472
        refine start_ (n := 10) (S := fun w' => w'.cell? (ad471.add ((x5_1).toNat * 4)) = some (.int .i64 ((rd_T74 l0 x5_1).f0)) ∧ w'.cell? ⟨(ad471.add ((x5_1).toNat * 4)).block, (ad471.add ((x5_1).toNat * 4)).off + 1, none⟩ = some (.int .i64 ((rd_T74 l0 x5_1).f1)) ∧ w'.cell? ⟨(ad471.add ((x5_1).toNat * 4)).block, (ad471.add ((x5_1).toNat * 4)).off + 2, none⟩ = some (.int .i64 ((rd_T74 l0 x5_1).f2)) ∧ w'.cell? ⟨(ad471.add ((x5_1).toNat * 4)).block, (ad471.add ((x5_1).toNat * 4)).off + 3, none⟩ = some (.int .i64 ((rd_T74 l0 x5_1).f3)) ∧ w'.cell? (ad472.add ((x5_1).toNat * 4)) = some (.int .i64 ((rd_T74 l1 x5_1).f0)) ∧ w'.cell? ⟨(ad472.add ((x5_1).toNat * 4)).block, (ad472.add ((x5_1).toNat * 4)).off + 1, none⟩ = some (.int .i64 ((rd_T74 l1 x5_1).f1)) ∧ w'.cell? ⟨(ad472.add ((x5_1).toNat * 4)).block, (ad472.add ((x5_1).toNat * 4)).off + 2, none⟩ = some (.int .i64 ((rd_T74 l1 x5_1).f2)) ∧ w'.cell? ⟨(ad472.add ((x5_1).toNat * 4)).block, (ad472.add ((x5_1).toNat * 4)).off + 3, none⟩ = some (.int .i64 ((rd_T74 l1 x5_1).f3))) (ds := []) #[false, false, false, false, false, false, false, false, false, false] (by kernel_rfl) rfl rfl ⟨((HB.out.cell (wL w _ hw471_0)).trans hw471_0), ((HB.out.cell (wL w _ hw471_1)).trans hw471_1), ((HB.out.cell (wL w _ hw471_2)).trans hw471_2), ((HB.out.cell (wL w _ hw471_3)).trans hw471_3), ((HB.out.cell (wL w _ hw472_0)).trans hw472_0), ((HB.out.cell (wL w _ hw472_1)).trans hw472_1), ((HB.out.cell (wL w _ hw472_2)).trans hw472_2), ((HB.out.cell (wL w _ hw472_3)).trans hw472_3)⟩ (fun hHeld => ?_); refine with_tabW laws_eqCompS.tab6 laws_eqCompS.bits6 (fun HT_ HW_ => ?_)
        generalize wr.drew = w9 at HB hx471_0 hx471_1 hx471_2 hx471_3 hx472_0 hx472_1 hx472_2 hx472_3 hHeld ⊢
        refine zP 0 (some 17) HT_ ?_
        refine zP 1 (some 18) HT_ ?_
        refine zP 2 (some 19) HT_ ?_
        refine zP 4 (some 21) HT_ ?_
        refine zP 5 (some 22) HT_ ?_
        refine zP 6 (some 23) HT_ ?_
        refine zT 3 (some 20) HT_ HW_ hHeld (hy := Or.inl ⟨by rfl, by rintro w' ⟨s0, s1, s2, s3, s4, s5, s6, s7⟩; go_simp; with_reducible rfl⟩) (h := ?_)
        refine zT 7 (some 24) HT_ HW_ hHeld (hy := Or.inl ⟨by rfl, by rintro w' ⟨s0, s1, s2, s3, s4, s5, s6, s7⟩; go_simp; with_reducible rfl⟩) (h := ?_)
        refine zOn 8 (some 25) HT_ (fun K hK => ?_)
        refine zGo Try.func75 #[.agg #[.int .i64 ((rd_T74 l0 x5_1).f0), .int .i64 ((rd_T74 l0 x5_1).f1), .int .i64 ((rd_T74 l0 x5_1).f2), .int .i64 ((rd_T74 l0 x5_1).f3)], .agg #[.int .i64 ((rd_T74 l1 x5_1).f0), .int .i64 ((rd_T74 l1 x5_1).f1), .int .i64 ((rd_T74 l1 x5_1).f2), .int .i64 ((rd_T74 l1 x5_1).f3)]] ?_
        with_reducible refine (laws_eqComp.calls ((rd_T74 l0 x5_1).f0) ((rd_T74 l0 x5_1).f1) ((rd_T74 l0 x5_1).f2) ((rd_T74 l0 x5_1).f3) ((rd_T74 l1 x5_1).f0) ((rd_T74 l1 x5_1).f1) ((rd_T74 l1 x5_1).f2) ((rd_T74 l1 x5_1).f3) true _ ⟨rfl⟩ A7.out).mono ?_
        rintro e w10 ⟨rfl, hb⟩
        refine ⟨_, rfl, ?_⟩
        have n0_ := cH HB hb
        clear HB
        have HB := n0_
        clear n0_
        (try clear hb)
        (try clear hb2)
        (try clear hk)
        (try clear hi)
        refine hK.out _ _ ⟨((HB.out.cell (wL w _ hw471_0)).trans hw471_0), ((HB.out.cell (wL w _ hw471_1)).trans hw471_1), ((HB.out.cell (wL w _ hw471_2)).trans hw471_2), ((HB.out.cell (wL w _ hw471_3)).trans hw471_3), ((HB.out.cell (wL w _ hw472_0)).trans hw472_0), ((HB.out.cell (wL w _ hw472_1)).trans hw472_1), ((HB.out.cell (wL w _ hw472_2)).trans hw472_2), ((HB.out.cell (wL w _ hw472_3)).trans hw472_3)⟩ (fun hHeld => ?_)
        clear hK K
        refine zNo ?_
        refine zP 9 (some 26) HT_ ?_
        refine done_ (done_of HT_.out (by kernel_rfl)) ?_
        try go_wp2
        go_roundg k1
        case measure => have := HK1.out; omega
        case rel => exact ⟨(wrap64 (x5_1 + 1)), zS, H', ⟨by have := HK1.out; omega⟩, ⟨zH⟩⟩
       ·replace c8 := Bool.eq_false_iff.mpr c8
        subst c8
        replace H := iF H
        exact noArm H HTRUE_.out
      ·rw [if_neg c6] at H
       exact absurd H (by simp)
     ·rw [if_neg c5] at H
      exact absurd H (by simp)
    ·rw [if_neg c4] at H
     have c4b0 : decide (x5_1 < (l0.length : Int)) = false := decide_eq_false c4
     clear c4
     obtain rfl := Option.some.inj H
     go_wp2
     go_ret
     exact ⟨zR, zH⟩
 ·rw [if_neg c3] at H
  have c3b0 : ((l0.length : Int) == (l1.length : Int)) = false := beq_eq_false_iff_ne.mpr c3
  have c3b1 : ((l0.length : Int) != (l1.length : Int)) = true := bne_iff_ne.mpr c3
  have c3b2 : (l0.length == l1.length) = false := by first | simpa using c3 | (simp at c3 ⊢; omega)
  exact noArm H HTRUE_.out

theorem eqCompS_l0 (l : List S74) (hl : l.length ≤ 4611686018427387904) : ∀ (d i : Nat), i + d = l.length → Ev (fun k => laws_eqCompS.l0 k l l i) true := by
  intro d
  induction d with
  | zero =>
    intro i hi
    refine Ev.step (fun k => by rw [laws_eqCompS.l0]) ?_
    exact evNeg (by omega) (Ev.now _)
  | succ d ih =>
    intro i hi
    refine Ev.step (fun k => by rw [laws_eqCompS.l0]) ?_
    refine evPos (by omega) (evPos (by omega) (evPos (by omega) (evBind (evConst (show laws_eqComp.f _ _ _ _ _ _ _ _ = some true from by unfold laws_eqComp.f; rw [if_pos rfl, if_pos rfl, if_pos rfl, if_pos rfl])) (evPos rfl ?_))))
    rw [w64 (by omega) (by omega)]
    exact ih (i + 1) (by omega)
theorem eqCompS_f (l : List S74) (hl : l.length ≤ 4611686018427387904) : Ev (fun k => laws_eqCompS.f k l l) true := by
  unfold laws_eqCompS.f
  exact evPos rfl (eqCompS_l0 l hl l.length 0 (by omega))

/-! ### laws_eqFrame: function 30 -/
def laws_eqFrame.f (k : Nat) (a0_0 : Int) (a0_1 : Int) (a0_2 : Int) (a0_3 : Int) (l0_4 : List (S74)) (a1_0 : Int) (a1_1 : Int) (a1_2 : Int) (a1_3 : Int) (l1_4 : List (S74)) : Option (Bool) := if a0_0 = a1_0 then (if a0_1 = a1_1 then (if a0_2 = a1_2 then (if a0_3 = a1_3 then ((laws_eqCompS.f k l0_4 l1_4).bind fun t476 => (if t476 = true then (some true) else (some false))) else (some false)) else (some false)) else (some false)) else (some false)
theorem laws_eqFrame.mono : ∀ a0 a1 a2 a3 a4 a5 a6 a7 a8 a9 k, LeO (laws_eqFrame.f k a0 a1 a2 a3 a4 a5 a6 a7 a8 a9) (laws_eqFrame.f (k + 1) a0 a1 a2 a3 a4 a5 a6 a7 a8 a9) := by
 intro a0 a1 a2 a3 a4 a5 a6 a7 a8 a9 k
 unfold laws_eqFrame.f
 repeat' first
   | (with_reducible exact laws_eqCompS.mono _ _ _)
   | (with_reducible exact LeO.refl _)
   | (with_reducible exact LeO.none _)
   | (with_reducible refine LeO.ite ?_ ?_)
   | (with_reducible refine LeO.bind ?_ (fun _ => ?_))
   | exact laws_eqCompS.mono _ _ _
   | exact LeO.none _
   | refine LeO.ite ?_ ?_
   | refine LeO.bind ?_ (fun _ => ?_)
set_option maxHeartbeats 8000000 in
set_option maxRecDepth 100000 in
theorem laws_eqFrame.calls (k : Nat) (a0_0 : Int) (a0_1 : Int) (a0_2 : Int) (a0_3 : Int) (A0_4 : Option Addr) (c0_4 : Nat) (l0_4 : List (S74)) (a1_0 : Int) (a1_1 : Int) (a1_2 : Int) (a1_3 : Int) (A1_4 : Option Addr) (c1_4 : Nat) (l1_4 : List (S74)) (r : Bool) (w : World) (hr0_4 : Kd.C k74 w A0_4 l0_4.length l0_4) (hc0_4 : l0_4.length ≤ c0_4) (hr1_4 : Kd.C k74 w A1_4 l1_4.length l1_4) (hc1_4 : l1_4.length ≤ c1_4) (HTRUE_ : Aside0 (r = true)) (h : laws_eqFrame.f k a0_0 a0_1 a0_2 a0_3 l0_4 a1_0 a1_1 a1_2 a1_3 l1_4 = some r) :
  Calls Try.prog 30 #[.agg #[.int .i64 a0_0, .int .i64 a0_1, .int .i64 a0_2, .int .i64 a0_3, .slice A0_4 l0_4.length c0_4], .agg #[.int .i64 a1_0, .int .i64 a1_1, .int .i64 a1_2, .int .i64 a1_3, .slice A1_4 l1_4.length c1_4]] w fun e w' => e = .returned (.bool r) ∧ Below w.heap.size w w' := by
 have hu37 := Try.underlying37
 have HR0_4 := aM hr0_4
 have HC0_4 := aM hc0_4
 clear hr0_4 hc0_4
 have HR1_4 := aM hr1_4
 have HC1_4 := aM hc1_4
 clear hr1_4 hc1_4
 have HB := aM (Below.refl w.heap.size w)
 have H : (if a0_0 = a1_0 then (if a0_1 = a1_1 then (if a0_2 = a1_2 then (if a0_3 = a1_3 then ((laws_eqCompS.f k l0_4 l1_4).bind fun t476 => (if t476 = true then (some true) else (some false))) else (some false)) else (some false)) else (some false)) else (some false)) = some r := h
 clear h
 by_cases c3 : a0_0 = a1_0
 ·rw [if_pos c3] at H
  have c3b0 : (a0_0 == a1_0) = true := beq_iff_eq.mpr c3
  have c3b1 : (a0_0 != a1_0) = false := bne_eq_false_iff_eq.mpr c3
  clear c3
  by_cases c4 : a0_1 = a1_1
  ·rw [if_pos c4] at H
   have c4b0 : (a0_1 == a1_1) = true := beq_iff_eq.mpr c4
   have c4b1 : (a0_1 != a1_1) = false := bne_eq_false_iff_eq.mpr c4
   clear c4
   by_cases c5 : a0_2 = a1_2
   ·rw [if_pos c5] at H
    have c5b0 : (a0_2 == a1_2) = true := beq_iff_eq.mpr c5
    have c5b1 : (a0_2 != a1_2) = false := bne_eq_false_iff_eq.mpr c5
    clear c5
    by_cases c6 : a0_3 = a1_3
    ·rw [if_pos c6] at H
     have c6b0 : (a0_3 == a1_3) = true := beq_iff_eq.mpr c6
     have c6b1 : (a0_3 != a1_3) = false := bne_eq_false_iff_eq.mpr c6
     clear c6
     obtain ⟨t476, A7, H⟩ := oH H
     by_cases c8 : t476 = true
     ·subst c8
      replace H := iT H
      obtain rfl := Option.some.inj H
      go_enter Try.func30, Try.ntmps30
      go_wp2_with (first | ((with_reducible refine gate_dst (N := 2) rfl ?_); refine box_event ?hg (N := 2) ?hd (cs := #[.int .i64 a0_0, .int .i64 a0_1, .int .i64 a0_2, .int .i64 a0_3, .slice A0_4 l0_4.length c0_4]) (t := 37) ?hr ?_; (case hd => rfl); (case hg => rfl); (case hr => first | (go_simp; done) | (go_simp; rfl)); intro gb474 hg w9 hbox hb; have BK474 := aM hbox; have GW474 := aM (zG hg : w.heap.size ≤ gb474); have GE474 := aM (zG hg : w.heap.size ≤ gb474); replace HB := cH HB hb; clear hb hbox hg) | ((with_reducible refine gate_dst (N := 3) rfl ?_); refine box_event ?hg (N := 3) ?hd (cs := #[.int .i64 a1_0, .int .i64 a1_1, .int .i64 a1_2, .int .i64 a1_3, .slice A1_4 l1_4.length c1_4]) (t := 37) ?hr ?_; (case hd => rfl); (case hg => rfl); (case hr => first | (go_simp; done) | (go_simp; rfl)); intro gb475 hg w10 hbox hb; have BK475 := aM hbox; have GW475 := aM (zG hg : w.heap.size ≤ gb475); have GE475 := aM (zG hg : w.heap.size ≤ gb475); replace HB := cH HB hb; have NB474_475 := aM ((zL hg BK474)); have NB475_474 := aM ((zM hg BK474)); replace BK474 := cB BK474 hb; clear hb hbox hg; have hnb11 := NB474_475.out; have hnc11 := NB475_474.out; obtain ⟨hcz12_0, hcz12_1, hcz12_2, hcz12_3, hcz12_4⟩ := kk5 BK474; obtain ⟨hfz12_0, hfz12_1, hfz12_2, hfz12_3, hfz12_4⟩ := kg5 BK474; obtain ⟨hcz13_0, hcz13_1, hcz13_2, hcz13_3, hcz13_4⟩ := kk5 BK475; obtain ⟨hfz13_0, hfz13_1, hfz13_2, hfz13_3, hfz13_4⟩ := kg5 BK475) | (go_at_call 57; (with_reducible refine (laws_eqCompS.calls k _ _ l0_4 _ _ l1_4 true _ ?side1 ?side2 ?side3 ?side4 ⟨rfl⟩ A7.out).mono ?_); (case side1 => exact zC (Kd.C_below HR0_4.out HB.out)); (case side2 => exact HC0_4.out); (case side3 => exact zC (Kd.C_below HR1_4.out HB.out)); (case side4 => exact HC1_4.out); rintro e w14 ⟨rfl, hb⟩; replace BK474 := cB BK474 hb; replace BK475 := cB BK475 hb; replace HB := cH HB hb; (try clear hb)))
      go_ret
      exact ⟨zR, zH⟩
     ·replace c8 := Bool.eq_false_iff.mpr c8
      subst c8
      replace H := iF H
      exact noArm H HTRUE_.out
    ·rw [if_neg c6] at H
     have c6b0 : (a0_3 == a1_3) = false := beq_eq_false_iff_ne.mpr c6
     have c6b1 : (a0_3 != a1_3) = true := bne_iff_ne.mpr c6
     exact noArm H HTRUE_.out
   ·rw [if_neg c5] at H
    have c5b0 : (a0_2 == a1_2) = false := beq_eq_false_iff_ne.mpr c5
    have c5b1 : (a0_2 != a1_2) = true := bne_iff_ne.mpr c5
    exact noArm H HTRUE_.out
  ·rw [if_neg c4] at H
   have c4b0 : (a0_1 == a1_1) = false := beq_eq_false_iff_ne.mpr c4
   have c4b1 : (a0_1 != a1_1) = true := bne_iff_ne.mpr c4
   exact noArm H HTRUE_.out
 ·rw [if_neg c3] at H
  have c3b0 : (a0_0 == a1_0) = false := beq_eq_false_iff_ne.mpr c3
  have c3b1 : (a0_0 != a1_0) = true := bne_iff_ne.mpr c3
  exact noArm H HTRUE_.out

theorem eqFrame_f (p w h r : Int) (l : List S74) (hl : l.length ≤ 4611686018427387904) : Ev (fun k => laws_eqFrame.f k p w h r l p w h r l) true := by
  unfold laws_eqFrame.f
  exact evPos rfl (evPos rfl (evPos rfl (evPos rfl (evBind (eqCompS_f l hl) (evPos rfl (Ev.now _))))))

/-! ### laws_eqCoefs: function 32 -/
def laws_eqCoefs.f (k : Nat) (l0_0 : List (List (List Int))) (l1_0 : List (List (List Int))) : Option (Bool) := (laws_eqIntSSS.f k l0_0 l1_0).bind fun t479 => (if t479 = true then (some true) else (some false))
theorem laws_eqCoefs.mono : ∀ a0 a1 k, LeO (laws_eqCoefs.f k a0 a1) (laws_eqCoefs.f (k + 1) a0 a1) := by
 intro a0 a1 k
 unfold laws_eqCoefs.f
 repeat' first
   | (with_reducible exact laws_eqIntSSS.mono _ _ _)
   | (with_reducible exact LeO.refl _)
   | (with_reducible exact LeO.none _)
   | (with_reducible refine LeO.ite ?_ ?_)
   | (with_reducible refine LeO.bind ?_ (fun _ => ?_))
   | exact laws_eqIntSSS.mono _ _ _
   | exact LeO.none _
   | refine LeO.ite ?_ ?_
   | refine LeO.bind ?_ (fun _ => ?_)
set_option maxHeartbeats 8000000 in
set_option maxRecDepth 100000 in
theorem laws_eqCoefs.calls (k : Nat) (A0_0 : Option Addr) (c0_0 : Nat) (l0_0 : List (List (List Int))) (A1_0 : Option Addr) (c1_0 : Nat) (l1_0 : List (List (List Int))) (r : Bool) (w : World) (hr0_0 : Kd.C (Kd.slice 55 (Kd.slice 3 (Kd.int .i64))) w A0_0 l0_0.length l0_0) (hc0_0 : l0_0.length ≤ c0_0) (hr1_0 : Kd.C (Kd.slice 55 (Kd.slice 3 (Kd.int .i64))) w A1_0 l1_0.length l1_0) (hc1_0 : l1_0.length ≤ c1_0) (HTRUE_ : Aside0 (r = true)) (h : laws_eqCoefs.f k l0_0 l1_0 = some r) :
  Calls Try.prog 32 #[.agg #[.slice A0_0 l0_0.length c0_0], .agg #[.slice A1_0 l1_0.length c1_0]] w fun e w' => e = .returned (.bool r) ∧ Below w.heap.size w w' := by
 have hu38 := Try.underlying38
 have HR0_0 := aM hr0_0
 have HC0_0 := aM hc0_0
 clear hr0_0 hc0_0
 have HR1_0 := aM hr1_0
 have HC1_0 := aM hc1_0
 clear hr1_0 hc1_0
 have HB := aM (Below.refl w.heap.size w)
 have H : ((laws_eqIntSSS.f k l0_0 l1_0).bind fun t479 => (if t479 = true then (some true) else (some false))) = some r := h
 clear h
 obtain ⟨t479, A3, H⟩ := oH H
 by_cases c4 : t479 = true
 ·subst c4
  replace H := iT H
  obtain rfl := Option.some.inj H
  go_enter Try.func32, Try.ntmps32
  go_wp2_with (first | ((with_reducible refine gate_dst (N := 2) rfl ?_); refine box_event ?hg (N := 2) ?hd (cs := #[.slice A0_0 l0_0.length c0_0]) (t := 38) ?hr ?_; (case hd => rfl); (case hg => rfl); (case hr => first | (go_simp; done) | (go_simp; rfl)); intro gb477 hg w5 hbox hb; have BK477 := aM hbox; have GW477 := aM (zG hg : w.heap.size ≤ gb477); have GE477 := aM (zG hg : w.heap.size ≤ gb477); replace HB := cH HB hb; clear hb hbox hg) | ((with_reducible refine gate_dst (N := 3) rfl ?_); refine box_event ?hg (N := 3) ?hd (cs := #[.slice A1_0 l1_0.length c1_0]) (t := 38) ?hr ?_; (case hd => rfl); (case hg => rfl); (case hr => first | (go_simp; done) | (go_simp; rfl)); intro gb478 hg w6 hbox hb; have BK478 := aM hbox; have GW478 := aM (zG hg : w.heap.size ≤ gb478); have GE478 := aM (zG hg : w.heap.size ≤ gb478); replace HB := cH HB hb; have NB477_478 := aM ((zL hg BK477)); have NB478_477 := aM ((zM hg BK477)); replace BK477 := cB BK477 hb; clear hb hbox hg; have hnb7 := NB477_478.out; have hnc7 := NB478_477.out; have hcz8_0 := kk1 BK477; have hfz8_0 := blk_frozen BK477.out 0; have hcz9_0 := kk1 BK478; have hfz9_0 := blk_frozen BK478.out 0) | (go_at_call 59; (with_reducible refine (laws_eqIntSSS.calls k _ _ l0_0 _ _ l1_0 true _ ?side1 ?side2 ?side3 ?side4 ⟨rfl⟩ A3.out).mono ?_); (case side1 => exact zC (Kd.C_below HR0_0.out HB.out)); (case side2 => exact HC0_0.out); (case side3 => exact zC (Kd.C_below HR1_0.out HB.out)); (case side4 => exact HC1_0.out); rintro e w' ⟨rfl, ⟨nd, rfl⟩⟩))
  go_ret
  exact ⟨zR, zH⟩
 ·replace c4 := Bool.eq_false_iff.mpr c4
  subst c4
  replace H := iF H
  exact noArm H HTRUE_.out

theorem eqCoefs_f (l : List (List (List Int))) (hl : l.length ≤ 1048576) (hx : ∀ x ∈ l, BndS 1048576 x) : Ev (fun k => laws_eqCoefs.f k l l) true := by
  unfold laws_eqCoefs.f
  exact evBind (eqIntSSS_f l hl hx) (evPos rfl (Ev.now _))

/-! ### laws_eqByteS: function 34 -/
def laws_eqByteS.l0 : Nat → List Int → List Int → Int → Option (Bool)
  | 0, _, _, _ => none
  | k + 1, x0, x1, x5 => if x5 < (x0.length : Int) then (if 0 ≤ x5 then (if x5 < (x1.length : Int) then (if (rd x0 x5) = (rd x1 x5) then (laws_eqByteS.l0 k x0 x1 (wrap64 (x5 + 1))) else (some false)) else (none)) else (none)) else (some true)
def laws_eqByteS.f (k : Nat) (l0 : List Int) (l1 : List Int) : Option (Bool) := if (l0.length : Int) = (l1.length : Int) then (laws_eqByteS.l0 k l0 l1 0) else (some false)
theorem laws_eqByteS.mono_l : ∀ k, (∀ y0 y1 y2, LeO (laws_eqByteS.l0 k y0 y1 y2) (laws_eqByteS.l0 (k + 1) y0 y1 y2))
 | 0 => fun _ _ _ r h => by simp [laws_eqByteS.l0] at h
 | k + 1 => by
  have ih0 := laws_eqByteS.mono_l k
  ·intro y0 y1 y2
   unfold laws_eqByteS.l0
   repeat' first
   | (with_reducible exact ih0 _ _ _)
   | (with_reducible exact LeO.refl _)
   | (with_reducible exact LeO.none _)
   | (with_reducible refine LeO.ite ?_ ?_)
   | (with_reducible refine LeO.bind ?_ (fun _ => ?_))
   | exact ih0 _ _ _
   | exact LeO.none _
   | refine LeO.ite ?_ ?_
   | refine LeO.bind ?_ (fun _ => ?_)
theorem laws_eqByteS.mono : ∀ a0 a1 k, LeO (laws_eqByteS.f k a0 a1) (laws_eqByteS.f (k + 1) a0 a1) := by
 intro a0 a1 k
 have ih0 := laws_eqByteS.mono_l k
 unfold laws_eqByteS.f
 repeat' first
   | (with_reducible exact ih0 _ _ _)
   | (with_reducible exact LeO.refl _)
   | (with_reducible exact LeO.none _)
   | (with_reducible refine LeO.ite ?_ ?_)
   | (with_reducible refine LeO.bind ?_ (fun _ => ?_))
   | exact ih0 _ _ _
   | exact LeO.none _
   | refine LeO.ite ?_ ?_
   | refine LeO.bind ?_ (fun _ => ?_)
set_option maxHeartbeats 8000000 in
set_option maxRecDepth 100000 in
theorem laws_eqByteS.calls (k : Nat) (A0 : Option Addr) (c0 : Nat) (l0 : List Int) (A1 : Option Addr) (c1 : Nat) (l1 : List Int) (r : Bool) (w : World) (hr0 : Kd.C (Kd.int .u8) w A0 l0.length l0) (hc0 : l0.length ≤ c0) (hr1 : Kd.C (Kd.int .u8) w A1 l1.length l1) (hc1 : l1.length ≤ c1) (HTRUE_ : Aside0 (r = true)) (h : laws_eqByteS.f k l0 l1 = some r) :
  Calls Try.prog 34 #[.slice A0 l0.length c0, .slice A1 l1.length c1] w fun e w' => e = .returned (.bool r) ∧ Drawn0 w w' := by
 have HR0 := aM hr0
 have HC0 := aM hc0
 clear hr0 hc0
 have HR1 := aM hr1
 have HC1 := aM hc1
 clear hr1 hc1
 have H : (if (l0.length : Int) = (l1.length : Int) then (laws_eqByteS.l0 k l0 l1 0) else (some false)) = some r := h
 clear h
 by_cases c3 : (l0.length : Int) = (l1.length : Int)
 ·rw [if_pos c3] at H
  have c3b0 : ((l0.length : Int) == (l1.length : Int)) = true := beq_iff_eq.mpr c3
  have c3b1 : ((l0.length : Int) != (l1.length : Int)) = false := bne_eq_false_iff_eq.mpr c3
  have c3b2 : (l0.length == l1.length) = true := by first | simpa using c3 | (simp at c3 ⊢; omega)
  clear c3
  have H' := aM H
  clear H
  go_enter Try.func34, Try.ntmps34
  go_wp2
  repeat (go_quiet (fail); try go_wp2)
  go_loopg [5] k (fun kq v5 w' => ∃ (x5_1 : Int), v5 = .int .i64 x5_1 ∧ Aside0 (laws_eqByteS.l0 kq l0 l1 x5_1 = some r) ∧ Aside0 (kq ≤ k) ∧ Drawn0 w w')
  case atStart => exact ⟨(0), zS, H', ⟨Nat.le_refl _⟩, by repeat (first | exact Drawn0.refl _ | apply Drawn0.step)⟩
  case round =>
   clear H'
   (try clear c1); (try clear c3b0); (try clear c3b1); (try clear c3b2)
   obtain ⟨x5_1, rfl, HA, HK1, ⟨m1, rfl⟩⟩ := hrel
   cases gk with
   | zero => exact absurd HA.out (by simp [laws_eqByteS.l0])
   | succ k1 =>
    have H := HA.out
    clear HA
    simp only [laws_eqByteS.l0] at H
    by_cases c4 : x5_1 < (l0.length : Int)
    ·rw [if_pos c4] at H
     have c4b0 : decide (x5_1 < (l0.length : Int)) = true := decide_eq_true c4
     clear c4
     by_cases c5 : 0 ≤ x5_1
     ·rw [if_pos c5] at H
      have c5b0 : decide (0 ≤ x5_1) = true := decide_eq_true c5
      clear c5
      by_cases c6 : x5_1 < (l1.length : Int)
      ·rw [if_pos c6] at H
       have c6b0 : decide (x5_1 < (l1.length : Int)) = true := decide_eq_true c6
       clear c6
       by_cases c7 : (rd l0 x5_1) = (rd l1 x5_1)
       ·rw [if_pos c7] at H
        have c7b0 : ((rd l0 x5_1) == (rd l1 x5_1)) = true := beq_iff_eq.mpr c7
        have c7b1 : ((rd l0 x5_1) != (rd l1 x5_1)) = false := bne_eq_false_iff_eq.mpr c7
        clear c7
        have H' := aM H
        clear H
        have p480 : 0 ≤ (x5_1 : Int) := zA
        have q480 : x5_1 < (l0.length : Int) := zA
        obtain ⟨ad480, e480, hx480_0⟩ := Kd.at_int HR0.out x5_1 p480 q480
        cases e480
        replace p480 := eq_true p480
        replace q480 := eq_true q480
        have p481 : 0 ≤ (x5_1 : Int) := zA
        have q481 : x5_1 < (l1.length : Int) := zA
        obtain ⟨ad481, e481, hx481_0⟩ := Kd.at_int HR1.out x5_1 p481 q481
        cases e481
        replace p481 := eq_true p481
        replace q481 := eq_true q481
        go_wp2
        repeat (go_quiet (fail); try go_wp2)
        go_roundg k1
        case measure => have := HK1.out; omega
        case rel => exact ⟨(wrap64 (x5_1 + 1)), zS, H', ⟨by have := HK1.out; omega⟩, by repeat (first | exact Drawn0.refl _ | apply Drawn0.step)⟩
       ·rw [if_neg c7] at H
        have c7b0 : ((rd l0 x5_1) == (rd l1 x5_1)) = false := beq_eq_false_iff_ne.mpr c7
        have c7b1 : ((rd l0 x5_1) != (rd l1 x5_1)) = true := bne_iff_ne.mpr c7
        exact noArm H HTRUE_.out
      ·rw [if_neg c6] at H
       exact absurd H (by simp)
     ·rw [if_neg c5] at H
      exact absurd H (by simp)
    ·rw [if_neg c4] at H
     have c4b0 : decide (x5_1 < (l0.length : Int)) = false := decide_eq_false c4
     clear c4
     obtain rfl := Option.some.inj H
     go_wp2
     repeat (go_quiet (fail); try go_wp2)
     go_ret
     exact ⟨by first | rfl | (simp; done) | (simp [*]; done), by repeat (first | exact Drawn0.refl _ | apply Drawn0.step)⟩
 ·rw [if_neg c3] at H
  have c3b0 : ((l0.length : Int) == (l1.length : Int)) = false := beq_eq_false_iff_ne.mpr c3
  have c3b1 : ((l0.length : Int) != (l1.length : Int)) = true := bne_iff_ne.mpr c3
  have c3b2 : (l0.length == l1.length) = false := by first | simpa using c3 | (simp at c3 ⊢; omega)
  exact noArm H HTRUE_.out

theorem eqByteS_l0 (l : List Int) (hl : l.length ≤ 4611686018427387904) : ∀ (d i : Nat), i + d = l.length → Ev (fun k => laws_eqByteS.l0 k l l i) true := by
  intro d
  induction d with
  | zero =>
    intro i hi
    refine Ev.step (fun k => by rw [laws_eqByteS.l0]) ?_
    exact evNeg (by omega) (Ev.now _)
  | succ d ih =>
    intro i hi
    refine Ev.step (fun k => by rw [laws_eqByteS.l0]) ?_
    refine evPos (by omega) (evPos (by omega) (evPos (by omega) (evPos rfl ?_)))
    rw [w64 (by omega) (by omega)]
    exact ih (i + 1) (by omega)
theorem eqByteS_f (l : List Int) (hl : l.length ≤ 4611686018427387904) : Ev (fun k => laws_eqByteS.f k l l) true := by
  unfold laws_eqByteS.f
  exact evPos rfl (eqByteS_l0 l hl l.length 0 (by omega))

/-! ### laws_eqStream: function 8 -/
def laws_eqStream.f (k : Nat) (a0_0 : Int) (a0_1 : Int) (a0_2 : Int) (a0_3 : Int) (l0_4 : List (S74)) (l0_5 : List (List Int)) (l0_6 : List (List (List Int))) (a0_7 : Int) (l0_8 : List (S86)) (l0_9 : List Int) (a1_0 : Int) (a1_1 : Int) (a1_2 : Int) (a1_3 : Int) (l1_4 : List (S74)) (l1_5 : List (List Int)) (l1_6 : List (List (List Int))) (a1_7 : Int) (l1_8 : List (S86)) (l1_9 : List Int) : Option (Bool) := (laws_eqFrame.f k a0_0 a0_1 a0_2 a0_3 l0_4 a1_0 a1_1 a1_2 a1_3 l1_4).bind fun t484 => (if t484 = true then ((laws_eqIntSS.f k l0_5 l1_5).bind fun t485 => (if t485 = true then ((laws_eqCoefs.f k l0_6 l1_6).bind fun t486 => (if t486 = true then (if a0_7 = a1_7 then ((laws_eqScanS.f k l0_8 l1_8).bind fun t487 => (if t487 = true then ((laws_eqByteS.f k l0_9 l1_9).bind fun t488 => (if t488 = true then (some true) else (some false))) else (some false))) else (some false)) else (some false))) else (some false))) else (some false))
theorem laws_eqStream.mono : ∀ a0 a1 a2 a3 a4 a5 a6 a7 a8 a9 a10 a11 a12 a13 a14 a15 a16 a17 a18 a19 k, LeO (laws_eqStream.f k a0 a1 a2 a3 a4 a5 a6 a7 a8 a9 a10 a11 a12 a13 a14 a15 a16 a17 a18 a19) (laws_eqStream.f (k + 1) a0 a1 a2 a3 a4 a5 a6 a7 a8 a9 a10 a11 a12 a13 a14 a15 a16 a17 a18 a19) := by
 intro a0 a1 a2 a3 a4 a5 a6 a7 a8 a9 a10 a11 a12 a13 a14 a15 a16 a17 a18 a19 k
 unfold laws_eqStream.f
 repeat' first
   | (with_reducible exact laws_eqByteS.mono _ _ _)
   | (with_reducible exact laws_eqCoefs.mono _ _ _)
   | (with_reducible exact laws_eqFrame.mono _ _ _ _ _ _ _ _ _ _ _)
   | (with_reducible exact laws_eqIntSS.mono _ _ _)
   | (with_reducible exact laws_eqScanS.mono _ _ _)
   | (with_reducible exact LeO.refl _)
   | (with_reducible exact LeO.none _)
   | (with_reducible refine LeO.ite ?_ ?_)
   | (with_reducible refine LeO.bind ?_ (fun _ => ?_))
   | exact laws_eqByteS.mono _ _ _
   | exact laws_eqCoefs.mono _ _ _
   | exact laws_eqFrame.mono _ _ _ _ _ _ _ _ _ _ _
   | exact laws_eqIntSS.mono _ _ _
   | exact laws_eqScanS.mono _ _ _
   | exact LeO.none _
   | refine LeO.ite ?_ ?_
   | refine LeO.bind ?_ (fun _ => ?_)
set_option maxHeartbeats 8000000 in
set_option maxRecDepth 100000 in
theorem laws_eqStream.calls (k : Nat) (a0_0 : Int) (a0_1 : Int) (a0_2 : Int) (a0_3 : Int) (A0_4 : Option Addr) (c0_4 : Nat) (l0_4 : List (S74)) (A0_5 : Option Addr) (c0_5 : Nat) (l0_5 : List (List Int)) (A0_6 : Option Addr) (c0_6 : Nat) (l0_6 : List (List (List Int))) (a0_7 : Int) (A0_8 : Option Addr) (c0_8 : Nat) (l0_8 : List (S86)) (A0_9 : Option Addr) (c0_9 : Nat) (l0_9 : List Int) (a1_0 : Int) (a1_1 : Int) (a1_2 : Int) (a1_3 : Int) (A1_4 : Option Addr) (c1_4 : Nat) (l1_4 : List (S74)) (A1_5 : Option Addr) (c1_5 : Nat) (l1_5 : List (List Int)) (A1_6 : Option Addr) (c1_6 : Nat) (l1_6 : List (List (List Int))) (a1_7 : Int) (A1_8 : Option Addr) (c1_8 : Nat) (l1_8 : List (S86)) (A1_9 : Option Addr) (c1_9 : Nat) (l1_9 : List Int) (r : Bool) (w : World) (hr0_4 : Kd.C k74 w A0_4 l0_4.length l0_4) (hc0_4 : l0_4.length ≤ c0_4) (hr0_5 : Kd.C (Kd.slice 3 (Kd.int .i64)) w A0_5 l0_5.length l0_5) (hc0_5 : l0_5.length ≤ c0_5) (hr0_6 : Kd.C (Kd.slice 55 (Kd.slice 3 (Kd.int .i64))) w A0_6 l0_6.length l0_6) (hc0_6 : l0_6.length ≤ c0_6) (hr0_8 : Kd.C k86 w A0_8 l0_8.length l0_8) (hc0_8 : l0_8.length ≤ c0_8) (hr0_9 : Kd.C (Kd.int .u8) w A0_9 l0_9.length l0_9) (hc0_9 : l0_9.length ≤ c0_9) (hr1_4 : Kd.C k74 w A1_4 l1_4.length l1_4) (hc1_4 : l1_4.length ≤ c1_4) (hr1_5 : Kd.C (Kd.slice 3 (Kd.int .i64)) w A1_5 l1_5.length l1_5) (hc1_5 : l1_5.length ≤ c1_5) (hr1_6 : Kd.C (Kd.slice 55 (Kd.slice 3 (Kd.int .i64))) w A1_6 l1_6.length l1_6) (hc1_6 : l1_6.length ≤ c1_6) (hr1_8 : Kd.C k86 w A1_8 l1_8.length l1_8) (hc1_8 : l1_8.length ≤ c1_8) (hr1_9 : Kd.C (Kd.int .u8) w A1_9 l1_9.length l1_9) (hc1_9 : l1_9.length ≤ c1_9) (HTRUE_ : Aside0 (r = true)) (h : laws_eqStream.f k a0_0 a0_1 a0_2 a0_3 l0_4 l0_5 l0_6 a0_7 l0_8 l0_9 a1_0 a1_1 a1_2 a1_3 l1_4 l1_5 l1_6 a1_7 l1_8 l1_9 = some r) :
  Calls Try.prog 8 #[.agg #[.int .i64 a0_0, .int .i64 a0_1, .int .i64 a0_2, .int .i64 a0_3, .slice A0_4 l0_4.length c0_4, .slice A0_5 l0_5.length c0_5, .slice A0_6 l0_6.length c0_6, .int .i64 a0_7, .slice A0_8 l0_8.length c0_8, .slice A0_9 l0_9.length c0_9], .agg #[.int .i64 a1_0, .int .i64 a1_1, .int .i64 a1_2, .int .i64 a1_3, .slice A1_4 l1_4.length c1_4, .slice A1_5 l1_5.length c1_5, .slice A1_6 l1_6.length c1_6, .int .i64 a1_7, .slice A1_8 l1_8.length c1_8, .slice A1_9 l1_9.length c1_9]] w fun e w' => e = .returned (.bool r) ∧ Below w.heap.size w w' := by
 have hu41 := Try.underlying41
 have hu37 := Try.underlying37
 have hu38 := Try.underlying38
 have HR0_4 := aM hr0_4
 have HC0_4 := aM hc0_4
 clear hr0_4 hc0_4
 have HR0_5 := aM hr0_5
 have HC0_5 := aM hc0_5
 clear hr0_5 hc0_5
 have HR0_6 := aM hr0_6
 have HC0_6 := aM hc0_6
 clear hr0_6 hc0_6
 have HR0_8 := aM hr0_8
 have HC0_8 := aM hc0_8
 clear hr0_8 hc0_8
 have HR0_9 := aM hr0_9
 have HC0_9 := aM hc0_9
 clear hr0_9 hc0_9
 have HR1_4 := aM hr1_4
 have HC1_4 := aM hc1_4
 clear hr1_4 hc1_4
 have HR1_5 := aM hr1_5
 have HC1_5 := aM hc1_5
 clear hr1_5 hc1_5
 have HR1_6 := aM hr1_6
 have HC1_6 := aM hc1_6
 clear hr1_6 hc1_6
 have HR1_8 := aM hr1_8
 have HC1_8 := aM hc1_8
 clear hr1_8 hc1_8
 have HR1_9 := aM hr1_9
 have HC1_9 := aM hc1_9
 clear hr1_9 hc1_9
 have HB := aM (Below.refl w.heap.size w)
 have H : ((laws_eqFrame.f k a0_0 a0_1 a0_2 a0_3 l0_4 a1_0 a1_1 a1_2 a1_3 l1_4).bind fun t484 => (if t484 = true then ((laws_eqIntSS.f k l0_5 l1_5).bind fun t485 => (if t485 = true then ((laws_eqCoefs.f k l0_6 l1_6).bind fun t486 => (if t486 = true then (if a0_7 = a1_7 then ((laws_eqScanS.f k l0_8 l1_8).bind fun t487 => (if t487 = true then ((laws_eqByteS.f k l0_9 l1_9).bind fun t488 => (if t488 = true then (some true) else (some false))) else (some false))) else (some false)) else (some false))) else (some false))) else (some false))) = some r := h
 clear h
 obtain ⟨t484, A3, H⟩ := oH H
 by_cases c4 : t484 = true
 ·subst c4
  replace H := iT H
  obtain ⟨t485, A5, H⟩ := oH H
  by_cases c6 : t485 = true
  ·subst c6
   replace H := iT H
   obtain ⟨t486, A7, H⟩ := oH H
   by_cases c8 : t486 = true
   ·subst c8
    replace H := iT H
    by_cases c9 : a0_7 = a1_7
    ·rw [if_pos c9] at H
     have c9b0 : (a0_7 == a1_7) = true := beq_iff_eq.mpr c9
     have c9b1 : (a0_7 != a1_7) = false := bne_eq_false_iff_eq.mpr c9
     clear c9
     obtain ⟨t487, A10, H⟩ := oH H
     by_cases c11 : t487 = true
     ·subst c11
      replace H := iT H
      obtain ⟨t488, A12, H⟩ := oH H
      by_cases c13 : t488 = true
      ·subst c13
       replace H := iT H
       obtain rfl := Option.some.inj H
       go_enter Try.func8, Try.ntmps8
       go_wp2_with (first | ((with_reducible refine gate_dst (N := 2) rfl ?_); refine box_event ?hg (N := 2) ?hd (cs := #[.int .i64 a0_0, .int .i64 a0_1, .int .i64 a0_2, .int .i64 a0_3, .slice A0_4 l0_4.length c0_4, .slice A0_5 l0_5.length c0_5, .slice A0_6 l0_6.length c0_6, .int .i64 a0_7, .slice A0_8 l0_8.length c0_8, .slice A0_9 l0_9.length c0_9]) (t := 41) ?hr ?_; (case hd => rfl); (case hg => rfl); (case hr => first | (go_simp; done) | (go_simp; rfl)); intro gb482 hg w14 hbox hb; have BK482 := aM hbox; have GW482 := aM (zG hg : w.heap.size ≤ gb482); have GE482 := aM (zG hg : w.heap.size ≤ gb482); replace HB := cH HB hb; clear hb hbox hg) | ((with_reducible refine gate_dst (N := 3) rfl ?_); refine box_event ?hg (N := 3) ?hd (cs := #[.int .i64 a1_0, .int .i64 a1_1, .int .i64 a1_2, .int .i64 a1_3, .slice A1_4 l1_4.length c1_4, .slice A1_5 l1_5.length c1_5, .slice A1_6 l1_6.length c1_6, .int .i64 a1_7, .slice A1_8 l1_8.length c1_8, .slice A1_9 l1_9.length c1_9]) (t := 41) ?hr ?_; (case hd => rfl); (case hg => rfl); (case hr => first | (go_simp; done) | (go_simp; rfl)); intro gb483 hg w15 hbox hb; have BK483 := aM hbox; have GW483 := aM (zG hg : w.heap.size ≤ gb483); have GE483 := aM (zG hg : w.heap.size ≤ gb483); replace HB := cH HB hb; have NB482_483 := aM ((zL hg BK482)); have NB483_482 := aM ((zM hg BK482)); replace BK482 := cB BK482 hb; clear hb hbox hg; have hnb16 := NB482_483.out; have hnc16 := NB483_482.out; have hcz17_0 : w15.cell? ⟨gb482, 0, none⟩ = some (.int .i64 a0_0) := (kC BK482.out 0).trans rfl; have hcz17_1 : w15.cell? ⟨gb482, 1, none⟩ = some (.int .i64 a0_1) := (kC BK482.out 1).trans rfl; have hcz17_2 : w15.cell? ⟨gb482, 2, none⟩ = some (.int .i64 a0_2) := (kC BK482.out 2).trans rfl; have hcz17_3 : w15.cell? ⟨gb482, 3, none⟩ = some (.int .i64 a0_3) := (kC BK482.out 3).trans rfl; have hcz17_4 : w15.cell? ⟨gb482, 4, none⟩ = some (.slice A0_4 l0_4.length c0_4) := (kC BK482.out 4).trans rfl; have hcz17_5 : w15.cell? ⟨gb482, 5, none⟩ = some (.slice A0_5 l0_5.length c0_5) := (kC BK482.out 5).trans rfl; have hcz17_6 : w15.cell? ⟨gb482, 6, none⟩ = some (.slice A0_6 l0_6.length c0_6) := (kC BK482.out 6).trans rfl; have hcz17_7 : w15.cell? ⟨gb482, 7, none⟩ = some (.int .i64 a0_7) := (kC BK482.out 7).trans rfl; have hcz17_8 : w15.cell? ⟨gb482, 8, none⟩ = some (.slice A0_8 l0_8.length c0_8) := (kC BK482.out 8).trans rfl; have hcz17_9 : w15.cell? ⟨gb482, 9, none⟩ = some (.slice A0_9 l0_9.length c0_9) := (kC BK482.out 9).trans rfl; have hfz17_0 := blk_frozen BK482.out 0; have hfz17_1 := blk_frozen BK482.out 1; have hfz17_2 := blk_frozen BK482.out 2; have hfz17_3 := blk_frozen BK482.out 3; have hfz17_4 := blk_frozen BK482.out 4; have hfz17_5 := blk_frozen BK482.out 5; have hfz17_6 := blk_frozen BK482.out 6; have hfz17_7 := blk_frozen BK482.out 7; have hfz17_8 := blk_frozen BK482.out 8; have hfz17_9 := blk_frozen BK482.out 9; have hcz18_0 : w15.cell? ⟨gb483, 0, none⟩ = some (.int .i64 a1_0) := (kC BK483.out 0).trans rfl; have hcz18_1 : w15.cell? ⟨gb483, 1, none⟩ = some (.int .i64 a1_1) := (kC BK483.out 1).trans rfl; have hcz18_2 : w15.cell? ⟨gb483, 2, none⟩ = some (.int .i64 a1_2) := (kC BK483.out 2).trans rfl; have hcz18_3 : w15.cell? ⟨gb483, 3, none⟩ = some (.int .i64 a1_3) := (kC BK483.out 3).trans rfl; have hcz18_4 : w15.cell? ⟨gb483, 4, none⟩ = some (.slice A1_4 l1_4.length c1_4) := (kC BK483.out 4).trans rfl; have hcz18_5 : w15.cell? ⟨gb483, 5, none⟩ = some (.slice A1_5 l1_5.length c1_5) := (kC BK483.out 5).trans rfl; have hcz18_6 : w15.cell? ⟨gb483, 6, none⟩ = some (.slice A1_6 l1_6.length c1_6) := (kC BK483.out 6).trans rfl; have hcz18_7 : w15.cell? ⟨gb483, 7, none⟩ = some (.int .i64 a1_7) := (kC BK483.out 7).trans rfl; have hcz18_8 : w15.cell? ⟨gb483, 8, none⟩ = some (.slice A1_8 l1_8.length c1_8) := (kC BK483.out 8).trans rfl; have hcz18_9 : w15.cell? ⟨gb483, 9, none⟩ = some (.slice A1_9 l1_9.length c1_9) := (kC BK483.out 9).trans rfl; have hfz18_0 := blk_frozen BK483.out 0; have hfz18_1 := blk_frozen BK483.out 1; have hfz18_2 := blk_frozen BK483.out 2; have hfz18_3 := blk_frozen BK483.out 3; have hfz18_4 := blk_frozen BK483.out 4; have hfz18_5 := blk_frozen BK483.out 5; have hfz18_6 := blk_frozen BK483.out 6; have hfz18_7 := blk_frozen BK483.out 7; have hfz18_8 := blk_frozen BK483.out 8; have hfz18_9 := blk_frozen BK483.out 9) | (go_at_call 30; (with_reducible refine (laws_eqFrame.calls k a0_0 a0_1 a0_2 a0_3 _ _ l0_4 a1_0 a1_1 a1_2 a1_3 _ _ l1_4 true _ ?side1 ?side2 ?side3 ?side4 ⟨rfl⟩ A3.out).mono ?_); (case side1 => exact zC (Kd.C_below HR0_4.out HB.out)); (case side2 => exact HC0_4.out); (case side3 => exact zC (Kd.C_below HR1_4.out HB.out)); (case side4 => exact HC1_4.out); rintro e w19 ⟨rfl, hb⟩; replace BK482 := cB BK482 hb; replace BK483 := cB BK483 hb; replace HB := cH HB hb; (try clear hb); have hcz20_0 : w19.cell? ⟨gb482, 0, none⟩ = some (.int .i64 a0_0) := (kC BK482.out 0).trans rfl; have hcz20_1 : w19.cell? ⟨gb482, 1, none⟩ = some (.int .i64 a0_1) := (kC BK482.out 1).trans rfl; have hcz20_2 : w19.cell? ⟨gb482, 2, none⟩ = some (.int .i64 a0_2) := (kC BK482.out 2).trans rfl; have hcz20_3 : w19.cell? ⟨gb482, 3, none⟩ = some (.int .i64 a0_3) := (kC BK482.out 3).trans rfl; have hcz20_4 : w19.cell? ⟨gb482, 4, none⟩ = some (.slice A0_4 l0_4.length c0_4) := (kC BK482.out 4).trans rfl; have hcz20_5 : w19.cell? ⟨gb482, 5, none⟩ = some (.slice A0_5 l0_5.length c0_5) := (kC BK482.out 5).trans rfl; have hcz20_6 : w19.cell? ⟨gb482, 6, none⟩ = some (.slice A0_6 l0_6.length c0_6) := (kC BK482.out 6).trans rfl; have hcz20_7 : w19.cell? ⟨gb482, 7, none⟩ = some (.int .i64 a0_7) := (kC BK482.out 7).trans rfl; have hcz20_8 : w19.cell? ⟨gb482, 8, none⟩ = some (.slice A0_8 l0_8.length c0_8) := (kC BK482.out 8).trans rfl; have hcz20_9 : w19.cell? ⟨gb482, 9, none⟩ = some (.slice A0_9 l0_9.length c0_9) := (kC BK482.out 9).trans rfl; have hfz20_0 := blk_frozen BK482.out 0; have hfz20_1 := blk_frozen BK482.out 1; have hfz20_2 := blk_frozen BK482.out 2; have hfz20_3 := blk_frozen BK482.out 3; have hfz20_4 := blk_frozen BK482.out 4; have hfz20_5 := blk_frozen BK482.out 5; have hfz20_6 := blk_frozen BK482.out 6; have hfz20_7 := blk_frozen BK482.out 7; have hfz20_8 := blk_frozen BK482.out 8; have hfz20_9 := blk_frozen BK482.out 9; have hcz21_0 : w19.cell? ⟨gb483, 0, none⟩ = some (.int .i64 a1_0) := (kC BK483.out 0).trans rfl; have hcz21_1 : w19.cell? ⟨gb483, 1, none⟩ = some (.int .i64 a1_1) := (kC BK483.out 1).trans rfl; have hcz21_2 : w19.cell? ⟨gb483, 2, none⟩ = some (.int .i64 a1_2) := (kC BK483.out 2).trans rfl; have hcz21_3 : w19.cell? ⟨gb483, 3, none⟩ = some (.int .i64 a1_3) := (kC BK483.out 3).trans rfl; have hcz21_4 : w19.cell? ⟨gb483, 4, none⟩ = some (.slice A1_4 l1_4.length c1_4) := (kC BK483.out 4).trans rfl; have hcz21_5 : w19.cell? ⟨gb483, 5, none⟩ = some (.slice A1_5 l1_5.length c1_5) := (kC BK483.out 5).trans rfl; have hcz21_6 : w19.cell? ⟨gb483, 6, none⟩ = some (.slice A1_6 l1_6.length c1_6) := (kC BK483.out 6).trans rfl; have hcz21_7 : w19.cell? ⟨gb483, 7, none⟩ = some (.int .i64 a1_7) := (kC BK483.out 7).trans rfl; have hcz21_8 : w19.cell? ⟨gb483, 8, none⟩ = some (.slice A1_8 l1_8.length c1_8) := (kC BK483.out 8).trans rfl; have hcz21_9 : w19.cell? ⟨gb483, 9, none⟩ = some (.slice A1_9 l1_9.length c1_9) := (kC BK483.out 9).trans rfl; have hfz21_0 := blk_frozen BK483.out 0; have hfz21_1 := blk_frozen BK483.out 1; have hfz21_2 := blk_frozen BK483.out 2; have hfz21_3 := blk_frozen BK483.out 3; have hfz21_4 := blk_frozen BK483.out 4; have hfz21_5 := blk_frozen BK483.out 5; have hfz21_6 := blk_frozen BK483.out 6; have hfz21_7 := blk_frozen BK483.out 7; have hfz21_8 := blk_frozen BK483.out 8; have hfz21_9 := blk_frozen BK483.out 9) | (go_at_call 31; (with_reducible refine (laws_eqIntSS.calls k _ _ l0_5 _ _ l1_5 true _ ?side1 ?side2 ?side3 ?side4 ⟨rfl⟩ A5.out).mono ?_); (case side1 => exact zC (Kd.C_below HR0_5.out HB.out)); (case side2 => exact HC0_5.out); (case side3 => exact zC (Kd.C_below HR1_5.out HB.out)); (case side4 => exact HC1_5.out); rintro e w' ⟨rfl, ⟨nd, rfl⟩⟩) | (go_at_call 32; (with_reducible refine (laws_eqCoefs.calls k _ _ l0_6 _ _ l1_6 true _ ?side1 ?side2 ?side3 ?side4 ⟨rfl⟩ A7.out).mono ?_); (case side1 => exact zC (Kd.C_below HR0_6.out zH)); (case side2 => exact HC0_6.out); (case side3 => exact zC (Kd.C_below HR1_6.out zH)); (case side4 => exact HC1_6.out); rintro e w22 ⟨rfl, hb⟩; replace BK482 := cB BK482 hb; replace BK483 := cB BK483 hb; replace HB := cH HB hb; (try clear hb); have hcz23_0 : w22.cell? ⟨gb482, 0, none⟩ = some (.int .i64 a0_0) := (kC BK482.out 0).trans rfl; have hcz23_1 : w22.cell? ⟨gb482, 1, none⟩ = some (.int .i64 a0_1) := (kC BK482.out 1).trans rfl; have hcz23_2 : w22.cell? ⟨gb482, 2, none⟩ = some (.int .i64 a0_2) := (kC BK482.out 2).trans rfl; have hcz23_3 : w22.cell? ⟨gb482, 3, none⟩ = some (.int .i64 a0_3) := (kC BK482.out 3).trans rfl; have hcz23_4 : w22.cell? ⟨gb482, 4, none⟩ = some (.slice A0_4 l0_4.length c0_4) := (kC BK482.out 4).trans rfl; have hcz23_5 : w22.cell? ⟨gb482, 5, none⟩ = some (.slice A0_5 l0_5.length c0_5) := (kC BK482.out 5).trans rfl; have hcz23_6 : w22.cell? ⟨gb482, 6, none⟩ = some (.slice A0_6 l0_6.length c0_6) := (kC BK482.out 6).trans rfl; have hcz23_7 : w22.cell? ⟨gb482, 7, none⟩ = some (.int .i64 a0_7) := (kC BK482.out 7).trans rfl; have hcz23_8 : w22.cell? ⟨gb482, 8, none⟩ = some (.slice A0_8 l0_8.length c0_8) := (kC BK482.out 8).trans rfl; have hcz23_9 : w22.cell? ⟨gb482, 9, none⟩ = some (.slice A0_9 l0_9.length c0_9) := (kC BK482.out 9).trans rfl; have hfz23_0 := blk_frozen BK482.out 0; have hfz23_1 := blk_frozen BK482.out 1; have hfz23_2 := blk_frozen BK482.out 2; have hfz23_3 := blk_frozen BK482.out 3; have hfz23_4 := blk_frozen BK482.out 4; have hfz23_5 := blk_frozen BK482.out 5; have hfz23_6 := blk_frozen BK482.out 6; have hfz23_7 := blk_frozen BK482.out 7; have hfz23_8 := blk_frozen BK482.out 8; have hfz23_9 := blk_frozen BK482.out 9; have hcz24_0 : w22.cell? ⟨gb483, 0, none⟩ = some (.int .i64 a1_0) := (kC BK483.out 0).trans rfl; have hcz24_1 : w22.cell? ⟨gb483, 1, none⟩ = some (.int .i64 a1_1) := (kC BK483.out 1).trans rfl; have hcz24_2 : w22.cell? ⟨gb483, 2, none⟩ = some (.int .i64 a1_2) := (kC BK483.out 2).trans rfl; have hcz24_3 : w22.cell? ⟨gb483, 3, none⟩ = some (.int .i64 a1_3) := (kC BK483.out 3).trans rfl; have hcz24_4 : w22.cell? ⟨gb483, 4, none⟩ = some (.slice A1_4 l1_4.length c1_4) := (kC BK483.out 4).trans rfl; have hcz24_5 : w22.cell? ⟨gb483, 5, none⟩ = some (.slice A1_5 l1_5.length c1_5) := (kC BK483.out 5).trans rfl; have hcz24_6 : w22.cell? ⟨gb483, 6, none⟩ = some (.slice A1_6 l1_6.length c1_6) := (kC BK483.out 6).trans rfl; have hcz24_7 : w22.cell? ⟨gb483, 7, none⟩ = some (.int .i64 a1_7) := (kC BK483.out 7).trans rfl; have hcz24_8 : w22.cell? ⟨gb483, 8, none⟩ = some (.slice A1_8 l1_8.length c1_8) := (kC BK483.out 8).trans rfl; have hcz24_9 : w22.cell? ⟨gb483, 9, none⟩ = some (.slice A1_9 l1_9.length c1_9) := (kC BK483.out 9).trans rfl; have hfz24_0 := blk_frozen BK483.out 0; have hfz24_1 := blk_frozen BK483.out 1; have hfz24_2 := blk_frozen BK483.out 2; have hfz24_3 := blk_frozen BK483.out 3; have hfz24_4 := blk_frozen BK483.out 4; have hfz24_5 := blk_frozen BK483.out 5; have hfz24_6 := blk_frozen BK483.out 6; have hfz24_7 := blk_frozen BK483.out 7; have hfz24_8 := blk_frozen BK483.out 8; have hfz24_9 := blk_frozen BK483.out 9) | (go_at_call 33; (with_reducible refine (laws_eqScanS.calls k _ _ l0_8 _ _ l1_8 true _ ?side1 ?side2 ?side3 ?side4 ⟨rfl⟩ A10.out).mono ?_); (case side1 => exact zC (Kd.C_below HR0_8.out HB.out)); (case side2 => exact HC0_8.out); (case side3 => exact zC (Kd.C_below HR1_8.out HB.out)); (case side4 => exact HC1_8.out); rintro e w25 ⟨rfl, hb⟩; replace BK482 := cB BK482 hb; replace BK483 := cB BK483 hb; replace HB := cH HB hb; (try clear hb); have hcz26_0 : w25.cell? ⟨gb482, 0, none⟩ = some (.int .i64 a0_0) := (kC BK482.out 0).trans rfl; have hcz26_1 : w25.cell? ⟨gb482, 1, none⟩ = some (.int .i64 a0_1) := (kC BK482.out 1).trans rfl; have hcz26_2 : w25.cell? ⟨gb482, 2, none⟩ = some (.int .i64 a0_2) := (kC BK482.out 2).trans rfl; have hcz26_3 : w25.cell? ⟨gb482, 3, none⟩ = some (.int .i64 a0_3) := (kC BK482.out 3).trans rfl; have hcz26_4 : w25.cell? ⟨gb482, 4, none⟩ = some (.slice A0_4 l0_4.length c0_4) := (kC BK482.out 4).trans rfl; have hcz26_5 : w25.cell? ⟨gb482, 5, none⟩ = some (.slice A0_5 l0_5.length c0_5) := (kC BK482.out 5).trans rfl; have hcz26_6 : w25.cell? ⟨gb482, 6, none⟩ = some (.slice A0_6 l0_6.length c0_6) := (kC BK482.out 6).trans rfl; have hcz26_7 : w25.cell? ⟨gb482, 7, none⟩ = some (.int .i64 a0_7) := (kC BK482.out 7).trans rfl; have hcz26_8 : w25.cell? ⟨gb482, 8, none⟩ = some (.slice A0_8 l0_8.length c0_8) := (kC BK482.out 8).trans rfl; have hcz26_9 : w25.cell? ⟨gb482, 9, none⟩ = some (.slice A0_9 l0_9.length c0_9) := (kC BK482.out 9).trans rfl; have hfz26_0 := blk_frozen BK482.out 0; have hfz26_1 := blk_frozen BK482.out 1; have hfz26_2 := blk_frozen BK482.out 2; have hfz26_3 := blk_frozen BK482.out 3; have hfz26_4 := blk_frozen BK482.out 4; have hfz26_5 := blk_frozen BK482.out 5; have hfz26_6 := blk_frozen BK482.out 6; have hfz26_7 := blk_frozen BK482.out 7; have hfz26_8 := blk_frozen BK482.out 8; have hfz26_9 := blk_frozen BK482.out 9; have hcz27_0 : w25.cell? ⟨gb483, 0, none⟩ = some (.int .i64 a1_0) := (kC BK483.out 0).trans rfl; have hcz27_1 : w25.cell? ⟨gb483, 1, none⟩ = some (.int .i64 a1_1) := (kC BK483.out 1).trans rfl; have hcz27_2 : w25.cell? ⟨gb483, 2, none⟩ = some (.int .i64 a1_2) := (kC BK483.out 2).trans rfl; have hcz27_3 : w25.cell? ⟨gb483, 3, none⟩ = some (.int .i64 a1_3) := (kC BK483.out 3).trans rfl; have hcz27_4 : w25.cell? ⟨gb483, 4, none⟩ = some (.slice A1_4 l1_4.length c1_4) := (kC BK483.out 4).trans rfl; have hcz27_5 : w25.cell? ⟨gb483, 5, none⟩ = some (.slice A1_5 l1_5.length c1_5) := (kC BK483.out 5).trans rfl; have hcz27_6 : w25.cell? ⟨gb483, 6, none⟩ = some (.slice A1_6 l1_6.length c1_6) := (kC BK483.out 6).trans rfl; have hcz27_7 : w25.cell? ⟨gb483, 7, none⟩ = some (.int .i64 a1_7) := (kC BK483.out 7).trans rfl; have hcz27_8 : w25.cell? ⟨gb483, 8, none⟩ = some (.slice A1_8 l1_8.length c1_8) := (kC BK483.out 8).trans rfl; have hcz27_9 : w25.cell? ⟨gb483, 9, none⟩ = some (.slice A1_9 l1_9.length c1_9) := (kC BK483.out 9).trans rfl; have hfz27_0 := blk_frozen BK483.out 0; have hfz27_1 := blk_frozen BK483.out 1; have hfz27_2 := blk_frozen BK483.out 2; have hfz27_3 := blk_frozen BK483.out 3; have hfz27_4 := blk_frozen BK483.out 4; have hfz27_5 := blk_frozen BK483.out 5; have hfz27_6 := blk_frozen BK483.out 6; have hfz27_7 := blk_frozen BK483.out 7; have hfz27_8 := blk_frozen BK483.out 8; have hfz27_9 := blk_frozen BK483.out 9) | (go_at_call 34; (with_reducible refine (laws_eqByteS.calls k _ _ l0_9 _ _ l1_9 true _ ?side1 ?side2 ?side3 ?side4 ⟨rfl⟩ A12.out).mono ?_); (case side1 => exact zC (Kd.C_below HR0_9.out HB.out)); (case side2 => exact HC0_9.out); (case side3 => exact zC (Kd.C_below HR1_9.out HB.out)); (case side4 => exact HC1_9.out); rintro e w' ⟨rfl, ⟨nd, rfl⟩⟩))
       go_ret
       exact ⟨zR, zH⟩
      ·replace c13 := Bool.eq_false_iff.mpr c13
       subst c13
       replace H := iF H
       exact noArm H HTRUE_.out
     ·replace c11 := Bool.eq_false_iff.mpr c11
      subst c11
      replace H := iF H
      exact noArm H HTRUE_.out
    ·rw [if_neg c9] at H
     have c9b0 : (a0_7 == a1_7) = false := beq_eq_false_iff_ne.mpr c9
     have c9b1 : (a0_7 != a1_7) = true := bne_iff_ne.mpr c9
     exact noArm H HTRUE_.out
   ·replace c8 := Bool.eq_false_iff.mpr c8
    subst c8
    replace H := iF H
    exact noArm H HTRUE_.out
  ·replace c6 := Bool.eq_false_iff.mpr c6
   subst c6
   replace H := iF H
   exact noArm H HTRUE_.out
 ·replace c4 := Bool.eq_false_iff.mpr c4
  subst c4
  replace H := iF H
  exact noArm H HTRUE_.out

theorem eqStream_f (p w h r : Int) (l : List S74) (T : List (List Int)) (c : List (List (List Int))) (m : Int) (J : List S86) (N : List Int) (hl : l.length ≤ 1048576) (hT : T.length ≤ 1048576) (hTx : ∀ x ∈ T, x.length ≤ 1048576)
    (hc : c.length ≤ 1048576) (hcx : ∀ x ∈ c, BndS 1048576 x) (hJ : J.length ≤ 1048576) (hJx : ∀ x ∈ J, x.f0.length ≤ 1048576) (hN : N.length ≤ 1048576) :
    Ev (fun k => laws_eqStream.f k p w h r l T c m J N p w h r l T c m J N) true := by
  unfold laws_eqStream.f
  exact evBind (eqFrame_f p w h r l (by omega)) (evPos rfl (evBind (eqIntSS_f T (by omega) (fun x hx => by have := hTx x hx; omega)) (evPos rfl (evBind (eqCoefs_f c hc hcx) (evPos rfl (evPos rfl (evBind (eqScanS_f J (by omega) (fun x hx => by have := hJx x hx; omega)) (evPos rfl (evBind (eqByteS_f N (by omega)) (evPos rfl (Ev.now _)))))))))))

end Go.Proofs.Ytpcfjobojdldnaa.CV
