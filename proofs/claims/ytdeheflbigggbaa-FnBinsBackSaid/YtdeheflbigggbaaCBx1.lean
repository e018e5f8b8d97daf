/- Functions that a law of this seat reaches: written by a program of this session (wip/xprint.py), and by hand. -/
import Derived.Test.YtdeheflbigggbaaCBx0
namespace Go.Proofs.Ytdeheflbigggbaa.CB
open Go.RowKit Go.Proofs.Ytdeheflbigggbaa.B Go.Proofs.YtdeheflbigggbaaW.PrintWords Go.Proofs.YtdeheflbigggbaaW.PrintLast Go.Proofs.YtdeheflbigggbaaW.PrintMore
attribute [local go_sem] max2_int min2_int max_two min_two max_three min_three max_four min_four   -- for this text's walks alone
set_option linter.unusedVariables false
set_option linter.unusedSimpArgs false

/-! ### laws_big: function 20 -/
def laws_big.f (l0 : List Int) : Option (Bool) := some (decide ((l0.length : Int) > 1048576))
set_option maxHeartbeats 8000000 in
set_option maxRecDepth 100000 in
theorem laws_big.calls (A0 : Option Addr) (c0 : Nat) (l0 : List Int) (r : Bool) (w : World) (hr0 : Kd.C (Kd.int .u8) w A0 l0.length l0) (hc0 : l0.length ≤ c0) (h : laws_big.f l0 = some r) :
    Calls Try.prog 20 #[.slice A0 l0.length c0] w fun e w' => e = .returned (.bool r) ∧ Drawn0 w w' := by
  have HR0 := Aside0.mk hr0
  have HC0 := Aside0.mk hc0
  clear hr0 hc0
  have H : (some (decide ((l0.length : Int) > 1048576))) = some r := h
  clear h
  obtain rfl := Option.some.inj H
  go_enter Try.func20, Try.ntmps20
  go_wp2
  go_ret
  exact ⟨by first | rfl | (simp; done) | (simp [*]; done), by repeat (first | exact Drawn0.refl _ | apply Drawn0.step)⟩

theorem big_f (l : List Int) : laws_big.f l = some (decide ((l.length : Int) > 1048576)) := rfl

/-! ### laws_pick: function 21 -/
mutual
def laws_pick.j0 : Nat → List Int → Int → Int → Bool → Option (Int)
  | 0, _, _, _, _ => none
  | k + 1, x0, x1, x2, x15 => if x15 = true then (some 0) else (laws_pick.l0 k x0 x1 x2 0 0)
def laws_pick.l0 : Nat → List Int → Int → Int → Int → Int → Option (Int)
  | 0, _, _, _, _, _ => none
  | k + 1, x0, x1, x2, x7, x8 => if x8 < 3 then (if (x0.length : Int) = 0 then (none) else (if 0 ≤ (Int.tmod (wrap64 (x1 + x8)) (x0.length : Int)) then (if (Int.tmod (wrap64 (x1 + x8)) (x0.length : Int)) < (x0.length : Int) then (laws_pick.l0 k x0 x1 x2 (wrap64 ((wrap64 (31 * x7)) + (wrap64 (rd x0 (Int.tmod (wrap64 (x1 + x8)) (x0.length : Int)))))) (wrap64 (x8 + 1))) else (none)) else (none))) else (if x2 = 0 then (none) else (some (Int.tmod (wrap64 (x7 + x1)) x2)))
end
def laws_pick.f (k : Nat) (l0 : List Int) (a1 : Int) (a2 : Int) : Option (Int) := if (l0.length : Int) = 0 then (laws_pick.j0 k l0 a1 a2 true) else (laws_pick.j0 k l0 a1 a2 (decide (a2 < 2)))
theorem laws_pick.mono_l : ∀ k, (∀ y0 y1 y2 y3, LeO (laws_pick.j0 k y0 y1 y2 y3) (laws_pick.j0 (k + 1) y0 y1 y2 y3)) ∧ (∀ y0 y1 y2 y3 y4, LeO (laws_pick.l0 k y0 y1 y2 y3 y4) (laws_pick.l0 (k + 1) y0 y1 y2 y3 y4))
  | 0 => ⟨fun _ _ _ _ r h => by simp [laws_pick.j0] at h, fun _ _ _ _ _ r h => by simp [laws_pick.l0] at h⟩
  | k + 1 => by
    obtain ⟨ih0, ih1⟩ := laws_pick.mono_l k
    refine ⟨?_, ?_⟩
    · intro y0 y1 y2 y3
      unfold laws_pick.j0
      repeat' first
      | (with_reducible exact ih0 _ _ _ _)
      | (with_reducible exact ih1 _ _ _ _ _)
      | (with_reducible exact LeO.refl _)
      | (with_reducible exact LeO.none _)
      | (with_reducible refine LeO.ite ?_ ?_)
      | (with_reducible refine LeO.bind ?_ (fun _ => ?_))
      | exact ih0 _ _ _ _
      | exact ih1 _ _ _ _ _
      | exact LeO.none _
      | refine LeO.ite ?_ ?_
      | refine LeO.bind ?_ (fun _ => ?_)
    · intro y0 y1 y2 y3 y4
      unfold laws_pick.l0
      repeat' first
      | (with_reducible exact ih0 _ _ _ _)
      | (with_reducible exact ih1 _ _ _ _ _)
      | (with_reducible exact LeO.refl _)
      | (with_reducible exact LeO.none _)
      | (with_reducible refine LeO.ite ?_ ?_)
      | (with_reducible refine LeO.bind ?_ (fun _ => ?_))
      | exact ih0 _ _ _ _
      | exact ih1 _ _ _ _ _
      | exact LeO.none _
      | refine LeO.ite ?_ ?_
      | refine LeO.bind ?_ (fun _ => ?_)
theorem laws_pick.mono : ∀ a0 a1 a2 k, LeO (laws_pick.f k a0 a1 a2) (laws_pick.f (k + 1) a0 a1 a2) := by
  intro a0 a1 a2 k
  obtain ⟨ih0, ih1⟩ := laws_pick.mono_l k
  unfold laws_pick.f
  repeat' first
      | (with_reducible exact ih0 _ _ _ _)
      | (with_reducible exact ih1 _ _ _ _ _)
      | (with_reducible exact LeO.refl _)
      | (with_reducible exact LeO.none _)
      | (with_reducible refine LeO.ite ?_ ?_)
      | (with_reducible refine LeO.bind ?_ (fun _ => ?_))
      | exact ih0 _ _ _ _
      | exact ih1 _ _ _ _ _
      | exact LeO.none _
      | refine LeO.ite ?_ ?_
      | refine LeO.bind ?_ (fun _ => ?_)
set_option maxHeartbeats 8000000 in
set_option maxRecDepth 100000 in
theorem laws_pick.calls (k : Nat) (A0 : Option Addr) (c0 : Nat) (l0 : List Int) (a1 : Int) (a2 : Int) (r : Int) (w : World) (hr0 : Kd.C (Kd.int .u8) w A0 l0.length l0) (hc0 : l0.length ≤ c0) (h : laws_pick.f k l0 a1 a2 = some r) :
    Calls Try.prog 21 #[.slice A0 l0.length c0, .int .i64 a1, .int .i64 a2] w fun e w' => e = .returned (.int .i64 r) ∧ Drawn0 w w' := by
  have HR0 := Aside0.mk hr0
  have HC0 := Aside0.mk hc0
  clear hr0 hc0
  have H : (if (l0.length : Int) = 0 then (laws_pick.j0 k l0 a1 a2 true) else (laws_pick.j0 k l0 a1 a2 (decide (a2 < 2)))) = some r := h
  clear h
  have HC4 := Aside0.mk H
  clear H
  go_enter Try.func21, Try.ntmps21
  go_upto_region 1 with (fail)
  go_cut [15] (fun v15 wc => ∃ (kq : Nat) (x15_3 : Bool), v15 = .bool x15_3 ∧ Aside0 (laws_pick.j0 kq l0 a1 a2 x15_3 = some r) ∧ Aside0 (kq ≤ k) ∧ Drawn0 w wc)
  case first =>
    have H := HC4.out
    clear HC4
    by_cases c5 : (l0.length : Int) = 0
    · rw [if_pos c5] at H
      have c5b0 : ((l0.length : Int) == 0) = true := beq_iff_eq.mpr c5
      have c5b1 : ((l0.length : Int) != 0) = false := bne_eq_false_iff_eq.mpr c5
      clear c5
      (first | rw [c5b0] | (simp only [i64_w, i32_w]; rw [c5b0]) | skip)
      have H' := Aside0.mk H
      clear H
      go_wp2
      go_meet
      case rel => exact ⟨_, (true), (by first | rfl | (simp; done) | (simp [*]; done)), H', ⟨by first | omega | exact Nat.le_refl _⟩, by repeat (first | exact Drawn0.refl _ | apply Drawn0.step)⟩
    · rw [if_neg c5] at H
      have c5b0 : ((l0.length : Int) == 0) = false := beq_eq_false_iff_ne.mpr c5
      have c5b1 : ((l0.length : Int) != 0) = true := bne_iff_ne.mpr c5
      have c5b2 : ¬ (l0 = []) := fun h_ => c5 (by rw [h_]; rfl)
      (first | rw [c5b0] | (simp only [i64_w, i32_w]; rw [c5b0]) | skip)
      have H' := Aside0.mk H
      clear H
      go_wp2
      go_meet
      case rel => exact ⟨_, (decide (a2 < 2)), (by first | rfl | (simp; done) | (simp [*]; done)), H', ⟨by first | omega | exact Nat.le_refl _⟩, by repeat (first | exact Drawn0.refl _ | apply Drawn0.step)⟩
  case rest =>
    clear HC4
    try clear c2
    try clear p2
    try clear c5
    try clear c5b0
    try clear c5b1
    try clear c5b2
    obtain ⟨kq, x15_3, rfl, HA, HJ3, ⟨mc3, rfl⟩⟩ := hcut
    cases kq with
    | zero => exact absurd HA.out (by simp [laws_pick.j0])
    | succ kj3 =>
      have H := HA.out
      clear HA
      simp only [laws_pick.j0] at H
      by_cases c6 : x15_3 = true
      · subst c6
        have H1 : (some 0) = some r := by rw [if_pos rfl] at H; exact H
        clear H
        have H := H1
        clear H1
        obtain rfl := Option.some.inj H
        go_wp2
        go_ret
        exact ⟨by first | rfl | (simp; done) | (simp [*]; done), by repeat (first | exact Drawn0.refl _ | apply Drawn0.step)⟩
      · replace c6 := Bool.eq_false_iff.mpr c6
        subst c6
        have H1 : (laws_pick.l0 kj3 l0 a1 a2 0 0) = some r := by rw [if_neg (show ¬ (false = true) by decide)] at H; exact H
        clear H
        have H := H1
        clear H1
        have H' := Aside0.mk H
        clear H
        go_wp2
        go_loopg [7, 8] kj3 (fun kq v7 v8 w' => ∃ (x7_2 : Int) (x8_2 : Int), v7 = .int .i64 x7_2 ∧ v8 = .int .i64 x8_2 ∧ Aside0 (laws_pick.l0 kq l0 a1 a2 x7_2 x8_2 = some r) ∧ Aside0 (kq ≤ kj3) ∧ Drawn0 w w')
        case atStart => exact ⟨(0), (0), (by first | rfl | (simp; done) | (simp [*]; done)), (by first | rfl | (simp; done) | (simp [*]; done)), H', ⟨Nat.le_refl _⟩, by repeat (first | exact Drawn0.refl _ | apply Drawn0.step)⟩
        case round =>
          clear H'
          try clear c2
          try clear p2
          try clear c3
          try clear c5
          try clear c5b0
          try clear c5b1
          try clear c5b2
          try clear c6
          try clear p2
          obtain ⟨x7_2, x8_2, rfl, rfl, HA, HK2, ⟨m2, rfl⟩⟩ := hrel
          cases gk with
          | zero => exact absurd HA.out (by simp [laws_pick.l0])
          | succ k2 =>
            have H := HA.out
            clear HA
            simp only [laws_pick.l0] at H
            by_cases c7 : x8_2 < 3
            · rw [if_pos c7] at H
              have c7b0 : decide (x8_2 < 3) = true := decide_eq_true c7
              clear c7
              by_cases c8 : (l0.length : Int) = 0
              · rw [if_pos c8] at H
                exact absurd H (by simp)
              · rw [if_neg c8] at H
                have c8b0 : ((l0.length : Int) == 0) = false := beq_eq_false_iff_ne.mpr c8
                have c8b1 : ((l0.length : Int) != 0) = true := bne_iff_ne.mpr c8
                have c8b2 : ¬ (l0 = []) := fun h_ => c8 (by rw [h_]; rfl)
                obtain ⟨ji9, hji9⟩ : ∃ j_ : Int, (Int.tmod (wrap64 (a1 + x8_2)) (l0.length : Int)) = j_ := ⟨_, rfl⟩
                replace H : (if 0 ≤ (ji9) then (if (ji9) < (l0.length : Int) then (laws_pick.l0 k2 l0 a1 a2 (wrap64 ((wrap64 (31 * x7_2)) + (wrap64 (rd l0 (ji9))))) (wrap64 (x8_2 + 1))) else (none)) else (none)) = some r := by first | (rw [hji9] at H; exact H) | (simp only [hji9] at H ⊢; exact H)
                by_cases c10 : 0 ≤ (ji9)
                · rw [if_pos c10] at H
                  have c10b0 : decide (0 ≤ (ji9)) = true := decide_eq_true c10
                  clear c10
                  by_cases c11 : (ji9) < (l0.length : Int)
                  · rw [if_pos c11] at H
                    have c11b0 : decide ((ji9) < (l0.length : Int)) = true := decide_eq_true c11
                    clear c11
                    have H' := Aside0.mk H
                    clear H
                    have p101 : 0 ≤ ((ji9) : Int) := of_decide_eq_true (by first | (with_reducible assumption) | assumption)
                    have q101 : (ji9) < (l0.length : Int) := of_decide_eq_true (by first | (with_reducible assumption) | assumption)
                    obtain ⟨ad101, e101, hx101_0⟩ := Kd.at_int HR0.out (ji9) p101 q101
                    cases e101
                    replace p101 := eq_true p101
                    replace q101 := eq_true q101
                    go_wp2
                    go_roundg k2
                    case measure => have := HJ3.out; have := HK2.out; omega
                    case rel => exact ⟨(wrap64 ((wrap64 (31 * x7_2)) + (wrap64 (rd l0 (ji9))))), (wrap64 (x8_2 + 1)), (by first | rfl | (simp; done) | (simp only [← hji9] <;> (first | rfl | simp)) | (simp [*]; done)), (by first | rfl | (simp; done) | (simp [*]; done)), H', ⟨by have := HJ3.out; have := HK2.out; omega⟩, by repeat (first | exact Drawn0.refl _ | apply Drawn0.step)⟩
                  · rw [if_neg c11] at H
                    exact absurd H (by simp)
                · rw [if_neg c10] at H
                  exact absurd H (by simp)
            · rw [if_neg c7] at H
              have c7b0 : decide (x8_2 < 3) = false := decide_eq_false c7
              clear c7
              by_cases c12 : a2 = 0
              · rw [if_pos c12] at H
                exact absurd H (by simp)
              · rw [if_neg c12] at H
                have c12b0 : (a2 == 0) = false := beq_eq_false_iff_ne.mpr c12
                have c12b1 : (a2 != 0) = true := bne_iff_ne.mpr c12
                obtain rfl := Option.some.inj H
                go_wp2
                go_ret
                exact ⟨by first | rfl | (simp; done) | (simp [*]; done), by repeat (first | exact Drawn0.refl _ | apply Drawn0.step)⟩

theorem lpick_l0 (l : List Int) (hc : CodeOk l) (hl : 0 < l.length) (a n : Int) (h0 : 0 ≤ a) (h1 : a ≤ 1000) (hn : 2 ≤ n) (hn2 : n ≤ 4611686018427387904) : ∀ (d i : Nat) (x : Int), i + d = 3 → 0 ≤ x → x ≤ 300 * 40 ^ i → EvP (fun k => laws_pick.l0 k l a n x i) (fun r => 0 ≤ r ∧ r < n) := by
  intro d
  induction d with
  | zero =>
    intro i x hi hx0 hx1
    obtain rfl : i = 3 := by omega
    refine evpStep (fun k => by rw [laws_pick.l0]) (evpNeg (by omega) (evpNeg (by omega) ?_))
    rw [w64 (by omega) (by omega)]
    have := tmod_range (a := x + a) (b := n) (by omega) (by omega)
    exact evpNow rfl this
  | succ d ih =>
    intro i x hi hx0 hx1
    have hx2 : x ≤ 300 * 40 ^ 3 := by
      have : (40 : Int) ^ i ≤ 40 ^ 3 := by
        obtain rfl | rfl | rfl : i = 0 ∨ i = 1 ∨ i = 2 := by omega
        all_goals decide
      omega
    have t := tmod_range (a := a + i) (b := (l.length : Int)) (by omega) (by omega)
    refine evpStep (fun k => by rw [laws_pick.l0]) (evpPos (by omega) (evpNeg (by omega) ?_))
    rw [w64 (x := a + (i : Int)) (by omega) (by omega)]
    refine evpPos t.1 (evpPos t.2 ?_)
    have r := rd_range0 (l := l) hc.2 (by omega) (by omega) (Int.tmod (a + i) (l.length : Int))
    rw [w64 (x := rd l _) (by omega) (by omega), w64 (x := 31 * x) (by omega) (by omega), w64 (x := 31 * x + _) (by omega) (by omega), show (i : Int) + 1 = ((i + 1 : Nat) : Int) from by omega, w64n (by omega)]
    refine ih (i + 1) _ (by omega) (by omega) ?_
    rw [Int.pow_succ]
    have : (1 : Int) ≤ 40 ^ i := by
      obtain rfl | rfl | rfl : i = 0 ∨ i = 1 ∨ i = 2 := by omega
      all_goals decide
    omega
/-- A number that a law picks off a code. -/
theorem lpickP (l : List Int) (hc : CodeOk l) (a n : Int) (h0 : 0 ≤ a) (h1 : a ≤ 1000) (hn : 1 ≤ n) (hn2 : n ≤ 4611686018427387904) : EvP (fun k => laws_pick.f k l a n) (fun r => 0 ≤ r ∧ r < n) := by
  unfold laws_pick.f
  refine evpIf (fun h => evpStep (fun k => by rw [laws_pick.j0]) (evpPos rfl (evpNow rfl ⟨by omega, by omega⟩))) (fun h => evpStep (fun k => by rw [laws_pick.j0]) (evpIf (fun h2 => evpNow rfl ⟨by omega, by omega⟩) (fun h2 => ?_)))
  have := of_decide_eq_false (Bool.eq_false_iff.2 h2)
  exact lpick_l0 l hc (by omega) a n h0 h1 (by omega) hn2 3 0 0 (by omega) (by omega) (by decide)

/-! ### impl_within: function 75 -/
def impl_within.f (a0 : Int) (a1 : Int) (a2 : Int) : Option (Bool) := if a0 ≥ a1 then (some (decide (a0 ≤ a2))) else (some false)
set_option maxHeartbeats 8000000 in
set_option maxRecDepth 100000 in
theorem impl_within.calls (a0 : Int) (a1 : Int) (a2 : Int) (r : Bool) (w : World) (h : impl_within.f a0 a1 a2 = some r) :
    Calls Try.prog 75 #[.int .i64 a0, .int .i64 a1, .int .i64 a2] w fun e w' => e = .returned (.bool r) ∧ Drawn0 w w' := by
  have H : (if a0 ≥ a1 then (some (decide (a0 ≤ a2))) else (some false)) = some r := h
  clear h
  by_cases c4 : a0 ≥ a1
  · rw [if_pos c4] at H
    have c4b0 : decide (a1 ≤ a0) = true := decide_eq_true c4
    clear c4
    obtain rfl := Option.some.inj H
    go_enter Try.func75, Try.ntmps75
    go_wp2
    go_ret
    exact ⟨by first | rfl | (simp; done) | (simp [*]; done), by repeat (first | exact Drawn0.refl _ | apply Drawn0.step)⟩
  · rw [if_neg c4] at H
    have c4b0 : decide (a1 ≤ a0) = false := decide_eq_false c4
    clear c4
    obtain rfl := Option.some.inj H
    go_enter Try.func75, Try.ntmps75
    go_wp2
    go_ret
    exact ⟨by first | rfl | (simp; done) | (simp [*]; done), by repeat (first | exact Drawn0.refl _ | apply Drawn0.step)⟩

theorem within_f (a b c : Int) : impl_within.f a b c = some (inR a b c) := inR_ite a b c

/-! ### impl_areBins: function 64 -/
def impl_areBins.l0 : Nat → List (S31) → List (S31) → Int → Int → Option (Bool)
  | 0, _, _, _, _ => none
  | k + 1, x0, x5, x6, x7 => if x7 < x6 then (if 0 ≤ x7 then (if x7 < (x5.length : Int) then ((impl_within.f ((rd_T31 x5 x7).f0) 0 399).bind fun t104 => (if t104 = true then ((impl_within.f ((rd_T31 x5 x7).f1) 0 1).bind fun t105 => (if t105 = true then (impl_areBins.l0 k x0 x5 x6 (wrap64 (x7 + 1))) else (some false))) else (some false))) else (none)) else (none)) else (some (decide ((x0.length : Int) ≤ 200000)))
def impl_areBins.f (k : Nat) (l0 : List (S31)) : Option (Bool) := impl_areBins.l0 k l0 l0 (l0.length : Int) 0
theorem impl_areBins.mono_l : ∀ k, (∀ y0 y1 y2 y3, LeO (impl_areBins.l0 k y0 y1 y2 y3) (impl_areBins.l0 (k + 1) y0 y1 y2 y3))
  | 0 => fun _ _ _ _ r h => by simp [impl_areBins.l0] at h
  | k + 1 => by
    have ih0 := impl_areBins.mono_l k
    · intro y0 y1 y2 y3
      unfold impl_areBins.l0
      repeat' first
      | (with_reducible exact ih0 _ _ _ _)
      | (with_reducible exact LeO.refl _)
      | (with_reducible exact LeO.none _)
      | (with_reducible refine LeO.ite ?_ ?_)
      | (with_reducible refine LeO.bind ?_ (fun _ => ?_))
      | exact ih0 _ _ _ _
      | exact LeO.none _
      | refine LeO.ite ?_ ?_
      | refine LeO.bind ?_ (fun _ => ?_)
theorem impl_areBins.mono : ∀ a0 k, LeO (impl_areBins.f k a0) (impl_areBins.f (k + 1) a0) := by
  intro a0 k
  have ih0 := impl_areBins.mono_l k
  unfold impl_areBins.f
  repeat' first
      | (with_reducible exact ih0 _ _ _ _)
      | (with_reducible exact LeO.refl _)
      | (with_reducible exact LeO.none _)
      | (with_reducible refine LeO.ite ?_ ?_)
      | (with_reducible refine LeO.bind ?_ (fun _ => ?_))
      | exact ih0 _ _ _ _
      | exact LeO.none _
      | refine LeO.ite ?_ ?_
      | refine LeO.bind ?_ (fun _ => ?_)
set_option maxHeartbeats 8000000 in
set_option maxRecDepth 100000 in
theorem impl_areBins.calls (k : Nat) (A0 : Option Addr) (c0 : Nat) (l0 : List (S31)) (r : Bool) (w : World) (hr0 : Kd.C k31 w A0 l0.length l0) (hc0 : l0.length ≤ c0) (h : impl_areBins.f k l0 = some r) :
    Calls Try.prog 64 #[.slice A0 l0.length c0] w fun e w' => e = .returned (.bool r) ∧ Below w.heap.size w w' := by
  have hu31 := Try.underlying31
  have HR0 := Aside0.mk hr0
  have HC0 := Aside0.mk hc0
  clear hr0 hc0
  have HB := Aside0.mk (Below.refl w.heap.size w)
  have H : (impl_areBins.l0 k l0 l0 (l0.length : Int) 0) = some r := h
  clear h
  have H' := Aside0.mk H
  clear H
  go_enter Try.func64, Try.ntmps64
  go_wp2
  go_loopg [7] k (fun kq v7 w' => ∃ (x7_1 : Int), v7 = .int .i64 x7_1 ∧ Aside0 (impl_areBins.l0 kq l0 l0 (l0.length : Int) x7_1 = some r) ∧ Aside0 (kq ≤ k) ∧ Aside0 (Below w.heap.size w w'))
  case atStart => exact ⟨(0), (by first | rfl | (simp; done) | (simp [*]; done)), H', ⟨Nat.le_refl _⟩, ⟨by repeat (first | (with_reducible first | exact HB.out | apply below_alloc | apply pw_below_drewN | apply below_drew1) | exact HB.out)⟩⟩
  case round =>
    clear H'
    obtain ⟨x7_1, rfl, HA, HK1, HB⟩ := hrel
    cases gk with
    | zero => exact absurd HA.out (by simp [impl_areBins.l0])
    | succ k1 =>
      have H := HA.out
      clear HA
      simp only [impl_areBins.l0] at H
      by_cases c2 : x7_1 < (l0.length : Int)
      · rw [if_pos c2] at H
        have c2b0 : decide (x7_1 < (l0.length : Int)) = true := decide_eq_true c2
        clear c2
        by_cases c3 : 0 ≤ x7_1
        · rw [if_pos c3] at H
          have c3b0 : decide (0 ≤ x7_1) = true := decide_eq_true c3
          clear c3
          by_cases c4 : x7_1 < (l0.length : Int)
          · rw [if_pos c4] at H
            have c4b0 : decide (x7_1 < (l0.length : Int)) = true := decide_eq_true c4
            clear c4
            replace H := Option.bind_eq_some_iff.mp H
            obtain ⟨t104, A50, H⟩ := H
            replace H : (if t104 = true then ((impl_within.f ((rd_T31 l0 x7_1).f1) 0 1).bind fun t105 => (if t105 = true then (impl_areBins.l0 k1 l0 l0 (l0.length : Int) (wrap64 (x7_1 + 1))) else (some false))) else (some false)) = some r := H
            have A5 := Aside0.mk A50
            clear A50
            by_cases c6 : t104 = true
            · subst c6
              have H1 : ((impl_within.f ((rd_T31 l0 x7_1).f1) 0 1).bind fun t105 => (if t105 = true then (impl_areBins.l0 k1 l0 l0 (l0.length : Int) (wrap64 (x7_1 + 1))) else (some false))) = some r := by rw [if_pos rfl] at H; exact H
              clear H
              have H := H1
              clear H1
              replace H := Option.bind_eq_some_iff.mp H
              obtain ⟨t105, A70, H⟩ := H
              replace H : (if t105 = true then (impl_areBins.l0 k1 l0 l0 (l0.length : Int) (wrap64 (x7_1 + 1))) else (some false)) = some r := H
              have A7 := Aside0.mk A70
              clear A70
              by_cases c8 : t105 = true
              · subst c8
                have H1 : (impl_areBins.l0 k1 l0 l0 (l0.length : Int) (wrap64 (x7_1 + 1))) = some r := by rw [if_pos rfl] at H; exact H
                clear H
                have H := H1
                clear H1
                have H' := Aside0.mk H
                clear H
                have p102 : 0 ≤ (x7_1 : Int) := of_decide_eq_true (by first | (with_reducible assumption) | assumption)
                have q102 : x7_1 < (l0.length : Int) := of_decide_eq_true (by first | (with_reducible assumption) | assumption)
                obtain ⟨ad102, e102, hx102_0, hx102_1⟩ := at_T31 HR0.out x7_1 p102 q102
                cases e102
                replace hx102_0 := (HB.out.cell (World.block_lt_of_cell? w _ hx102_0)).trans hx102_0
                replace hx102_1 := (HB.out.cell (World.block_lt_of_cell? w _ hx102_1)).trans hx102_1
                replace p102 := eq_true p102
                replace q102 := eq_true q102
                go_wp2_with (first | ((with_reducible refine gate_dst (N := 4) rfl ?_); refine box_event ?hg (N := 4) ?hd (cs := #[.int .i64 0, .int .i64 0]) (t := 31) ?hr ?_; (case hd => rfl); (case hg => rfl); (case hr => first | (go_simp; done) | (go_simp; rfl)); intro gb103 hg w9 hbox hb; have n0_ := Aside0.mk (below_step (by repeat (first | (with_reducible first | exact HB.out | apply below_alloc | apply pw_below_drewN | apply below_drew1) | exact HB.out)) hb); have n1_ := Aside0.mk (hbox); have n2_ := Aside0.mk ((by rw [hg]; exact (below_size (by repeat (first | (with_reducible first | exact HB.out | apply below_alloc | apply pw_below_drewN | apply below_drew1) | exact HB.out))) : w.heap.size ≤ gb103)); have n3_ := Aside0.mk ((by rw [hg]; exact (below_size (by repeat (first | (with_reducible first | exact HB.out | apply below_alloc | apply pw_below_drewN | apply below_drew1) | exact HB.out))) : w.heap.size ≤ gb103)); clear HB; have HB := n0_; have BK103 := n1_; have GW103 := n2_; have GE103 := n3_; clear n0_ n1_ n2_ n3_; clear hb hbox hg; have hcz10_0 : w9.cell? ⟨gb103, 0, none⟩ = some (.int .i64 0) := (blk_cell BK103.out 0).trans rfl; have hcz10_1 : w9.cell? ⟨gb103, 1, none⟩ = some (.int .i64 0) := (blk_cell BK103.out 1).trans rfl; have hfz10_0 := blk_frozen BK103.out 0; have hfz10_1 := blk_frozen BK103.out 1) | ((with_reducible refine gate_callee (f := 75) rfl ?_); refine goesL_ (some 13) rfl rfl Try.func75 (by kernel_rfl) rfl #[.int .i64 ((rd_T31 l0 x7_1).f0), .int .i64 0, .int .i64 399] rfl (by (try simp only [List.map_toArray, List.map_cons, List.map_nil]); first | done | rfl | (simp only [List.length_drop, List.length_take]; rfl)) ?_; (with_reducible refine (impl_within.calls ((rd_T31 l0 x7_1).f0) 0 399 true _ A5.out).mono ?_); rintro e w' ⟨rfl, ⟨nd, rfl⟩⟩; refine ⟨_, rfl, ?_⟩) | (go_at_call 75; (with_reducible refine (impl_within.calls ((rd_T31 l0 x7_1).f1) 0 1 true _ A7.out).mono ?_); rintro e w' ⟨rfl, ⟨nd, rfl⟩⟩))
                go_roundg k1
                case measure => have := HK1.out; omega
                case rel => exact ⟨(wrap64 (x7_1 + 1)), (by first | rfl | (simp; done) | (simp [*]; done)), H', ⟨by have := HK1.out; omega⟩, ⟨by repeat (first | (with_reducible first | exact HB.out | apply below_alloc | apply pw_below_drewN | apply below_drew1 | refine below_set ?_ GE103.out) | exact HB.out)⟩⟩
              · replace c8 := Bool.eq_false_iff.mpr c8
                subst c8
                have H1 : (some false) = some r := by rw [if_neg (show ¬ (false = true) by decide)] at H; exact H
                clear H
                have H := H1
                clear H1
                obtain rfl := Option.some.inj H
                have p102 : 0 ≤ (x7_1 : Int) := of_decide_eq_true (by first | (with_reducible assumption) | assumption)
                have q102 : x7_1 < (l0.length : Int) := of_decide_eq_true (by first | (with_reducible assumption) | assumption)
                obtain ⟨ad102, e102, hx102_0, hx102_1⟩ := at_T31 HR0.out x7_1 p102 q102
                cases e102
                replace hx102_0 := (HB.out.cell (World.block_lt_of_cell? w _ hx102_0)).trans hx102_0
                replace hx102_1 := (HB.out.cell (World.block_lt_of_cell? w _ hx102_1)).trans hx102_1
                replace p102 := eq_true p102
                replace q102 := eq_true q102
                go_wp2_with (first | ((with_reducible refine gate_dst (N := 4) rfl ?_); refine box_event ?hg (N := 4) ?hd (cs := #[.int .i64 0, .int .i64 0]) (t := 31) ?hr ?_; (case hd => rfl); (case hg => rfl); (case hr => first | (go_simp; done) | (go_simp; rfl)); intro gb103 hg w11 hbox hb; have n0_ := Aside0.mk (below_step (by repeat (first | (with_reducible first | exact HB.out | apply below_alloc | apply pw_below_drewN | apply below_drew1) | exact HB.out)) hb); have n1_ := Aside0.mk (hbox); have n2_ := Aside0.mk ((by rw [hg]; exact (below_size (by repeat (first | (with_reducible first | exact HB.out | apply below_alloc | apply pw_below_drewN | apply below_drew1) | exact HB.out))) : w.heap.size ≤ gb103)); have n3_ := Aside0.mk ((by rw [hg]; exact (below_size (by repeat (first | (with_reducible first | exact HB.out | apply below_alloc | apply pw_below_drewN | apply below_drew1) | exact HB.out))) : w.heap.size ≤ gb103)); clear HB; have HB := n0_; have BK103 := n1_; have GW103 := n2_; have GE103 := n3_; clear n0_ n1_ n2_ n3_; clear hb hbox hg; have hcz12_0 : w11.cell? ⟨gb103, 0, none⟩ = some (.int .i64 0) := (blk_cell BK103.out 0).trans rfl; have hcz12_1 : w11.cell? ⟨gb103, 1, none⟩ = some (.int .i64 0) := (blk_cell BK103.out 1).trans rfl; have hfz12_0 := blk_frozen BK103.out 0; have hfz12_1 := blk_frozen BK103.out 1) | ((with_reducible refine gate_callee (f := 75) rfl ?_); refine goesL_ (some 13) rfl rfl Try.func75 (by kernel_rfl) rfl #[.int .i64 ((rd_T31 l0 x7_1).f0), .int .i64 0, .int .i64 399] rfl (by (try simp only [List.map_toArray, List.map_cons, List.map_nil]); first | done | rfl | (simp only [List.length_drop, List.length_take]; rfl)) ?_; (with_reducible refine (impl_within.calls ((rd_T31 l0 x7_1).f0) 0 399 true _ A5.out).mono ?_); rintro e w' ⟨rfl, ⟨nd, rfl⟩⟩; refine ⟨_, rfl, ?_⟩) | (go_at_call 75; (with_reducible refine (impl_within.calls ((rd_T31 l0 x7_1).f1) 0 1 false _ A7.out).mono ?_); rintro e w' ⟨rfl, ⟨nd, rfl⟩⟩))
                go_ret
                exact ⟨by first | rfl | (simp [errW_none, errW_some] <;> rfl) | (simp [*, errW_none, errW_some] <;> rfl), by repeat (first | (with_reducible first | exact HB.out | apply below_alloc | apply pw_below_drewN | apply below_drew1 | refine below_set ?_ GE103.out) | exact HB.out)⟩
            · replace c6 := Bool.eq_false_iff.mpr c6
              subst c6
              have H1 : (some false) = some r := by rw [if_neg (show ¬ (false = true) by decide)] at H; exact H
              clear H
              have H := H1
              clear H1
              obtain rfl := Option.some.inj H
              have p102 : 0 ≤ (x7_1 : Int) := of_decide_eq_true (by first | (with_reducible assumption) | assumption)
              have q102 : x7_1 < (l0.length : Int) := of_decide_eq_true (by first | (with_reducible assumption) | assumption)
              obtain ⟨ad102, e102, hx102_0, hx102_1⟩ := at_T31 HR0.out x7_1 p102 q102
              cases e102
              replace hx102_0 := (HB.out.cell (World.block_lt_of_cell? w _ hx102_0)).trans hx102_0
              replace hx102_1 := (HB.out.cell (World.block_lt_of_cell? w _ hx102_1)).trans hx102_1
              replace p102 := eq_true p102
              replace q102 := eq_true q102
              go_wp2_with (first | ((with_reducible refine gate_dst (N := 4) rfl ?_); refine box_event ?hg (N := 4) ?hd (cs := #[.int .i64 0, .int .i64 0]) (t := 31) ?hr ?_; (case hd => rfl); (case hg => rfl); (case hr => first | (go_simp; done) | (go_simp; rfl)); intro gb103 hg w13 hbox hb; have n0_ := Aside0.mk (below_step (by repeat (first | (with_reducible first | exact HB.out | apply below_alloc | apply pw_below_drewN | apply below_drew1) | exact HB.out)) hb); have n1_ := Aside0.mk (hbox); have n2_ := Aside0.mk ((by rw [hg]; exact (below_size (by repeat (first | (with_reducible first | exact HB.out | apply below_alloc | apply pw_below_drewN | apply below_drew1) | exact HB.out))) : w.heap.size ≤ gb103)); have n3_ := Aside0.mk ((by rw [hg]; exact (below_size (by repeat (first | (with_reducible first | exact HB.out | apply below_alloc | apply pw_below_drewN | apply below_drew1) | exact HB.out))) : w.heap.size ≤ gb103)); clear HB; have HB := n0_; have BK103 := n1_; have GW103 := n2_; have GE103 := n3_; clear n0_ n1_ n2_ n3_; clear hb hbox hg; have hcz14_0 : w13.cell? ⟨gb103, 0, none⟩ = some (.int .i64 0) := (blk_cell BK103.out 0).trans rfl; have hcz14_1 : w13.cell? ⟨gb103, 1, none⟩ = some (.int .i64 0) := (blk_cell BK103.out 1).trans rfl; have hfz14_0 := blk_frozen BK103.out 0; have hfz14_1 := blk_frozen BK103.out 1) | ((with_reducible refine gate_callee (f := 75) rfl ?_); refine goesL_ (some 13) rfl rfl Try.func75 (by kernel_rfl) rfl #[.int .i64 ((rd_T31 l0 x7_1).f0), .int .i64 0, .int .i64 399] rfl (by (try simp only [List.map_toArray, List.map_cons, List.map_nil]); first | done | rfl | (simp only [List.length_drop, List.length_take]; rfl)) ?_; (with_reducible refine (impl_within.calls ((rd_T31 l0 x7_1).f0) 0 399 false _ A5.out).mono ?_); rintro e w' ⟨rfl, ⟨nd, rfl⟩⟩; refine ⟨_, rfl, ?_⟩))
              go_ret
              exact ⟨by first | rfl | (simp [errW_none, errW_some] <;> rfl) | (simp [*, errW_none, errW_some] <;> rfl), by repeat (first | (with_reducible first | exact HB.out | apply below_alloc | apply pw_below_drewN | apply below_drew1 | refine below_set ?_ GE103.out) | exact HB.out)⟩
          · rw [if_neg c4] at H
            exact absurd H (by simp)
        · rw [if_neg c3] at H
          exact absurd H (by simp)
      · rw [if_neg c2] at H
        have c2b0 : decide (x7_1 < (l0.length : Int)) = false := decide_eq_false c2
        clear c2
        obtain rfl := Option.some.inj H
        go_wp2
        go_ret
        exact ⟨by first | rfl | (simp [errW_none, errW_some] <;> rfl) | (simp [*, errW_none, errW_some] <;> rfl), by repeat (first | (with_reducible first | exact HB.out | apply below_alloc | apply pw_below_drewN | apply below_drew1) | exact HB.out)⟩

def binB (x : S31) : Bool := inR x.f0 0 399 && inR x.f1 0 1
def binsB (l : List S31) : Bool := l.all binB && decide ((l.length : Int) ≤ 200000)
theorem areBins_l0 (l : List S31) (hl : l.length ≤ 4611686018427387904) : ∀ (d i : Nat), i + d = l.length → Ev (fun k => impl_areBins.l0 k l l (l.length : Int) i) ((l.drop i).all binB && decide ((l.length : Int) ≤ 200000)) := by
  intro d
  induction d with
  | zero =>
    intro i hi
    refine Ev.step (fun k => by rw [impl_areBins.l0]) ?_
    refine evNeg (by omega) ?_
    rw [List.drop_eq_nil_of_le (by omega)]
    exact Ev.now _
  | succ d ih =>
    intro i hi
    have h1 : i < l.length := by omega
    refine Ev.step (fun k => by rw [impl_areBins.l0]) ?_
    refine evPos (by omega) (evPos (by omega) (evPos (by omega) ?_))
    rw [List.drop_eq_getElem_cons h1, List.all_cons, show rd_T31 l (i : Int) = l[i] from by simp [rd_T31, List.getD, h1]]
    refine evBind (evConst (within_f _ _ _)) (evIf (fun h2 => ?_) (fun h2 => ?_))
    · refine evBind (evConst (within_f _ _ _)) (evIf (fun h3 => ?_) (fun h3 => ?_))
      · have e : binB l[i] = true := by unfold binB; rw [h2, h3]; rfl
        rw [e, Bool.true_and, show (i : Int) + 1 = ((i + 1 : Nat) : Int) from by omega, w64 (by omega) (by omega)]
        exact ih (i + 1) (by omega)
      · have e : binB l[i] = false := by unfold binB; rw [Bool.eq_false_iff.2 h3, Bool.and_false]
        rw [e, Bool.false_and, Bool.false_and]
        exact Ev.now _
    · have e : binB l[i] = false := by unfold binB; rw [Bool.eq_false_iff.2 h2, Bool.false_and]
      rw [e, Bool.false_and, Bool.false_and]
      exact Ev.now _
theorem areBins_f (l : List S31) (hl : l.length ≤ 4611686018427387904) : Ev (fun k => impl_areBins.f k l) (binsB l) := by
  have := areBins_l0 l hl l.length 0 (by omega)
  simpa [impl_areBins.f, binsB] using this
theorem binsB_len {l : List S31} (h : binsB l = true) : l.length ≤ 200000 := by
  simp only [binsB, Bool.and_eq_true, decide_eq_true_eq] at h
  omega

/-! ### impl_likelihoods_learn: function 106 (by hand) -/
/-- The likelihoods of the contexts, in an array at block p. -/
def LikAt (W : World) (p : Nat) (lik : List Int) : Prop := W.heap[p]? = some (.cells (nums .i64 lik).toArray 126 (0, 0))
theorem lik_cell {W : World} {p : Nat} {lik : List Int} (h : LikAt W p lik) (i : Nat) (hi : i < lik.length) : W.cell? ⟨p, i, none⟩ = some (.int .i64 (rd lik i)) := by
  rw [blk_cell h i, rd_nat hi]
  simp [nums, hi]
theorem lik_set {W : World} {p : Nat} {lik : List Int} (h : LikAt W p lik) (i : Nat) (x : Int) : LikAt (W.setCell ⟨p, i, none⟩ (.int .i64 x)) p (lik.set i x) := by
  unfold LikAt
  rw [blk_set h i]
  simp [nums, List.map_set]
set_option maxHeartbeats 4000000 in
set_option maxRecDepth 100000 in
theorem iLearn_calls (p : Nat) (lik : List Int) (ctx : Nat) (bit : Int) (w : World) (h : LikAt w p lik) (hl : LikOk lik) (hc : ctx < 400) :
    Calls Try.prog 106 #[.pointer (some ⟨p, 0, none⟩), .int .i64 ctx, .int .i64 bit] w fun e w' => e = .returned (.tuple #[]) ∧ ∃ n, w' = (w.setCell ⟨p, ctx, none⟩ (.int .i64 (learnP (rd lik ctx) bit))).drewN n := by
  have hx := lik_cell h ctx (by rw [hl.1]; exact hc)
  have hf := blk_frozen h ctx
  have hr := lik_rd hl (c := (ctx : Int)) (by omega) (by omega)
  generalize rd lik (ctx : Int) = x at hx hr ⊢
  clear h
  have hlt : (ctx : Int) < 400 := by omega
  obtain ⟨hr0, hr1⟩ := hr
  by_cases hb : bit = 0
  · subst hb
    have HE := Aside0.mk (show learnP x 0 = x + (4096 - x) / 32 from rfl)
    rw [HE.out]
    clear HE
    go_enter Try.func106, Try.ntmps106
    go_wp2
    go_region
    go_end0
    exact ⟨rfl, 1, rfl⟩
  · have hb0 : (bit == 0) = false := beq_eq_false_iff_ne.mpr hb
    have HE := Aside0.mk (show learnP x bit = x - x / 32 from by unfold learnP; rw [if_neg hb])
    rw [HE.out]
    clear HE hb
    go_enter Try.func106, Try.ntmps106
    go_wp2
    go_region
    go_end0
    exact ⟨rfl, 1, rfl⟩

/-! ### impl_newLikelihoods: function 98 (by hand) -/
def likK (k : Nat) : List Int := List.replicate k 2048 ++ List.replicate (400 - k) 0
theorem likK_length {k : Nat} (h : k ≤ 400) : (likK k).length = 400 := by simp only [likK, List.length_append, List.length_replicate]; omega
theorem likK_all : likK 400 = likL := by
  unfold likK likL
  rw [Nat.sub_self, List.replicate_zero, List.append_nil]
theorem likK_set {k : Nat} (h : k < 400) : (likK k).set k 2048 = likK (k + 1) := by
  unfold likK
  rw [List.set_append_right _ _ (by rw [List.length_replicate]; exact Nat.le_refl _), List.length_replicate, Nat.sub_self, show 400 - k = (400 - (k + 1)) + 1 from by omega, List.replicate_succ (n := 400 - (k + 1)), List.set_cons_zero, List.replicate_succ' (n := k), List.append_assoc]
  rfl
theorem lik_zero (w : World) : LikAt (w.alloc (.cells Try.zeroCells126 126)) w.heap.size (likK 0) := by
  unfold LikAt
  rw [blk_new]
  exact congrArg (fun c => some (Obj.cells c 126 (0, 0))) (by kernel_rfl)
set_option maxHeartbeats 4000000 in
set_option maxRecDepth 100000 in
theorem iNewLik_calls (w : World) : Calls Try.prog 98 #[] w fun e w' => ∃ p, e = .returned (.pointer (some ⟨p, 0, none⟩)) ∧ LikAt w' p likL ∧ w.heap.size ≤ p ∧ Below w.heap.size w w' := by
  have HL := Aside0.mk (lik_zero w)
  have HB := Aside0.mk (below_alloc (Below.refl w.heap.size w) (.cells Try.zeroCells126 126))
  go_enter Try.func98, Try.ntmps98
  go_wp2
  go_loopg [5] 400 (fun kq v5 w' => ∃ (k : Nat), v5 = .int .i64 (k : Int) ∧ Aside0 (k + kq = 400) ∧ Aside0 (LikAt w' w.heap.size (likK k)) ∧ Aside0 (Below w.heap.size w w'))
  case atStart => exact ⟨0, rfl, ⟨rfl⟩, HL, HB⟩
  case round =>
    clear HL HB
    obtain ⟨k, rfl, HK, HL, HB⟩ := hrel
    by_cases hk : k < 400
    · have hx := lik_cell HL.out k (by rw [likK_length (by omega)]; exact hk)
      have hf := blk_frozen HL.out k
      have hk2 : (k : Int) < 400 := by omega
      go_wp2
      go_roundg (400 - (k + 1))
      case measure => have := HK.out; omega
      case rel =>
        refine ⟨k + 1, by simp, ⟨by omega⟩, ⟨?_⟩, ⟨HB.out.setCell (Nat.le_refl _) _⟩⟩
        have := lik_set HL.out k 2048
        rw [likK_set hk] at this
        exact this
    · have hk2 : ¬ (k : Int) < 400 := by omega
      have e := HK.out
      obtain rfl : k = 400 := by omega
      clear e
      go_wp2
      go_ret
      exact ⟨_, rfl, by rw [← likK_all]; exact HL.out, Nat.le_refl _, HB.out⟩

/-! ### impl_encoder_lay: function 100 (by hand) -/
/-- The writer of bits, at block b; its likelihoods at block p. -/
def EncCells (p : Nat) (low width : Int) (v : Value) : Array Value := #[.pointer (some ⟨p, 0, none⟩), .int .i64 low, .int .i64 width, v]
def EncAt (W : World) (B b p : Nat) (s : Enc) : Prop :=
  LikAt W p s.lik ∧ (B ≤ p ∧ B ≤ b) ∧ ∃ v, W.heap[b]? = some (.cells #[.pointer (some ⟨p, 0, none⟩), .int .i64 s.low, .int .i64 s.width, v] 102 (0, 0)) ∧ Kd.R (Kd.int .u8) 5 W B (fun _ => True) v s.out
theorem enc_put {W : World} {B b p : Nat} {lik : List Int} {low width : Int} {v v1 : Value} {out : List Int} (G : W.heap[b]? = some (.cells #[.pointer (some ⟨p, 0, none⟩), .int .i64 low, .int .i64 width, v] 102 (0, 0)))
    (L : LikAt W p lik) (hB : B ≤ p ∧ B ≤ b) (ho : Kd.R (Kd.int .u8) 5 W B (fun _ => True) v1 out) : EncAt (W.setCell ⟨b, 3, none⟩ v1) B b p ⟨lik, low, width, out⟩ := by
  refine ⟨blk_far L (blk_ne L G (by decide)) v1, hB, v1, ?_, Kd.R_set ho G (by decide) 3 v1⟩
  rw [blk_set G 3]
  rfl
theorem enc_low {W : World} {B b p : Nat} {s : Enc} (h : EncAt W B b p s) (x : Int) : EncAt (W.setCell ⟨b, 1, none⟩ (.int .i64 x)) B b p ⟨s.lik, x, s.width, s.out⟩ := by
  obtain ⟨L, hB, v, G, ho⟩ := h
  refine ⟨blk_far L (blk_ne L G (by decide)) _, hB, v, ?_, Kd.R_set ho G (by decide) 1 _⟩
  rw [blk_set G 1]
  rfl
theorem enc_width {W : World} {B b p : Nat} {s : Enc} (h : EncAt W B b p s) (x : Int) : EncAt (W.setCell ⟨b, 2, none⟩ (.int .i64 x)) B b p ⟨s.lik, s.low, x, s.out⟩ := by
  obtain ⟨L, hB, v, G, ho⟩ := h
  refine ⟨blk_far L (blk_ne L G (by decide)) _, hB, v, ?_, Kd.R_set ho G (by decide) 2 _⟩
  rw [blk_set G 2]
  rfl
theorem enc_drew {W : World} {B b p : Nat} {s : Enc} (h : EncAt W B b p s) : EncAt W.drew B b p s := h
theorem enc_drewN {W : World} {B b p : Nat} {s : Enc} (h : EncAt W B b p s) (n : Nat) : EncAt (W.drewN n) B b p s := h
theorem enc_lik {W : World} {B b p : Nat} {s : Enc} (h : EncAt W B b p s) (i : Nat) (x : Int) : EncAt (W.setCell ⟨p, i, none⟩ (.int .i64 x)) B b p ⟨s.lik.set i x, s.low, s.width, s.out⟩ := by
  obtain ⟨L, hB, v, G, ho⟩ := h
  exact ⟨lik_set L i x, hB, v, blk_far G (fun e => blk_ne L G (by decide) e.symm) _, Kd.R_set ho L (by decide) i _⟩
theorem enc_lt {W : World} {B b p : Nat} {s : Enc} (h : EncAt W B b p s) : B ≤ W.heap.size := by
  obtain ⟨L, hB, v, G, ho⟩ := h
  have := blk_lt G
  omega
set_option maxHeartbeats 4000000 in
set_option maxRecDepth 100000 in
theorem iLay_calls (B b p : Nat) (lik : List Int) (low width : Int) (out : List Int) (n : Int) (w : World) (h : EncAt w B b p ⟨lik, low, width, out⟩) (ho : BytesOk out) (h0 : 0 ≤ n) (h1 : n < 512) (hl : out.length ≤ 100000000) :
    Calls Try.prog 100 #[.pointer (some ⟨b, 0, none⟩), .int .i64 n] w fun e w' => e = .returned (.tuple #[]) ∧ EncAt w' B b p ⟨lik, low, width, layL out n⟩ ∧ Below B w w' := by
  have HS := Aside0.mk (enc_lt h)
  obtain ⟨L, hP, v, G, hR⟩ := h
  have HL := Aside0.mk L
  have HP := Aside0.mk hP
  have HG := Aside0.mk G
  have HO := Aside0.mk hR
  have HN := Aside0.mk hl
  have HB := Aside0.mk (Below.refl B w)
  have hc3 : w.cell? ⟨b, 3, none⟩ = some v := (blk_cell G 3).trans rfl
  have hf3 := blk_frozen G 3
  clear L hP G hR hl
  by_cases hn : 256 ≤ n
  · have HE := Aside0.mk (show layL out n = carryL out ++ [n % 256] from by unfold layL; rw [if_pos hn])
    rw [HE.out]
    clear HE
    obtain ⟨A, c, rfl, hle, hC⟩ := Kd.R_reads HO.out
    clear hle hC
    have hlen : out.length ≤ 100000000 := HN.out
    go_enter Try.func100, Try.ntmps100
    go_wp2
    go_loopg [4] out.length (fun kq v4 w' => ∃ (j : Nat) (i : Int), v4 = .int .i64 i ∧ Aside0 (i = (j : Int) - 1 ∧ j = kq ∧ j ≤ out.length ∧ Full out j) ∧ Aside0 (Kd.R (Kd.int .u8) 5 w' B (fun _ => True) (.slice A out.length c) (zeroed out j)) ∧ Aside0 (w'.heap[b]? = some (.cells #[.pointer (some ⟨p, 0, none⟩), .int .i64 low, .int .i64 width, .slice A out.length c] 102 (0, 0))) ∧ Aside0 (LikAt w' p lik) ∧ Aside0 (Below B w w'))
    case atStart => exact ⟨out.length, _, rfl, ⟨rfl, rfl, Nat.le_refl _, (full_all out).1⟩, ⟨by rw [(full_all out).2]; exact HO.out⟩, HG, HL, HB⟩
    case round =>
      clear HO HG HL HB hc3 hf3 HS
      obtain ⟨j, i, rfl, HJ, HO, HG, HL, HB⟩ := hrel
      obtain ⟨ji, jk, jl, jf⟩ := HJ.out
      have HS := Aside0.mk (show B ≤ wr.heap.size from by have := blk_lt HG.out; have := HP.out; omega)
      have hc3 : wr.cell? ⟨b, 3, none⟩ = some (.slice A out.length c) := (blk_cell HG.out 3).trans rfl
      have hf3 := blk_frozen HG.out 3
      have JF := Aside0.mk jf
      have JI := Aside0.mk ji
      clear HJ jf
      cases j with
      | zero =>
        have hi : i < 0 := by omega
        have HQ := Aside0.mk (full_none JF.out)
        clear ji jk
        have HN := Aside0.mk (show (zeroed out 0).length ≤ 100000000 from by rw [zeroed_length (by omega)]; exact hlen)
        go_wp2_with (first
              | ((with_reducible refine gate_builtin (b := .append) (xs := #[.tmp 38, .tmp 41]) rfl ?_); at_builtin; refine Kd.R_append (Kd.int .u8) (w0 := w) B rfl (.tmp 38) (.tmp 41) 27 5 (.int .u8 0) 1 rfl Try.underlying27 info5 rfl (by decide) (by omega) (.slice A out.length c) (zeroed out 0) (n % 256) [.int .u8 (n % 256)] (fun _ => True) (fun _ => False) rfl rfl ?aP (fun _ hk => hk.elim) ?aF ?aO ?aB ?aS ?aL ?_; (case aP => exact rfl); (case aF => exact (fun _ _ => trivial)); (case aO => exact HO.out); (case aB => exact HB.out); (case aS => exact HS.out); (case aL => have := HN.out; omega); intro v1 w1 ho hb hg hat; obtain ⟨g1, c1, rfl, -⟩ := Kd.R_form ho (by simp); have G1 := blk_grown HG.out hg (Kd.R_ne HO.out HG.out (by decide)); have L1 := blk_grown HL.out hg (Kd.R_ne HO.out HL.out (by decide)); have k3 : w1.cell? ⟨b, 3, none⟩ = some (.slice A out.length c) := (blk_cell G1 3).trans rfl; have f3 := blk_frozen G1 3; have HF := Aside0.mk (enc_put G1 L1 HP.out ho); have HB1 := Aside0.mk (show Below B w (w1.setCell ⟨b, 3, none⟩ _) from hb.setCell HP.out.2 (.slice (some ⟨g1, 0, none⟩) (zeroed out 0 ++ [n % 256]).length c1)); clear hb hg hat ho G1 L1))
        go_end0
        exact ⟨rfl, by rw [HQ.out]; have := HF.out; simp only [List.length_append, List.length_cons, List.length_nil, Nat.zero_add] at this; exact this, by have := HB1.out; simp only [List.length_append, List.length_cons, List.length_nil, Nat.zero_add] at this; exact this⟩
      | succ j =>
        have hi : 0 ≤ i := by omega
        have hi2 : i < (out.length : Int) := by omega
        have HI := Aside0.mk (show i.toNat = j from by omega)
        have JK := Aside0.mk jk
        clear ji jk
        obtain ⟨g, c', e, hg0, hg1, cells, hcells⟩ := Kd.R_form HO.out (by rw [zeroed_length jl]; omega)
        injection e with e1 e2 e3
        subst e1
        clear e2 e3
        have GB := Aside0.mk hg0
        have GT := Aside0.mk hcells
        clear hg0 hg1 hcells
        obtain ⟨hx, hfx⟩ := Kd.R_celln 0 HO.out i hi hi2
        have HX := Aside0.mk (show rdOf 0 (zeroed out (j + 1)) i = rd out (j : Int) from by have e := JI.out; rw [show i = (j : Int) from by omega]; exact zeroed_rd jl)
        rw [HX.out] at hx
        clear HX
        have hr := rd_range0 (l := out) (lo := 0) (hi := 255) ho (by omega) (by omega) (j : Int)
        have JX := Aside0.mk (show ∀ y, y = rd out (j : Int) → y = rd out (j : Int) from fun _ h => h)
        by_cases h255 : rd out (j : Int) = 255
        · rw [h255] at hx
          have HPt := Aside0.mk (Kd.R_putg HO.out i 0).1
          have HFN := Aside0.mk (full_next jl JF.out h255)
          have hc4 : (wr.setCell ⟨g, i.toNat, none⟩ (.int .u8 0)).cell? ⟨b, 3, none⟩ = some (.slice (some ⟨g, 0, none⟩) out.length c) := (blk_cell (blk_far HG.out (blk_ne HG.out GT.out (by decide)) _) 3).trans rfl
          go_wp2
          go_roundg j
          case measure => have := JK.out; omega
          case rel =>
            refine ⟨j, _, rfl, ⟨by have := JI.out; omega, rfl, by omega, HFN.out.1⟩, ⟨?_⟩, ⟨blk_far HG.out (blk_ne HG.out GT.out (by decide)) _⟩, ⟨blk_far HL.out (blk_ne HL.out GT.out (by decide)) _⟩, ⟨HB.out.setCell GB.out _⟩⟩
            have e := HFN.out.2
            have := HPt.out
            rw [HI.out] at this ⊢
            rw [e] at this
            exact this
        · obtain ⟨y, HY⟩ : ∃ y, Aside0 (y = rd out (j : Int)) := ⟨_, ⟨rfl⟩⟩
          rw [← HY.out] at hx hr h255
          have hy0 : 0 ≤ y := hr.1
          have hy1 : y ≤ 254 := by omega
          have hy2 : (y + 1 != 0) = true := by simp; omega
          have HPt := Aside0.mk (Kd.R_putg HO.out i (y + 1)).1
          have HFS := Aside0.mk (show (zeroed out (j + 1)).set i.toNat (y + 1) = carryL out from by rw [HI.out, HY.out]; exact full_stop jl JF.out (by rw [← HY.out]; exact h255))
          have HG2 := Aside0.mk (blk_far HG.out (blk_ne HG.out GT.out (by decide)) (.int .u8 (y + 1)) (p := ⟨g, i.toNat, none⟩))
          have HL2 := Aside0.mk (show LikAt (wr.setCell ⟨g, i.toNat, none⟩ (.int .u8 (y + 1))) p lik from blk_far HL.out (blk_ne HL.out GT.out (by decide)) _)
          have HB2 := Aside0.mk (show Below B w (wr.setCell ⟨g, i.toNat, none⟩ (.int .u8 (y + 1))) from HB.out.setCell GB.out _)
          have HN := Aside0.mk (show ((zeroed out (j + 1)).set i.toNat (y + 1)).length ≤ 100000000 from by rw [List.length_set, zeroed_length jl]; exact hlen)
          have HS := Aside0.mk (show B ≤ (wr.setCell ⟨g, i.toNat, none⟩ (.int .u8 (y + 1))).heap.size from by rw [World.size_setCell]; exact HS.out)
          have hc4 : (wr.setCell ⟨g, i.toNat, none⟩ (.int .u8 (y + 1))).cell? ⟨b, 3, none⟩ = some (.slice (some ⟨g, 0, none⟩) out.length c) := (blk_cell HG2.out 3).trans rfl
          have hx4 : (wr.setCell ⟨g, i.toNat, none⟩ (.int .u8 (y + 1))).cell? ⟨g, i.toNat, none⟩ = some (.int .u8 (y + 1)) := by first | exact World.cell?_setCell_same _ _ _ hx | exact World.cell?_setCell_same' _ _ _ (by rw [hx]; rfl)
          obtain ⟨W, HW⟩ : ∃ W, Aside0 (W = wr.setCell ⟨g, i.toNat, none⟩ (.int .u8 (y + 1))) := ⟨_, ⟨rfl⟩⟩
          rw [← HW.out] at HPt HG2 HL2 HB2 HS hc4 hx4
          clear HO HG HL HB h255 hr
          have HO := HPt
          have HG := HG2
          have HL := HL2
          have HB := HB2
          clear HPt HG2 HL2 HB2
          go_wp2_with (first
            | ((with_reducible refine gate_store (t := 5) (p := 25) rfl ?_); refine store_event (t := 5) (p := 25) (v := ?vo_1) (w1 := (wr.setCell ⟨g, i.toNat, none⟩ (.int .u8 (y + 1)))) ?hg ?ho ?hn ?hr ?_; (case ho => rfl); (case hg => rfl); (case hn => rfl); (case hr => first | (go_simp; done) | (go_simp; rfl)); intro w11 hw; rw [← HW.out] at hw; subst hw)
            | ((with_reducible refine gate_builtin (b := .append) (xs := #[.tmp 38, .tmp 41]) rfl ?_); at_builtin; refine Kd.R_append (Kd.int .u8) (w0 := w) B rfl (.tmp 38) (.tmp 41) 27 5 (.int .u8 0) 1 rfl Try.underlying27 info5 rfl (by decide) (by omega) (.slice (some ⟨g, 0, none⟩) out.length c) ((zeroed out (j + 1)).set i.toNat (y + 1)) (n % 256) [.int .u8 (n % 256)] (fun _ => True) (fun _ => False) rfl rfl ?aP (fun _ hk => hk.elim) ?aF ?aO ?aB ?aS ?aL ?_; (case aP => exact rfl); (case aF => exact (fun _ _ => trivial)); (case aO => exact HO.out); (case aB => exact HB.out); (case aS => exact HS.out); (case aL => have := HN.out; omega); intro v1 w1 ho hb hg hat; obtain ⟨g1, c1, rfl, -⟩ := Kd.R_form ho (by simp); have G1 := blk_grown HG.out hg (Kd.R_ne HO.out HG.out (by decide)); have L1 := blk_grown HL.out hg (Kd.R_ne HO.out HL.out (by decide)); have k3 : w1.cell? ⟨b, 3, none⟩ = some (.slice (some ⟨g, 0, none⟩) out.length c) := (blk_cell G1 3).trans rfl; have f3 := blk_frozen G1 3; have HF := Aside0.mk (enc_put G1 L1 HP.out ho); have HB1 := Aside0.mk (show Below B w (w1.setCell ⟨b, 3, none⟩ _) from hb.setCell HP.out.2 (.slice (some ⟨g1, 0, none⟩) ((zeroed out (j + 1)).set i.toNat (y + 1) ++ [n % 256]).length c1)); clear hb hg hat ho G1 L1))
          go_end0
          exact ⟨rfl, by rw [← HFS.out]; have := HF.out; simp only [List.length_append, List.length_set, List.length_cons, List.length_nil, Nat.zero_add] at this; exact this, by have := HB1.out; simp only [List.length_append, List.length_set, List.length_cons, List.length_nil, Nat.zero_add] at this; exact this⟩
  · have hn' : n ≤ 255 := by omega
    have HE := Aside0.mk (show layL out n = out ++ [n] from by unfold layL; rw [if_neg hn, Int.emod_eq_of_lt (by omega) (by omega)])
    rw [HE.out]
    clear HE hn
    go_enter Try.func100, Try.ntmps100
    go_wp2_with (first
      | ((with_reducible refine gate_builtin (b := .append) (xs := #[.tmp 38, .tmp 41]) rfl ?_); at_builtin; refine Kd.R_append (Kd.int .u8) (w0 := w) B rfl (.tmp 38) (.tmp 41) 27 5 (.int .u8 0) 1 rfl Try.underlying27 info5 rfl (by decide) (by omega) v out n [.int .u8 (n)] (fun _ => True) (fun _ => False) rfl rfl ?aP (fun _ hk => hk.elim) ?aF ?aO ?aB ?aS ?aL ?_; (case aP => exact rfl); (case aF => exact (fun _ _ => trivial)); (case aO => exact HO.out); (case aB => exact HB.out); (case aS => exact HS.out); (case aL => have := HN.out; omega); intro v1 w1 ho hb hg hat; obtain ⟨g1, c1, rfl, -⟩ := Kd.R_form ho (by simp); have G1 := blk_grown HG.out hg (Kd.R_ne HO.out HG.out (by decide)); have L1 := blk_grown HL.out hg (Kd.R_ne HO.out HL.out (by decide)); have k3 : w1.cell? ⟨b, 3, none⟩ = some v := (blk_cell G1 3).trans rfl; have f3 := blk_frozen G1 3; have HF := Aside0.mk (enc_put G1 L1 HP.out ho); have HB1 := Aside0.mk (show Below B w (w1.setCell ⟨b, 3, none⟩ _) from hb.setCell HP.out.2 (.slice (some ⟨g1, 0, none⟩) (out ++ [n]).length c1)); clear hb hg hat ho G1 L1))
    go_end0
    exact ⟨rfl, by have := HF.out; simp only [List.length_append, List.length_cons, List.length_nil, Nat.zero_add] at this; exact this, by have := HB1.out; simp only [List.length_append, List.length_cons, List.length_nil, Nat.zero_add] at this; exact this⟩

/-! ### impl_encoder_put: function 99 (by hand) -/
theorem enc_alloc {W : World} {B b p : Nat} {s : Enc} (h : EncAt W B b p s) (o : Obj) : EncAt (W.alloc o) B b p s := by
  obtain ⟨L, hB, v, G, ho⟩ := h
  have hb := below_alloc (Below.refl W.heap.size W) o
  exact ⟨(hb.block p (blk_lt L)).trans L, hB, v, (hb.block b (blk_lt G)).trans G, Kd.R_below ho hb⟩
theorem enc_cells {W : World} {B b p : Nat} {lik : List Int} {low width : Int} {out : List Int} (h : EncAt W B b p ⟨lik, low, width, out⟩) :
    W.cell? ⟨b, 0, none⟩ = some (.pointer (some ⟨p, 0, none⟩)) ∧ W.cell? ⟨b, 1, none⟩ = some (.int .i64 low) ∧ W.cell? ⟨b, 2, none⟩ = some (.int .i64 width) ∧ W.frozen? ⟨b, 1, none⟩ = false ∧ W.frozen? ⟨b, 2, none⟩ = false ∧ b < W.heap.size ∧ p < W.heap.size ∧ b ≠ p := by
  obtain ⟨L, hB, v, G, ho⟩ := h
  exact ⟨(blk_cell G 0).trans rfl, (blk_cell G 1).trans rfl, (blk_cell G 2).trans rfl, blk_frozen G 1, blk_frozen G 2, blk_lt G, blk_lt L, blk_ne G L (by decide)⟩
theorem lik_drew {W : World} {p : Nat} {lik : List Int} (h : LikAt W p lik) : LikAt W.drew p lik := h
theorem enc_lik0 {W : World} {B b p : Nat} {s : Enc} (h : EncAt W B b p s) : LikAt W p s.lik := h.1
set_option maxHeartbeats 4000000 in
set_option maxRecDepth 100000 in
theorem iPut_calls (B b p : Nat) (lik : List Int) (low width : Int) (out : List Int) (ctx : Nat) (bit : Int) (hbit : bit = 0 ∨ bit = 1) (w : World) (h : EncAt w B b p ⟨lik, low, width, out⟩) (hs : EncOk ⟨lik, low, width, out⟩) (hc : ctx < 400) (hl : out.length ≤ 10000000) :
    Calls Try.prog 99 #[.pointer (some ⟨b, 0, none⟩), .agg #[.int .i64 ctx, .int .i64 bit]] w fun e w' => e = .returned (.tuple #[]) ∧ EncAt w' B b p (putE ⟨lik, low, width, out⟩ ctx bit) ∧ Below B w w' := by
  have hlo : 0 ≤ low := hs.low0
  have hsum : low + width ≤ 8589934592 := hs.sum
  have hw0 : 16777216 ≤ width := hs.w0
  have hw1 : width ≤ 4294967295 := hs.w1
  have hlk : LikOk lik := hs.lik
  have hbo : BytesOk out := hs.out
  have hr := lik_rd hlk (c := (ctx : Int)) (by omega) (by omega)
  have hpr := partE_range hlk hw0 (ctx := (ctx : Int)) (by omega) (by omega)
  have HSZ := Aside0.mk (enc_lt h)
  have HE0 := Aside0.mk h
  obtain ⟨L, hP, v, G, hR⟩ := h
  have hcl := lik_cell L ctx (by rw [hlk.1]; exact hc)
  have hb0 : w.cell? ⟨b, 0, none⟩ = some (.pointer (some ⟨p, 0, none⟩)) := (blk_cell G 0).trans rfl
  have hb1 : w.cell? ⟨b, 1, none⟩ = some (.int .i64 low) := (blk_cell G 1).trans rfl
  have hb2 : w.cell? ⟨b, 2, none⟩ = some (.int .i64 width) := (blk_cell G 2).trans rfl
  have hf1 := blk_frozen G 1
  have hf2 := blk_frozen G 2
  obtain ⟨x, HX⟩ : ∃ x, Aside0 (x = rd lik (ctx : Int)) := ⟨_, ⟨rfl⟩⟩
  rw [← HX.out] at hr hcl
  obtain ⟨pt, HPT⟩ : ∃ pt, Aside0 (pt = partE lik width (ctx : Int)) := ⟨_, ⟨rfl⟩⟩
  rw [← HPT.out] at hpr
  have hmul : wrap64 (width / 4096 * x) = pt := by
    have e : width / 4096 * x = pt := by rw [HPT.out, HX.out]; rfl
    rw [e]
    exact w64 (by omega) (by omega)
  have hlt : (ctx : Int) < 400 := by omega
  obtain ⟨hr0, hr1⟩ := hr
  obtain ⟨hp0, hp1⟩ := hpr
  have HL := Aside0.mk L
  have HP := Aside0.mk hP
  have HG := Aside0.mk G
  have HO := Aside0.mk hR
  have HK := Aside0.mk hlk
  have HBO := Aside0.mk hbo
  have HN := Aside0.mk hl
  have hbl := World.block_lt_of_cell? w _ hb0
  have hpl := World.block_lt_of_cell? w _ hcl
  clear L hP G hR hlk hbo hl
  rcases hbit with rfl | rfl
  · go_enter Try.func99, Try.ntmps99
    go_wp2
    go_quiet (fail)
    go_wp2
    obtain ⟨W1, HW1⟩ : ∃ W1, Aside0 (W1 = ((w.alloc (.cells #[.int .i64 ctx, .int .i64 0] 31)).drewN nq).setCell ⟨b, 2, none⟩ (.int .i64 pt)) := ⟨_, ⟨rfl⟩⟩
    have E1 := Aside0.mk (show EncAt W1 B b p ⟨lik, low, pt, out⟩ from by rw [HW1.out]; exact enc_width (enc_drewN (enc_alloc HE0.out _) _) pt)
    have B1 := Aside0.mk (show Below B w W1 from by rw [HW1.out]; exact (pw_below_drewN ((Below.refl B w).alloc HSZ.out _) _).setCell HP.out.2 _)
    have k0 : W1.cell? ⟨w.heap.size, 0, none⟩ = some (.int .i64 ctx) := by rw [HW1.out]; (rw [World.cell?_setCell_other _ _ _ _ (by intro e; injection e with e; omega)]; go_simp)
    have k1 : W1.cell? ⟨w.heap.size, 1, none⟩ = some (.int .i64 0) := by rw [HW1.out]; (rw [World.cell?_setCell_other _ _ _ _ (by intro e; injection e with e; omega)]; go_simp)
    rw [← HW1.out]
    clear HW1 hb1 hb2 hf1 hf2 hb0 hcl
    obtain ⟨hb0, hb1, hb2, hf1, hf2, hbl1, hpl1, hbp⟩ := enc_cells E1.out
    go_still_tail 8, (by kernel_rfl)
    change wpList _ _ _ _ _ W1.drew
    go_wp2_with (go_at_call 106; (with_reducible refine (iLearn_calls p lik ctx 0 _ (lik_drew (enc_lik0 E1.out)) HK.out hc).mono ?_); rintro e w' ⟨rfl, ⟨nl, rfl⟩⟩)
    obtain ⟨W2, HW2⟩ : ∃ W2, Aside0 (W2 = (W1.setCell ⟨p, ctx, none⟩ (.int .i64 (learnP (rd lik ctx) 0))).drewN (1 + nl)) := ⟨_, ⟨rfl⟩⟩
    have E2 := Aside0.mk (show EncAt W2 B b p ⟨learnL lik ctx 0, low, pt, out⟩ from by rw [HW2.out]; exact enc_drewN (enc_lik E1.out ctx _) _)
    have B2 := Aside0.mk (show Below B w W2 from by rw [HW2.out]; exact pw_below_drewN (B1.out.setCell HP.out.1 _) _)
    rw [← HW2.out]
    clear HW2 hb0 hb1 hb2 hf1 hf2 k0 k1 E1 B1
    obtain ⟨hb0, hb1, hb2, hf1, hf2, hbl2, hpl2, -⟩ := enc_cells E2.out
    by_cases hsm : pt < 16777216
    · have HE := Aside0.mk (show putE ⟨lik, low, width, out⟩ ctx 0 = ⟨learnL lik ctx 0, low % 16777216 * 256, pt * 256, layL out (low / 16777216)⟩ from by
        have e1 : widthE ⟨lik, low, width, out⟩ ctx 0 = pt := by rw [HPT.out]; rfl
        have e2 : lowE ⟨lik, low, width, out⟩ ctx 0 = low := by first | rfl | (rw [HPT.out]; rfl)
        unfold putE
        rw [e1, e2, if_pos hsm])
      have hq2 : 16777216 ≤ pt * 256 := by omega
      have hq3 : pt * 256 ≤ 4294967296 := by omega
      have hq0 : 0 ≤ low / 16777216 := by omega
      have hq1 : low / 16777216 < 512 := by omega
      refine wp_loop_rounds 2 ?_
      rw [rounds_succ]
      go_wp2_with (go_at_call 100; (with_reducible refine (iLay_calls B b p _ _ _ out _ _ E2.out HBO.out hq0 hq1 (by have := HN.out; omega)).mono ?_); rintro e W3 ⟨rfl, e3, b3⟩; have E3 := Aside0.mk e3; have B3 := Aside0.mk (B2.out.trans b3); clear e3 b3; clear hb0 hb1 hb2 hf1 hf2; obtain ⟨hb0, hb1, hb2, hf1, hf2, hbl3, hpl3, -⟩ := enc_cells E3.out)
      go_region
      go_wp2
      rw [rounds_succ]
      go_wp2
      go_end0
      exact ⟨rfl, by rw [HE.out]; exact enc_drew (enc_width (enc_low E3.out _) _), below_drew ((B3.out.setCell HP.out.2 _).setCell HP.out.2 _)⟩
    · have HE := Aside0.mk (show putE ⟨lik, low, width, out⟩ ctx 0 = ⟨learnL lik ctx 0, low, pt, out⟩ from by
        have e1 : widthE ⟨lik, low, width, out⟩ ctx 0 = pt := by rw [HPT.out]; rfl
        have e2 : lowE ⟨lik, low, width, out⟩ ctx 0 = low := by first | rfl | (rw [HPT.out]; rfl)
        unfold putE
        rw [e1, e2, if_neg hsm])
      have hq2 : 16777216 ≤ pt := by omega
      refine wp_loop_rounds 1 ?_
      rw [rounds_succ]
      go_wp2
      go_end0
      exact ⟨rfl, by rw [HE.out]; exact E2.out, B2.out⟩
  · go_enter Try.func99, Try.ntmps99
    go_wp2
    go_quiet (fail)
    go_wp2
    go_region
    go_wp2
    obtain ⟨W1, HW1⟩ : ∃ W1, Aside0 (W1 = (((w.alloc (.cells #[.int .i64 ctx, .int .i64 1] 31)).drewN (nq + 1)).setCell ⟨b, 1, none⟩ (.int .i64 (low + pt))).setCell ⟨b, 2, none⟩ (.int .i64 (width - pt))) := ⟨_, ⟨rfl⟩⟩
    have E1 := Aside0.mk (show EncAt W1 B b p ⟨lik, (low + pt), (width - pt), out⟩ from by rw [HW1.out]; exact enc_width (enc_low (enc_drewN (enc_alloc HE0.out _) _) _) _)
    have B1 := Aside0.mk (show Below B w W1 from by rw [HW1.out]; exact ((pw_below_drewN ((Below.refl B w).alloc HSZ.out _) _).setCell HP.out.2 _).setCell HP.out.2 _)
    have k0 : W1.cell? ⟨w.heap.size, 0, none⟩ = some (.int .i64 ctx) := by rw [HW1.out]; (rw [World.cell?_setCell_other _ _ _ _ (by intro e; injection e with e; omega), World.cell?_setCell_other _ _ _ _ (by intro e; injection e with e; omega)]; go_simp)
    have k1 : W1.cell? ⟨w.heap.size, 1, none⟩ = some (.int .i64 1) := by rw [HW1.out]; (rw [World.cell?_setCell_other _ _ _ _ (by intro e; injection e with e; omega), World.cell?_setCell_other _ _ _ _ (by intro e; injection e with e; omega)]; go_simp)
    rw [← HW1.out]
    clear HW1 hb1 hb2 hf1 hf2 hb0 hcl
    obtain ⟨hb0, hb1, hb2, hf1, hf2, hbl1, hpl1, hbp⟩ := enc_cells E1.out
    go_still_tail 8, (by kernel_rfl)
    change wpList _ _ _ _ _ W1.drew
    go_wp2_with (go_at_call 106; (with_reducible refine (iLearn_calls p lik ctx 1 _ (lik_drew (enc_lik0 E1.out)) HK.out hc).mono ?_); rintro e w' ⟨rfl, ⟨nl, rfl⟩⟩)
    obtain ⟨W2, HW2⟩ : ∃ W2, Aside0 (W2 = (W1.setCell ⟨p, ctx, none⟩ (.int .i64 (learnP (rd lik ctx) 1))).drewN (1 + nl)) := ⟨_, ⟨rfl⟩⟩
    have E2 := Aside0.mk (show EncAt W2 B b p ⟨learnL lik ctx 1, (low + pt), (width - pt), out⟩ from by rw [HW2.out]; exact enc_drewN (enc_lik E1.out ctx _) _)
    have B2 := Aside0.mk (show Below B w W2 from by rw [HW2.out]; exact pw_below_drewN (B1.out.setCell HP.out.1 _) _)
    rw [← HW2.out]
    clear HW2 hb0 hb1 hb2 hf1 hf2 k0 k1 E1 B1
    obtain ⟨hb0, hb1, hb2, hf1, hf2, hbl2, hpl2, -⟩ := enc_cells E2.out
    by_cases hsm : (width - pt) < 16777216
    · have HE := Aside0.mk (show putE ⟨lik, low, width, out⟩ ctx 1 = ⟨learnL lik ctx 1, (low + pt) % 16777216 * 256, (width - pt) * 256, layL out ((low + pt) / 16777216)⟩ from by
        have e1 : widthE ⟨lik, low, width, out⟩ ctx 1 = (width - pt) := by rw [HPT.out]; rfl
        have e2 : lowE ⟨lik, low, width, out⟩ ctx 1 = (low + pt) := by first | rfl | (rw [HPT.out]; rfl)
        unfold putE
        rw [e1, e2, if_pos hsm])
      have hq2 : 16777216 ≤ (width - pt) * 256 := by omega
      have hq3 : (width - pt) * 256 ≤ 4294967296 := by omega
      have hq0 : 0 ≤ (low + pt) / 16777216 := by omega
      have hq1 : (low + pt) / 16777216 < 512 := by omega
      refine wp_loop_rounds 2 ?_
      rw [rounds_succ]
      go_wp2_with (go_at_call 100; (with_reducible refine (iLay_calls B b p _ _ _ out _ _ E2.out HBO.out hq0 hq1 (by have := HN.out; omega)).mono ?_); rintro e W3 ⟨rfl, e3, b3⟩; have E3 := Aside0.mk e3; have B3 := Aside0.mk (B2.out.trans b3); clear e3 b3; clear hb0 hb1 hb2 hf1 hf2; obtain ⟨hb0, hb1, hb2, hf1, hf2, hbl3, hpl3, -⟩ := enc_cells E3.out)
      go_region
      go_wp2
      rw [rounds_succ]
      go_wp2
      go_end0
      exact ⟨rfl, by rw [HE.out]; exact enc_drew (enc_width (enc_low E3.out _) _), below_drew ((B3.out.setCell HP.out.2 _).setCell HP.out.2 _)⟩
    · have HE := Aside0.mk (show putE ⟨lik, low, width, out⟩ ctx 1 = ⟨learnL lik ctx 1, (low + pt), (width - pt), out⟩ from by
        have e1 : widthE ⟨lik, low, width, out⟩ ctx 1 = (width - pt) := by rw [HPT.out]; rfl
        have e2 : lowE ⟨lik, low, width, out⟩ ctx 1 = (low + pt) := by first | rfl | (rw [HPT.out]; rfl)
        unfold putE
        rw [e1, e2, if_neg hsm])
      have hq2 : 16777216 ≤ (width - pt) := by omega
      refine wp_loop_rounds 1 ?_
      rw [rounds_succ]
      go_wp2
      go_end0
      exact ⟨rfl, by rw [HE.out]; exact E2.out, B2.out⟩

end Go.Proofs.Ytdeheflbigggbaa.CB
