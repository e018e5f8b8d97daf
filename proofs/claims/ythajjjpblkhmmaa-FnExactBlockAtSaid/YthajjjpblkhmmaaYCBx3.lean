/- Functions that a law of this seat reaches: written by a program of this session (wip/xprint.py), and by hand. -/
import Derived.Test.YthajjjpblkhmmaaYMac
import Derived.Test.YthajjjpblkhmmaaYCBx0
import Derived.Test.YthajjjpblkhmmaaYCBx1
import Derived.Test.YthajjjpblkhmmaaYCBx2
namespace Go.Proofs.Ythajjjpblkhmmaa.CB
open Go.RowKit Go.Proofs.Ythajjjpblkhmmaa.B Go.Proofs.YthajjjpblkhmmaaW.PrintWords Go.Proofs.YthajjjpblkhmmaaW.PrintLast Go.Proofs.YthajjjpblkhmmaaW.PrintMore
attribute [local go_sem] max2_int min2_int max_two min_two max_three min_three max_four min_four   -- for this text's walks alone
set_option linter.unusedVariables false
set_option linter.unusedSimpArgs false

/-! ### laws_eqIntSS: function 63 -/
def laws_eqIntSS.l0 : Nat → List (List Int) → List (List Int) → Int → Option (Bool)
  | 0, _, _, _ => none
  | k + 1, x0, x1, x5 => if x5 < (x0.length : Int) then (if 0 ≤ x5 then (if x5 < (x1.length : Int) then ((laws_eqIntS.f k (rd_L3 x0 x5) (rd_L3 x1 x5)).bind fun t137 => (if t137 = true then (laws_eqIntSS.l0 k x0 x1 (wrap64 (x5 + 1))) else (some false))) else (none)) else (none)) else (some true)
def laws_eqIntSS.f (k : Nat) (l0 : List (List Int)) (l1 : List (List Int)) : Option (Bool) := if (l0.length : Int) = (l1.length : Int) then (laws_eqIntSS.l0 k l0 l1 0) else (some false)
set_option maxHeartbeats 8000000 in
set_option maxRecDepth 100000 in
theorem laws_eqIntSS.calls (k : Nat) (A0 : Option Addr) (c0 : Nat) (l0 : List (List Int)) (A1 : Option Addr) (c1 : Nat) (l1 : List (List Int)) (r : Bool) (w : World) (hr0 : Kd.C (Kd.slice 3 (Kd.int .i64)) w A0 l0.length l0) (hc0 : l0.length ≤ c0) (hr1 : Kd.C (Kd.slice 3 (Kd.int .i64)) w A1 l1.length l1) (hc1 : l1.length ≤ c1) (h : laws_eqIntSS.f k l0 l1 = some r) :
  Calls Try.prog 63 #[.slice A0 l0.length c0, .slice A1 l1.length c1] w fun e w' => e = .returned (.bool r) ∧ Drawn0 w w' := by
 have HR0 := aM hr0
 have HC0 := aM hc0
 clear hr0 hc0
 have HR1 := aM hr1
 have HC1 := aM hc1
 clear hr1 hc1
 have H : (if (l0.length : Int) = (l1.length : Int) then (laws_eqIntSS.l0 k l0 l1 0) else (some false)) = some r := h
 clear h
 by_cases c3 : (l0.length : Int) = (l1.length : Int)
 ·rw [if_pos c3] at H
  have c3b0 : ((l0.length : Int) == (l1.length : Int)) = true := beq_iff_eq.mpr c3
  have c3b1 : ((l0.length : Int) != (l1.length : Int)) = false := bne_eq_false_iff_eq.mpr c3
  have c3b2 : (l0.length == l1.length) = true := by first | simpa using c3 | (simp at c3 ⊢; omega)
  clear c3
  have H' := aM H
  clear H
  go_enter Try.func63, Try.ntmps63
  go_wp2
  repeat (go_quiet (fail); try go_wp2)
  go_loopg [5] k (fun kq v5 w' => ∃ (x5_1 : Int), v5 = .int .i64 x5_1 ∧ Aside0 (laws_eqIntSS.l0 kq l0 l1 x5_1 = some r) ∧ Aside0 (kq ≤ k) ∧ Drawn0 w w')
  case atStart => exact ⟨(0), zS, H', ⟨Nat.le_refl _⟩, by repeat (first | exact Drawn0.refl _ | apply Drawn0.step)⟩
  case round =>
   clear H'
   (try clear c1); (try clear c3b0); (try clear c3b1); (try clear c3b2)
   obtain ⟨x5_1, rfl, HA, HK1, ⟨m1, rfl⟩⟩ := hrel
   cases gk with
   | zero => exact absurd HA.out (by simp [laws_eqIntSS.l0])
   | succ k1 =>
    have H := HA.out
    clear HA
    simp only [laws_eqIntSS.l0] at H
    by_cases c4 : x5_1 < (l0.length : Int)
    ·rw [if_pos c4] at H
     have c4b0 : decide (x5_1 < (l0.length : Int)) = true := decide_eq_true c4
     clear c4
     by_cases c5 : 0 ≤ x5_1
     ·rw [if_pos c5] at H
      have c5b0 : decide (0 ≤ x5_1) = true := decide_eq_true c5
      clear c5
      by_cases c6 : x5_1 < (l1.length : Int)
      ·rw [if_pos c6] at H
       have c6b0 : decide (x5_1 < (l1.length : Int)) = true := decide_eq_true c6
       clear c6
       obtain ⟨t137, A7, H⟩ := oH H
       by_cases c8 : t137 = true
       ·subst c8
        replace H := iT H
        have H' := aM H
        clear H
        have p135 : 0 ≤ (x5_1 : Int) := zA
        have q135 : x5_1 < (l0.length : Int) := zA
        obtain ⟨ad135, A135_0, c135_0, e135, hx135_0, hl135_0, hi135_0⟩ := at_L3 HR0.out x5_1 p135 q135
        cases e135
        have HR135_0 := aM hi135_0
        have HC135_0 := aM hl135_0
        clear hi135_0 hl135_0
        replace p135 := eq_true p135
        replace q135 := eq_true q135
        have p136 : 0 ≤ (x5_1 : Int) := zA
        have q136 : x5_1 < (l1.length : Int) := zA
        obtain ⟨ad136, A136_0, c136_0, e136, hx136_0, hl136_0, hi136_0⟩ := at_L3 HR1.out x5_1 p136 q136
        cases e136
        have HR136_0 := aM hi136_0
        have HC136_0 := aM hl136_0
        clear hi136_0 hl136_0
        replace p136 := eq_true p136
        replace q136 := eq_true q136
        repeat (go_wp2_with (first | (go_at_call 20; (with_reducible refine (laws_eqIntS.calls k1 _ _ (rd_L3 l0 x5_1) _ _ (rd_L3 l1 x5_1) true _ ?side1 ?side2 ?side3 ?side4 A7.out).mono ?_); (case side1 => exact zC HR135_0.out); (case side2 => exact HC135_0.out); (case side3 => exact zC HR136_0.out); (case side4 => exact HC136_0.out); rintro e w' ⟨rfl, ⟨nd, rfl⟩⟩; (try exact zD))); go_quiet (first | (go_at_call 20; (with_reducible refine (laws_eqIntS.calls k1 _ _ (rd_L3 l0 x5_1) _ _ (rd_L3 l1 x5_1) true _ ?side1 ?side2 ?side3 ?side4 A7.out).mono ?_); (case side1 => exact zC HR135_0.out); (case side2 => exact HC135_0.out); (case side3 => exact zC HR136_0.out); (case side4 => exact HC136_0.out); rintro e w' ⟨rfl, ⟨nd, rfl⟩⟩; (try exact zD))))
        try go_wp2_with (first | (go_at_call 20; (with_reducible refine (laws_eqIntS.calls k1 _ _ (rd_L3 l0 x5_1) _ _ (rd_L3 l1 x5_1) true _ ?side1 ?side2 ?side3 ?side4 A7.out).mono ?_); (case side1 => exact zC HR135_0.out); (case side2 => exact HC135_0.out); (case side3 => exact zC HR136_0.out); (case side4 => exact HC136_0.out); rintro e w' ⟨rfl, ⟨nd, rfl⟩⟩; (try exact zD)))
        go_roundg k1
        case measure => have := HK1.out; omega
        case rel => exact ⟨(wrap64 (x5_1 + 1)), zS, H', ⟨by have := HK1.out; omega⟩, by repeat (first | exact Drawn0.refl _ | apply Drawn0.step)⟩
       ·replace c8 := Bool.eq_false_iff.mpr c8
        subst c8
        replace H := iF H
        obtain rfl := Option.some.inj H
        have p135 : 0 ≤ (x5_1 : Int) := zA
        have q135 : x5_1 < (l0.length : Int) := zA
        obtain ⟨ad135, A135_0, c135_0, e135, hx135_0, hl135_0, hi135_0⟩ := at_L3 HR0.out x5_1 p135 q135
        cases e135
        have HR135_0 := aM hi135_0
        have HC135_0 := aM hl135_0
        clear hi135_0 hl135_0
        replace p135 := eq_true p135
        replace q135 := eq_true q135
        have p136 : 0 ≤ (x5_1 : Int) := zA
        have q136 : x5_1 < (l1.length : Int) := zA
        obtain ⟨ad136, A136_0, c136_0, e136, hx136_0, hl136_0, hi136_0⟩ := at_L3 HR1.out x5_1 p136 q136
        cases e136
        have HR136_0 := aM hi136_0
        have HC136_0 := aM hl136_0
        clear hi136_0 hl136_0
        replace p136 := eq_true p136
        replace q136 := eq_true q136
        repeat (go_wp2_with (first | (go_at_call 20; (with_reducible refine (laws_eqIntS.calls k1 _ _ (rd_L3 l0 x5_1) _ _ (rd_L3 l1 x5_1) false _ ?side1 ?side2 ?side3 ?side4 A7.out).mono ?_); (case side1 => exact zC HR135_0.out); (case side2 => exact HC135_0.out); (case side3 => exact zC HR136_0.out); (case side4 => exact HC136_0.out); rintro e w' ⟨rfl, ⟨nd, rfl⟩⟩; (try exact zD))); go_quiet (first | (go_at_call 20; (with_reducible refine (laws_eqIntS.calls k1 _ _ (rd_L3 l0 x5_1) _ _ (rd_L3 l1 x5_1) false _ ?side1 ?side2 ?side3 ?side4 A7.out).mono ?_); (case side1 => exact zC HR135_0.out); (case side2 => exact HC135_0.out); (case side3 => exact zC HR136_0.out); (case side4 => exact HC136_0.out); rintro e w' ⟨rfl, ⟨nd, rfl⟩⟩; (try exact zD))))
        try go_wp2_with (first | (go_at_call 20; (with_reducible refine (laws_eqIntS.calls k1 _ _ (rd_L3 l0 x5_1) _ _ (rd_L3 l1 x5_1) false _ ?side1 ?side2 ?side3 ?side4 A7.out).mono ?_); (case side1 => exact zC HR135_0.out); (case side2 => exact HC135_0.out); (case side3 => exact zC HR136_0.out); (case side4 => exact HC136_0.out); rintro e w' ⟨rfl, ⟨nd, rfl⟩⟩; (try exact zD)))
        go_ret
        exact ⟨by first | rfl | (simp; done) | (simp [*]; done), by repeat (first | exact Drawn0.refl _ | apply Drawn0.step)⟩
      ·rw [if_neg c6] at H
       exact absurd H (by simp)
     ·rw [if_neg c5] at H
      exact absurd H (by simp)
    ·rw [if_neg c4] at H
     have c4b0 : decide (x5_1 < (l0.length : Int)) = false := decide_eq_false c4
     clear c4
     obtain rfl := Option.some.inj H
     go_wp2
     repeat (go_quiet (fail); try go_wp2)
     go_ret
     exact ⟨by first | rfl | (simp; done) | (simp [*]; done), by repeat (first | exact Drawn0.refl _ | apply Drawn0.step)⟩
 ·rw [if_neg c3] at H
  have c3b0 : ((l0.length : Int) == (l1.length : Int)) = false := beq_eq_false_iff_ne.mpr c3
  have c3b1 : ((l0.length : Int) != (l1.length : Int)) = true := bne_iff_ne.mpr c3
  have c3b2 : (l0.length == l1.length) = false := by first | simpa using c3 | (simp at c3 ⊢; omega)
  obtain rfl := Option.some.inj H
  go_enter Try.func63, Try.ntmps63
  go_wp2
  repeat (go_quiet (fail); try go_wp2)
  go_ret
  exact ⟨by first | rfl | (simp; done) | (simp [*]; done), by repeat (first | exact Drawn0.refl _ | apply Drawn0.step)⟩

theorem eqIntSS_l0 (l : List (List Int)) (hl : l.length ≤ 4611686018427387904) (hx : ∀ x ∈ l, x.length ≤ 4611686018427387904) : ∀ (d i : Nat), i + d = l.length → Ev (fun k => laws_eqIntSS.l0 k l l i) true := by
  intro d
  induction d with
  | zero =>
    intro i hi
    refine Ev.step (fun k => by rw [laws_eqIntSS.l0]) ?_
    exact evNeg (by omega) (Ev.now _)
  | succ d ih =>
    intro i hi
    have h1 : i < l.length := by omega
    refine Ev.step (fun k => by rw [laws_eqIntSS.l0]) ?_
    refine evPos (by omega) (evPos (by omega) (evPos (by omega) ?_))
    rw [rdSS_nat h1]
    refine evBind (eqIntS_f _ (hx _ (List.getElem_mem h1))) (evPos rfl ?_)
    rw [w64 (by omega) (by omega)]
    exact ih (i + 1) (by omega)
theorem eqIntSS_f (l : List (List Int)) (hl : l.length ≤ 4611686018427387904) (hx : ∀ x ∈ l, x.length ≤ 4611686018427387904) : Ev (fun k => laws_eqIntSS.f k l l) true := by
  unfold laws_eqIntSS.f
  exact evPos rfl (eqIntSS_l0 l hl hx l.length 0 (by omega))

/-! ### laws_eqIntSSS: function 97 -/
def laws_eqIntSSS.l0 : Nat → List (List (List Int)) → List (List (List Int)) → Int → Option (Bool)
  | 0, _, _, _ => none
  | k + 1, x0, x1, x5 => if x5 < (x0.length : Int) then (if 0 ≤ x5 then (if x5 < (x1.length : Int) then ((laws_eqIntSS.f k (rd_L4 x0 x5) (rd_L4 x1 x5)).bind fun t140 => (if t140 = true then (laws_eqIntSSS.l0 k x0 x1 (wrap64 (x5 + 1))) else (some false))) else (none)) else (none)) else (some true)
def laws_eqIntSSS.f (k : Nat) (l0 : List (List (List Int))) (l1 : List (List (List Int))) : Option (Bool) := if (l0.length : Int) = (l1.length : Int) then (laws_eqIntSSS.l0 k l0 l1 0) else (some false)
set_option maxHeartbeats 8000000 in
set_option maxRecDepth 100000 in
theorem laws_eqIntSSS.calls (k : Nat) (A0 : Option Addr) (c0 : Nat) (l0 : List (List (List Int))) (A1 : Option Addr) (c1 : Nat) (l1 : List (List (List Int))) (r : Bool) (w : World) (hr0 : Kd.C (Kd.slice 22 (Kd.slice 3 (Kd.int .i64))) w A0 l0.length l0) (hc0 : l0.length ≤ c0) (hr1 : Kd.C (Kd.slice 22 (Kd.slice 3 (Kd.int .i64))) w A1 l1.length l1) (hc1 : l1.length ≤ c1) (h : laws_eqIntSSS.f k l0 l1 = some r) :
  Calls Try.prog 97 #[.slice A0 l0.length c0, .slice A1 l1.length c1] w fun e w' => e = .returned (.bool r) ∧ Drawn0 w w' := by
 have HR0 := aM hr0
 have HC0 := aM hc0
 clear hr0 hc0
 have HR1 := aM hr1
 have HC1 := aM hc1
 clear hr1 hc1
 have H : (if (l0.length : Int) = (l1.length : Int) then (laws_eqIntSSS.l0 k l0 l1 0) else (some false)) = some r := h
 clear h
 by_cases c3 : (l0.length : Int) = (l1.length : Int)
 ·rw [if_pos c3] at H
  have c3b0 : ((l0.length : Int) == (l1.length : Int)) = true := beq_iff_eq.mpr c3
  have c3b1 : ((l0.length : Int) != (l1.length : Int)) = false := bne_eq_false_iff_eq.mpr c3
  have c3b2 : (l0.length == l1.length) = true := by first | simpa using c3 | (simp at c3 ⊢; omega)
  clear c3
  have H' := aM H
  clear H
  go_enter Try.func97, Try.ntmps97
  go_wp2
  repeat (go_quiet (fail); try go_wp2)
  go_loopg [5] k (fun kq v5 w' => ∃ (x5_1 : Int), v5 = .int .i64 x5_1 ∧ Aside0 (laws_eqIntSSS.l0 kq l0 l1 x5_1 = some r) ∧ Aside0 (kq ≤ k) ∧ Drawn0 w w')
  case atStart => exact ⟨(0), zS, H', ⟨Nat.le_refl _⟩, by repeat (first | exact Drawn0.refl _ | apply Drawn0.step)⟩
  case round =>
   clear H'
   (try clear c1); (try clear c3b0); (try clear c3b1); (try clear c3b2)
   obtain ⟨x5_1, rfl, HA, HK1, ⟨m1, rfl⟩⟩ := hrel
   cases gk with
   | zero => exact absurd HA.out (by simp [laws_eqIntSSS.l0])
   | succ k1 =>
    have H := HA.out
    clear HA
    simp only [laws_eqIntSSS.l0] at H
    by_cases c4 : x5_1 < (l0.length : Int)
    ·rw [if_pos c4] at H
     have c4b0 : decide (x5_1 < (l0.length : Int)) = true := decide_eq_true c4
     clear c4
     by_cases c5 : 0 ≤ x5_1
     ·rw [if_pos c5] at H
      have c5b0 : decide (0 ≤ x5_1) = true := decide_eq_true c5
      clear c5
      by_cases c6 : x5_1 < (l1.length : Int)
      ·rw [if_pos c6] at H
       have c6b0 : decide (x5_1 < (l1.length : Int)) = true := decide_eq_true c6
       clear c6
       obtain ⟨t140, A7, H⟩ := oH H
       by_cases c8 : t140 = true
       ·subst c8
        replace H := iT H
        have H' := aM H
        clear H
        have p138 : 0 ≤ (x5_1 : Int) := zA
        have q138 : x5_1 < (l0.length : Int) := zA
        obtain ⟨ad138, A138_0, c138_0, e138, hx138_0, hl138_0, hi138_0⟩ := at_L4 HR0.out x5_1 p138 q138
        cases e138
        have HR138_0 := aM hi138_0
        have HC138_0 := aM hl138_0
        clear hi138_0 hl138_0
        replace p138 := eq_true p138
        replace q138 := eq_true q138
        have p139 : 0 ≤ (x5_1 : Int) := zA
        have q139 : x5_1 < (l1.length : Int) := zA
        obtain ⟨ad139, A139_0, c139_0, e139, hx139_0, hl139_0, hi139_0⟩ := at_L4 HR1.out x5_1 p139 q139
        cases e139
        have HR139_0 := aM hi139_0
        have HC139_0 := aM hl139_0
        clear hi139_0 hl139_0
        replace p139 := eq_true p139
        replace q139 := eq_true q139
        repeat (go_wp2_with (first | (go_at_call 63; (with_reducible refine (laws_eqIntSS.calls k1 _ _ (rd_L4 l0 x5_1) _ _ (rd_L4 l1 x5_1) true _ ?side1 ?side2 ?side3 ?side4 A7.out).mono ?_); (case side1 => exact zC HR138_0.out); (case side2 => exact HC138_0.out); (case side3 => exact zC HR139_0.out); (case side4 => exact HC139_0.out); rintro e w' ⟨rfl, ⟨nd, rfl⟩⟩; (try exact zD))); go_quiet (first | (go_at_call 63; (with_reducible refine (laws_eqIntSS.calls k1 _ _ (rd_L4 l0 x5_1) _ _ (rd_L4 l1 x5_1) true _ ?side1 ?side2 ?side3 ?side4 A7.out).mono ?_); (case side1 => exact zC HR138_0.out); (case side2 => exact HC138_0.out); (case side3 => exact zC HR139_0.out); (case side4 => exact HC139_0.out); rintro e w' ⟨rfl, ⟨nd, rfl⟩⟩; (try exact zD))))
        try go_wp2_with (first | (go_at_call 63; (with_reducible refine (laws_eqIntSS.calls k1 _ _ (rd_L4 l0 x5_1) _ _ (rd_L4 l1 x5_1) true _ ?side1 ?side2 ?side3 ?side4 A7.out).mono ?_); (case side1 => exact zC HR138_0.out); (case side2 => exact HC138_0.out); (case side3 => exact zC HR139_0.out); (case side4 => exact HC139_0.out); rintro e w' ⟨rfl, ⟨nd, rfl⟩⟩; (try exact zD)))
        go_roundg k1
        case measure => have := HK1.out; omega
        case rel => exact ⟨(wrap64 (x5_1 + 1)), zS, H', ⟨by have := HK1.out; omega⟩, by repeat (first | exact Drawn0.refl _ | apply Drawn0.step)⟩
       ·replace c8 := Bool.eq_false_iff.mpr c8
        subst c8
        replace H := iF H
        obtain rfl := Option.some.inj H
        have p138 : 0 ≤ (x5_1 : Int) := zA
        have q138 : x5_1 < (l0.length : Int) := zA
        obtain ⟨ad138, A138_0, c138_0, e138, hx138_0, hl138_0, hi138_0⟩ := at_L4 HR0.out x5_1 p138 q138
        cases e138
        have HR138_0 := aM hi138_0
        have HC138_0 := aM hl138_0
        clear hi138_0 hl138_0
        replace p138 := eq_true p138
        replace q138 := eq_true q138
        have p139 : 0 ≤ (x5_1 : Int) := zA
        have q139 : x5_1 < (l1.length : Int) := zA
        obtain ⟨ad139, A139_0, c139_0, e139, hx139_0, hl139_0, hi139_0⟩ := at_L4 HR1.out x5_1 p139 q139
        cases e139
        have HR139_0 := aM hi139_0
        have HC139_0 := aM hl139_0
        clear hi139_0 hl139_0
        replace p139 := eq_true p139
        replace q139 := eq_true q139
        repeat (go_wp2_with (first | (go_at_call 63; (with_reducible refine (laws_eqIntSS.calls k1 _ _ (rd_L4 l0 x5_1) _ _ (rd_L4 l1 x5_1) false _ ?side1 ?side2 ?side3 ?side4 A7.out).mono ?_); (case side1 => exact zC HR138_0.out); (case side2 => exact HC138_0.out); (case side3 => exact zC HR139_0.out); (case side4 => exact HC139_0.out); rintro e w' ⟨rfl, ⟨nd, rfl⟩⟩; (try exact zD))); go_quiet (first | (go_at_call 63; (with_reducible refine (laws_eqIntSS.calls k1 _ _ (rd_L4 l0 x5_1) _ _ (rd_L4 l1 x5_1) false _ ?side1 ?side2 ?side3 ?side4 A7.out).mono ?_); (case side1 => exact zC HR138_0.out); (case side2 => exact HC138_0.out); (case side3 => exact zC HR139_0.out); (case side4 => exact HC139_0.out); rintro e w' ⟨rfl, ⟨nd, rfl⟩⟩; (try exact zD))))
        try go_wp2_with (first | (go_at_call 63; (with_reducible refine (laws_eqIntSS.calls k1 _ _ (rd_L4 l0 x5_1) _ _ (rd_L4 l1 x5_1) false _ ?side1 ?side2 ?side3 ?side4 A7.out).mono ?_); (case side1 => exact zC HR138_0.out); (case side2 => exact HC138_0.out); (case side3 => exact zC HR139_0.out); (case side4 => exact HC139_0.out); rintro e w' ⟨rfl, ⟨nd, rfl⟩⟩; (try exact zD)))
        go_ret
        exact ⟨by first | rfl | (simp; done) | (simp [*]; done), by repeat (first | exact Drawn0.refl _ | apply Drawn0.step)⟩
      ·rw [if_neg c6] at H
       exact absurd H (by simp)
     ·rw [if_neg c5] at H
      exact absurd H (by simp)
    ·rw [if_neg c4] at H
     have c4b0 : decide (x5_1 < (l0.length : Int)) = false := decide_eq_false c4
     clear c4
     obtain rfl := Option.some.inj H
     go_wp2
     repeat (go_quiet (fail); try go_wp2)
     go_ret
     exact ⟨by first | rfl | (simp; done) | (simp [*]; done), by repeat (first | exact Drawn0.refl _ | apply Drawn0.step)⟩
 ·rw [if_neg c3] at H
  have c3b0 : ((l0.length : Int) == (l1.length : Int)) = false := beq_eq_false_iff_ne.mpr c3
  have c3b1 : ((l0.length : Int) != (l1.length : Int)) = true := bne_iff_ne.mpr c3
  have c3b2 : (l0.length == l1.length) = false := by first | simpa using c3 | (simp at c3 ⊢; omega)
  obtain rfl := Option.some.inj H
  go_enter Try.func97, Try.ntmps97
  go_wp2
  repeat (go_quiet (fail); try go_wp2)
  go_ret
  exact ⟨by first | rfl | (simp; done) | (simp [*]; done), by repeat (first | exact Drawn0.refl _ | apply Drawn0.step)⟩

def BndS (a : Int) (x : List (List Int)) : Prop := (x.length : Int) ≤ a ∧ ∀ y ∈ x, (y.length : Int) ≤ a
theorem rdSSS_nat {l : List (List (List Int))} {i : Nat} (h : i < l.length) : rd_L4 l (i : Int) = l[i] := by
  simp [rd_L4, List.getD, h]
theorem eqIntSSS_l0 (l : List (List (List Int))) (hl : l.length ≤ 1048576) (hx : ∀ x ∈ l, BndS 1048576 x) : ∀ (d i : Nat), i + d = l.length → Ev (fun k => laws_eqIntSSS.l0 k l l i) true := by
  intro d
  induction d with
  | zero =>
    intro i hi
    refine Ev.step (fun k => by rw [laws_eqIntSSS.l0]) ?_
    exact evNeg (by omega) (Ev.now _)
  | succ d ih =>
    intro i hi
    have h1 : i < l.length := by omega
    have hb := hx _ (List.getElem_mem h1)
    refine Ev.step (fun k => by rw [laws_eqIntSSS.l0]) ?_
    refine evPos (by omega) (evPos (by omega) (evPos (by omega) ?_))
    rw [rdSSS_nat h1]
    refine evBind (eqIntSS_f _ (by have := hb.1; omega) (fun y hy => by have := hb.2 y hy; omega)) (evPos rfl ?_)
    rw [w64 (by omega) (by omega)]
    exact ih (i + 1) (by omega)
theorem eqIntSSS_f (l : List (List (List Int))) (hl : l.length ≤ 1048576) (hx : ∀ x ∈ l, BndS 1048576 x) : Ev (fun k => laws_eqIntSSS.f k l l) true := by
  unfold laws_eqIntSSS.f
  exact evPos rfl (eqIntSSS_l0 l hl hx l.length 0 (by omega))

/-! ### laws_eqCoefs: function 46 -/
def laws_eqCoefs.f (k : Nat) (l0_0 : List (List (List Int))) (l1_0 : List (List (List Int))) : Option (Bool) := (laws_eqIntSSS.f k l0_0 l1_0).bind fun t143 => (if t143 = true then (some true) else (some false))
set_option maxHeartbeats 8000000 in
set_option maxRecDepth 100000 in
theorem laws_eqCoefs.calls (k : Nat) (A0_0 : Option Addr) (c0_0 : Nat) (l0_0 : List (List (List Int))) (A1_0 : Option Addr) (c1_0 : Nat) (l1_0 : List (List (List Int))) (r : Bool) (w : World) (hr0_0 : Kd.C (Kd.slice 22 (Kd.slice 3 (Kd.int .i64))) w A0_0 l0_0.length l0_0) (hc0_0 : l0_0.length ≤ c0_0) (hr1_0 : Kd.C (Kd.slice 22 (Kd.slice 3 (Kd.int .i64))) w A1_0 l1_0.length l1_0) (hc1_0 : l1_0.length ≤ c1_0) (h : laws_eqCoefs.f k l0_0 l1_0 = some r) :
  Calls Try.prog 46 #[.agg #[.slice A0_0 l0_0.length c0_0], .agg #[.slice A1_0 l1_0.length c1_0]] w fun e w' => e = .returned (.bool r) ∧ Below w.heap.size w w' := by
 have hu63 := Try.underlying63
 have HR0_0 := aM hr0_0
 have HC0_0 := aM hc0_0
 clear hr0_0 hc0_0
 have HR1_0 := aM hr1_0
 have HC1_0 := aM hc1_0
 clear hr1_0 hc1_0
 have HB := aM (Below.refl w.heap.size w)
 have H : ((laws_eqIntSSS.f k l0_0 l1_0).bind fun t143 => (if t143 = true then (some true) else (some false))) = some r := h
 clear h
 obtain ⟨t143, A3, H⟩ := oH H
 by_cases c4 : t143 = true
 ·subst c4
  replace H := iT H
  obtain rfl := Option.some.inj H
  go_enter Try.func46, Try.ntmps46
  go_wp2_with (first | ((with_reducible refine gate_dst (N := 2) rfl ?_); refine box_event ?hg (N := 2) ?hd (cs := #[.slice A0_0 l0_0.length c0_0]) (t := 63) ?hr ?_; (case hd => rfl); (case hg => rfl); (case hr => first | (go_simp; done) | (go_simp; rfl)); intro gb141 hg w5 hbox hb; have BK141 := aM hbox; have GW141 := aM (zG hg : w.heap.size ≤ gb141); have GE141 := aM (zG hg : w.heap.size ≤ gb141); replace HB := cH HB hb; clear hb hbox hg) | ((with_reducible refine gate_dst (N := 3) rfl ?_); refine box_event ?hg (N := 3) ?hd (cs := #[.slice A1_0 l1_0.length c1_0]) (t := 63) ?hr ?_; (case hd => rfl); (case hg => rfl); (case hr => first | (go_simp; done) | (go_simp; rfl)); intro gb142 hg w6 hbox hb; have BK142 := aM hbox; have GW142 := aM (zG hg : w.heap.size ≤ gb142); have GE142 := aM (zG hg : w.heap.size ≤ gb142); replace HB := cH HB hb; have NB141_142 := aM ((zL hg BK141)); have NB142_141 := aM ((zM hg BK141)); replace BK141 := cB BK141 hb; clear hb hbox hg; have hnb7 := NB141_142.out; have hnc7 := NB142_141.out; have hcz8_0 := kk1 BK141; have hfz8_0 := kg1 BK141; have hcz9_0 := kk1 BK142; have hfz9_0 := kg1 BK142) | (go_at_call 97; (with_reducible refine (laws_eqIntSSS.calls k _ _ l0_0 _ _ l1_0 true _ ?side1 ?side2 ?side3 ?side4 A3.out).mono ?_); (case side1 => exact zC (Kd.C_below HR0_0.out HB.out)); (case side2 => exact HC0_0.out); (case side3 => exact zC (Kd.C_below HR1_0.out HB.out)); (case side4 => exact HC1_0.out); rintro e w' ⟨rfl, ⟨nd, rfl⟩⟩))
  go_ret
  exact ⟨zR, zH⟩
 ·replace c4 := Bool.eq_false_iff.mpr c4
  subst c4
  replace H := iF H
  obtain rfl := Option.some.inj H
  go_enter Try.func46, Try.ntmps46
  go_wp2_with (first | ((with_reducible refine gate_dst (N := 2) rfl ?_); refine box_event ?hg (N := 2) ?hd (cs := #[.slice A0_0 l0_0.length c0_0]) (t := 63) ?hr ?_; (case hd => rfl); (case hg => rfl); (case hr => first | (go_simp; done) | (go_simp; rfl)); intro gb141 hg w10 hbox hb; have BK141 := aM hbox; have GW141 := aM (zG hg : w.heap.size ≤ gb141); have GE141 := aM (zG hg : w.heap.size ≤ gb141); replace HB := cH HB hb; clear hb hbox hg) | ((with_reducible refine gate_dst (N := 3) rfl ?_); refine box_event ?hg (N := 3) ?hd (cs := #[.slice A1_0 l1_0.length c1_0]) (t := 63) ?hr ?_; (case hd => rfl); (case hg => rfl); (case hr => first | (go_simp; done) | (go_simp; rfl)); intro gb142 hg w11 hbox hb; have BK142 := aM hbox; have GW142 := aM (zG hg : w.heap.size ≤ gb142); have GE142 := aM (zG hg : w.heap.size ≤ gb142); replace HB := cH HB hb; have NB141_142 := aM ((zL hg BK141)); have NB142_141 := aM ((zM hg BK141)); replace BK141 := cB BK141 hb; clear hb hbox hg; have hnb12 := NB141_142.out; have hnc12 := NB142_141.out; have hcz13_0 := kk1 BK141; have hfz13_0 := kg1 BK141; have hcz14_0 := kk1 BK142; have hfz14_0 := kg1 BK142) | (go_at_call 97; (with_reducible refine (laws_eqIntSSS.calls k _ _ l0_0 _ _ l1_0 false _ ?side1 ?side2 ?side3 ?side4 A3.out).mono ?_); (case side1 => exact zC (Kd.C_below HR0_0.out HB.out)); (case side2 => exact HC0_0.out); (case side3 => exact zC (Kd.C_below HR1_0.out HB.out)); (case side4 => exact HC1_0.out); rintro e w' ⟨rfl, ⟨nd, rfl⟩⟩))
  go_ret
  exact ⟨zR, zH⟩

theorem eqCoefs_f (l : List (List (List Int))) (hl : l.length ≤ 1048576) (hx : ∀ x ∈ l, BndS 1048576 x) : Ev (fun k => laws_eqCoefs.f k l l) true := by
  unfold laws_eqCoefs.f
  exact evBind (eqIntSSS_f l hl hx) (evPos rfl (Ev.now _))

/-! ### laws_markCompS: function 98 -/
def laws_markCompS.l0 : Nat → List (S42) → Int → Int → Option (Int × (List (S42)))
  | 0, _, _, _ => none
  | k + 1, x0, x1, x5 => if x5 < (x0.length : Int) then (if 0 ≤ x5 then ((some (x0.set (x5 : Int).toNat (⟨x1, (rd_T42 x0 x5).f1, (rd_T42 x0 x5).f2, (rd_T42 x0 x5).f3⟩ : S42) : List (S42))).bind fun y144 => ((some (y144.set (x5 : Int).toNat (⟨(rd_T42 y144 x5).f0, wrap64 (x1 + 1), (rd_T42 y144 x5).f2, (rd_T42 y144 x5).f3⟩ : S42) : List (S42))).bind fun y145 => ((some (y145.set (x5 : Int).toNat (⟨(rd_T42 y145 x5).f0, (rd_T42 y145 x5).f1, wrap64 ((wrap64 (x1 + 1)) + 1), (rd_T42 y145 x5).f3⟩ : S42) : List (S42))).bind fun y146 => (laws_markCompS.l0 k (y146.set (x5 : Int).toNat (⟨(rd_T42 y146 x5).f0, (rd_T42 y146 x5).f1, (rd_T42 y146 x5).f2, wrap64 ((wrap64 ((wrap64 (x1 + 1)) + 1)) + 1)⟩ : S42)) (wrap64 ((wrap64 ((wrap64 ((wrap64 (x1 + 1)) + 1)) + 1)) + 1)) (wrap64 (x5 + 1)))))) else (none)) else (some (x1, x0))
def laws_markCompS.f (k : Nat) (l0 : List (S42)) (a1 : Int) : Option (Int × (List (S42))) := laws_markCompS.l0 k l0 a1 0
set_option maxHeartbeats 8000000 in
set_option maxRecDepth 100000 in
theorem laws_markCompS.calls (k : Nat) (P0_ : Nat → Prop) (u9000_ : Value) (l0 : List (S42)) (a1 : Int) (r1 : Int) (r2 : List (S42)) (w0 w : World) (hB : Below w0.heap.size w0 w) (ho0 : Kd.R k42 42 w w0.heap.size P0_ u9000_ l0) (h : laws_markCompS.f k l0 a1 = some (r1, r2)) :
  Calls Try.prog 98 #[u9000_, .int .i64 a1] w fun e w' => e = .returned (.int .i64 r1) ∧ Kd.R k42 42 w' w0.heap.size (fun k_ => (P0_ k_ ∨ w.heap.size ≤ k_)) u9000_ r2 ∧ Below w0.heap.size w0 w' ∧ Kept w w' (fun k_ => P0_ k_) := by
 have HO0 := aM (show Kd.R k42 42 w w0.heap.size (fun k_ => (P0_ k_ ∨ w.heap.size ≤ k_)) u9000_ l0 from Kd.R_mono ho0 (fun k_ hk => (.inl hk)))
 have HK := aM (Kept.refl w (fun k_ => P0_ k_))
 have HW0 := aM hB.size
 have HB := aM hB
 clear hB
 have H : (laws_markCompS.l0 k l0 a1 0) = some (r1, r2) := h
 clear h
 have H' := aM H
 clear H
 go_enter Try.func98, Try.ntmps98
 go_wp2
 go_loopg [1, 5] k (fun kq v1 v5 w' => ∃ (x0_1 : List (S42)) (x1_1 : Int) (x5_1 : Int), v1 = .int .i64 x1_1 ∧ v5 = .int .i64 x5_1 ∧ Aside0 (laws_markCompS.l0 kq x0_1 x1_1 x5_1 = some (r1, r2)) ∧ Aside0 (kq ≤ k) ∧ Aside0 (Kd.R k42 42 w' w0.heap.size (fun k_ => (P0_ k_ ∨ w.heap.size ≤ k_)) u9000_ x0_1) ∧ Aside0 (Kept w w' (fun k_ => P0_ k_)) ∧ Aside0 (Below w0.heap.size w0 w'))
 case atStart => exact ⟨(l0), (a1), (0), zS, zS, H', ⟨Nat.le_refl _⟩, ⟨by (with_reducible repeat (first | apply Kd.R_alloc | apply Kd.R_drewN | apply Kd.R_drew)); exact HO0.out⟩, ⟨by repeat (first | (with_reducible first | exact HK.out | apply Kept.alloc | apply Kept.drewN | apply Kept.drew) | exact HK.out)⟩, ⟨zH⟩⟩
 case round =>
  clear H'
  obtain ⟨x0_1, x1_1, x5_1, rfl, rfl, HA, HK1, HO_0, HK, HB⟩ := hrel
  cases gk with
  | zero => exact absurd HA.out (by simp [laws_markCompS.l0])
  | succ k1 =>
   have H := HA.out
   clear HA
   simp only [laws_markCompS.l0] at H
   by_cases c3 : x5_1 < (x0_1.length : Int)
   ·rw [if_pos c3] at H
    have c3b0 : decide (x5_1 < (x0_1.length : Int)) = true := decide_eq_true c3
    clear c3
    by_cases c4 : 0 ≤ x5_1
    ·rw [if_pos c4] at H
     have c4b0 : decide (0 ≤ x5_1) = true := decide_eq_true c4
     clear c4
     obtain ⟨y144, hy144⟩ : ∃ y_ : List (S42), y_ = (x0_1.set (x5_1 : Int).toNat (⟨x1_1, (rd_T42 x0_1 x5_1).f1, (rd_T42 x0_1 x5_1).f2, (rd_T42 x0_1 x5_1).f3⟩ : S42)) := ⟨_, rfl⟩
     replace H : ((some (y144.set (x5_1 : Int).toNat (⟨(rd_T42 y144 x5_1).f0, wrap64 (x1_1 + 1), (rd_T42 y144 x5_1).f2, (rd_T42 y144 x5_1).f3⟩ : S42) : List (S42))).bind fun y145 => ((some (y145.set (x5_1 : Int).toNat (⟨(rd_T42 y145 x5_1).f0, (rd_T42 y145 x5_1).f1, wrap64 ((wrap64 (x1_1 + 1)) + 1), (rd_T42 y145 x5_1).f3⟩ : S42) : List (S42))).bind fun y146 => (laws_markCompS.l0 k1 (y146.set (x5_1 : Int).toNat (⟨(rd_T42 y146 x5_1).f0, (rd_T42 y146 x5_1).f1, (rd_T42 y146 x5_1).f2, wrap64 ((wrap64 ((wrap64 (x1_1 + 1)) + 1)) + 1)⟩ : S42)) (wrap64 ((wrap64 ((wrap64 ((wrap64 (x1_1 + 1)) + 1)) + 1)) + 1)) (wrap64 (x5_1 + 1))))) = some (r1, r2) := by first | (rw [hy144]; with_reducible exact H) | (have H2_ := (Option.bind_some _ _).symm.trans H; rw [hy144]; with_reducible exact H2_) | (have H2_ := (Option.bind_some _ _).symm.trans H; with_reducible exact H2_) | with_reducible exact H | (rw [hy144]; exact H) | exact H
     have Ny144 := aM hy144
     clear hy144
     obtain ⟨y145, hy145⟩ : ∃ y_ : List (S42), y_ = (y144.set (x5_1 : Int).toNat (⟨(rd_T42 y144 x5_1).f0, wrap64 (x1_1 + 1), (rd_T42 y144 x5_1).f2, (rd_T42 y144 x5_1).f3⟩ : S42)) := ⟨_, rfl⟩
     replace H : ((some (y145.set (x5_1 : Int).toNat (⟨(rd_T42 y145 x5_1).f0, (rd_T42 y145 x5_1).f1, wrap64 ((wrap64 (x1_1 + 1)) + 1), (rd_T42 y145 x5_1).f3⟩ : S42) : List (S42))).bind fun y146 => (laws_markCompS.l0 k1 (y146.set (x5_1 : Int).toNat (⟨(rd_T42 y146 x5_1).f0, (rd_T42 y146 x5_1).f1, (rd_T42 y146 x5_1).f2, wrap64 ((wrap64 ((wrap64 (x1_1 + 1)) + 1)) + 1)⟩ : S42)) (wrap64 ((wrap64 ((wrap64 ((wrap64 (x1_1 + 1)) + 1)) + 1)) + 1)) (wrap64 (x5_1 + 1)))) = some (r1, r2) := by first | (rw [hy145]; with_reducible exact H) | (have H2_ := (Option.bind_some _ _).symm.trans H; rw [hy145]; with_reducible exact H2_) | (have H2_ := (Option.bind_some _ _).symm.trans H; with_reducible exact H2_) | with_reducible exact H | (rw [hy145]; exact H) | exact H
     have Ny145 := aM hy145
     clear hy145
     obtain ⟨y146, hy146⟩ : ∃ y_ : List (S42), y_ = (y145.set (x5_1 : Int).toNat (⟨(rd_T42 y145 x5_1).f0, (rd_T42 y145 x5_1).f1, wrap64 ((wrap64 (x1_1 + 1)) + 1), (rd_T42 y145 x5_1).f3⟩ : S42)) := ⟨_, rfl⟩
     replace H : (laws_markCompS.l0 k1 (y146.set (x5_1 : Int).toNat (⟨(rd_T42 y146 x5_1).f0, (rd_T42 y146 x5_1).f1, (rd_T42 y146 x5_1).f2, wrap64 ((wrap64 ((wrap64 (x1_1 + 1)) + 1)) + 1)⟩ : S42)) (wrap64 ((wrap64 ((wrap64 ((wrap64 (x1_1 + 1)) + 1)) + 1)) + 1)) (wrap64 (x5_1 + 1))) = some (r1, r2) := by first | (rw [hy146]; with_reducible exact H) | (have H2_ := (Option.bind_some _ _).symm.trans H; rw [hy146]; with_reducible exact H2_) | (have H2_ := (Option.bind_some _ _).symm.trans H; with_reducible exact H2_) | with_reducible exact H | (rw [hy146]; exact H) | exact H
     have Ny146 := aM hy146
     clear hy146
     obtain ⟨y147, hy147⟩ : ∃ y_ : List (S42), y_ = (y146.set (x5_1 : Int).toNat (⟨(rd_T42 y146 x5_1).f0, (rd_T42 y146 x5_1).f1, (rd_T42 y146 x5_1).f2, wrap64 ((wrap64 ((wrap64 (x1_1 + 1)) + 1)) + 1)⟩ : S42)) := ⟨_, rfl⟩
     replace H : (laws_markCompS.l0 k1 y147 (wrap64 ((wrap64 ((wrap64 ((wrap64 (x1_1 + 1)) + 1)) + 1)) + 1)) (wrap64 (x5_1 + 1))) = some (r1, r2) := by first | (rw [hy147]; with_reducible exact H) | (have H2_ := (Option.bind_some _ _).symm.trans H; rw [hy147]; with_reducible exact H2_) | (have H2_ := (Option.bind_some _ _).symm.trans H; with_reducible exact H2_) | with_reducible exact H | (rw [hy147]; exact H) | exact H
     have Ny147 := aM hy147
     clear hy147
     have H' := aM H
     clear H
     obtain ⟨Ao9, co9, eo9⟩ := Kd.R_slice HO_0.out
     subst eo9
     have p5 : 0 ≤ (x5_1 : Int) := zA
     have q5 : (x5_1 : Int) < ((x0_1.length : Int) : Int) := zA
     obtain ⟨go5, co5, eo5, gb5, gl5, cl5, HG5⟩ := Kd.R_form HO_0.out (by omega)
     (first | cases eo5 | (injection eo5 with ea_ en_ ec_; (first | subst ea_ | (injection ea_ with ea_; subst ea_)); subst ec_; clear en_))
     have GB5 := aM gb5
     have GG5 := aM HG5
     clear gb5 gl5 HG5
     have HMgo5 := aM (show (P0_ go5 ∨ w.heap.size ≤ go5) from (HO_0.out.1 _ rfl))
     obtain ⟨ce5, hcl5, hM5, hcc5, hfr5⟩ := Kd.R_elem HO_0.out z42 (x5_1 : Int) p5 q5
     obtain rfl := k42_openM hM5
     have hx5_0 : wr.cell? ⟨go5, (x5_1 : Int).toNat * 4, none⟩ = some (.int .i64 ((rd_T42 x0_1 x5_1).f0)) := hcc5 0 _ rfl
     have hx5_1 : wr.cell? ⟨go5, (x5_1 : Int).toNat * 4 + 1, none⟩ = some (.int .i64 ((rd_T42 x0_1 x5_1).f1)) := hcc5 1 _ rfl
     have hx5_2 : wr.cell? ⟨go5, (x5_1 : Int).toNat * 4 + 2, none⟩ = some (.int .i64 ((rd_T42 x0_1 x5_1).f2)) := hcc5 2 _ rfl
     have hx5_3 : wr.cell? ⟨go5, (x5_1 : Int).toNat * 4 + 3, none⟩ = some (.int .i64 ((rd_T42 x0_1 x5_1).f3)) := hcc5 3 _ rfl
     have hf5_0 : wr.frozen? ⟨go5, (x5_1 : Int).toNat * 4, none⟩ = false := hfr5 0
     have hf5_1 : wr.frozen? ⟨go5, (x5_1 : Int).toNat * 4 + 1, none⟩ = false := hfr5 1
     have hf5_2 : wr.frozen? ⟨go5, (x5_1 : Int).toNat * 4 + 2, none⟩ = false := hfr5 2
     have hf5_3 : wr.frozen? ⟨go5, (x5_1 : Int).toNat * 4 + 3, none⟩ = false := hfr5 3
     (try clear hcl5); (try clear hcc5); (try clear hfr5); (try clear hM5)
     replace p5 := eq_true p5
     replace q5 := eq_true q5
     have HX10 := aM (show Kd.R k42 42 wr w0.heap.size (fun k_ => (P0_ k_ ∨ w.heap.size ≤ k_)) (.slice (some ⟨go5, 0, none⟩) x0_1.length co9) x0_1 from (by (with_reducible repeat (first | apply Kd.R_alloc | apply Kd.R_drewN | apply Kd.R_drew)); exact HO_0.out))
     obtain ⟨ce10, hcl10, hM10, hcc10, hfr10⟩ := Kd.R_elem HX10.out z42 (x5_1 : Int) (zA) (by have h_ : (x5_1 : Int) < ((x0_1.length : Int) : Int) := zA; first | exact h_ | (have e_ := (Kd.R_reads' HO_0.out).1; omega) | simpa using h_)
     obtain rfl := k42_openM hM10
     have HP10 := Kd.R_seg HX10.out (x5_1 : Int) (zA) (by have h_ : (x5_1 : Int) < ((x0_1.length : Int) : Int) := zA; first | exact h_ | (have e_ := (Kd.R_reads' HO_0.out).1; omega) | simpa using h_) (seg := [.int .i64 x1_1]) (j := 0) hcl10 hcc10 (show 1 ≤ 4 from by decide) (x' := (⟨x1_1, (rd_T42 x0_1 x5_1).f1, (rd_T42 x0_1 x5_1).f2, (rd_T42 x0_1 x5_1).f3⟩ : S42)) (k42_mkM _ _ _ (⟨x1_1, (rd_T42 x0_1 x5_1).f1, (rd_T42 x0_1 x5_1).f2, (rd_T42 x0_1 x5_1).f3⟩ : S42) ) (fun _ hk => hk)
     have hx10_0 := hcc10 0 _ rfl
     (try simp only [show (k42).sz = 4 from rfl, Nat.mul_one, Nat.add_zero] at hx10_0)
     have hf10_0 := hfr10 0
     (try simp only [show (k42).sz = 4 from rfl, Nat.mul_one, Nat.add_zero] at hf10_0)
     (try clear hcl10); (try clear hcc10); (try clear hfr10); (try clear hM10)
     go_wp2_with (first | ((with_reducible refine gate_store (t := 3) (p := 16) rfl ?_); refine store_event (t := 3) (p := 16) (v := ?vo_w11) (w1 := (wr.setCell ⟨go5, (x5_1 : Int).toNat * 4, none⟩ (.int .i64 x1_1))) ?hg ?ho ?hn ?hr ?_; (case ho => rfl); (case hg => rfl); (case hn => rfl); (case hr => first | (go_simp; done) | (go_simp; rfl)); intro w11 hw; have hg : wr.grownBy w11 (some go5) := (by rw [hw]; exact HP10.2); have hp_ : Kd.R k42 42 w11 w0.heap.size (fun k_ => (P0_ k_ ∨ w.heap.size ≤ k_)) (.slice (some ⟨go5, 0, none⟩) x0_1.length co9) y144 := (by rw [hw, Ny144.out]; exact HP10.1); clear HP10; replace HB := aM ((by rw [hw]; exact bS (HB.out) GB5.out : Below w0.heap.size w0 w11)); replace HK := aM (Kept.of_grown (S := (fun k_ => P0_ k_)) hg (by repeat (first | (with_reducible first | exact HK.out | apply Kept.alloc | apply Kept.drewN | apply Kept.drew) | exact HK.out)) (fun k_ e_ => (HO_0.out.1 k_ e_))); replace HO_0 := aM (hp_); clear hg hw hp_; have p6 : 0 ≤ (x5_1 : Int) := zA; have q6 : (x5_1 : Int) < ((x0_1.length : Int) : Int) := zA; obtain ⟨ce6, hcl6, hM6, hcc6, hfr6⟩ := Kd.R_elem HO_0.out z42 (x5_1 : Int) p6 q6; obtain rfl := k42_openM hM6; have hx6_0 : w11.cell? ⟨go5, (x5_1 : Int).toNat * 4, none⟩ = some (.int .i64 ((rd_T42 y144 x5_1).f0)) := hcc6 0 _ rfl; have hx6_1 : w11.cell? ⟨go5, (x5_1 : Int).toNat * 4 + 1, none⟩ = some (.int .i64 ((rd_T42 y144 x5_1).f1)) := hcc6 1 _ rfl; have hx6_2 : w11.cell? ⟨go5, (x5_1 : Int).toNat * 4 + 2, none⟩ = some (.int .i64 ((rd_T42 y144 x5_1).f2)) := hcc6 2 _ rfl; have hx6_3 : w11.cell? ⟨go5, (x5_1 : Int).toNat * 4 + 3, none⟩ = some (.int .i64 ((rd_T42 y144 x5_1).f3)) := hcc6 3 _ rfl; have hf6_0 : w11.frozen? ⟨go5, (x5_1 : Int).toNat * 4, none⟩ = false := hfr6 0; have hf6_1 : w11.frozen? ⟨go5, (x5_1 : Int).toNat * 4 + 1, none⟩ = false := hfr6 1; have hf6_2 : w11.frozen? ⟨go5, (x5_1 : Int).toNat * 4 + 2, none⟩ = false := hfr6 2; have hf6_3 : w11.frozen? ⟨go5, (x5_1 : Int).toNat * 4 + 3, none⟩ = false := hfr6 3; (try clear hcl6); (try clear hcc6); (try clear hfr6); (try clear hM6); replace p6 := eq_true p6; replace q6 := eq_true q6; have HX12 := aM (show Kd.R k42 42 w11 w0.heap.size (fun k_ => (P0_ k_ ∨ w.heap.size ≤ k_)) (.slice (some ⟨go5, 0, none⟩) x0_1.length co9) y144 from (by (with_reducible repeat (first | apply Kd.R_alloc | apply Kd.R_drewN | apply Kd.R_drew)); exact HO_0.out)); obtain ⟨ce12, hcl12, hM12, hcc12, hfr12⟩ := Kd.R_elem HX12.out z42 (x5_1 : Int) (zA) (by have h_ : (x5_1 : Int) < ((x0_1.length : Int) : Int) := zA; first | exact h_ | (have e_ := (Kd.R_reads' HO_0.out).1; omega) | simpa using h_); obtain rfl := k42_openM hM12; have HP12 := Kd.R_seg HX12.out (x5_1 : Int) (zA) (by have h_ : (x5_1 : Int) < ((x0_1.length : Int) : Int) := zA; first | exact h_ | (have e_ := (Kd.R_reads' HO_0.out).1; omega) | simpa using h_) (seg := [.int .i64 (wrap64 (x1_1 + 1))]) (j := 1) hcl12 hcc12 (show 2 ≤ 4 from by decide) (x' := (⟨(rd_T42 y144 x5_1).f0, wrap64 (x1_1 + 1), (rd_T42 y144 x5_1).f2, (rd_T42 y144 x5_1).f3⟩ : S42)) (k42_mkM _ _ _ (⟨(rd_T42 y144 x5_1).f0, wrap64 (x1_1 + 1), (rd_T42 y144 x5_1).f2, (rd_T42 y144 x5_1).f3⟩ : S42) ) (fun _ hk => hk); have hx12_1 := hcc12 1 _ rfl; (try simp only [show (k42).sz = 4 from rfl, Nat.mul_one, Nat.add_zero] at hx12_1); have hf12_1 := hfr12 1; (try simp only [show (k42).sz = 4 from rfl, Nat.mul_one, Nat.add_zero] at hf12_1); (try clear hcl12); (try clear hcc12); (try clear hfr12); (try clear hM12)) | ((with_reducible refine gate_store (t := 3) (p := 23) rfl ?_); refine store_event (t := 3) (p := 23) (v := ?vo_w13) (w1 := (w11.setCell ⟨go5, (x5_1 : Int).toNat * 4 + 1, none⟩ (.int .i64 (wrap64 (x1_1 + 1))))) ?hg ?ho ?hn ?hr ?_; (case ho => rfl); (case hg => rfl); (case hn => rfl); (case hr => first | (go_simp; done) | (go_simp; rfl)); intro w13 hw; have hg : w11.grownBy w13 (some go5) := (by rw [hw]; exact HP12.2); have hp_ : Kd.R k42 42 w13 w0.heap.size (fun k_ => (P0_ k_ ∨ w.heap.size ≤ k_)) (.slice (some ⟨go5, 0, none⟩) x0_1.length co9) y145 := (by rw [hw, Ny145.out]; exact HP12.1); clear HP12; replace HB := aM ((by rw [hw]; exact bS (HB.out) GB5.out : Below w0.heap.size w0 w13)); replace HK := aM (Kept.of_grown (S := (fun k_ => P0_ k_)) hg (by repeat (first | (with_reducible first | exact HK.out | apply Kept.alloc | apply Kept.drewN | apply Kept.drew) | exact HK.out)) (fun k_ e_ => (HO_0.out.1 k_ e_))); replace HO_0 := aM (hp_); clear hg hw hp_; have p7 : 0 ≤ (x5_1 : Int) := zA; have q7 : (x5_1 : Int) < ((x0_1.length : Int) : Int) := zA; obtain ⟨ce7, hcl7, hM7, hcc7, hfr7⟩ := Kd.R_elem HO_0.out z42 (x5_1 : Int) p7 q7; obtain rfl := k42_openM hM7; have hx7_0 : w13.cell? ⟨go5, (x5_1 : Int).toNat * 4, none⟩ = some (.int .i64 ((rd_T42 y145 x5_1).f0)) := hcc7 0 _ rfl; have hx7_1 : w13.cell? ⟨go5, (x5_1 : Int).toNat * 4 + 1, none⟩ = some (.int .i64 ((rd_T42 y145 x5_1).f1)) := hcc7 1 _ rfl; have hx7_2 : w13.cell? ⟨go5, (x5_1 : Int).toNat * 4 + 2, none⟩ = some (.int .i64 ((rd_T42 y145 x5_1).f2)) := hcc7 2 _ rfl; have hx7_3 : w13.cell? ⟨go5, (x5_1 : Int).toNat * 4 + 3, none⟩ = some (.int .i64 ((rd_T42 y145 x5_1).f3)) := hcc7 3 _ rfl; have hf7_0 : w13.frozen? ⟨go5, (x5_1 : Int).toNat * 4, none⟩ = false := hfr7 0; have hf7_1 : w13.frozen? ⟨go5, (x5_1 : Int).toNat * 4 + 1, none⟩ = false := hfr7 1; have hf7_2 : w13.frozen? ⟨go5, (x5_1 : Int).toNat * 4 + 2, none⟩ = false := hfr7 2; have hf7_3 : w13.frozen? ⟨go5, (x5_1 : Int).toNat * 4 + 3, none⟩ = false := hfr7 3; (try clear hcl7); (try clear hcc7); (try clear hfr7); (try clear hM7); replace p7 := eq_true p7; replace q7 := eq_true q7; have HX14 := aM (show Kd.R k42 42 w13 w0.heap.size (fun k_ => (P0_ k_ ∨ w.heap.size ≤ k_)) (.slice (some ⟨go5, 0, none⟩) x0_1.length co9) y145 from (by (with_reducible repeat (first | apply Kd.R_alloc | apply Kd.R_drewN | apply Kd.R_drew)); exact HO_0.out)); obtain ⟨ce14, hcl14, hM14, hcc14, hfr14⟩ := Kd.R_elem HX14.out z42 (x5_1 : Int) (zA) (by have h_ : (x5_1 : Int) < ((x0_1.length : Int) : Int) := zA; first | exact h_ | (have e_ := (Kd.R_reads' HO_0.out).1; omega) | simpa using h_); obtain rfl := k42_openM hM14; have HP14 := Kd.R_seg HX14.out (x5_1 : Int) (zA) (by have h_ : (x5_1 : Int) < ((x0_1.length : Int) : Int) := zA; first | exact h_ | (have e_ := (Kd.R_reads' HO_0.out).1; omega) | simpa using h_) (seg := [.int .i64 (wrap64 ((wrap64 (x1_1 + 1)) + 1))]) (j := 2) hcl14 hcc14 (show 3 ≤ 4 from by decide) (x' := (⟨(rd_T42 y145 x5_1).f0, (rd_T42 y145 x5_1).f1, wrap64 ((wrap64 (x1_1 + 1)) + 1), (rd_T42 y145 x5_1).f3⟩ : S42)) (k42_mkM _ _ _ (⟨(rd_T42 y145 x5_1).f0, (rd_T42 y145 x5_1).f1, wrap64 ((wrap64 (x1_1 + 1)) + 1), (rd_T42 y145 x5_1).f3⟩ : S42) ) (fun _ hk => hk); have hx14_2 := hcc14 2 _ rfl; (try simp only [show (k42).sz = 4 from rfl, Nat.mul_one, Nat.add_zero] at hx14_2); have hf14_2 := hfr14 2; (try simp only [show (k42).sz = 4 from rfl, Nat.mul_one, Nat.add_zero] at hf14_2); (try clear hcl14); (try clear hcc14); (try clear hfr14); (try clear hM14)) | ((with_reducible refine gate_store (t := 3) (p := 30) rfl ?_); refine store_event (t := 3) (p := 30) (v := ?vo_w15) (w1 := (w13.setCell ⟨go5, (x5_1 : Int).toNat * 4 + 2, none⟩ (.int .i64 (wrap64 ((wrap64 (x1_1 + 1)) + 1))))) ?hg ?ho ?hn ?hr ?_; (case ho => rfl); (case hg => rfl); (case hn => rfl); (case hr => first | (go_simp; done) | (go_simp; rfl)); intro w15 hw; have hg : w13.grownBy w15 (some go5) := (by rw [hw]; exact HP14.2); have hp_ : Kd.R k42 42 w15 w0.heap.size (fun k_ => (P0_ k_ ∨ w.heap.size ≤ k_)) (.slice (some ⟨go5, 0, none⟩) x0_1.length co9) y146 := (by rw [hw, Ny146.out]; exact HP14.1); clear HP14; replace HB := aM ((by rw [hw]; exact bS (HB.out) GB5.out : Below w0.heap.size w0 w15)); replace HK := aM (Kept.of_grown (S := (fun k_ => P0_ k_)) hg (by repeat (first | (with_reducible first | exact HK.out | apply Kept.alloc | apply Kept.drewN | apply Kept.drew) | exact HK.out)) (fun k_ e_ => (HO_0.out.1 k_ e_))); replace HO_0 := aM (hp_); clear hg hw hp_; have p8 : 0 ≤ (x5_1 : Int) := zA; have q8 : (x5_1 : Int) < ((x0_1.length : Int) : Int) := zA; obtain ⟨ce8, hcl8, hM8, hcc8, hfr8⟩ := Kd.R_elem HO_0.out z42 (x5_1 : Int) p8 q8; obtain rfl := k42_openM hM8; have hx8_0 : w15.cell? ⟨go5, (x5_1 : Int).toNat * 4, none⟩ = some (.int .i64 ((rd_T42 y146 x5_1).f0)) := hcc8 0 _ rfl; have hx8_1 : w15.cell? ⟨go5, (x5_1 : Int).toNat * 4 + 1, none⟩ = some (.int .i64 ((rd_T42 y146 x5_1).f1)) := hcc8 1 _ rfl; have hx8_2 : w15.cell? ⟨go5, (x5_1 : Int).toNat * 4 + 2, none⟩ = some (.int .i64 ((rd_T42 y146 x5_1).f2)) := hcc8 2 _ rfl; have hx8_3 : w15.cell? ⟨go5, (x5_1 : Int).toNat * 4 + 3, none⟩ = some (.int .i64 ((rd_T42 y146 x5_1).f3)) := hcc8 3 _ rfl; have hf8_0 : w15.frozen? ⟨go5, (x5_1 : Int).toNat * 4, none⟩ = false := hfr8 0; have hf8_1 : w15.frozen? ⟨go5, (x5_1 : Int).toNat * 4 + 1, none⟩ = false := hfr8 1; have hf8_2 : w15.frozen? ⟨go5, (x5_1 : Int).toNat * 4 + 2, none⟩ = false := hfr8 2; have hf8_3 : w15.frozen? ⟨go5, (x5_1 : Int).toNat * 4 + 3, none⟩ = false := hfr8 3; (try clear hcl8); (try clear hcc8); (try clear hfr8); (try clear hM8); replace p8 := eq_true p8; replace q8 := eq_true q8; have HX16 := aM (show Kd.R k42 42 w15 w0.heap.size (fun k_ => (P0_ k_ ∨ w.heap.size ≤ k_)) (.slice (some ⟨go5, 0, none⟩) x0_1.length co9) y146 from (by (with_reducible repeat (first | apply Kd.R_alloc | apply Kd.R_drewN | apply Kd.R_drew)); exact HO_0.out)); obtain ⟨ce16, hcl16, hM16, hcc16, hfr16⟩ := Kd.R_elem HX16.out z42 (x5_1 : Int) (zA) (by have h_ : (x5_1 : Int) < ((x0_1.length : Int) : Int) := zA; first | exact h_ | (have e_ := (Kd.R_reads' HO_0.out).1; omega) | simpa using h_); obtain rfl := k42_openM hM16; have HP16 := Kd.R_seg HX16.out (x5_1 : Int) (zA) (by have h_ : (x5_1 : Int) < ((x0_1.length : Int) : Int) := zA; first | exact h_ | (have e_ := (Kd.R_reads' HO_0.out).1; omega) | simpa using h_) (seg := [.int .i64 (wrap64 ((wrap64 ((wrap64 (x1_1 + 1)) + 1)) + 1))]) (j := 3) hcl16 hcc16 (show 4 ≤ 4 from by decide) (x' := (⟨(rd_T42 y146 x5_1).f0, (rd_T42 y146 x5_1).f1, (rd_T42 y146 x5_1).f2, wrap64 ((wrap64 ((wrap64 (x1_1 + 1)) + 1)) + 1)⟩ : S42)) (k42_mkM _ _ _ (⟨(rd_T42 y146 x5_1).f0, (rd_T42 y146 x5_1).f1, (rd_T42 y146 x5_1).f2, wrap64 ((wrap64 ((wrap64 (x1_1 + 1)) + 1)) + 1)⟩ : S42) ) (fun _ hk => hk); have hx16_3 := hcc16 3 _ rfl; (try simp only [show (k42).sz = 4 from rfl, Nat.mul_one, Nat.add_zero] at hx16_3); have hf16_3 := hfr16 3; (try simp only [show (k42).sz = 4 from rfl, Nat.mul_one, Nat.add_zero] at hf16_3); (try clear hcl16); (try clear hcc16); (try clear hfr16); (try clear hM16)) | ((with_reducible refine gate_store (t := 3) (p := 37) rfl ?_); refine store_event (t := 3) (p := 37) (v := ?vo_w17) (w1 := (w15.setCell ⟨go5, (x5_1 : Int).toNat * 4 + 3, none⟩ (.int .i64 (wrap64 ((wrap64 ((wrap64 (x1_1 + 1)) + 1)) + 1))))) ?hg ?ho ?hn ?hr ?_; (case ho => rfl); (case hg => rfl); (case hn => rfl); (case hr => first | (go_simp; done) | (go_simp; rfl)); intro w17 hw; have hg : w15.grownBy w17 (some go5) := (by rw [hw]; exact HP16.2); have hp_ : Kd.R k42 42 w17 w0.heap.size (fun k_ => (P0_ k_ ∨ w.heap.size ≤ k_)) (.slice (some ⟨go5, 0, none⟩) x0_1.length co9) y147 := (by rw [hw, Ny147.out]; exact HP16.1); clear HP16; replace HB := aM ((by rw [hw]; exact bS (HB.out) GB5.out : Below w0.heap.size w0 w17)); replace HK := aM (Kept.of_grown (S := (fun k_ => P0_ k_)) hg (by repeat (first | (with_reducible first | exact HK.out | apply Kept.alloc | apply Kept.drewN | apply Kept.drew) | exact HK.out)) (fun k_ e_ => (HO_0.out.1 k_ e_))); replace HO_0 := aM (hp_); clear hg hw hp_))
     go_roundg k1
     case measure => have := HK1.out; omega
     case rel => exact ⟨(y147), (wrap64 ((wrap64 ((wrap64 ((wrap64 (x1_1 + 1)) + 1)) + 1)) + 1)), (wrap64 (x5_1 + 1)), zS, zS, H', ⟨by have := HK1.out; omega⟩, ⟨by (with_reducible repeat (first | apply Kd.R_alloc | apply Kd.R_drewN | apply Kd.R_drew)); exact HO_0.out⟩, ⟨by repeat (first | (with_reducible first | exact HK.out | apply Kept.alloc | apply Kept.drewN | apply Kept.drew) | exact HK.out)⟩, ⟨zH⟩⟩
    ·rw [if_neg c4] at H
     exact absurd H (by simp)
   ·rw [if_neg c3] at H
    have c3b0 : decide (x5_1 < (x0_1.length : Int)) = false := decide_eq_false c3
    clear c3
    simp only [Option.some.injEq, Prod.mk.injEq] at H
    obtain ⟨rfl, rfl⟩ := H
    obtain ⟨Ao18, co18, eo18⟩ := Kd.R_slice HO_0.out
    subst eo18
    go_wp2
    go_ret
    exact ⟨zR, by (with_reducible repeat (first | apply Kd.R_alloc | apply Kd.R_drewN | apply Kd.R_drew)); exact HO_0.out, zH, by repeat (first | (with_reducible first | exact HK.out | apply Kept.alloc | apply Kept.drewN | apply Kept.drew) | exact HK.out)⟩

def countC (a : Int) (n : Nat) : List S42 := (List.range n).map (fun (i : Nat) => ⟨a + 4 * i, a + 4 * i + 1, a + 4 * i + 2, a + 4 * i + 3⟩)
theorem countC_length (a : Int) (n : Nat) : (countC a n).length = n := by simp [countC]
theorem countC_succ (a : Int) (n : Nat) : countC a (n + 1) = countC a n ++ [⟨a + 4 * n, a + 4 * n + 1, a + 4 * n + 2, a + 4 * n + 3⟩] := by simp [countC, List.range_succ]
theorem markCompS_l0 (l : List S42) (a : Int) (h0 : 0 ≤ a) (h1 : a + 4 * l.length ≤ 4611686018427387904) : ∀ (d i : Nat), i + d = l.length → Ev (fun k => laws_markCompS.l0 k (countC a i ++ l.drop i) (a + 4 * i) i) (a + 4 * l.length, countC a l.length) := by
  intro d
  induction d with
  | zero =>
    intro i hi
    obtain rfl : i = l.length := by omega
    refine Ev.step (fun k => by rw [laws_markCompS.l0]) ?_
    rw [List.drop_length, List.append_nil]
    exact evNeg (by rw [countC_length]; omega) (Ev.now _)
  | succ d ih =>
    intro i hi
    have hlt : i < l.length := by omega
    refine Ev.step (fun k => by rw [laws_markCompS.l0]) ?_
    refine evPos (by rw [List.length_append, countC_length, List.length_drop]; omega) (evPos (by omega) (evBind (Ev.now _) (evBind (Ev.now _) (evBind (Ev.now _) ?_))))
    have e : ∀ (x : S42), (countC a i ++ l.drop i).set i x = countC a i ++ x :: l.drop (i + 1) := fun x => by
      rw [List.set_append_right _ _ (by rw [countC_length]; exact Nat.le_refl _), countC_length, Nat.sub_self, drop_get hlt, List.set_cons_zero]
    have e2 : ∀ (x y : S42), (countC a i ++ x :: l.drop (i + 1)).set i y = countC a i ++ y :: l.drop (i + 1) := fun x y => by
      rw [List.set_append_right _ _ (by rw [countC_length]; exact Nat.le_refl _), countC_length, Nat.sub_self, List.set_cons_zero]
    have e3 : ∀ (x : S42), rd_T42 (countC a i ++ x :: l.drop (i + 1)) (i : Int) = x := fun x => by
      simp [rd_T42, List.getD, countC_length]
    simp only [Int.toNat_natCast, e, e2, e3]
    rw [w64 (x := a + 4 * (i : Int) + 1) (by omega) (by omega), w64 (x := a + 4 * (i : Int) + 1 + 1) (by omega) (by omega), w64 (x := a + 4 * (i : Int) + 1 + 1 + 1) (by omega) (by omega), w64 (x := a + 4 * (i : Int) + 1 + 1 + 1 + 1) (by omega) (by omega), w64 (x := (i : Int) + 1) (by omega) (by omega)]
    have := ih (i + 1) (by omega)
    rw [countC_succ, List.append_assoc] at this
    rw [show a + 4 * (i : Int) + 1 + 1 + 1 + 1 = a + 4 * ((i + 1 : Nat) : Int) from by omega, show (i : Int) + 1 = ((i + 1 : Nat) : Int) from by omega, show a + 4 * (i : Int) + 1 + 1 + 1 = a + 4 * (i : Int) + 3 from by omega, show a + 4 * (i : Int) + 1 + 1 = a + 4 * (i : Int) + 2 from by omega]
    exact this
theorem markCompS_f (l : List S42) (a : Int) (h0 : 0 ≤ a) (h1 : a + 4 * l.length ≤ 4611686018427387904) : Ev (fun k => laws_markCompS.f k l a) (a + 4 * l.length, countC a l.length) := by
  have := markCompS_l0 l a h0 h1 l.length 0 (by omega)
  simpa [laws_markCompS.f, countC] using this

/-! ### laws_markFrame: function 47 -/
def laws_markFrame.f (k : Nat) (a0_0 : Int) (a0_1 : Int) (a0_2 : Int) (a0_3 : Int) (l0_4 : List (S42)) (a1 : Int) : Option (Int × (List (S42))) := (laws_markCompS.f k l0_4 a1).bind fun bt149 => (some (bt149.1, bt149.2))
set_option maxHeartbeats 8000000 in
set_option maxRecDepth 100000 in
theorem laws_markFrame.calls (k : Nat) (a0_0 : Int) (a0_1 : Int) (a0_2 : Int) (a0_3 : Int) (P0_4_ : Nat → Prop) (u9000_ : Value) (l0_4 : List (S42)) (a1 : Int) (r1 : Int) (r2 : List (S42)) (w0 w : World) (hB : Below w0.heap.size w0 w) (ho0_4 : Kd.R k42 42 w w0.heap.size P0_4_ u9000_ l0_4) (h : laws_markFrame.f k a0_0 a0_1 a0_2 a0_3 l0_4 a1 = some (r1, r2)) :
  Calls Try.prog 47 #[.agg #[.int .i64 a0_0, .int .i64 a0_1, .int .i64 a0_2, .int .i64 a0_3, u9000_], .int .i64 a1] w fun e w' => e = .returned (.int .i64 r1) ∧ Kd.R k42 42 w' w0.heap.size (fun k_ => (P0_4_ k_ ∨ w.heap.size ≤ k_)) u9000_ r2 ∧ Below w0.heap.size w0 w' ∧ Kept w w' (fun k_ => P0_4_ k_) := by
 have hu45 := Try.underlying45
 have HO0_4 := aM (show Kd.R k42 42 w w0.heap.size (fun k_ => (P0_4_ k_ ∨ w.heap.size ≤ k_)) u9000_ l0_4 from Kd.R_mono ho0_4 (fun k_ hk => (.inl hk)))
 have HK := aM (Kept.refl w (fun k_ => P0_4_ k_))
 have HW0 := aM hB.size
 have HB := aM hB
 clear hB
 have H : ((laws_markCompS.f k l0_4 a1).bind fun bt149 => (some (bt149.1, bt149.2))) = some (r1, r2) := h
 clear h
 replace H := oB H
 obtain ⟨⟨t149, t150⟩, A30, H⟩ := H
 replace H : (some (t149, t150)) = some (r1, r2) := H
 have A3 := aM A30
 clear A30
 simp only [Option.some.injEq, Prod.mk.injEq] at H
 obtain ⟨rfl, rfl⟩ := H
 obtain ⟨Ao4, co4, eo4⟩ := Kd.R_slice HO0_4.out
 subst eo4
 go_enter Try.func47, Try.ntmps47
 go_wp2_with (first | ((with_reducible refine gate_dst (N := 2) rfl ?_); refine box_event ?hg (N := 2) ?hd (cs := #[.int .i64 a0_0, .int .i64 a0_1, .int .i64 a0_2, .int .i64 a0_3, .slice Ao4 l0_4.length co4]) (t := 45) ?hr ?_; (case hd => rfl); (case hg => rfl); (case hr => first | (go_simp; done) | (go_simp; rfl)); intro gb148 hg w5 hbox hb; replace HO0_4 := aM (Kd.R_below (by (with_reducible repeat (first | apply Kd.R_alloc | apply Kd.R_drewN | apply Kd.R_drew)); exact HO0_4.out) hb); have BK148 := aM hbox; have GW148 := aM ((by rw [hg]; exact (by first | exact HK.out.1 | exact (show Kept w _ (fun k_ => P0_4_ k_) from by repeat (first | (with_reducible first | exact HK.out | apply Kept.alloc | apply Kept.drewN | apply Kept.drew) | exact HK.out)).1) : w.heap.size ≤ gb148)); replace HK := aM (Kept.below (S := (fun k_ => P0_4_ k_)) (by repeat (first | (with_reducible first | exact HK.out | apply Kept.alloc | apply Kept.drewN | apply Kept.drew) | exact HK.out)) hb); have GE148 := aM (zG hg : w0.heap.size ≤ gb148); replace HB := cH HB hb; clear hb hbox hg; obtain ⟨hcz6_0, hcz6_1, hcz6_2, hcz6_3, hcz6_4⟩ := kk5 BK148; obtain ⟨hfz6_0, hfz6_1, hfz6_2, hfz6_3, hfz6_4⟩ := kg5 BK148) | (go_at_call 98; (with_reducible refine (laws_markCompS.calls k (fun k_ => some k_ = (.slice Ao4 l0_4.length co4 : Value).ownBlock) (.slice Ao4 l0_4.length co4) l0_4 a1 t149 t150 w0 _ ?side1 ?side2 A3.out).mono ?_); (case side1 => repeat (first | (with_reducible first | exact HB.out | apply bA | apply bN | apply b1 | refine bS ?_ GE148.out) | exact HB.out)); (case side2 => exact Kd.R_tight rfl HO0_4.out); rintro e w7 ⟨rfl, hy0, hb, hkp⟩; replace BK148 := aM (blk_kept (zK BK148) hkp (fun hs_ => (fun e_ => (Kd.R_ne HO0_4.out BK148.out (by decide)) e_) hs_)); replace HK := aM (Kept.then_ (S := (fun k_ => P0_4_ k_)) (by repeat (first | (with_reducible first | exact HK.out | apply Kept.alloc | apply Kept.drewN | apply Kept.drew | refine Kept.setCell ?_ (.inr GW148.out) _) | exact HK.out)) hkp (fun k_ hs_ => (fun e_ => (HO0_4.out.1 k_ e_.symm)) hs_)); replace HO0_4 := aM (Kd.R_reok rfl hy0 (fun k_ e_ => HO0_4.out.1 k_ e_)); replace HB := aM (hb); (try clear hb); (try clear hkp); (try clear hy0)))
 go_ret
 exact ⟨zR, by (with_reducible repeat (first | apply Kd.R_alloc | apply Kd.R_drewN | apply Kd.R_drew)); exact HO0_4.out, zH, by repeat (first | (with_reducible first | exact HK.out | apply Kept.alloc | apply Kept.drewN | apply Kept.drew | refine Kept.setCell ?_ (.inr GW148.out) _) | exact HK.out)⟩

theorem markFrame_f (p w h r : Int) (l : List S42) (a : Int) (h0 : 0 ≤ a) (h1 : a + 4 * l.length ≤ 4611686018427387904) : Ev (fun k => laws_markFrame.f k p w h r l a) (a + 4 * l.length, countC a l.length) := by
  unfold laws_markFrame.f
  exact evBind (markCompS_f l a h0 h1) (Ev.now _)

/-! ### laws_markIntSS: function 64 (by hand) -/
def laws_markIntSS.l0 : Nat → List (List Int) → Int → Int → Option (Int × List (List Int))
  | 0, _, _, _ => none
  | k + 1, x0, x1, x5 => if x5 < (x0.length : Int) then (if 0 ≤ x5 then ((laws_markIntS.f k (rd_L3 x0 x5) x1).bind fun bt => (laws_markIntSS.l0 k (x0.set (x5 : Int).toNat bt.2) bt.1 (wrap64 (x5 + 1)))) else (none)) else (some (x1, x0))
def laws_markIntSS.f (k : Nat) (l0 : List (List Int)) (a1 : Int) : Option (Int × List (List Int)) := laws_markIntSS.l0 k l0 a1 0
set_option maxHeartbeats 8000000 in
set_option maxRecDepth 100000 in
theorem laws_markIntSS.calls (k : Nat) (P0_ : Nat → Prop) (u9000_ : Value) (l0 : List (List Int)) (a1 : Int) (r1 : Int) (r2 : List (List Int)) (w0 w : World) (hB : Below w0.heap.size w0 w) (ho0 : Kd.S (Kd.slice 3 (Kd.int .i64)) 22 w w0.heap.size P0_ u9000_ l0) (h : laws_markIntSS.f k l0 a1 = some (r1, r2)) :
  Calls Try.prog 64 #[u9000_, .int .i64 a1] w fun e w' => e = .returned (.int .i64 r1) ∧ Kd.S (Kd.slice 3 (Kd.int .i64)) 22 w' w0.heap.size P0_ u9000_ r2 ∧ Below w0.heap.size w0 w' ∧ Kept w w' (fun k_ => P0_ k_) := by
 have HO0 := aM ho0
 have HK := aM (Kept.refl w (fun k_ => P0_ k_))
 have HB := aM hB
 clear hB ho0
 have H' := aM (show laws_markIntSS.l0 k l0 a1 0 = some (r1, r2) from h)
 clear h
 go_enter Try.func64, Try.ntmps64
 go_wp2
 go_loopg [1, 5] k (fun kq v1 v5 w' => ∃ (x0_1 : List (List Int)) (x1_1 : Int) (x5_1 : Int), v1 = .int .i64 x1_1 ∧ v5 = .int .i64 x5_1 ∧ Aside0 (laws_markIntSS.l0 kq x0_1 x1_1 x5_1 = some (r1, r2)) ∧ Aside0 (kq ≤ k) ∧ Aside0 (Kd.S (Kd.slice 3 (Kd.int .i64)) 22 w' w0.heap.size P0_ u9000_ x0_1) ∧ Aside0 (Kept w w' (fun k_ => P0_ k_)) ∧ Aside0 (Below w0.heap.size w0 w'))
 case atStart => exact ⟨(l0), (a1), (0), zS, zS, H', ⟨Nat.le_refl _⟩, ⟨by (with_reducible repeat (first | apply Kd.S_alloc | apply Kd.S_drewN | apply Kd.S_drew)); exact HO0.out⟩, ⟨by repeat (first | (with_reducible first | exact HK.out | apply Kept.alloc | apply Kept.drewN | apply Kept.drew) | exact HK.out)⟩, ⟨zH⟩⟩
 case round =>
  clear H'
  obtain ⟨x0_1, x1_1, x5_1, rfl, rfl, HA, HK1, HO_0, HK, HB⟩ := hrel
  cases gk with
  | zero => exact absurd HA.out (by simp [laws_markIntSS.l0])
  | succ k1 =>
   have H := HA.out
   clear HA
   simp only [laws_markIntSS.l0] at H
   obtain ⟨Ao6, co6, eo6⟩ := Kd.S_slice HO_0.out
   subst eo6
   by_cases c3 : x5_1 < (x0_1.length : Int)
   ·rw [if_pos c3] at H
    have c3b0 : decide (x5_1 < (x0_1.length : Int)) = true := decide_eq_true c3
    by_cases c4 : 0 ≤ x5_1
    ·rw [if_pos c4] at H
     have c4b0 : decide (0 ≤ x5_1) = true := decide_eq_true c4
     obtain ⟨⟨t1, t2⟩, A0, H⟩ := oB H
     obtain ⟨xe, hxe⟩ : ∃ xe : List Int, xe = x0_1.getD (x5_1 : Int).toNat [] := ⟨_, rfl⟩
     have A1 : Aside0 (laws_markIntS.f k1 xe x1_1 = some (t1, t2)) := ⟨by rw [hxe]; exact A0⟩
     clear A0
     have H' : Aside0 (laws_markIntSS.l0 k1 (x0_1.set (x5_1 : Int).toNat t2) t1 (wrap64 (x5_1 + 1)) = some (r1, r2)) := aM H
     clear H
     obtain ⟨go5, co5, eo5, gb5, gl5, cl5, HG5⟩ := Kd.S_form HO_0.out (by omega)
     (first | cases eo5 | (injection eo5 with ea_ en_ ec_; (first | subst ea_ | (injection ea_ with ea_; subst ea_)); subst ec_; clear en_))
     obtain ⟨oki, ce, hcl, hM, hcc, hfr, hoki, hH⟩ := Kd.S_elem HO_0.out ([] : List Int) x5_1 c4 c3
     obtain ⟨ve, rfl, hR⟩ := hM
     rw [← hxe] at hR
     obtain ⟨Ae, ne, eE⟩ := Kd.R_slice hR
     subst eE
     have hx5_0 : wr.cell? ⟨go5, (x5_1 : Int).toNat, none⟩ = some (.slice Ae xe.length ne) := by
      have h_ : wr.cell? ⟨go5, (x5_1 : Int).toNat * 1 + 0, none⟩ = _ := hcc 0 _ rfl
      rw [Nat.mul_one, Nat.add_zero] at h_
      exact h_
     have HR := aM hR
     have HH := aM hH
     have HI := aM hoki
     have p5 := eq_true c4
     have q5 := eq_true c3
     clear hcl hcc hfr hR hH hoki c3 c4 gb5 gl5 cl5 HG5 hxe
     go_wp2_with (first | (go_at_call 22; (with_reducible refine (laws_markIntS.calls k1 oki (.slice Ae xe.length ne) xe x1_1 t1 t2 w0 _ HB.out HR.out A1.out).mono ?_); rintro e w9 ⟨rfl, hy0, hb, hkp⟩; have n0_ := aM (Kd.H_back (Kd.H_step HH.out (fun k_ _ hn_ hlt_ => hkp.2 k_ hlt_ hn_)) (x' := t2) (okp := oki) ⟨_, rfl, Kd.R_reok rfl hy0 (fun k_ e_ => HR.out.1 k_ e_)⟩ (fun _ h_ => h_)); have n1_ := aM (Kept.then_ (S := (fun k_ => P0_ k_)) HK.out hkp (fun k_ h_ => .inl (HI.out k_ h_).1)); have n2_ := aM hb; clear HO_0 HK HB HR HH HI; have HO_0 := n0_; have HK := n1_; have HB := n2_; clear n0_ n1_ n2_; (try clear hb); (try clear hkp); (try clear hy0)))
     go_roundg k1
     case measure => have := HK1.out; omega
     case rel => exact ⟨(x0_1.set (x5_1 : Int).toNat t2), (t1), (wrap64 (x5_1 + 1)), zS, zS, H', ⟨by have := HK1.out; omega⟩, ⟨by have h_ := HO_0.out; (with_reducible repeat (first | apply Kd.S_alloc | apply Kd.S_drewN | apply Kd.S_drew)); exact h_⟩, ⟨by repeat (first | (with_reducible first | exact HK.out | apply Kept.alloc | apply Kept.drewN | apply Kept.drew) | exact HK.out)⟩, ⟨zH⟩⟩
    ·rw [if_neg c4] at H
     exact absurd H (by simp)
   ·rw [if_neg c3] at H
    have c3b0 : decide (x5_1 < (x0_1.length : Int)) = false := decide_eq_false c3
    simp only [Option.some.injEq, Prod.mk.injEq] at H
    obtain ⟨rfl, rfl⟩ := H
    go_wp2
    go_ret
    exact ⟨by first | rfl | (simp; done), by have h_ := HO_0.out; (with_reducible repeat (first | apply Kd.S_alloc | apply Kd.S_drewN | apply Kd.S_drew)); exact h_, zH, by repeat (first | (with_reducible first | exact HK.out | apply Kept.alloc | apply Kept.drewN | apply Kept.drew) | exact HK.out)⟩
end Go.Proofs.Ythajjjpblkhmmaa.CB
