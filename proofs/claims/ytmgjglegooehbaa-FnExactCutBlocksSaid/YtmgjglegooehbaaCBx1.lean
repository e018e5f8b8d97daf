/- Functions that a law of this seat reaches: written by a program of this session (wip/xprint.py), and by hand. -/
import Derived.Test.YtmgjglegooehbaaCBx0
namespace Go.Proofs.Ytmgjglegooehbaa.CB
open Go.RowKit Go.Proofs.Ytmgjglegooehbaa.B Go.Proofs.YtmgjglegooehbaaW.PrintWords Go.Proofs.YtmgjglegooehbaaW.PrintLast Go.Proofs.YtmgjglegooehbaaW.PrintMore
attribute [local go_sem] max2_int min2_int max_two min_two max_three min_three max_four min_four   -- for this text's walks alone
set_option linter.unusedVariables false
set_option linter.unusedSimpArgs false

/-! ### spec_l01Between: function 49 -/
def spec_l01Between.f (a0 : Int) (a1 : Int) (a2 : Int) : Option (Bool) := if a0 ≥ a1 then (some (decide (a0 ≤ a2))) else (some false)
set_option maxHeartbeats 8000000 in
set_option maxRecDepth 100000 in
theorem spec_l01Between.calls (a0 : Int) (a1 : Int) (a2 : Int) (r : Bool) (w : World) (h : spec_l01Between.f a0 a1 a2 = some r) :
    Calls Try.prog 49 #[.int .i64 a0, .int .i64 a1, .int .i64 a2] w fun e w' => e = .returned (.bool r) ∧ Drawn0 w w' := by
  have H : (if a0 ≥ a1 then (some (decide (a0 ≤ a2))) else (some false)) = some r := h
  clear h
  by_cases c4 : a0 ≥ a1
  · rw [if_pos c4] at H
    have c4b0 : decide (a1 ≤ a0) = true := decide_eq_true c4
    clear c4
    obtain rfl := Option.some.inj H
    go_enter Try.func49, Try.ntmps49
    go_wp2
    go_ret
    exact ⟨by first | rfl | (simp; done) | (simp [*]; done), by repeat (first | exact Drawn0.refl _ | apply Drawn0.step)⟩
  · rw [if_neg c4] at H
    have c4b0 : decide (a1 ≤ a0) = false := decide_eq_false c4
    clear c4
    obtain rfl := Option.some.inj H
    go_enter Try.func49, Try.ntmps49
    go_wp2
    go_ret
    exact ⟨by first | rfl | (simp; done) | (simp [*]; done), by repeat (first | exact Drawn0.refl _ | apply Drawn0.step)⟩

theorem between_f (a b c : Int) : spec_l01Between.f a b c = some (inR a b c) := inR_ite a b c

/-! ### spec_l16Sides: function 41 -/
def spec_l16Sides.f (a0 : Int) (a1 : Int) : Option (Bool) := (spec_l01Between.f a0 1 1024).bind fun t101 => (if t101 = true then ((spec_l01Between.f a1 1 1024).bind fun t102 => (if t102 = true then (some (decide ((wrap64 (a0 * a1)) ≤ 131072))) else (some false))) else (some false))
set_option maxHeartbeats 8000000 in
set_option maxRecDepth 100000 in
theorem spec_l16Sides.calls (a0 : Int) (a1 : Int) (r : Bool) (w : World) (h : spec_l16Sides.f a0 a1 = some r) :
    Calls Try.prog 41 #[.int .i64 a0, .int .i64 a1] w fun e w' => e = .returned (.bool r) ∧ Drawn0 w w' := by
  have H : ((spec_l01Between.f a0 1 1024).bind fun t101 => (if t101 = true then ((spec_l01Between.f a1 1 1024).bind fun t102 => (if t102 = true then (some (decide ((wrap64 (a0 * a1)) ≤ 131072))) else (some false))) else (some false))) = some r := h
  clear h
  replace H := Option.bind_eq_some_iff.mp H
  obtain ⟨t101, A30, H⟩ := H
  replace H : (if t101 = true then ((spec_l01Between.f a1 1 1024).bind fun t102 => (if t102 = true then (some (decide ((wrap64 (a0 * a1)) ≤ 131072))) else (some false))) else (some false)) = some r := H
  have A3 := Aside0.mk A30
  clear A30
  by_cases c4 : t101 = true
  · subst c4
    have H1 : ((spec_l01Between.f a1 1 1024).bind fun t102 => (if t102 = true then (some (decide ((wrap64 (a0 * a1)) ≤ 131072))) else (some false))) = some r := by rw [if_pos rfl] at H; exact H
    clear H
    have H := H1
    clear H1
    replace H := Option.bind_eq_some_iff.mp H
    obtain ⟨t102, A50, H⟩ := H
    replace H : (if t102 = true then (some (decide ((wrap64 (a0 * a1)) ≤ 131072))) else (some false)) = some r := H
    have A5 := Aside0.mk A50
    clear A50
    by_cases c6 : t102 = true
    · subst c6
      have H1 : (some (decide ((wrap64 (a0 * a1)) ≤ 131072))) = some r := by rw [if_pos rfl] at H; exact H
      clear H
      have H := H1
      clear H1
      obtain rfl := Option.some.inj H
      go_enter Try.func41, Try.ntmps41
      go_wp2_with (first | ((with_reducible refine gate_callee (f := 49) rfl ?_); refine goesL_ (some 6) rfl rfl Try.func49 (by kernel_rfl) rfl #[.int .i64 a0, .int .i64 1, .int .i64 1024] rfl (by (try simp only [List.map_toArray, List.map_cons, List.map_nil]); first | done | rfl | (simp only [List.length_drop, List.length_take]; rfl)) ?_; (with_reducible refine (spec_l01Between.calls a0 1 1024 true _ A3.out).mono ?_); rintro e w' ⟨rfl, ⟨nd, rfl⟩⟩; refine ⟨_, rfl, ?_⟩) | (go_at_call 49; (with_reducible refine (spec_l01Between.calls a1 1 1024 true _ A5.out).mono ?_); rintro e w' ⟨rfl, ⟨nd, rfl⟩⟩))
      go_ret
      exact ⟨by first | rfl | (simp; done) | (simp [*]; done), by repeat (first | exact Drawn0.refl _ | apply Drawn0.step)⟩
    · replace c6 := Bool.eq_false_iff.mpr c6
      subst c6
      have H1 : (some false) = some r := by rw [if_neg (show ¬ (false = true) by decide)] at H; exact H
      clear H
      have H := H1
      clear H1
      obtain rfl := Option.some.inj H
      go_enter Try.func41, Try.ntmps41
      go_wp2_with (first | ((with_reducible refine gate_callee (f := 49) rfl ?_); refine goesL_ (some 6) rfl rfl Try.func49 (by kernel_rfl) rfl #[.int .i64 a0, .int .i64 1, .int .i64 1024] rfl (by (try simp only [List.map_toArray, List.map_cons, List.map_nil]); first | done | rfl | (simp only [List.length_drop, List.length_take]; rfl)) ?_; (with_reducible refine (spec_l01Between.calls a0 1 1024 true _ A3.out).mono ?_); rintro e w' ⟨rfl, ⟨nd, rfl⟩⟩; refine ⟨_, rfl, ?_⟩) | (go_at_call 49; (with_reducible refine (spec_l01Between.calls a1 1 1024 false _ A5.out).mono ?_); rintro e w' ⟨rfl, ⟨nd, rfl⟩⟩))
      go_ret
      exact ⟨by first | rfl | (simp; done) | (simp [*]; done), by repeat (first | exact Drawn0.refl _ | apply Drawn0.step)⟩
  · replace c4 := Bool.eq_false_iff.mpr c4
    subst c4
    have H1 : (some false) = some r := by rw [if_neg (show ¬ (false = true) by decide)] at H; exact H
    clear H
    have H := H1
    clear H1
    obtain rfl := Option.some.inj H
    go_enter Try.func41, Try.ntmps41
    go_wp2_with (first | ((with_reducible refine gate_callee (f := 49) rfl ?_); refine goesL_ (some 6) rfl rfl Try.func49 (by kernel_rfl) rfl #[.int .i64 a0, .int .i64 1, .int .i64 1024] rfl (by (try simp only [List.map_toArray, List.map_cons, List.map_nil]); first | done | rfl | (simp only [List.length_drop, List.length_take]; rfl)) ?_; (with_reducible refine (spec_l01Between.calls a0 1 1024 false _ A3.out).mono ?_); rintro e w' ⟨rfl, ⟨nd, rfl⟩⟩; refine ⟨_, rfl, ?_⟩))
    go_ret
    exact ⟨by first | rfl | (simp; done) | (simp [*]; done), by repeat (first | exact Drawn0.refl _ | apply Drawn0.step)⟩

def sidesB (w h : Int) : Bool := inR w 1 1024 && (inR h 1 1024 && decide (wrap64 (w * h) ≤ 131072))
theorem sides_f (w h : Int) : spec_l16Sides.f w h = some (sidesB w h) := by
  simp only [spec_l16Sides.f, between_f, Option.bind_some, sidesB]
  cases inR w 1 1024 <;> cases inR h 1 1024 <;> simp
theorem sides_bounds {w h : Int} (hb : sidesB w h = true) : 1 ≤ w ∧ w ≤ 1024 ∧ 1 ≤ h ∧ h ≤ 1024 ∧ w * h ≤ 131072 := by
  simp only [sidesB, Bool.and_eq_true, inR_iff, decide_eq_true_eq] at hb
  obtain ⟨⟨h1, h2⟩, ⟨h3, h4⟩, h5⟩ := hb
  refine ⟨h1, h2, h3, h4, ?_⟩
  have h6 : w * h ≤ 1024 * 1024 := Int.mul_le_mul h2 h4 (by omega) (by omega)
  have h7 : 0 ≤ w * h := Int.mul_nonneg (by omega) (by omega)
  rwa [w64 (by omega) (by omega)] at h5

/-! ### spec_PlaneOk: function 37 -/
mutual
def spec_PlaneOk.j0 : Nat → List Int → Bool → Option (Bool)
  | 0, _, _ => none
  | k + 1, x0, x19 => if x19 = true then (some false) else (spec_PlaneOk.l0 k x0 0)
def spec_PlaneOk.l0 : Nat → List Int → Int → Option (Bool)
  | 0, _, _ => none
  | k + 1, x0, x7 => if x7 < (x0.length : Int) then (if 0 ≤ x7 then ((spec_l01Between.f (rd x0 x7) 0 4095).bind fun t105 => (if t105 = true then (spec_PlaneOk.l0 k x0 (wrap64 (x7 + 1))) else (some false))) else (none)) else (some true)
end
def spec_PlaneOk.f (k : Nat) (l0 : List Int) (a1 : Int) (a2 : Int) : Option (Bool) := (spec_l16Sides.f a1 a2).bind fun t103 => (if t103 = true then (spec_PlaneOk.j0 k l0 ((l0.length : Int) != (wrap64 (a1 * a2)))) else (spec_PlaneOk.j0 k l0 true))
theorem spec_PlaneOk.mono_l : ∀ k, (∀ y0 y1, LeO (spec_PlaneOk.j0 k y0 y1) (spec_PlaneOk.j0 (k + 1) y0 y1)) ∧ (∀ y0 y1, LeO (spec_PlaneOk.l0 k y0 y1) (spec_PlaneOk.l0 (k + 1) y0 y1))
  | 0 => ⟨fun _ _ r h => by simp [spec_PlaneOk.j0] at h, fun _ _ r h => by simp [spec_PlaneOk.l0] at h⟩
  | k + 1 => by
    obtain ⟨ih0, ih1⟩ := spec_PlaneOk.mono_l k
    refine ⟨?_, ?_⟩
    · intro y0 y1
      unfold spec_PlaneOk.j0
      repeat' first
      | (with_reducible exact ih0 _ _)
      | (with_reducible exact ih1 _ _)
      | (with_reducible exact LeO.refl _)
      | (with_reducible exact LeO.none _)
      | (with_reducible refine LeO.ite ?_ ?_)
      | (with_reducible refine LeO.bind ?_ (fun _ => ?_))
      | exact ih0 _ _
      | exact ih1 _ _
      | exact LeO.none _
      | refine LeO.ite ?_ ?_
      | refine LeO.bind ?_ (fun _ => ?_)
    · intro y0 y1
      unfold spec_PlaneOk.l0
      repeat' first
      | (with_reducible exact ih0 _ _)
      | (with_reducible exact ih1 _ _)
      | (with_reducible exact LeO.refl _)
      | (with_reducible exact LeO.none _)
      | (with_reducible refine LeO.ite ?_ ?_)
      | (with_reducible refine LeO.bind ?_ (fun _ => ?_))
      | exact ih0 _ _
      | exact ih1 _ _
      | exact LeO.none _
      | refine LeO.ite ?_ ?_
      | refine LeO.bind ?_ (fun _ => ?_)
theorem spec_PlaneOk.mono : ∀ a0 a1 a2 k, LeO (spec_PlaneOk.f k a0 a1 a2) (spec_PlaneOk.f (k + 1) a0 a1 a2) := by
  intro a0 a1 a2 k
  obtain ⟨ih0, ih1⟩ := spec_PlaneOk.mono_l k
  unfold spec_PlaneOk.f
  repeat' first
      | (with_reducible exact ih0 _ _)
      | (with_reducible exact ih1 _ _)
      | (with_reducible exact LeO.refl _)
      | (with_reducible exact LeO.none _)
      | (with_reducible refine LeO.ite ?_ ?_)
      | (with_reducible refine LeO.bind ?_ (fun _ => ?_))
      | exact ih0 _ _
      | exact ih1 _ _
      | exact LeO.none _
      | refine LeO.ite ?_ ?_
      | refine LeO.bind ?_ (fun _ => ?_)
set_option maxHeartbeats 8000000 in
set_option maxRecDepth 100000 in
theorem spec_PlaneOk.calls (k : Nat) (A0 : Option Addr) (c0 : Nat) (l0 : List Int) (a1 : Int) (a2 : Int) (r : Bool) (w : World) (hr0 : Kd.C (Kd.int .i64) w A0 l0.length l0) (hc0 : l0.length ≤ c0) (h : spec_PlaneOk.f k l0 a1 a2 = some r) :
    Calls Try.prog 37 #[.slice A0 l0.length c0, .int .i64 a1, .int .i64 a2] w fun e w' => e = .returned (.bool r) ∧ Drawn0 w w' := by
  have HR0 := Aside0.mk hr0
  have HC0 := Aside0.mk hc0
  clear hr0 hc0
  have H : ((spec_l16Sides.f a1 a2).bind fun t103 => (if t103 = true then (spec_PlaneOk.j0 k l0 ((l0.length : Int) != (wrap64 (a1 * a2)))) else (spec_PlaneOk.j0 k l0 true))) = some r := h
  clear h
  have HC4 := Aside0.mk H
  clear H
  go_enter Try.func37, Try.ntmps37
  go_upto_region 1 with (fail)
  go_cut [19] (fun v19 wc => ∃ (kq : Nat) (x19_3 : Bool), v19 = .bool x19_3 ∧ Aside0 (spec_PlaneOk.j0 kq l0 x19_3 = some r) ∧ Aside0 (kq ≤ k) ∧ Drawn0 w wc)
  case first =>
    have H := HC4.out
    clear HC4
    replace H := Option.bind_eq_some_iff.mp H
    obtain ⟨t103, A50, H⟩ := H
    replace H : (if t103 = true then (spec_PlaneOk.j0 k l0 ((l0.length : Int) != (wrap64 (a1 * a2)))) else (spec_PlaneOk.j0 k l0 true)) = some r := H
    have A5 := Aside0.mk A50
    clear A50
    by_cases c6 : t103 = true
    · subst c6
      have H1 : (spec_PlaneOk.j0 k l0 ((l0.length : Int) != (wrap64 (a1 * a2)))) = some r := by rw [if_pos rfl] at H; exact H
      clear H
      have H := H1
      clear H1
      have H' := Aside0.mk H
      clear H
      go_wp2_with (first | ((with_reducible refine gate_callee (f := 41) rfl ?_); refine goesL_ (some 10) rfl rfl Try.func41 (by kernel_rfl) rfl #[.int .i64 a1, .int .i64 a2] rfl (by (try simp only [List.map_toArray, List.map_cons, List.map_nil]); first | done | rfl | (simp only [List.length_drop, List.length_take]; rfl)) ?_; (with_reducible refine (spec_l16Sides.calls a1 a2 true _ A5.out).mono ?_); rintro e w' ⟨rfl, ⟨nd, rfl⟩⟩; refine ⟨_, rfl, ?_⟩))
      go_meet
      case rel => exact ⟨_, (((l0.length : Int) != (wrap64 (a1 * a2)))), (by first | rfl | (simp; done) | (simp [*]; done)), H', ⟨by first | omega | exact Nat.le_refl _⟩, by repeat (first | exact Drawn0.refl _ | apply Drawn0.step)⟩
    · replace c6 := Bool.eq_false_iff.mpr c6
      subst c6
      have H1 : (spec_PlaneOk.j0 k l0 true) = some r := by rw [if_neg (show ¬ (false = true) by decide)] at H; exact H
      clear H
      have H := H1
      clear H1
      have H' := Aside0.mk H
      clear H
      go_wp2_with (first | ((with_reducible refine gate_callee (f := 41) rfl ?_); refine goesL_ (some 10) rfl rfl Try.func41 (by kernel_rfl) rfl #[.int .i64 a1, .int .i64 a2] rfl (by (try simp only [List.map_toArray, List.map_cons, List.map_nil]); first | done | rfl | (simp only [List.length_drop, List.length_take]; rfl)) ?_; (with_reducible refine (spec_l16Sides.calls a1 a2 false _ A5.out).mono ?_); rintro e w' ⟨rfl, ⟨nd, rfl⟩⟩; refine ⟨_, rfl, ?_⟩))
      go_meet
      case rel => exact ⟨_, (true), (by first | rfl | (simp; done) | (simp [*]; done)), H', ⟨by first | omega | exact Nat.le_refl _⟩, by repeat (first | exact Drawn0.refl _ | apply Drawn0.step)⟩
  case rest =>
    clear HC4
    try clear p2
    try clear c3
    try clear c4
    try clear c6
    try clear p6
    obtain ⟨kq, x19_3, rfl, HA, HJ3, ⟨mc3, rfl⟩⟩ := hcut
    cases kq with
    | zero => exact absurd HA.out (by simp [spec_PlaneOk.j0])
    | succ kj3 =>
      have H := HA.out
      clear HA
      simp only [spec_PlaneOk.j0] at H
      by_cases c7 : x19_3 = true
      · subst c7
        have H1 : (some false) = some r := by rw [if_pos rfl] at H; exact H
        clear H
        have H := H1
        clear H1
        obtain rfl := Option.some.inj H
        go_wp2
        go_ret
        exact ⟨by first | rfl | (simp; done) | (simp [*]; done), by repeat (first | exact Drawn0.refl _ | apply Drawn0.step)⟩
      · replace c7 := Bool.eq_false_iff.mpr c7
        subst c7
        have H1 : (spec_PlaneOk.l0 kj3 l0 0) = some r := by rw [if_neg (show ¬ (false = true) by decide)] at H; exact H
        clear H
        have H := H1
        clear H1
        have H' := Aside0.mk H
        clear H
        go_wp2
        go_loopg [7] kj3 (fun kq v7 w' => ∃ (x7_2 : Int), v7 = .int .i64 x7_2 ∧ Aside0 (spec_PlaneOk.l0 kq l0 x7_2 = some r) ∧ Aside0 (kq ≤ kj3) ∧ Drawn0 w w')
        case atStart => exact ⟨(0), (by first | rfl | (simp; done) | (simp [*]; done)), H', ⟨Nat.le_refl _⟩, by repeat (first | exact Drawn0.refl _ | apply Drawn0.step)⟩
        case round =>
          clear H'
          try clear p2
          try clear c3
          try clear c4
          try clear c6
          try clear p6
          try clear c7
          try clear p2
          try clear p6
          obtain ⟨x7_2, rfl, HA, HK2, ⟨m2, rfl⟩⟩ := hrel
          cases gk with
          | zero => exact absurd HA.out (by simp [spec_PlaneOk.l0])
          | succ k2 =>
            have H := HA.out
            clear HA
            simp only [spec_PlaneOk.l0] at H
            by_cases c8 : x7_2 < (l0.length : Int)
            · rw [if_pos c8] at H
              have c8b0 : decide (x7_2 < (l0.length : Int)) = true := decide_eq_true c8
              clear c8
              by_cases c9 : 0 ≤ x7_2
              · rw [if_pos c9] at H
                have c9b0 : decide (0 ≤ x7_2) = true := decide_eq_true c9
                clear c9
                replace H := Option.bind_eq_some_iff.mp H
                obtain ⟨t105, A100, H⟩ := H
                replace H : (if t105 = true then (spec_PlaneOk.l0 k2 l0 (wrap64 (x7_2 + 1))) else (some false)) = some r := H
                have A10 := Aside0.mk A100
                clear A100
                by_cases c11 : t105 = true
                · subst c11
                  have H1 : (spec_PlaneOk.l0 k2 l0 (wrap64 (x7_2 + 1))) = some r := by rw [if_pos rfl] at H; exact H
                  clear H
                  have H := H1
                  clear H1
                  have H' := Aside0.mk H
                  clear H
                  have p104 : 0 ≤ (x7_2 : Int) := of_decide_eq_true (by first | (with_reducible assumption) | assumption)
                  have q104 : x7_2 < (l0.length : Int) := of_decide_eq_true (by first | (with_reducible assumption) | assumption)
                  obtain ⟨ad104, e104, hx104_0⟩ := Kd.at_int HR0.out x7_2 p104 q104
                  cases e104
                  replace p104 := eq_true p104
                  replace q104 := eq_true q104
                  go_wp2_with (first | ((with_reducible refine gate_callee (f := 49) rfl ?_); refine goesL_ (some 30) rfl rfl Try.func49 (by kernel_rfl) rfl #[.int .i64 (rd l0 x7_2), .int .i64 0, .int .i64 4095] rfl (by (try simp only [List.map_toArray, List.map_cons, List.map_nil]); first | done | rfl | (simp only [List.length_drop, List.length_take]; rfl)) ?_; (with_reducible refine (spec_l01Between.calls (rd l0 x7_2) 0 4095 true _ A10.out).mono ?_); rintro e w' ⟨rfl, ⟨nd, rfl⟩⟩; refine ⟨_, rfl, ?_⟩))
                  go_roundg k2
                  case measure => have := HJ3.out; have := HK2.out; omega
                  case rel => exact ⟨(wrap64 (x7_2 + 1)), (by first | rfl | (simp; done) | (simp [*]; done)), H', ⟨by have := HJ3.out; have := HK2.out; omega⟩, by repeat (first | exact Drawn0.refl _ | apply Drawn0.step)⟩
                · replace c11 := Bool.eq_false_iff.mpr c11
                  subst c11
                  have H1 : (some false) = some r := by rw [if_neg (show ¬ (false = true) by decide)] at H; exact H
                  clear H
                  have H := H1
                  clear H1
                  obtain rfl := Option.some.inj H
                  have p104 : 0 ≤ (x7_2 : Int) := of_decide_eq_true (by first | (with_reducible assumption) | assumption)
                  have q104 : x7_2 < (l0.length : Int) := of_decide_eq_true (by first | (with_reducible assumption) | assumption)
                  obtain ⟨ad104, e104, hx104_0⟩ := Kd.at_int HR0.out x7_2 p104 q104
                  cases e104
                  replace p104 := eq_true p104
                  replace q104 := eq_true q104
                  go_wp2_with (first | ((with_reducible refine gate_callee (f := 49) rfl ?_); refine goesL_ (some 30) rfl rfl Try.func49 (by kernel_rfl) rfl #[.int .i64 (rd l0 x7_2), .int .i64 0, .int .i64 4095] rfl (by (try simp only [List.map_toArray, List.map_cons, List.map_nil]); first | done | rfl | (simp only [List.length_drop, List.length_take]; rfl)) ?_; (with_reducible refine (spec_l01Between.calls (rd l0 x7_2) 0 4095 false _ A10.out).mono ?_); rintro e w' ⟨rfl, ⟨nd, rfl⟩⟩; refine ⟨_, rfl, ?_⟩))
                  go_ret
                  exact ⟨by first | rfl | (simp; done) | (simp [*]; done), by repeat (first | exact Drawn0.refl _ | apply Drawn0.step)⟩
              · rw [if_neg c9] at H
                exact absurd H (by simp)
            · rw [if_neg c8] at H
              have c8b0 : decide (x7_2 < (l0.length : Int)) = false := decide_eq_false c8
              clear c8
              obtain rfl := Option.some.inj H
              go_wp2
              go_ret
              exact ⟨by first | rfl | (simp; done) | (simp [*]; done), by repeat (first | exact Drawn0.refl _ | apply Drawn0.step)⟩

def planeB (l : List Int) (w h : Int) : Bool := sidesB w h && (decide ((l.length : Int) = wrap64 (w * h)) && allR l 0 4095)
theorem plane_bounds {l : List Int} {w h : Int} (hb : planeB l w h = true) : 1 ≤ w ∧ w ≤ 1024 ∧ 1 ≤ h ∧ h ≤ 1024 ∧ (l.length : Int) = w * h := by
  simp only [planeB, Bool.and_eq_true, decide_eq_true_eq] at hb
  obtain ⟨hs, h5, _⟩ := hb
  obtain ⟨h1, h2, h3, h4, _⟩ := sides_bounds hs
  refine ⟨h1, h2, h3, h4, ?_⟩
  have h6 : w * h ≤ 1024 * 1024 := Int.mul_le_mul h2 h4 (by omega) (by omega)
  have h7 : 0 ≤ w * h := Int.mul_nonneg (by omega) (by omega)
  rwa [w64 (by omega) (by omega)] at h5
theorem sPlaneOk_l0 (l : List Int) (hl : l.length ≤ maxLen) : ∀ (d i : Nat), i + d = l.length → Ev (fun k => spec_PlaneOk.l0 k l i) (allR (l.drop i) 0 4095) := by
  unfold maxLen at hl
  intro d
  induction d with
  | zero =>
    intro i hi
    refine Ev.step (fun k => by rw [spec_PlaneOk.l0]) ?_
    rw [List.drop_eq_nil_of_le (by omega)]
    exact evNeg (by omega) (Ev.now true)
  | succ d ih =>
    intro i hi
    have h1 : i < l.length := by omega
    refine Ev.step (fun k => by rw [spec_PlaneOk.l0]) ?_
    refine evPos (by omega) (evPos (by omega) ?_)
    rw [drop_get h1, rd_nat h1, between_f]
    simp only [Option.bind_some, allR, List.all_cons]
    cases inR l[i] 0 4095 with
    | false => exact evNeg (by simp) (Ev.now false)
    | true =>
      refine evPos rfl ?_
      rw [w64 (by omega) (by omega)]
      exact ih (i + 1) (by omega)
theorem sPlaneOk_f (l : List Int) (w h : Int) (hl : l.length ≤ maxLen) : Ev (fun k => spec_PlaneOk.f k l w h) (planeB l w h) := by
  unfold spec_PlaneOk.f planeB
  rw [sides_f]
  simp only [Option.bind_some]
  cases sidesB w h with
  | false => exact evNeg (by simp) (Ev.step (fun k => by rw [spec_PlaneOk.j0]) (evPos rfl (Ev.now false)))
  | true =>
    refine evPos rfl (Ev.step (fun k => by rw [spec_PlaneOk.j0]) ?_)
    by_cases hc : (l.length : Int) = wrap64 (w * h)
    · refine evNeg (by simp [hc]) ?_
      simp only [hc, decide_true, Bool.true_and]
      exact sPlaneOk_l0 l hl l.length 0 (by omega)
    · refine evPos (by simp [hc]) ?_
      simp only [hc, decide_false, Bool.false_and, Bool.and_false]
      exact Ev.now _

/-! ### impl_within: function 51 -/
def impl_within.f (a0 : Int) (a1 : Int) (a2 : Int) : Option (Bool) := if a0 ≥ a1 then (some (decide (a0 ≤ a2))) else (some false)
set_option maxHeartbeats 8000000 in
set_option maxRecDepth 100000 in
theorem impl_within.calls (a0 : Int) (a1 : Int) (a2 : Int) (r : Bool) (w : World) (h : impl_within.f a0 a1 a2 = some r) :
    Calls Try.prog 51 #[.int .i64 a0, .int .i64 a1, .int .i64 a2] w fun e w' => e = .returned (.bool r) ∧ Drawn0 w w' := by
  have H : (if a0 ≥ a1 then (some (decide (a0 ≤ a2))) else (some false)) = some r := h
  clear h
  by_cases c4 : a0 ≥ a1
  · rw [if_pos c4] at H
    have c4b0 : decide (a1 ≤ a0) = true := decide_eq_true c4
    clear c4
    obtain rfl := Option.some.inj H
    go_enter Try.func51, Try.ntmps51
    go_wp2
    go_ret
    exact ⟨by first | rfl | (simp; done) | (simp [*]; done), by repeat (first | exact Drawn0.refl _ | apply Drawn0.step)⟩
  · rw [if_neg c4] at H
    have c4b0 : decide (a1 ≤ a0) = false := decide_eq_false c4
    clear c4
    obtain rfl := Option.some.inj H
    go_enter Try.func51, Try.ntmps51
    go_wp2
    go_ret
    exact ⟨by first | rfl | (simp; done) | (simp [*]; done), by repeat (first | exact Drawn0.refl _ | apply Drawn0.step)⟩

theorem within_f (a b c : Int) : impl_within.f a b c = some (inR a b c) := inR_ite a b c

/-! ### impl_areSides: function 43 -/
def impl_areSides.f (a0 : Int) (a1 : Int) : Option (Bool) := (impl_within.f a0 1 1024).bind fun t106 => (if t106 = true then ((impl_within.f a1 1 1024).bind fun t107 => (if t107 = true then (some (decide ((wrap64 (a0 * a1)) ≤ 131072))) else (some false))) else (some false))
set_option maxHeartbeats 8000000 in
set_option maxRecDepth 100000 in
theorem impl_areSides.calls (a0 : Int) (a1 : Int) (r : Bool) (w : World) (h : impl_areSides.f a0 a1 = some r) :
    Calls Try.prog 43 #[.int .i64 a0, .int .i64 a1] w fun e w' => e = .returned (.bool r) ∧ Drawn0 w w' := by
  have H : ((impl_within.f a0 1 1024).bind fun t106 => (if t106 = true then ((impl_within.f a1 1 1024).bind fun t107 => (if t107 = true then (some (decide ((wrap64 (a0 * a1)) ≤ 131072))) else (some false))) else (some false))) = some r := h
  clear h
  replace H := Option.bind_eq_some_iff.mp H
  obtain ⟨t106, A30, H⟩ := H
  replace H : (if t106 = true then ((impl_within.f a1 1 1024).bind fun t107 => (if t107 = true then (some (decide ((wrap64 (a0 * a1)) ≤ 131072))) else (some false))) else (some false)) = some r := H
  have A3 := Aside0.mk A30
  clear A30
  by_cases c4 : t106 = true
  · subst c4
    have H1 : ((impl_within.f a1 1 1024).bind fun t107 => (if t107 = true then (some (decide ((wrap64 (a0 * a1)) ≤ 131072))) else (some false))) = some r := by rw [if_pos rfl] at H; exact H
    clear H
    have H := H1
    clear H1
    replace H := Option.bind_eq_some_iff.mp H
    obtain ⟨t107, A50, H⟩ := H
    replace H : (if t107 = true then (some (decide ((wrap64 (a0 * a1)) ≤ 131072))) else (some false)) = some r := H
    have A5 := Aside0.mk A50
    clear A50
    by_cases c6 : t107 = true
    · subst c6
      have H1 : (some (decide ((wrap64 (a0 * a1)) ≤ 131072))) = some r := by rw [if_pos rfl] at H; exact H
      clear H
      have H := H1
      clear H1
      obtain rfl := Option.some.inj H
      go_enter Try.func43, Try.ntmps43
      go_wp2_with (first | ((with_reducible refine gate_callee (f := 51) rfl ?_); refine goesL_ (some 6) rfl rfl Try.func51 (by kernel_rfl) rfl #[.int .i64 a0, .int .i64 1, .int .i64 1024] rfl (by (try simp only [List.map_toArray, List.map_cons, List.map_nil]); first | done | rfl | (simp only [List.length_drop, List.length_take]; rfl)) ?_; (with_reducible refine (impl_within.calls a0 1 1024 true _ A3.out).mono ?_); rintro e w' ⟨rfl, ⟨nd, rfl⟩⟩; refine ⟨_, rfl, ?_⟩) | (go_at_call 51; (with_reducible refine (impl_within.calls a1 1 1024 true _ A5.out).mono ?_); rintro e w' ⟨rfl, ⟨nd, rfl⟩⟩))
      go_ret
      exact ⟨by first | rfl | (simp; done) | (simp [*]; done), by repeat (first | exact Drawn0.refl _ | apply Drawn0.step)⟩
    · replace c6 := Bool.eq_false_iff.mpr c6
      subst c6
      have H1 : (some false) = some r := by rw [if_neg (show ¬ (false = true) by decide)] at H; exact H
      clear H
      have H := H1
      clear H1
      obtain rfl := Option.some.inj H
      go_enter Try.func43, Try.ntmps43
      go_wp2_with (first | ((with_reducible refine gate_callee (f := 51) rfl ?_); refine goesL_ (some 6) rfl rfl Try.func51 (by kernel_rfl) rfl #[.int .i64 a0, .int .i64 1, .int .i64 1024] rfl (by (try simp only [List.map_toArray, List.map_cons, List.map_nil]); first | done | rfl | (simp only [List.length_drop, List.length_take]; rfl)) ?_; (with_reducible refine (impl_within.calls a0 1 1024 true _ A3.out).mono ?_); rintro e w' ⟨rfl, ⟨nd, rfl⟩⟩; refine ⟨_, rfl, ?_⟩) | (go_at_call 51; (with_reducible refine (impl_within.calls a1 1 1024 false _ A5.out).mono ?_); rintro e w' ⟨rfl, ⟨nd, rfl⟩⟩))
      go_ret
      exact ⟨by first | rfl | (simp; done) | (simp [*]; done), by repeat (first | exact Drawn0.refl _ | apply Drawn0.step)⟩
  · replace c4 := Bool.eq_false_iff.mpr c4
    subst c4
    have H1 : (some false) = some r := by rw [if_neg (show ¬ (false = true) by decide)] at H; exact H
    clear H
    have H := H1
    clear H1
    obtain rfl := Option.some.inj H
    go_enter Try.func43, Try.ntmps43
    go_wp2_with (first | ((with_reducible refine gate_callee (f := 51) rfl ?_); refine goesL_ (some 6) rfl rfl Try.func51 (by kernel_rfl) rfl #[.int .i64 a0, .int .i64 1, .int .i64 1024] rfl (by (try simp only [List.map_toArray, List.map_cons, List.map_nil]); first | done | rfl | (simp only [List.length_drop, List.length_take]; rfl)) ?_; (with_reducible refine (impl_within.calls a0 1 1024 false _ A3.out).mono ?_); rintro e w' ⟨rfl, ⟨nd, rfl⟩⟩; refine ⟨_, rfl, ?_⟩))
    go_ret
    exact ⟨by first | rfl | (simp; done) | (simp [*]; done), by repeat (first | exact Drawn0.refl _ | apply Drawn0.step)⟩

theorem areSides_f (w h : Int) : impl_areSides.f w h = some (sidesB w h) := by
  simp only [impl_areSides.f, within_f, Option.bind_some, sidesB]
  cases inR w 1 1024 <;> cases inR h 1 1024 <;> simp

/-! ### impl_allWithin: function 46 -/
def impl_allWithin.l0 : Nat → Int → Int → List Int → Int → Int → Option (Bool)
  | 0, _, _, _, _, _ => none
  | k + 1, x1, x2, x9, x10, x11 => if x11 < x10 then (if 0 ≤ x11 then (if x11 < (x9.length : Int) then ((impl_within.f (rd x9 x11) x1 x2).bind fun t109 => (if t109 = true then (impl_allWithin.l0 k x1 x2 x9 x10 (wrap64 (x11 + 1))) else (some false))) else (none)) else (none)) else (some true)
def impl_allWithin.f (k : Nat) (l0 : List Int) (a1 : Int) (a2 : Int) : Option (Bool) := impl_allWithin.l0 k a1 a2 l0 (l0.length : Int) 0
theorem impl_allWithin.mono_l : ∀ k, (∀ y0 y1 y2 y3 y4, LeO (impl_allWithin.l0 k y0 y1 y2 y3 y4) (impl_allWithin.l0 (k + 1) y0 y1 y2 y3 y4))
  | 0 => fun _ _ _ _ _ r h => by simp [impl_allWithin.l0] at h
  | k + 1 => by
    have ih0 := impl_allWithin.mono_l k
    · intro y0 y1 y2 y3 y4
      unfold impl_allWithin.l0
      repeat' first
      | (with_reducible exact ih0 _ _ _ _ _)
      | (with_reducible exact LeO.refl _)
      | (with_reducible exact LeO.none _)
      | (with_reducible refine LeO.ite ?_ ?_)
      | (with_reducible refine LeO.bind ?_ (fun _ => ?_))
      | exact ih0 _ _ _ _ _
      | exact LeO.none _
      | refine LeO.ite ?_ ?_
      | refine LeO.bind ?_ (fun _ => ?_)
theorem impl_allWithin.mono : ∀ a0 a1 a2 k, LeO (impl_allWithin.f k a0 a1 a2) (impl_allWithin.f (k + 1) a0 a1 a2) := by
  intro a0 a1 a2 k
  have ih0 := impl_allWithin.mono_l k
  unfold impl_allWithin.f
  repeat' first
      | (with_reducible exact ih0 _ _ _ _ _)
      | (with_reducible exact LeO.refl _)
      | (with_reducible exact LeO.none _)
      | (with_reducible refine LeO.ite ?_ ?_)
      | (with_reducible refine LeO.bind ?_ (fun _ => ?_))
      | exact ih0 _ _ _ _ _
      | exact LeO.none _
      | refine LeO.ite ?_ ?_
      | refine LeO.bind ?_ (fun _ => ?_)
set_option maxHeartbeats 8000000 in
set_option maxRecDepth 100000 in
theorem impl_allWithin.calls (k : Nat) (A0 : Option Addr) (c0 : Nat) (l0 : List Int) (a1 : Int) (a2 : Int) (r : Bool) (w : World) (hr0 : Kd.C (Kd.int .i64) w A0 l0.length l0) (hc0 : l0.length ≤ c0) (h : impl_allWithin.f k l0 a1 a2 = some r) :
    Calls Try.prog 46 #[.slice A0 l0.length c0, .int .i64 a1, .int .i64 a2] w fun e w' => e = .returned (.bool r) ∧ Drawn0 w w' := by
  have HR0 := Aside0.mk hr0
  have HC0 := Aside0.mk hc0
  clear hr0 hc0
  have H : (impl_allWithin.l0 k a1 a2 l0 (l0.length : Int) 0) = some r := h
  clear h
  have H' := Aside0.mk H
  clear H
  go_enter Try.func46, Try.ntmps46
  go_wp2
  go_loopg [11] k (fun kq v11 w' => ∃ (x11_1 : Int), v11 = .int .i64 x11_1 ∧ Aside0 (impl_allWithin.l0 kq a1 a2 l0 (l0.length : Int) x11_1 = some r) ∧ Aside0 (kq ≤ k) ∧ Drawn0 w w')
  case atStart => exact ⟨(0), (by first | rfl | (simp; done) | (simp [*]; done)), H', ⟨Nat.le_refl _⟩, by repeat (first | exact Drawn0.refl _ | apply Drawn0.step)⟩
  case round =>
    clear H'
    try clear p2
    obtain ⟨x11_1, rfl, HA, HK1, ⟨m1, rfl⟩⟩ := hrel
    cases gk with
    | zero => exact absurd HA.out (by simp [impl_allWithin.l0])
    | succ k1 =>
      have H := HA.out
      clear HA
      simp only [impl_allWithin.l0] at H
      by_cases c4 : x11_1 < (l0.length : Int)
      · rw [if_pos c4] at H
        have c4b0 : decide (x11_1 < (l0.length : Int)) = true := decide_eq_true c4
        clear c4
        by_cases c5 : 0 ≤ x11_1
        · rw [if_pos c5] at H
          have c5b0 : decide (0 ≤ x11_1) = true := decide_eq_true c5
          clear c5
          by_cases c6 : x11_1 < (l0.length : Int)
          · rw [if_pos c6] at H
            have c6b0 : decide (x11_1 < (l0.length : Int)) = true := decide_eq_true c6
            clear c6
            replace H := Option.bind_eq_some_iff.mp H
            obtain ⟨t109, A70, H⟩ := H
            replace H : (if t109 = true then (impl_allWithin.l0 k1 a1 a2 l0 (l0.length : Int) (wrap64 (x11_1 + 1))) else (some false)) = some r := H
            have A7 := Aside0.mk A70
            clear A70
            by_cases c8 : t109 = true
            · subst c8
              have H1 : (impl_allWithin.l0 k1 a1 a2 l0 (l0.length : Int) (wrap64 (x11_1 + 1))) = some r := by rw [if_pos rfl] at H; exact H
              clear H
              have H := H1
              clear H1
              have H' := Aside0.mk H
              clear H
              have p108 : 0 ≤ (x11_1 : Int) := of_decide_eq_true (by first | (with_reducible assumption) | assumption)
              have q108 : x11_1 < (l0.length : Int) := of_decide_eq_true (by first | (with_reducible assumption) | assumption)
              obtain ⟨ad108, e108, hx108_0⟩ := Kd.at_int HR0.out x11_1 p108 q108
              cases e108
              replace p108 := eq_true p108
              replace q108 := eq_true q108
              go_wp2_with (first | ((with_reducible refine gate_callee (f := 51) rfl ?_); refine goesL_ (some 18) rfl rfl Try.func51 (by kernel_rfl) rfl #[.int .i64 (rd l0 x11_1), .int .i64 a1, .int .i64 a2] rfl (by (try simp only [List.map_toArray, List.map_cons, List.map_nil]); first | done | rfl | (simp only [List.length_drop, List.length_take]; rfl)) ?_; (with_reducible refine (impl_within.calls (rd l0 x11_1) a1 a2 true _ A7.out).mono ?_); rintro e w' ⟨rfl, ⟨nd, rfl⟩⟩; refine ⟨_, rfl, ?_⟩))
              go_roundg k1
              case measure => have := HK1.out; omega
              case rel => exact ⟨(wrap64 (x11_1 + 1)), (by first | rfl | (simp; done) | (simp [*]; done)), H', ⟨by have := HK1.out; omega⟩, by repeat (first | exact Drawn0.refl _ | apply Drawn0.step)⟩
            · replace c8 := Bool.eq_false_iff.mpr c8
              subst c8
              have H1 : (some false) = some r := by rw [if_neg (show ¬ (false = true) by decide)] at H; exact H
              clear H
              have H := H1
              clear H1
              obtain rfl := Option.some.inj H
              have p108 : 0 ≤ (x11_1 : Int) := of_decide_eq_true (by first | (with_reducible assumption) | assumption)
              have q108 : x11_1 < (l0.length : Int) := of_decide_eq_true (by first | (with_reducible assumption) | assumption)
              obtain ⟨ad108, e108, hx108_0⟩ := Kd.at_int HR0.out x11_1 p108 q108
              cases e108
              replace p108 := eq_true p108
              replace q108 := eq_true q108
              go_wp2_with (first | ((with_reducible refine gate_callee (f := 51) rfl ?_); refine goesL_ (some 18) rfl rfl Try.func51 (by kernel_rfl) rfl #[.int .i64 (rd l0 x11_1), .int .i64 a1, .int .i64 a2] rfl (by (try simp only [List.map_toArray, List.map_cons, List.map_nil]); first | done | rfl | (simp only [List.length_drop, List.length_take]; rfl)) ?_; (with_reducible refine (impl_within.calls (rd l0 x11_1) a1 a2 false _ A7.out).mono ?_); rintro e w' ⟨rfl, ⟨nd, rfl⟩⟩; refine ⟨_, rfl, ?_⟩))
              go_ret
              exact ⟨by first | rfl | (simp; done) | (simp [*]; done), by repeat (first | exact Drawn0.refl _ | apply Drawn0.step)⟩
          · rw [if_neg c6] at H
            exact absurd H (by simp)
        · rw [if_neg c5] at H
          exact absurd H (by simp)
      · rw [if_neg c4] at H
        have c4b0 : decide (x11_1 < (l0.length : Int)) = false := decide_eq_false c4
        clear c4
        obtain rfl := Option.some.inj H
        go_wp2
        go_ret
        exact ⟨by first | rfl | (simp; done) | (simp [*]; done), by repeat (first | exact Drawn0.refl _ | apply Drawn0.step)⟩

theorem allWithin_l0 (lo up : Int) (l : List Int) (hl : l.length ≤ maxLen) : ∀ (d i : Nat), i + d = l.length → Ev (fun k => impl_allWithin.l0 k lo up l (l.length : Int) i) (allR (l.drop i) lo up) := by
  unfold maxLen at hl
  intro d
  induction d with
  | zero =>
    intro i hi
    refine Ev.step (fun k => by rw [impl_allWithin.l0]) ?_
    rw [List.drop_eq_nil_of_le (by omega)]
    exact evNeg (by omega) (Ev.now true)
  | succ d ih =>
    intro i hi
    have h1 : i < l.length := by omega
    refine Ev.step (fun k => by rw [impl_allWithin.l0]) ?_
    refine evPos (by omega) (evPos (by omega) (evPos (by omega) ?_))
    rw [drop_get h1, rd_nat h1, within_f]
    simp only [Option.bind_some, allR, List.all_cons]
    cases inR l[i] lo up with
    | false => exact evNeg (by simp) (Ev.now false)
    | true =>
      refine evPos rfl ?_
      rw [w64 (by omega) (by omega)]
      exact ih (i + 1) (by omega)
theorem allWithin_f (l : List Int) (lo hi : Int) (hl : l.length ≤ maxLen) : Ev (fun k => impl_allWithin.f k l lo hi) (allR l lo hi) := by
  have := allWithin_l0 lo hi l hl l.length 0 (by omega)
  simpa [impl_allWithin.f] using this

/-! ### impl_PlaneOk: function 38 -/
def impl_PlaneOk.f (k : Nat) (l0 : List Int) (a1 : Int) (a2 : Int) : Option (Bool) := (impl_areSides.f a1 a2).bind fun t110 => (if t110 = true then (if (l0.length : Int) = (wrap64 (a1 * a2)) then ((impl_allWithin.f k l0 0 4095).bind fun t111 => (some t111)) else (some false)) else (some false))
theorem impl_PlaneOk.mono : ∀ a0 a1 a2 k, LeO (impl_PlaneOk.f k a0 a1 a2) (impl_PlaneOk.f (k + 1) a0 a1 a2) := by
  intro a0 a1 a2 k
  unfold impl_PlaneOk.f
  repeat' first
      | (with_reducible exact impl_allWithin.mono _ _ _ _)
      | (with_reducible exact LeO.refl _)
      | (with_reducible exact LeO.none _)
      | (with_reducible refine LeO.ite ?_ ?_)
      | (with_reducible refine LeO.bind ?_ (fun _ => ?_))
      | exact impl_allWithin.mono _ _ _ _
      | exact LeO.none _
      | refine LeO.ite ?_ ?_
      | refine LeO.bind ?_ (fun _ => ?_)
set_option maxHeartbeats 8000000 in
set_option maxRecDepth 100000 in
theorem impl_PlaneOk.calls (k : Nat) (A0 : Option Addr) (c0 : Nat) (l0 : List Int) (a1 : Int) (a2 : Int) (r : Bool) (w : World) (hr0 : Kd.C (Kd.int .i64) w A0 l0.length l0) (hc0 : l0.length ≤ c0) (h : impl_PlaneOk.f k l0 a1 a2 = some r) :
    Calls Try.prog 38 #[.slice A0 l0.length c0, .int .i64 a1, .int .i64 a2] w fun e w' => e = .returned (.bool r) ∧ Drawn0 w w' := by
  have HR0 := Aside0.mk hr0
  have HC0 := Aside0.mk hc0
  clear hr0 hc0
  have H : ((impl_areSides.f a1 a2).bind fun t110 => (if t110 = true then (if (l0.length : Int) = (wrap64 (a1 * a2)) then ((impl_allWithin.f k l0 0 4095).bind fun t111 => (some t111)) else (some false)) else (some false))) = some r := h
  clear h
  replace H := Option.bind_eq_some_iff.mp H
  obtain ⟨t110, A40, H⟩ := H
  replace H : (if t110 = true then (if (l0.length : Int) = (wrap64 (a1 * a2)) then ((impl_allWithin.f k l0 0 4095).bind fun t111 => (some t111)) else (some false)) else (some false)) = some r := H
  have A4 := Aside0.mk A40
  clear A40
  by_cases c5 : t110 = true
  · subst c5
    have H1 : (if (l0.length : Int) = (wrap64 (a1 * a2)) then ((impl_allWithin.f k l0 0 4095).bind fun t111 => (some t111)) else (some false)) = some r := by rw [if_pos rfl] at H; exact H
    clear H
    have H := H1
    clear H1
    by_cases c6 : (l0.length : Int) = (wrap64 (a1 * a2))
    · rw [if_pos c6] at H
      have c6b0 : ((l0.length : Int) == (wrap64 (a1 * a2))) = true := beq_iff_eq.mpr c6
      have c6b1 : ((l0.length : Int) != (wrap64 (a1 * a2))) = false := bne_eq_false_iff_eq.mpr c6
      clear c6
      replace H := Option.bind_eq_some_iff.mp H
      obtain ⟨t111, A70, H⟩ := H
      replace H : (some t111) = some r := H
      have A7 := Aside0.mk A70
      clear A70
      obtain rfl := Option.some.inj H
      go_enter Try.func38, Try.ntmps38
      go_wp2_with (first | ((with_reducible refine gate_callee (f := 43) rfl ?_); refine goesL_ (some 9) rfl rfl Try.func43 (by kernel_rfl) rfl #[.int .i64 a1, .int .i64 a2] rfl (by (try simp only [List.map_toArray, List.map_cons, List.map_nil]); first | done | rfl | (simp only [List.length_drop, List.length_take]; rfl)) ?_; (with_reducible refine (impl_areSides.calls a1 a2 true _ A4.out).mono ?_); rintro e w' ⟨rfl, ⟨nd, rfl⟩⟩; refine ⟨_, rfl, ?_⟩) | (go_at_call 46; (with_reducible refine (impl_allWithin.calls k _ _ l0 0 4095 t111 _ ?side1 ?side2 A7.out).mono ?_); (case side1 => repeat (first | exact HR0.out | (with_reducible refine Kd.C_alloc ?_ _) | (with_reducible refine Kd.C_drewN ?_ _) | (with_reducible refine Kd.C_drew ?_))); (case side2 => exact HC0.out); rintro e w' ⟨rfl, ⟨nd, rfl⟩⟩))
      go_ret
      exact ⟨by first | rfl | (simp; done) | (simp [*]; done), by repeat (first | exact Drawn0.refl _ | apply Drawn0.step)⟩
    · rw [if_neg c6] at H
      have c6b0 : ((l0.length : Int) == (wrap64 (a1 * a2))) = false := beq_eq_false_iff_ne.mpr c6
      have c6b1 : ((l0.length : Int) != (wrap64 (a1 * a2))) = true := bne_iff_ne.mpr c6
      obtain rfl := Option.some.inj H
      go_enter Try.func38, Try.ntmps38
      go_wp2_with (first | ((with_reducible refine gate_callee (f := 43) rfl ?_); refine goesL_ (some 9) rfl rfl Try.func43 (by kernel_rfl) rfl #[.int .i64 a1, .int .i64 a2] rfl (by (try simp only [List.map_toArray, List.map_cons, List.map_nil]); first | done | rfl | (simp only [List.length_drop, List.length_take]; rfl)) ?_; (with_reducible refine (impl_areSides.calls a1 a2 true _ A4.out).mono ?_); rintro e w' ⟨rfl, ⟨nd, rfl⟩⟩; refine ⟨_, rfl, ?_⟩))
      go_ret
      exact ⟨by first | rfl | (simp; done) | (simp [*]; done), by repeat (first | exact Drawn0.refl _ | apply Drawn0.step)⟩
  · replace c5 := Bool.eq_false_iff.mpr c5
    subst c5
    have H1 : (some false) = some r := by rw [if_neg (show ¬ (false = true) by decide)] at H; exact H
    clear H
    have H := H1
    clear H1
    obtain rfl := Option.some.inj H
    go_enter Try.func38, Try.ntmps38
    go_wp2_with (first | ((with_reducible refine gate_callee (f := 43) rfl ?_); refine goesL_ (some 9) rfl rfl Try.func43 (by kernel_rfl) rfl #[.int .i64 a1, .int .i64 a2] rfl (by (try simp only [List.map_toArray, List.map_cons, List.map_nil]); first | done | rfl | (simp only [List.length_drop, List.length_take]; rfl)) ?_; (with_reducible refine (impl_areSides.calls a1 a2 false _ A4.out).mono ?_); rintro e w' ⟨rfl, ⟨nd, rfl⟩⟩; refine ⟨_, rfl, ?_⟩))
    go_ret
    exact ⟨by first | rfl | (simp; done) | (simp [*]; done), by repeat (first | exact Drawn0.refl _ | apply Drawn0.step)⟩

theorem iPlaneOk_f (l : List Int) (w h : Int) (hl : l.length ≤ maxLen) : Ev (fun k => impl_PlaneOk.f k l w h) (planeB l w h) := by
  unfold impl_PlaneOk.f planeB
  rw [areSides_f]
  simp only [Option.bind_some]
  cases sidesB w h with
  | false => exact evNeg (by simp) (Ev.now false)
  | true =>
    refine evPos rfl (evIf (fun hc => ?_) (fun hc => ?_))
    · refine evBind (allWithin_f l 0 4095 hl) ?_
      simp only [hc, decide_true, Bool.true_and]
      exact Ev.now _
    · simp only [hc, decide_false, Bool.false_and, Bool.and_false]
      exact Ev.now _

/-! ### impl_plane: function 47 (by hand) -/
/-- A function value, called with two numbers, hands back a number and turns nothing. -/
abbrev Samples (cl : Nat) (lb : Array Value) (g : Int → Int → Int) (w h : Nat) (W : World) : Prop :=
  ∀ (W' : World) (y x : Nat), y < h → x < w → Below W.heap.size W W' → Calls Try.prog cl (#[.int .i64 y, .int .i64 x] ++ lb) W' fun e w' => e = .returned (.int .i64 (g y x)) ∧ Drawn0 W' w'
set_option maxHeartbeats 8000000 in
set_option maxRecDepth 100000 in
theorem impl_plane.calls (cl : Nat) (lb : Array Value) (g : Int → Int → Int) (w h : Nat) (hw : w ≤ 4096) (hh : h ≤ 4096) (W : World)
    (eg : ∀ args w, (callFunc cl args).run Try.prog w = .ok (.enter cl args) w) (hs : Samples cl lb g w h W) :
    Calls Try.prog 47 #[.int .i64 w, .int .i64 h, .func (.func cl) #[] lb] W fun e w' => ∃ v, e = .returned v ∧ Kd.R (Kd.int .i64) 3 w' W.heap.size (fun _ => True) v (planeL g w h) ∧ Below W.heap.size W w' := by
  have HS := Aside0.mk hs
  clear hs
  have HB := Aside0.mk (Below.refl W.heap.size W)
  go_enter Try.func47, Try.ntmps47
  go_wp2_with (first | ((with_reducible refine gate_dst (N := 10) rfl ?_); refine Kd.R_lit (Kd.int .i64) _ 3 ?hg (N := 10) ?hd (xs := ([] : List Int)) (inner := []) (ok := fun _ => True) (okp := fun _ => True) ?hr ?hp (fun _ hk => hk) trivial (Below.refl _ _) (Nat.le_refl _) (by simp) ?_; (case hd => rfl); (case hg => rfl); (case hr => first | (go_simp; done) | (go_simp; rfl)); (case hp => exact (Reps.none _ _)); intro v10 w7 ho8 hb hg_ hnew_; clear hg_ hnew_; have HO := Aside0.mk ho8; have HB2 := Aside0.mk (below_step HB.out hb); clear HB ho8 hb; have HB := HB2; clear HB2))
  have EZ := Aside0.mk (show (0 : Int) = ((0 : Nat) : Int) from rfl)
  go_loopg [7, 12] h (fun kq v7 v12 w' => ∃ (y : Nat), v12 = .int .i64 (y : Int) ∧ Aside0 (y + kq = h) ∧ Aside0 (Kd.R (Kd.int .i64) 3 w' W.heap.size (fun _ => True) v7 (planeL g w y)) ∧ Aside0 (Below W.heap.size W w'))
  case atStart =>
    exact ⟨0, rfl, ⟨by omega⟩, HO, HB⟩
  case round =>
    clear HO HB EZ
    obtain ⟨y, rfl, HK, HO, HB⟩ := hrel
    by_cases c1 : y < h
    · have c1b : decide ((y : Int) < (h : Int)) = true := decide_eq_true (by omega)
      go_wp2
      go_loopg [7, 16] w (fun kq v7 v16 w' => ∃ (x : Nat), v16 = .int .i64 (x : Int) ∧ Aside0 (x + kq = w) ∧ Aside0 (Kd.R (Kd.int .i64) 3 w' W.heap.size (fun _ => True) v7 (planeL g w y ++ rowL g x y)) ∧ Aside0 (Below W.heap.size W w'))
      case atStart =>
        exact ⟨0, rfl, ⟨by omega⟩, ⟨by rw [show rowL g 0 y = [] from rfl, List.append_nil]; exact HO.out⟩, HB⟩
      case round =>
        clear HO HB
        obtain ⟨x, rfl, HX, HO, HB⟩ := hrel
        by_cases c2 : x < w
        · have c2b : decide ((x : Int) < (w : Int)) = true := decide_eq_true (by omega)
          go_wp2_with (first
            | (go_at_fn cl; (with_reducible refine (HS.out _ y x c1 c2 (by repeat (first | (with_reducible first | exact HB.out | apply below_alloc | apply pw_below_drewN | apply below_drew1) | exact HB.out))).mono ?_); rintro e w' ⟨rfl, ⟨nd, rfl⟩⟩)
            | ((with_reducible refine gate_builtin (b := .append) (xs := #[.tmp 19, .tmp 24]) rfl ?_); at_builtin; refine Kd.R_append (Kd.int .i64) (w0 := W) W.heap.size rfl (.tmp 19) (.tmp 24) 41 3 (.int .i64 0) 8 rfl Try.underlying41 info3 rfl (by decide) (by omega) u7 (planeL g w y ++ rowL g x y) (g y x) [.int .i64 (g y x)] (fun _ => True) (fun _ => False) rfl rfl ?aP (fun _ hk => hk.elim) ?aF ?aO ?aB ?aS ?aL ?_; (case aP => exact rfl); (case aB => exact (by repeat (first | (with_reducible first | exact HB.out | apply below_alloc | apply pw_below_drewN | apply below_drew1) | exact HB.out))); (case aF => exact (fun _ _ => trivial)); (case aO => exact (by (with_reducible repeat (first | apply Kd.R_alloc | apply Kd.R_drewN | apply Kd.R_drew)); exact HO.out)); (case aS => exact (below_size (by repeat (first | (with_reducible first | exact HB.out | apply below_alloc | apply pw_below_drewN | apply below_drew1) | exact HB.out)))); (case aL => (rw [List.length_append, planeL_length, rowL_length]; have h1 : y * w ≤ 4096 * 4096 := Nat.mul_le_mul (by omega) hw; omega)); intro v1 w1 ho hb hg hat; have n0_ := Aside0.mk hb; have n1_ := Aside0.mk ho; clear HB; clear HO; have HB := n0_; have HO := n1_; clear n0_ n1_; clear ho hb hg hat))
          go_roundg (w - (x + 1))
          case measure => have := HX.out; omega
          case rel =>
            have e := HX.out
            exact ⟨x + 1, by simp, ⟨by omega⟩, ⟨by rw [rowL_succ, ← List.append_assoc]; exact HO.out⟩, HB⟩
        · have c2b : decide ((x : Int) < (w : Int)) = false := decide_eq_false (by omega)
          go_wp2
          go_roundg (h - (y + 1))
          case measure => have := HK.out; omega
          case rel =>
            have e := HX.out
            have e2 := HK.out
            obtain rfl : x = w := by omega
            exact ⟨y + 1, by simp, ⟨by omega⟩, ⟨by rw [planeL_succ]; exact HO.out⟩, HB⟩
    · have c1b : decide ((y : Int) < (h : Int)) = false := decide_eq_false (by omega)
      go_wp2
      go_ret
      have e2 := HK.out
      obtain rfl : y = h := by omega
      exact ⟨_, rfl, HO.out, HB.out⟩

theorem areSides_calls (a b : Int) (w : World) : Calls Try.prog 43 #[.int .i64 a, .int .i64 b] w fun e w' => e = .returned (.bool (sidesB a b)) ∧ Drawn0 w w' :=
  impl_areSides.calls a b _ w (areSides_f a b)
theorem planeOk_calls (A0 : Option Addr) (c0 : Nat) (l0 : List Int) (a b : Int) (w : World) (hr0 : Kd.C (Kd.int .i64) w A0 l0.length l0) (hc0 : l0.length ≤ c0) :
    Calls Try.prog 38 #[.slice A0 l0.length c0, .int .i64 a, .int .i64 b] w fun e w' => e = .returned (.bool (planeB l0 a b)) ∧ Drawn0 w w' := by
  obtain ⟨k, hk⟩ := (iPlaneOk_f l0 a b (by have := hr0.2.1; unfold maxLen; omega)).rounds
  exact impl_PlaneOk.calls k A0 c0 l0 a b _ w hr0 hc0 hk
theorem two_boxes (w : World) (v0 v1 : Value) (t0 t1 n : Nat) :
    (((w.alloc (.cells #[v0] t0)).alloc (.cells #[v1] t1)).drewN n).cell? ⟨w.heap.size, 0, none⟩ = some v0 ∧
    (((w.alloc (.cells #[v0] t0)).alloc (.cells #[v1] t1)).drewN n).cell? ⟨w.heap.size + 1, 0, none⟩ = some v1 ∧
    (((w.alloc (.cells #[v0] t0)).alloc (.cells #[v1] t1)).drewN n).heap.size = w.heap.size + 2 ∧
    Below w.heap.size w (((w.alloc (.cells #[v0] t0)).alloc (.cells #[v1] t1)).drewN n) := by
  refine ⟨by go_simp, by go_simp, by go_simp, ?_⟩
  repeat (first | exact Below.refl _ _ | apply below_alloc | apply pw_below_drewN | apply below_drew1)
theorem cell_on {W W' : World} (h : Below W.heap.size W W') {g : Nat} {v : Value} (hc : W.cell? ⟨g, 0, none⟩ = some v) : W'.cell? ⟨g, 0, none⟩ = some v :=
  (h.cell (World.block_lt_of_cell? W _ hc)).trans hc

/-! ### impl_cutBlocks_1: function 53 (by hand) -/
set_option maxHeartbeats 8000000 in
set_option maxRecDepth 100000 in
theorem cut1_walk (g0 gy g1 gx : Nat) (ad : Addr) (len c : Nat) (y wd x r q m1 m2 m3 m4 m5 v : Int) (i : Nat) (W : World) (h0 : W.cell? ⟨g0, 0, none⟩ = some (.slice (some ad) len c)) (hy : W.cell? ⟨gy, 0, none⟩ = some (.int .i64 y)) (h1 : W.cell? ⟨g1, 0, none⟩ = some (.int .i64 wd)) (hx : W.cell? ⟨gx, 0, none⟩ = some (.int .i64 x))
    (hx1 : W.cell? (ad.add i) = some (.int .i64 v)) (hi : i < len)
    (r1 : wrap64 (8 * y) = m1) (r2 : wrap64 (m1 + r) = m2) (r3 : wrap64 (m2 * wd) = m3) (r4 : wrap64 (8 * x) = m4) (r5 : wrap64 (m3 + m4) = m5) (r6 : wrap64 (m5 + q) = (i : Int)) :
    Calls Try.prog 53 (#[.int .i64 r, .int .i64 q] ++ #[.pointer (some ⟨g0, 0, none⟩), .pointer (some ⟨gy, 0, none⟩), .pointer (some ⟨g1, 0, none⟩), .pointer (some ⟨gx, 0, none⟩)]) W fun e w' => e = .returned (.int .i64 v) ∧ Drawn0 W w' := by
  have s1 : IntKind.i64.wrap (8 * y) = m1 := (i64_w _).trans r1
  have s2 : IntKind.i64.wrap (m1 + r) = m2 := (i64_w _).trans r2
  have s3 : IntKind.i64.wrap (m2 * wd) = m3 := (i64_w _).trans r3
  have s4 : IntKind.i64.wrap (8 * x) = m4 := (i64_w _).trans r4
  have s5 : IntKind.i64.wrap (m3 + m4) = m5 := (i64_w _).trans r5
  have s6 : IntKind.i64.wrap (m5 + q) = (i : Int) := (i64_w _).trans r6
  have i1 : (0 : Int) ≤ (i : Int) := by omega
  have i2 : (i : Int) < (len : Int) := by omega
  go_enter Try.func53, Try.ntmps53
  go_wp2
  try (go_quiet (fail))
  try go_wp2
  go_ret
  exact ⟨rfl, by repeat (first | exact Drawn0.refl _ | apply Drawn0.step)⟩
/-- A sample of a block that is cut. -/
def cutS (l : List Int) (wd Y X : Int) (r q : Int) : Int := rd l (((8 * Y.toNat + r.toNat) * wd.toNat + 8 * X.toNat + q.toNat : Nat) : Int)
def cutB (l : List Int) (wd : Int) (Y X : Nat) : List Int := planeL (cutS l wd Y X) 8 8
def cutR (l : List Int) (wd : Int) (Y : Nat) : Nat → List (List Int)
  | 0 => []
  | n + 1 => cutR l wd Y n ++ [cutB l wd Y n]
def cutL (l : List Int) (wd : Int) (a : Nat) : Nat → List (List Int)
  | 0 => []
  | n + 1 => cutL l wd a n ++ cutR l wd n a
theorem cutR_length (l : List Int) (wd : Int) (Y : Nat) : ∀ n, (cutR l wd Y n).length = n
  | 0 => rfl
  | n + 1 => by rw [cutR, List.length_append, cutR_length l wd Y n]; rfl
theorem cutL_length (l : List Int) (wd : Int) (a : Nat) : ∀ n, (cutL l wd a n).length = n * a
  | 0 => by rw [cutL]; simp
  | n + 1 => by rw [cutL, List.length_append, cutL_length l wd a n, cutR_length, Nat.succ_mul]
theorem cut_fit {W H a b Y X r q : Nat} (hW : W = 8 * a) (hH : H = 8 * b) (hY : Y < b) (hX : X < a) (hr : r < 8) (hq : q < 8) : (8 * Y + r) * W + 8 * X + q < H * W := by
  have h1 : (8 * Y + r + 1) * W ≤ H * W := Nat.mul_le_mul_right _ (by omega)
  rw [Nat.succ_mul] at h1
  omega
theorem cut_vals {W Y X r q : Nat} (hW : W ≤ 1024) (hY : Y ≤ 128) (hX : X ≤ 128) (hr : r < 8) (hq : q < 8) :
    wrap64 (8 * (Y : Int)) = ((8 * Y : Nat) : Int) ∧ wrap64 (((8 * Y : Nat) : Int) + (r : Int)) = ((8 * Y + r : Nat) : Int) ∧ wrap64 (((8 * Y + r : Nat) : Int) * (W : Int)) = (((8 * Y + r) * W : Nat) : Int) ∧
    wrap64 (8 * (X : Int)) = ((8 * X : Nat) : Int) ∧ wrap64 ((((8 * Y + r) * W : Nat) : Int) + ((8 * X : Nat) : Int)) = (((8 * Y + r) * W + 8 * X : Nat) : Int) ∧
    wrap64 ((((8 * Y + r) * W + 8 * X : Nat) : Int) + (q : Int)) = (((8 * Y + r) * W + 8 * X + q : Nat) : Int) := by
  have b6 : (8 * Y + r) * W ≤ 1032 * 1024 := Nat.mul_le_mul (by omega) hW
  refine ⟨?_, ?_, ?_, ?_, ?_, ?_⟩
  · rw [show 8 * (Y : Int) = ((8 * Y : Nat) : Int) from by omega]; exact w64n (by omega)
  · rw [← Int.natCast_add]; exact w64n (by omega)
  · rw [← Int.natCast_mul]; exact w64n (by omega)
  · rw [show 8 * (X : Int) = ((8 * X : Nat) : Int) from by omega]; exact w64n (by omega)
  · rw [← Int.natCast_add]; exact w64n (by omega)
  · rw [← Int.natCast_add]; exact w64n (by omega)
set_option maxHeartbeats 8000000 in
theorem cut1_any (g0 gy g1 gx : Nat) (A : Option Addr) (c : Nat) (l : List Int) (wd Y X r q : Nat) (W : World) (h0 : W.cell? ⟨g0, 0, none⟩ = some (.slice A l.length c)) (hy : W.cell? ⟨gy, 0, none⟩ = some (.int .i64 Y)) (h1 : W.cell? ⟨g1, 0, none⟩ = some (.int .i64 wd)) (hx : W.cell? ⟨gx, 0, none⟩ = some (.int .i64 X))
    (hr : Kd.C (Kd.int .i64) W A l.length l) (hw : wd ≤ 1024) (hY : Y ≤ 128) (hX : X ≤ 128) (hr8 : r < 8) (hq8 : q < 8) (hi : (8 * Y + r) * wd + 8 * X + q < l.length) :
    Calls Try.prog 53 (#[.int .i64 r, .int .i64 q] ++ #[.pointer (some ⟨g0, 0, none⟩), .pointer (some ⟨gy, 0, none⟩), .pointer (some ⟨g1, 0, none⟩), .pointer (some ⟨gx, 0, none⟩)]) W fun e w' => e = .returned (.int .i64 (cutS l wd Y X r q)) ∧ Drawn0 W w' := by
  obtain ⟨r1, r2, r3, r4, r5, r6⟩ := cut_vals hw hY hX hr8 hq8
  obtain ⟨ad, e1, hx1⟩ := Kd.at_int hr (((8 * Y + r) * wd + 8 * X + q : Nat) : Int) (Int.natCast_nonneg _) (Int.ofNat_lt.mpr hi)
  cases e1
  rw [Int.toNat_natCast] at hx1
  have e : cutS l wd Y X r q = rd l (((8 * Y + r) * wd + 8 * X + q : Nat) : Int) := by
    unfold cutS
    rw [Int.toNat_natCast, Int.toNat_natCast, Int.toNat_natCast, Int.toNat_natCast, Int.toNat_natCast]
  rw [e]
  exact cut1_walk g0 gy g1 gx ad l.length c Y wd X r q _ _ _ _ _ _ _ W h0 hy h1 hx hx1 hi r1 r2 r3 r4 r5 r6
theorem cut_samples (g0 gy g1 gx : Nat) (A : Option Addr) (c : Nat) (l : List Int) (wd h a b Y X : Nat) (W0 : World) (hr : Kd.C (Kd.int .i64) W0 A l.length l)
    (h0 : W0.cell? ⟨g0, 0, none⟩ = some (.slice A l.length c)) (hy : W0.cell? ⟨gy, 0, none⟩ = some (.int .i64 Y)) (h1 : W0.cell? ⟨g1, 0, none⟩ = some (.int .i64 wd)) (hx : W0.cell? ⟨gx, 0, none⟩ = some (.int .i64 X))
    (ha : wd = 8 * a) (hb : h = 8 * b) (hw : wd ≤ 1024) (hh : h ≤ 1024) (hl : l.length = h * wd) (hY : Y < b) (hX : X < a) :
    Samples 53 #[.pointer (some ⟨g0, 0, none⟩), .pointer (some ⟨gy, 0, none⟩), .pointer (some ⟨g1, 0, none⟩), .pointer (some ⟨gx, 0, none⟩)] (cutS l wd Y X) 8 8 W0 := by
  intro W' r q hr8 hq8 hb'
  exact cut1_any _ _ _ _ A c l wd Y X r q W' (cell_on hb' h0) (cell_on hb' hy) (cell_on hb' h1) (cell_on hb' hx) (Kd.C_below hr hb') hw (by omega) (by omega) hr8 hq8 (by rw [hl]; exact cut_fit ha hb hY hX hr8 hq8)

end Go.Proofs.Ytmgjglegooehbaa.CB
