/- Functions that a law of this seat reaches: written by a program of this session (wip/xprint.py), and by hand. -/
import Derived.Test.YtimappilioaagaaCLx0
import Derived.Test.YtimappilioaagaaCLx1
namespace Go.Proofs.Ytimappilioaagaa.CL
open Go.RowKit Go.Proofs.Ytimappilioaagaa.B Go.Proofs.YtimappilioaagaaW.PrintWords Go.Proofs.YtimappilioaagaaW.PrintLast Go.Proofs.YtimappilioaagaaW.PrintMore
attribute [local go_sem] max2_int min2_int max_two min_two max_three min_three max_four min_four   -- for this text's walks alone
set_option linter.unusedVariables false
set_option linter.unusedSimpArgs false

/-! ### spec_l17Px: function 58 -/
mutual
def spec_l17Px.j0 : Nat → Int → List Int → Bool → Option (Bool)
  | 0, _, _, _ => none
  | k + 1, x0, x1, x16 => if x16 = true then (some false) else (spec_l17Px.l0 k x0 x1 0)
def spec_l17Px.l0 : Nat → Int → List Int → Int → Option (Bool)
  | 0, _, _, _ => none
  | k + 1, x0, x1, x5 => if x5 < 3 then (if 0 ≤ x5 then (if x5 < (x1.length : Int) then (if 0 ≤ x0 then ((spec_l01Between.f (rd x1 x5) 0 (wrap64 ((shl .i64 1 x0) - 1))).bind fun t120 => (if t120 = true then (spec_l17Px.l0 k x0 x1 (wrap64 (x5 + 1))) else (some false))) else (none)) else (none)) else (none)) else (some true)
end
def spec_l17Px.f (k : Nat) (a0 : Int) (l1 : List Int) : Option (Bool) := if a0 = 8 then (spec_l17Px.j0 k a0 l1 ((l1.length : Int) != 3)) else (if a0 = 12 then (spec_l17Px.j0 k a0 l1 ((l1.length : Int) != 3)) else (spec_l17Px.j0 k a0 l1 true))
theorem spec_l17Px.mono_l : ∀ k, (∀ y0 y1 y2, LeO (spec_l17Px.j0 k y0 y1 y2) (spec_l17Px.j0 (k + 1) y0 y1 y2)) ∧ (∀ y0 y1 y2, LeO (spec_l17Px.l0 k y0 y1 y2) (spec_l17Px.l0 (k + 1) y0 y1 y2))
  | 0 => ⟨fun _ _ _ r h => by simp [spec_l17Px.j0] at h, fun _ _ _ r h => by simp [spec_l17Px.l0] at h⟩
  | k + 1 => by
    obtain ⟨ih0, ih1⟩ := spec_l17Px.mono_l k
    refine ⟨?_, ?_⟩
    · intro y0 y1 y2
      unfold spec_l17Px.j0
      repeat' first
      | (with_reducible exact ih0 _ _ _)
      | (with_reducible exact ih1 _ _ _)
      | (with_reducible exact LeO.refl _)
      | (with_reducible exact LeO.none _)
      | (with_reducible refine LeO.ite ?_ ?_)
      | (with_reducible refine LeO.bind ?_ (fun _ => ?_))
      | exact ih0 _ _ _
      | exact ih1 _ _ _
      | exact LeO.none _
      | refine LeO.ite ?_ ?_
      | refine LeO.bind ?_ (fun _ => ?_)
    · intro y0 y1 y2
      unfold spec_l17Px.l0
      repeat' first
      | (with_reducible exact ih0 _ _ _)
      | (with_reducible exact ih1 _ _ _)
      | (with_reducible exact LeO.refl _)
      | (with_reducible exact LeO.none _)
      | (with_reducible refine LeO.ite ?_ ?_)
      | (with_reducible refine LeO.bind ?_ (fun _ => ?_))
      | exact ih0 _ _ _
      | exact ih1 _ _ _
      | exact LeO.none _
      | refine LeO.ite ?_ ?_
      | refine LeO.bind ?_ (fun _ => ?_)
theorem spec_l17Px.mono : ∀ a0 a1 k, LeO (spec_l17Px.f k a0 a1) (spec_l17Px.f (k + 1) a0 a1) := by
  intro a0 a1 k
  obtain ⟨ih0, ih1⟩ := spec_l17Px.mono_l k
  unfold spec_l17Px.f
  repeat' first
      | (with_reducible exact ih0 _ _ _)
      | (with_reducible exact ih1 _ _ _)
      | (with_reducible exact LeO.refl _)
      | (with_reducible exact LeO.none _)
      | (with_reducible refine LeO.ite ?_ ?_)
      | (with_reducible refine LeO.bind ?_ (fun _ => ?_))
      | exact ih0 _ _ _
      | exact ih1 _ _ _
      | exact LeO.none _
      | refine LeO.ite ?_ ?_
      | refine LeO.bind ?_ (fun _ => ?_)
set_option maxHeartbeats 8000000 in
set_option maxRecDepth 100000 in
theorem spec_l17Px.calls (k : Nat) (a0 : Int) (A1 : Option Addr) (c1 : Nat) (l1 : List Int) (r : Bool) (w : World) (hr1 : Kd.C (Kd.int .i64) w A1 l1.length l1) (hc1 : l1.length ≤ c1) (h : spec_l17Px.f k a0 l1 = some r) :
    Calls Try.prog 58 #[.int .i64 a0, .slice A1 l1.length c1] w fun e w' => e = .returned (.bool r) ∧ Drawn0 w w' := by
  have HR1 := Aside0.mk hr1
  have HC1 := Aside0.mk hc1
  clear hr1 hc1
  have H : (if a0 = 8 then (spec_l17Px.j0 k a0 l1 ((l1.length : Int) != 3)) else (if a0 = 12 then (spec_l17Px.j0 k a0 l1 ((l1.length : Int) != 3)) else (spec_l17Px.j0 k a0 l1 true))) = some r := h
  clear h
  have HC3 := Aside0.mk H
  clear H
  go_enter Try.func58, Try.ntmps58
  go_upto_region 1 with (fail)
  repeat (go_quiet (fail); go_upto_region 1 with (fail))
  go_cut [16] (fun v16 wc => ∃ (kq : Nat) (x16_2 : Bool), v16 = .bool x16_2 ∧ Aside0 (spec_l17Px.j0 kq a0 l1 x16_2 = some r) ∧ Aside0 (kq ≤ k) ∧ Drawn0 w wc)
  case first =>
    have H := HC3.out
    clear HC3
    by_cases c4 : a0 = 8
    · rw [if_pos c4] at H
      have c4b0 : (a0 == 8) = true := beq_iff_eq.mpr c4
      have c4b1 : (a0 != 8) = false := bne_eq_false_iff_eq.mpr c4
      clear c4
      (first | rw [c4b0] | (simp only [i64_w, i32_w]; rw [c4b0]) | skip)
      have H' := Aside0.mk H
      clear H
      go_wp2
      repeat (go_quiet (fail); try go_wp2)
      go_meet
      case rel => exact ⟨_, (((l1.length : Int) != 3)), (by first | rfl | (simp; done) | (simp [*]; done)), H', ⟨by first | omega | exact Nat.le_refl _⟩, by repeat (first | exact Drawn0.refl _ | apply Drawn0.step)⟩
    · rw [if_neg c4] at H
      have c4b0 : (a0 == 8) = false := beq_eq_false_iff_ne.mpr c4
      have c4b1 : (a0 != 8) = true := bne_iff_ne.mpr c4
      (first | rw [c4b0] | (simp only [i64_w, i32_w]; rw [c4b0]) | skip)
      by_cases c5 : a0 = 12
      · rw [if_pos c5] at H
        have c5b0 : (a0 == 12) = true := beq_iff_eq.mpr c5
        have c5b1 : (a0 != 12) = false := bne_eq_false_iff_eq.mpr c5
        clear c5
        have H' := Aside0.mk H
        clear H
        go_wp2
        repeat (go_quiet (fail); try go_wp2)
        go_meet
        case rel => exact ⟨_, (((l1.length : Int) != 3)), (by first | rfl | (simp; done) | (simp [*]; done)), H', ⟨by first | omega | exact Nat.le_refl _⟩, by repeat (first | exact Drawn0.refl _ | apply Drawn0.step)⟩
      · rw [if_neg c5] at H
        have c5b0 : (a0 == 12) = false := beq_eq_false_iff_ne.mpr c5
        have c5b1 : (a0 != 12) = true := bne_iff_ne.mpr c5
        have H' := Aside0.mk H
        clear H
        go_wp2
        repeat (go_quiet (fail); try go_wp2)
        go_meet
        case rel => exact ⟨_, (true), (by first | rfl | (simp; done) | (simp [*]; done)), H', ⟨by first | omega | exact Nat.le_refl _⟩, by repeat (first | exact Drawn0.refl _ | apply Drawn0.step)⟩
  case rest =>
    clear HC3
    try clear c1
    try clear p2
    try clear c4
    try clear c4b0
    try clear c4b1
    try clear c5
    try clear c5b0
    try clear c5b1
    obtain ⟨kq, x16_2, rfl, HA, HJ2, ⟨mc2, rfl⟩⟩ := hcut
    cases kq with
    | zero => exact absurd HA.out (by simp [spec_l17Px.j0])
    | succ kj2 =>
      have H := HA.out
      clear HA
      simp only [spec_l17Px.j0] at H
      by_cases c6 : x16_2 = true
      · subst c6
        have H1 : (some false) = some r := by rw [if_pos rfl] at H; exact H
        clear H
        have H := H1
        clear H1
        obtain rfl := Option.some.inj H
        go_wp2
        repeat (go_quiet (fail); try go_wp2)
        go_ret
        exact ⟨by first | rfl | (simp; done) | (simp [*]; done), by repeat (first | exact Drawn0.refl _ | apply Drawn0.step)⟩
      · replace c6 := Bool.eq_false_iff.mpr c6
        subst c6
        have H1 : (spec_l17Px.l0 kj2 a0 l1 0) = some r := by rw [if_neg (show ¬ (false = true) by decide)] at H; exact H
        clear H
        have H := H1
        clear H1
        have H' := Aside0.mk H
        clear H
        go_wp2
        repeat (go_quiet (fail); try go_wp2)
        go_loopg [5] kj2 (fun kq v5 w' => ∃ (x5_2 : Int), v5 = .int .i64 x5_2 ∧ Aside0 (spec_l17Px.l0 kq a0 l1 x5_2 = some r) ∧ Aside0 (kq ≤ kj2) ∧ Drawn0 w w')
        case atStart => exact ⟨(0), (by first | rfl | (simp; done) | (simp [*]; done)), H', ⟨Nat.le_refl _⟩, by repeat (first | exact Drawn0.refl _ | apply Drawn0.step)⟩
        case round =>
          clear H'
          try clear c1
          try clear c2
          try clear p2
          try clear c4
          try clear c4b0
          try clear c4b1
          try clear c5
          try clear c5b0
          try clear c5b1
          try clear c6
          try clear p2
          obtain ⟨x5_2, rfl, HA, HK2, ⟨m2, rfl⟩⟩ := hrel
          cases gk with
          | zero => exact absurd HA.out (by simp [spec_l17Px.l0])
          | succ k2 =>
            have H := HA.out
            clear HA
            simp only [spec_l17Px.l0] at H
            by_cases c7 : x5_2 < 3
            · rw [if_pos c7] at H
              have c7b0 : decide (x5_2 < 3) = true := decide_eq_true c7
              clear c7
              by_cases c8 : 0 ≤ x5_2
              · rw [if_pos c8] at H
                have c8b0 : decide (0 ≤ x5_2) = true := decide_eq_true c8
                clear c8
                by_cases c9 : x5_2 < (l1.length : Int)
                · rw [if_pos c9] at H
                  have c9b0 : decide (x5_2 < (l1.length : Int)) = true := decide_eq_true c9
                  clear c9
                  by_cases c10 : 0 ≤ a0
                  · rw [if_pos c10] at H
                    have c10b0 := eq_true c10
                    have c10b1 : decide (0 ≤ a0) = true := decide_eq_true c10
                    clear c10
                    obtain ⟨ji11, hji11⟩ : ∃ j_ : Int, (shl .i64 1 a0) = j_ := ⟨_, rfl⟩
                    replace H : ((spec_l01Between.f (rd l1 x5_2) 0 (wrap64 ((ji11) - 1))).bind fun t120 => (if t120 = true then (spec_l17Px.l0 k2 a0 l1 (wrap64 (x5_2 + 1))) else (some false))) = some r := by first | (rw [hji11] at H; exact H) | (simp only [hji11] at H ⊢; exact H)
                    have hji11_ : (IntKind.i64.wrap (1 * 2 ^ min a0.toNat 64)) = ji11 := hji11
                    have hji11z : a0 ≤ 64 → (IntKind.i64.wrap (1 * 2 ^ a0.toNat)) = ji11 := shl_small hji11
                    have hji11u : (IntKind.i64.wrap (2 ^ min a0.toNat 64)) = ji11 := by have h_ := hji11_; rw [Int.one_mul] at h_; exact h_
                    have hji11v : a0 ≤ 64 → (IntKind.i64.wrap (2 ^ a0.toNat)) = ji11 := fun hle_ => by have h_ := hji11z hle_; rw [Int.one_mul] at h_; exact h_
                    have hji11y : (wrap64 (1 * 2 ^ min a0.toNat 64)) = ji11 := (i64_w _).symm.trans hji11_
                    have hji11x : a0 ≤ 64 → (wrap64 (1 * 2 ^ a0.toNat)) = ji11 := fun h_ => (i64_w _).symm.trans (hji11z h_)
                    replace H := Option.bind_eq_some_iff.mp H
                    obtain ⟨t120, A120, H⟩ := H
                    replace H : (if t120 = true then (spec_l17Px.l0 k2 a0 l1 (wrap64 (x5_2 + 1))) else (some false)) = some r := H
                    have A12 := Aside0.mk A120
                    clear A120
                    by_cases c13 : t120 = true
                    · subst c13
                      have H1 : (spec_l17Px.l0 k2 a0 l1 (wrap64 (x5_2 + 1))) = some r := by rw [if_pos rfl] at H; exact H
                      clear H
                      have H := H1
                      clear H1
                      have H' := Aside0.mk H
                      clear H
                      have p119 : 0 ≤ (x5_2 : Int) := of_decide_eq_true (by first | (with_reducible assumption) | assumption)
                      have q119 : x5_2 < (l1.length : Int) := of_decide_eq_true (by first | (with_reducible assumption) | assumption)
                      obtain ⟨ad119, e119, hx119_0⟩ := Kd.at_int HR1.out x5_2 p119 q119
                      cases e119
                      replace p119 := eq_true p119
                      replace q119 := eq_true q119
                      go_wp2_with (first | (go_at_call 67; (with_reducible refine (spec_l01Between.calls (rd l1 x5_2) 0 (wrap64 ((ji11) - 1)) true _ A12.out).mono ?_); rintro e w' ⟨rfl, ⟨nd, rfl⟩⟩; (try first | exact ⟨rfl, _, World.drewN_drewN _ _ _⟩ | exact ⟨rfl, _, Eq.trans (World.drewN_drewN _ _ _) (congrArg (World.drewN _) (Nat.add_assoc _ _ _))⟩)))
                      repeat (go_quiet (first | (go_at_call 67; (with_reducible refine (spec_l01Between.calls (rd l1 x5_2) 0 (wrap64 ((ji11) - 1)) true _ A12.out).mono ?_); rintro e w' ⟨rfl, ⟨nd, rfl⟩⟩; (try first | exact ⟨rfl, _, World.drewN_drewN _ _ _⟩ | exact ⟨rfl, _, Eq.trans (World.drewN_drewN _ _ _) (congrArg (World.drewN _) (Nat.add_assoc _ _ _))⟩))); try go_wp2_with (first | (go_at_call 67; (with_reducible refine (spec_l01Between.calls (rd l1 x5_2) 0 (wrap64 ((ji11) - 1)) true _ A12.out).mono ?_); rintro e w' ⟨rfl, ⟨nd, rfl⟩⟩; (try first | exact ⟨rfl, _, World.drewN_drewN _ _ _⟩ | exact ⟨rfl, _, Eq.trans (World.drewN_drewN _ _ _) (congrArg (World.drewN _) (Nat.add_assoc _ _ _))⟩))))
                      go_roundg k2
                      case measure => have := HJ2.out; have := HK2.out; omega
                      case rel => exact ⟨(wrap64 (x5_2 + 1)), (by first | rfl | (simp; done) | (simp [*]; done)), H', ⟨by have := HJ2.out; have := HK2.out; omega⟩, by repeat (first | exact Drawn0.refl _ | apply Drawn0.step)⟩
                    · replace c13 := Bool.eq_false_iff.mpr c13
                      subst c13
                      have H1 : (some false) = some r := by rw [if_neg (show ¬ (false = true) by decide)] at H; exact H
                      clear H
                      have H := H1
                      clear H1
                      obtain rfl := Option.some.inj H
                      have p119 : 0 ≤ (x5_2 : Int) := of_decide_eq_true (by first | (with_reducible assumption) | assumption)
                      have q119 : x5_2 < (l1.length : Int) := of_decide_eq_true (by first | (with_reducible assumption) | assumption)
                      obtain ⟨ad119, e119, hx119_0⟩ := Kd.at_int HR1.out x5_2 p119 q119
                      cases e119
                      replace p119 := eq_true p119
                      replace q119 := eq_true q119
                      go_wp2_with (first | (go_at_call 67; (with_reducible refine (spec_l01Between.calls (rd l1 x5_2) 0 (wrap64 ((ji11) - 1)) false _ A12.out).mono ?_); rintro e w' ⟨rfl, ⟨nd, rfl⟩⟩; (try first | exact ⟨rfl, _, World.drewN_drewN _ _ _⟩ | exact ⟨rfl, _, Eq.trans (World.drewN_drewN _ _ _) (congrArg (World.drewN _) (Nat.add_assoc _ _ _))⟩)))
                      repeat (go_quiet (first | (go_at_call 67; (with_reducible refine (spec_l01Between.calls (rd l1 x5_2) 0 (wrap64 ((ji11) - 1)) false _ A12.out).mono ?_); rintro e w' ⟨rfl, ⟨nd, rfl⟩⟩; (try first | exact ⟨rfl, _, World.drewN_drewN _ _ _⟩ | exact ⟨rfl, _, Eq.trans (World.drewN_drewN _ _ _) (congrArg (World.drewN _) (Nat.add_assoc _ _ _))⟩))); try go_wp2_with (first | (go_at_call 67; (with_reducible refine (spec_l01Between.calls (rd l1 x5_2) 0 (wrap64 ((ji11) - 1)) false _ A12.out).mono ?_); rintro e w' ⟨rfl, ⟨nd, rfl⟩⟩; (try first | exact ⟨rfl, _, World.drewN_drewN _ _ _⟩ | exact ⟨rfl, _, Eq.trans (World.drewN_drewN _ _ _) (congrArg (World.drewN _) (Nat.add_assoc _ _ _))⟩))))
                      go_ret
                      exact ⟨by first | rfl | (simp; done) | (simp only [← hji11] <;> (first | rfl | simp)) | (simp [*]; done), by repeat (first | exact Drawn0.refl _ | apply Drawn0.step)⟩
                  · rw [if_neg c10] at H
                    exact absurd H (by simp)
                · rw [if_neg c9] at H
                  exact absurd H (by simp)
              · rw [if_neg c8] at H
                exact absurd H (by simp)
            · rw [if_neg c7] at H
              have c7b0 : decide (x5_2 < 3) = false := decide_eq_false c7
              clear c7
              obtain rfl := Option.some.inj H
              go_wp2
              repeat (go_quiet (fail); try go_wp2)
              go_ret
              exact ⟨by first | rfl | (simp; done) | (simp [*]; done), by repeat (first | exact Drawn0.refl _ | apply Drawn0.step)⟩

theorem sPx_l0 (p : Int) (l : List Int) (hp : p = 8 ∨ p = 12) (h3 : l.length = 3) : ∀ (d i : Nat), i + d = 3 → Ev (fun k => spec_l17Px.l0 k p l i) (allR (l.drop i) 0 (topP p)) := by
  intro d
  induction d with
  | zero =>
    intro i hi
    refine Ev.step (fun k => by rw [spec_l17Px.l0]) ?_
    rw [List.drop_eq_nil_of_le (by omega)]
    exact evNeg (by omega) (Ev.now true)
  | succ d ih =>
    intro i hi
    have h1 : i < l.length := by omega
    refine Ev.step (fun k => by rw [spec_l17Px.l0]) ?_
    refine evPos (by omega) (evPos (by omega) (evPos (by omega) (evPos (by omega) ?_)))
    rw [drop_get h1, rd_nat h1, shl_top hp]
    refine evBind (evConst (between_f _ _ _)) ?_
    simp only [allR, List.all_cons]
    cases inR l[i] 0 (topP p) with
    | false => exact evNeg (by simp) (Ev.now false)
    | true =>
      refine evPos rfl ?_
      rw [w64 (by omega) (by omega)]
      exact ih (i + 1) (by omega)
theorem sPx_f (p : Int) (l : List Int) : Ev (fun k => spec_l17Px.f k p l) (pixB p l) := by
  have hj : p = 8 ∨ p = 12 → Ev (fun k => spec_l17Px.j0 k p l ((l.length : Int) != 3)) (pixB p l) := by
    intro hp
    refine Ev.step (fun k => by rw [spec_l17Px.j0]) (evIf (fun h3 => ?_) (fun h3 => ?_))
    · have : ¬ ((l.length : Int) = 3) := by simpa using h3
      refine evCast (Ev.now false) ?_
      simp [pixB, this]
    · have h4 : (l.length : Int) = 3 := by simpa using h3
      refine evCast (sPx_l0 p l hp (by omega) 3 0 (by omega)) ?_
      simp only [pixB, hp, h4, decide_true, Bool.true_and, List.drop_zero]
  unfold spec_l17Px.f
  refine evIf (fun h => hj (.inl h)) (fun h => evIf (fun h2 => hj (.inr h2)) (fun h2 => ?_))
  refine Ev.step (fun k => by rw [spec_l17Px.j0]) (evPos rfl (evCast (Ev.now false) ?_))
  simp [pixB, h, h2]

theorem sPx_calls (p : Int) (A : Option Addr) (c : Nat) (l : List Int) (w : World) (hr : Kd.C (Kd.int .i64) w A l.length l) (hc : l.length ≤ c) :
    Calls Try.prog 58 #[.int .i64 p, .slice A l.length c] w fun e w' => e = .returned (.bool (pixB p l)) ∧ Drawn0 w w' := by
  obtain ⟨k, hk⟩ := (sPx_f p l).rounds
  exact spec_l17Px.calls k p A c l _ w hr hc hk
/-- The three numbers of a list of three, in memory. -/
theorem three_cells {w : World} {A : Option Addr} {l : List Int} (hr : Kd.C (Kd.int .i64) w A l.length l) (h3 : l.length = 3) :
    ∃ ad, A = some ad ∧ w.cell? ad = some (.int .i64 (rd l 0)) ∧ w.cell? ⟨ad.block, ad.off + 1, none⟩ = some (.int .i64 (rd l 1)) ∧ w.cell? ⟨ad.block, ad.off + 2, none⟩ = some (.int .i64 (rd l 2)) := by
  obtain ⟨ad, e0, h0⟩ := Kd.at_int hr 0 (by omega) (by omega)
  obtain ⟨ad1, e1, h1⟩ := Kd.at_int hr 1 (by omega) (by omega)
  obtain ⟨ad2, e2, h2⟩ := Kd.at_int hr 2 (by omega) (by omega)
  subst e0
  obtain rfl : ad = ad1 := by injection e1
  obtain rfl : ad = ad2 := by injection e2
  exact ⟨ad, rfl, h0, h1, h2⟩

/-! ### spec_l05Clip: function 59 -/
def spec_l05Clip.f (a0 : Int) (a1 : Int) (a2 : Int) : Option (Int) := if a0 < a1 then (some a1) else (if a0 > a2 then (some a2) else (some a0))
set_option maxHeartbeats 8000000 in
set_option maxRecDepth 100000 in
theorem spec_l05Clip.calls (a0 : Int) (a1 : Int) (a2 : Int) (r : Int) (w : World) (h : spec_l05Clip.f a0 a1 a2 = some r) :
    Calls Try.prog 59 #[.int .i64 a0, .int .i64 a1, .int .i64 a2] w fun e w' => e = .returned (.int .i64 r) ∧ Drawn0 w w' := by
  have H : (if a0 < a1 then (some a1) else (if a0 > a2 then (some a2) else (some a0))) = some r := h
  clear h
  by_cases c4 : a0 < a1
  · rw [if_pos c4] at H
    have c4b0 : decide (a0 < a1) = true := decide_eq_true c4
    clear c4
    obtain rfl := Option.some.inj H
    go_enter Try.func59, Try.ntmps59
    go_wp2
    go_ret
    exact ⟨by first | rfl | (simp; done) | (simp [*]; done), by repeat (first | exact Drawn0.refl _ | apply Drawn0.step)⟩
  · rw [if_neg c4] at H
    have c4b0 : decide (a0 < a1) = false := decide_eq_false c4
    clear c4
    by_cases c5 : a0 > a2
    · rw [if_pos c5] at H
      have c5b0 : decide (a2 < a0) = true := decide_eq_true c5
      clear c5
      obtain rfl := Option.some.inj H
      go_enter Try.func59, Try.ntmps59
      go_wp2
      go_ret
      exact ⟨by first | rfl | (simp; done) | (simp [*]; done), by repeat (first | exact Drawn0.refl _ | apply Drawn0.step)⟩
    · rw [if_neg c5] at H
      have c5b0 : decide (a2 < a0) = false := decide_eq_false c5
      clear c5
      obtain rfl := Option.some.inj H
      go_enter Try.func59, Try.ntmps59
      go_wp2
      go_ret
      exact ⟨by first | rfl | (simp; done) | (simp [*]; done), by repeat (first | exact Drawn0.refl _ | apply Drawn0.step)⟩

theorem clip_f (x lo hi : Int) : spec_l05Clip.f x lo hi = some (clipI x lo hi) := by
  unfold spec_l05Clip.f clipI
  split
  · rfl
  · split <;> rfl

theorem clip_calls (x lo hi : Int) (w : World) : Calls Try.prog 59 #[.int .i64 x, .int .i64 lo, .int .i64 hi] w fun e w' => e = .returned (.int .i64 (clipI x lo hi)) ∧ Drawn0 w w' := spec_l05Clip.calls x lo hi _ w (clip_f x lo hi)

/-! ### spec_l05Floor: function 100 -/
def spec_l05Floor.f (a0 : Int) (a1 : Int) : Option (Int) := if a0 ≥ 0 then (if a1 = 0 then (none) else (some (wrap64 (Int.tdiv a0 a1)))) else (if a1 = 0 then (none) else (some (wrap64 (-(wrap64 (Int.tdiv (wrap64 ((wrap64 ((wrap64 (-a0)) + a1)) - 1)) a1))))))
set_option maxHeartbeats 8000000 in
set_option maxRecDepth 100000 in
theorem spec_l05Floor.calls (a0 : Int) (a1 : Int) (r : Int) (w : World) (h : spec_l05Floor.f a0 a1 = some r) :
    Calls Try.prog 100 #[.int .i64 a0, .int .i64 a1] w fun e w' => e = .returned (.int .i64 r) ∧ Drawn0 w w' := by
  have H : (if a0 ≥ 0 then (if a1 = 0 then (none) else (some (wrap64 (Int.tdiv a0 a1)))) else (if a1 = 0 then (none) else (some (wrap64 (-(wrap64 (Int.tdiv (wrap64 ((wrap64 ((wrap64 (-a0)) + a1)) - 1)) a1))))))) = some r := h
  clear h
  by_cases c3 : a0 ≥ 0
  · rw [if_pos c3] at H
    have c3b0 : decide (0 ≤ a0) = true := decide_eq_true c3
    clear c3
    by_cases c4 : a1 = 0
    · rw [if_pos c4] at H
      exact absurd H (by simp)
    · rw [if_neg c4] at H
      have c4b0 : (a1 == 0) = false := beq_eq_false_iff_ne.mpr c4
      have c4b1 : (a1 != 0) = true := bne_iff_ne.mpr c4
      obtain rfl := Option.some.inj H
      go_enter Try.func100, Try.ntmps100
      go_wp2
      go_ret
      exact ⟨by first | rfl | (simp; done) | (simp [*]; done), by repeat (first | exact Drawn0.refl _ | apply Drawn0.step)⟩
  · rw [if_neg c3] at H
    have c3b0 : decide (0 ≤ a0) = false := decide_eq_false c3
    clear c3
    by_cases c5 : a1 = 0
    · rw [if_pos c5] at H
      exact absurd H (by simp)
    · rw [if_neg c5] at H
      have c5b0 : (a1 == 0) = false := beq_eq_false_iff_ne.mpr c5
      have c5b1 : (a1 != 0) = true := bne_iff_ne.mpr c5
      obtain rfl := Option.some.inj H
      go_enter Try.func100, Try.ntmps100
      go_wp2
      go_ret
      exact ⟨by first | rfl | (simp; done) | (simp [*]; done), by repeat (first | exact Drawn0.refl _ | apply Drawn0.step)⟩

theorem floor_f {n d : Int} (hd : 0 < d) (hd2 : d ≤ 1152921504606846976) (h0 : -1152921504606846976 ≤ n) (h1 : n ≤ 1152921504606846976) : spec_l05Floor.f n d = some (n / d) := by
  obtain ⟨q0, q1⟩ := ediv_le_abs hd 1152921504606846976 h0 h1 (by omega)
  unfold spec_l05Floor.f
  by_cases h : n < 0
  · obtain ⟨p0, p1⟩ := ediv_le_abs (n := -n + d - 1) hd 2305843009213693952 (by omega) (by omega) (by omega)
    rw [if_neg (by omega), if_neg (by omega), w64 (x := -n) (by omega) (by omega), w64 (x := -n + d) (by omega) (by omega), w64 (x := -n + d - 1) (by omega) (by omega), Int.tdiv_eq_ediv_of_nonneg (by omega), w64 (x := (-n + d - 1) / d) (by omega) (by omega), neg_ediv hd, w64 (by omega) (by omega)]
  · rw [if_pos (by omega), if_neg (by omega), Int.tdiv_eq_ediv_of_nonneg (by omega), w64 (by omega) (by omega)]

/-! ### spec_l05Round: function 60 -/
def spec_l05Round.f (a0 : Int) (a1 : Int) : Option (Int) := (spec_l05Floor.f (wrap64 ((wrap64 (2 * a0)) + a1)) (wrap64 (2 * a1))).bind fun t121 => (some t121)
set_option maxHeartbeats 8000000 in
set_option maxRecDepth 100000 in
theorem spec_l05Round.calls (a0 : Int) (a1 : Int) (r : Int) (w : World) (h : spec_l05Round.f a0 a1 = some r) :
    Calls Try.prog 60 #[.int .i64 a0, .int .i64 a1] w fun e w' => e = .returned (.int .i64 r) ∧ Drawn0 w w' := by
  have H : ((spec_l05Floor.f (wrap64 ((wrap64 (2 * a0)) + a1)) (wrap64 (2 * a1))).bind fun t121 => (some t121)) = some r := h
  clear h
  replace H := Option.bind_eq_some_iff.mp H
  obtain ⟨t121, A30, H⟩ := H
  replace H : (some t121) = some r := H
  have A3 := Aside0.mk A30
  clear A30
  obtain rfl := Option.some.inj H
  go_enter Try.func60, Try.ntmps60
  go_wp2_with (first | ((with_reducible refine gate_callee (f := 100) rfl ?_); refine goesL_ (some 11) rfl rfl Try.func100 (by kernel_rfl) rfl #[.int .i64 (wrap64 ((wrap64 (2 * a0)) + a1)), .int .i64 (wrap64 (2 * a1))] rfl (by (try simp only [List.map_toArray, List.map_cons, List.map_nil]); first | done | rfl | (simp only [List.length_drop, List.length_take]; rfl)) ?_; (with_reducible refine (spec_l05Floor.calls (wrap64 ((wrap64 (2 * a0)) + a1)) (wrap64 (2 * a1)) t121 _ A3.out).mono ?_); rintro e w' ⟨rfl, ⟨nd, rfl⟩⟩; refine ⟨_, rfl, ?_⟩))
  go_ret
  exact ⟨by first | rfl | (simp; done) | (simp [*]; done), by repeat (first | exact Drawn0.refl _ | apply Drawn0.step)⟩

theorem round_f {n d : Int} (hd : 0 < d) (hd2 : d ≤ 281474976710656) (h0 : -281474976710656 ≤ n) (h1 : n ≤ 281474976710656) : spec_l05Round.f n d = some (rnd n d) := by
  unfold spec_l05Round.f rnd
  rw [w64 (x := 2 * n) (by omega) (by omega), w64 (x := 2 * n + d) (by omega) (by omega), w64 (x := 2 * d) (by omega) (by omega), floor_f (by omega) (by omega) (by omega) (by omega)]
  rfl
theorem round_calls {n d : Int} (hd : 0 < d) (hd2 : d ≤ 281474976710656) (h0 : -281474976710656 ≤ n) (h1 : n ≤ 281474976710656) (w : World) :
    Calls Try.prog 60 #[.int .i64 n, .int .i64 d] w fun e w' => e = .returned (.int .i64 (rnd n d)) ∧ Drawn0 w w' := spec_l05Round.calls n d _ w (round_f hd hd2 h0 h1)

/-! ### spec_FromYcc: function 11 (by hand) -/
def spec_FromYcc.f (p : Int) (l : List Int) : Option (List Int) := some (fromYccI p l)
set_option maxHeartbeats 8000000 in
set_option maxRecDepth 100000 in
theorem spec_FromYcc.calls (a0 : Int) (A1 : Option Addr) (c1 : Nat) (l1 : List Int) (r : List Int) (w : World) (hr1 : Kd.C (Kd.int .i64) w A1 l1.length l1) (hc1 : l1.length ≤ c1) (h : spec_FromYcc.f a0 l1 = some r) :
    Calls Try.prog 11 #[.int .i64 a0, .slice A1 l1.length c1] w fun e w' => ∃ v0_ : Value, e = .returned (v0_) ∧ Kd.R (Kd.int .i64) 3 w' w.heap.size (fun _ => True) v0_ r ∧ Below w.heap.size w w' := by
  obtain rfl := Option.some.inj h
  clear h
  have HR := Aside0.mk hr1
  have HC := Aside0.mk hc1
  have HB := Aside0.mk (Below.refl w.heap.size w)
  clear hr1 hc1
  by_cases hp : pixB a0 l1 = true
  · obtain ⟨hp8, h3, hv⟩ := pixB_vals hp
    have q0 := hv 0 (by omega) (by omega)
    have q1 := hv 1 (by omega) (by omega)
    have q2 := hv 2 (by omega) (by omega)
    have ht := topP_pos a0
    have hh := halfP_pos a0
    have hr := fr_range a0 l1
    obtain ⟨ad, e1, x0, x1, x2⟩ := three_cells HR.out h3
    subst e1
    have HE := Aside0.mk (show fromYccI a0 l1 = [frR a0 l1, frG a0 l1, frB a0 l1] from by unfold fromYccI fromYccL; rw [if_pos hp])
    have HP := Aside0.mk hp
    have H8 := Aside0.mk hp8
    have HZ1 := Aside0.mk (show frR a0 l1 = clipI (rd l1 0 + rnd (359 * (rd l1 2 - halfP a0)) 256) 0 (topP a0) from rfl)
    have HZ2 := Aside0.mk (show frB a0 l1 = clipI (rd l1 0 + rnd (454 * (rd l1 1 - halfP a0)) 256) 0 (topP a0) from rfl)
    have HZ3 := Aside0.mk (show frG a0 l1 = clipI (rnd (256 * rd l1 0 - 77 * frR a0 l1 - 29 * frB a0 l1) 150) 0 (topP a0) from rfl)
    rw [HE.out]
    clear HE hp hp8 hv
    generalize rd l1 0 = p0 at *
    generalize rd l1 1 = p1 at *
    generalize rd l1 2 = p2 at *
    generalize hR : frR a0 l1 = fR at *
    generalize hB : frB a0 l1 = fB at *
    generalize hG : frG a0 l1 = fG at *
    obtain ⟨tp, TP⟩ : ∃ tp, Aside0 (tp = topP a0) := ⟨_, ⟨rfl⟩⟩
    obtain ⟨hf, HF⟩ : ∃ hf, Aside0 (hf = halfP a0) := ⟨_, ⟨rfl⟩⟩
    clear hR hB hG
    rw [← TP.out] at ht q0 q1 q2 hr HZ1 HZ2 HZ3
    rw [← HF.out] at hh HZ1 HZ2
    obtain ⟨u, UU⟩ : ∃ u, Aside0 (u = rnd (359 * (p2 - hf)) 256) := ⟨_, ⟨rfl⟩⟩
    obtain ⟨v, VV⟩ : ∃ v, Aside0 (v = rnd (454 * (p1 - hf)) 256) := ⟨_, ⟨rfl⟩⟩
    obtain ⟨z, ZZ⟩ : ∃ z, Aside0 (z = rnd (256 * p0 - 77 * fR - 29 * fB) 150) := ⟨_, ⟨rfl⟩⟩
    have ru := rnd_range2 (n := 359 * (p2 - hf)) 3000000 (by omega) (by omega) (by omega)
    have rv := rnd_range2 (n := 454 * (p1 - hf)) 3000000 (by omega) (by omega) (by omega)
    have C0 := fun W => (show Calls Try.prog 60 #[.int .i64 (359 * (p2 - hf)), .int .i64 256] W fun e w' => e = .returned (.int .i64 u) ∧ Drawn0 W w' from by rw [UU.out]; exact round_calls (by omega) (by omega) (by omega) (by omega) W)
    have C1 := fun W => (show Calls Try.prog 60 #[.int .i64 (454 * (p1 - hf)), .int .i64 256] W fun e w' => e = .returned (.int .i64 v) ∧ Drawn0 W w' from by rw [VV.out]; exact round_calls (by omega) (by omega) (by omega) (by omega) W)
    have C2 := fun W => (show Calls Try.prog 60 #[.int .i64 (256 * p0 - 77 * fR - 29 * fB), .int .i64 150] W fun e w' => e = .returned (.int .i64 z) ∧ Drawn0 W w' from by rw [ZZ.out]; exact round_calls (by omega) (by omega) (by omega) (by omega) W)
    have C3 := fun W => (show Calls Try.prog 59 #[.int .i64 (p0 + u), .int .i64 0, .int .i64 tp] W fun e w' => e = .returned (.int .i64 fR) ∧ Drawn0 W w' from by rw [HZ1.out, UU.out]; exact clip_calls _ _ _ W)
    have C4 := fun W => (show Calls Try.prog 59 #[.int .i64 (p0 + v), .int .i64 0, .int .i64 tp] W fun e w' => e = .returned (.int .i64 fB) ∧ Drawn0 W w' from by rw [HZ2.out, VV.out]; exact clip_calls _ _ _ W)
    have C5 := fun W => (show Calls Try.prog 59 #[.int .i64 z, .int .i64 0, .int .i64 tp] W fun e w' => e = .returned (.int .i64 fG) ∧ Drawn0 W w' from by rw [HZ3.out, ZZ.out]; exact clip_calls _ _ _ W)
    rw [← UU.out] at ru
    rw [← VV.out] at rv
    have K0 := Aside0.mk C0
    have K1 := Aside0.mk C1
    have K2 := Aside0.mk C2
    have K3 := Aside0.mk C3
    have K4 := Aside0.mk C4
    have K5 := Aside0.mk C5
    have g8 : 0 ≤ a0 := by have := H8.out; omega
    have g9 : 1 ≤ a0 := by have := H8.out; omega
    have g7 : a0 ≤ 12 := by have := H8.out; omega
    obtain ⟨⟨hr0, hr1⟩, ⟨hr2, hr3⟩, hr4, hr5⟩ := hr
    have n0 : 0 < (l1.length : Int) := by omega
    have n1 : 1 < (l1.length : Int) := by omega
    have n2 : 2 < (l1.length : Int) := by omega
    have i0 : 0 < l1.length := by omega
    have i1 : 1 < l1.length := by omega
    have i2 : 2 < l1.length := by omega
    clear C0 C1 C2 C3 C4 C5 h3
    obtain ⟨ru0, ru1⟩ := ru
    obtain ⟨rv0, rv1⟩ := rv
    obtain ⟨q00, q01⟩ := q0
    obtain ⟨q10, q11⟩ := q1
    obtain ⟨q20, q21⟩ := q2
    obtain ⟨ht0, ht1⟩ := ht
    obtain ⟨hh0, hh1⟩ := hh
    go_enter Try.func11, Try.ntmps11
    go_wp2_with (first | (go_at_call 58; (with_reducible refine (boolCall (sPx_calls _ _ _ _ _ HR.out HC.out) HP.out).mono ?_); rintro e w' ⟨rfl, ⟨nd, rfl⟩⟩))
    have s1 : wrap64 (wrap64 (2 ^ a0.toNat) - 1) = tp := by rw [TP.out]; rcases H8.out with rfl | rfl <;> decide +kernel
    have s2 : wrap64 (2 ^ (a0.toNat - 1)) = hf := by rw [HF.out]; rcases H8.out with rfl | rfl <;> decide +kernel
    simp only [s1, s2]
    clear s1 s2 g8 g9 g7
    go_quiet (first | (go_at_call 60; first | ((with_reducible refine (K0.out _).mono ?_); rintro e w' ⟨rfl, ⟨nd, rfl⟩⟩; first | exact ⟨rfl, _, World.drewN_drewN _ _ _⟩ | exact ⟨rfl, _, Eq.trans (World.drewN_drewN _ _ _) (congrArg (World.drewN _) (Nat.add_assoc _ _ _))⟩) | ((with_reducible refine (K1.out _).mono ?_); rintro e w' ⟨rfl, ⟨nd, rfl⟩⟩; first | exact ⟨rfl, _, World.drewN_drewN _ _ _⟩ | exact ⟨rfl, _, Eq.trans (World.drewN_drewN _ _ _) (congrArg (World.drewN _) (Nat.add_assoc _ _ _))⟩) | ((with_reducible refine (K2.out _).mono ?_); rintro e w' ⟨rfl, ⟨nd, rfl⟩⟩; first | exact ⟨rfl, _, World.drewN_drewN _ _ _⟩ | exact ⟨rfl, _, Eq.trans (World.drewN_drewN _ _ _) (congrArg (World.drewN _) (Nat.add_assoc _ _ _))⟩)) | (go_at_call 59; first | ((with_reducible refine (K3.out _).mono ?_); rintro e w' ⟨rfl, ⟨nd, rfl⟩⟩; first | exact ⟨rfl, _, World.drewN_drewN _ _ _⟩ | exact ⟨rfl, _, Eq.trans (World.drewN_drewN _ _ _) (congrArg (World.drewN _) (Nat.add_assoc _ _ _))⟩) | ((with_reducible refine (K4.out _).mono ?_); rintro e w' ⟨rfl, ⟨nd, rfl⟩⟩; first | exact ⟨rfl, _, World.drewN_drewN _ _ _⟩ | exact ⟨rfl, _, Eq.trans (World.drewN_drewN _ _ _) (congrArg (World.drewN _) (Nat.add_assoc _ _ _))⟩) | ((with_reducible refine (K5.out _).mono ?_); rintro e w' ⟨rfl, ⟨nd, rfl⟩⟩; first | exact ⟨rfl, _, World.drewN_drewN _ _ _⟩ | exact ⟨rfl, _, Eq.trans (World.drewN_drewN _ _ _) (congrArg (World.drewN _) (Nat.add_assoc _ _ _))⟩)))
    go_wp2_with (first | (go_at_call 60; first | ((with_reducible refine (K0.out _).mono ?_); rintro e w' ⟨rfl, ⟨nd, rfl⟩⟩) | ((with_reducible refine (K1.out _).mono ?_); rintro e w' ⟨rfl, ⟨nd, rfl⟩⟩) | ((with_reducible refine (K2.out _).mono ?_); rintro e w' ⟨rfl, ⟨nd, rfl⟩⟩)) | (go_at_call 59; first | ((with_reducible refine (K3.out _).mono ?_); rintro e w' ⟨rfl, ⟨nd, rfl⟩⟩) | ((with_reducible refine (K4.out _).mono ?_); rintro e w' ⟨rfl, ⟨nd, rfl⟩⟩) | ((with_reducible refine (K5.out _).mono ?_); rintro e w' ⟨rfl, ⟨nd, rfl⟩⟩)))
    go_quiet (first | (go_at_call 60; first | ((with_reducible refine (K0.out _).mono ?_); rintro e w' ⟨rfl, ⟨nd, rfl⟩⟩; first | exact ⟨rfl, _, World.drewN_drewN _ _ _⟩ | exact ⟨rfl, _, Eq.trans (World.drewN_drewN _ _ _) (congrArg (World.drewN _) (Nat.add_assoc _ _ _))⟩) | ((with_reducible refine (K1.out _).mono ?_); rintro e w' ⟨rfl, ⟨nd, rfl⟩⟩; first | exact ⟨rfl, _, World.drewN_drewN _ _ _⟩ | exact ⟨rfl, _, Eq.trans (World.drewN_drewN _ _ _) (congrArg (World.drewN _) (Nat.add_assoc _ _ _))⟩) | ((with_reducible refine (K2.out _).mono ?_); rintro e w' ⟨rfl, ⟨nd, rfl⟩⟩; first | exact ⟨rfl, _, World.drewN_drewN _ _ _⟩ | exact ⟨rfl, _, Eq.trans (World.drewN_drewN _ _ _) (congrArg (World.drewN _) (Nat.add_assoc _ _ _))⟩)) | (go_at_call 59; first | ((with_reducible refine (K3.out _).mono ?_); rintro e w' ⟨rfl, ⟨nd, rfl⟩⟩; first | exact ⟨rfl, _, World.drewN_drewN _ _ _⟩ | exact ⟨rfl, _, Eq.trans (World.drewN_drewN _ _ _) (congrArg (World.drewN _) (Nat.add_assoc _ _ _))⟩) | ((with_reducible refine (K4.out _).mono ?_); rintro e w' ⟨rfl, ⟨nd, rfl⟩⟩; first | exact ⟨rfl, _, World.drewN_drewN _ _ _⟩ | exact ⟨rfl, _, Eq.trans (World.drewN_drewN _ _ _) (congrArg (World.drewN _) (Nat.add_assoc _ _ _))⟩) | ((with_reducible refine (K5.out _).mono ?_); rintro e w' ⟨rfl, ⟨nd, rfl⟩⟩; first | exact ⟨rfl, _, World.drewN_drewN _ _ _⟩ | exact ⟨rfl, _, Eq.trans (World.drewN_drewN _ _ _) (congrArg (World.drewN _) (Nat.add_assoc _ _ _))⟩)))
    go_wp2_with (first | (go_at_call 60; first | ((with_reducible refine (K0.out _).mono ?_); rintro e w' ⟨rfl, ⟨nd, rfl⟩⟩) | ((with_reducible refine (K1.out _).mono ?_); rintro e w' ⟨rfl, ⟨nd, rfl⟩⟩) | ((with_reducible refine (K2.out _).mono ?_); rintro e w' ⟨rfl, ⟨nd, rfl⟩⟩)) | (go_at_call 59; first | ((with_reducible refine (K3.out _).mono ?_); rintro e w' ⟨rfl, ⟨nd, rfl⟩⟩) | ((with_reducible refine (K4.out _).mono ?_); rintro e w' ⟨rfl, ⟨nd, rfl⟩⟩) | ((with_reducible refine (K5.out _).mono ?_); rintro e w' ⟨rfl, ⟨nd, rfl⟩⟩)))
    go_ret
    refine ⟨_, rfl, lit_ints (W := w.drewN _) (pw_below_drewN (Below.refl _ _) _) 3 [fR, fG, fB] (by simp), ?_⟩
    repeat (first | exact Below.refl _ _ | apply below_alloc | apply pw_below_drewN | apply below_drew1)
  · have HE := Aside0.mk (show fromYccI a0 l1 = [] from by unfold fromYccI; rw [if_neg hp])
    have HP := Aside0.mk (Bool.eq_false_iff.mpr hp)
    clear hp
    rw [HE.out]
    clear HE
    go_enter Try.func11, Try.ntmps11
    go_wp2_with (first | (go_at_call 58; (with_reducible refine (boolCall (sPx_calls _ _ _ _ _ HR.out HC.out) HP.out).mono ?_); rintro e w' ⟨rfl, ⟨nd, rfl⟩⟩))
    go_ret
    refine ⟨_, rfl, lit_ints (W := w.drewN _) (pw_below_drewN (Below.refl _ _) _) 3 [] (by simp), ?_⟩
    repeat (first | exact Below.refl _ _ | apply below_alloc | apply pw_below_drewN | apply below_drew1)

/-! ### impl_ToYcc: function 18 -/
def impl_ToYcc.f (k : Nat) (a0 : Int) (l1 : List Int) : Option (List Int) := (impl_isPixel.f k a0 l1).bind fun t122 => (if t122 = true then (if 0 < (l1.length : Int) then (if 1 < (l1.length : Int) then (if 2 < (l1.length : Int) then (if 0 ≤ (wrap64 (a0 - 1)) then ((impl_rounded.f (wrap64 ((wrap64 ((wrap64 (77 * (rd l1 0))) + (wrap64 (150 * (rd l1 1))))) + (wrap64 (29 * (rd l1 2))))) 256).bind fun t126 => ((impl_brought.f a0 t126).bind fun t127 => ((impl_rounded.f (wrap64 (144 * (wrap64 ((rd l1 2) - t127)))) 256).bind fun t128 => ((impl_brought.f a0 (wrap64 ((shl .i64 1 (wrap64 (a0 - 1))) + t128))).bind fun t129 => ((impl_rounded.f (wrap64 (183 * (wrap64 ((rd l1 0) - t127)))) 256).bind fun t130 => ((impl_brought.f a0 (wrap64 ((shl .i64 1 (wrap64 (a0 - 1))) + t130))).bind fun t131 => (some (([t127, t129, t131] : List Int))))))))) else (none)) else (none)) else (none)) else (none)) else (some ([] : List Int)))
theorem impl_ToYcc.mono : ∀ a0 a1 k, LeO (impl_ToYcc.f k a0 a1) (impl_ToYcc.f (k + 1) a0 a1) := by
  intro a0 a1 k
  unfold impl_ToYcc.f
  repeat' first
      | (with_reducible exact impl_isPixel.mono _ _ _)
      | (with_reducible exact LeO.refl _)
      | (with_reducible exact LeO.none _)
      | (with_reducible refine LeO.ite ?_ ?_)
      | (with_reducible refine LeO.bind ?_ (fun _ => ?_))
      | exact impl_isPixel.mono _ _ _
      | exact LeO.none _
      | refine LeO.ite ?_ ?_
      | refine LeO.bind ?_ (fun _ => ?_)
set_option maxHeartbeats 8000000 in
set_option maxRecDepth 100000 in
theorem impl_ToYcc.calls (k : Nat) (a0 : Int) (A1 : Option Addr) (c1 : Nat) (l1 : List Int) (r : List Int) (w : World) (hr1 : Kd.C (Kd.int .i64) w A1 l1.length l1) (hc1 : l1.length ≤ c1) (h : impl_ToYcc.f k a0 l1 = some r) :
    Calls Try.prog 18 #[.int .i64 a0, .slice A1 l1.length c1] w fun e w' => ∃ v0_ : Value, e = .returned (v0_) ∧ Kd.R (Kd.int .i64) 3 w' w.heap.size (fun _ => True) v0_ r ∧ Below w.heap.size w w' := by
  have HR1 := Aside0.mk hr1
  have HC1 := Aside0.mk hc1
  clear hr1 hc1
  have HB := Aside0.mk (Below.refl w.heap.size w)
  have H : ((impl_isPixel.f k a0 l1).bind fun t122 => (if t122 = true then (if 0 < (l1.length : Int) then (if 1 < (l1.length : Int) then (if 2 < (l1.length : Int) then (if 0 ≤ (wrap64 (a0 - 1)) then ((impl_rounded.f (wrap64 ((wrap64 ((wrap64 (77 * (rd l1 0))) + (wrap64 (150 * (rd l1 1))))) + (wrap64 (29 * (rd l1 2))))) 256).bind fun t126 => ((impl_brought.f a0 t126).bind fun t127 => ((impl_rounded.f (wrap64 (144 * (wrap64 ((rd l1 2) - t127)))) 256).bind fun t128 => ((impl_brought.f a0 (wrap64 ((shl .i64 1 (wrap64 (a0 - 1))) + t128))).bind fun t129 => ((impl_rounded.f (wrap64 (183 * (wrap64 ((rd l1 0) - t127)))) 256).bind fun t130 => ((impl_brought.f a0 (wrap64 ((shl .i64 1 (wrap64 (a0 - 1))) + t130))).bind fun t131 => (some (([t127, t129, t131] : List Int))))))))) else (none)) else (none)) else (none)) else (none)) else (some ([] : List Int)))) = some r := h
  clear h
  replace H := Option.bind_eq_some_iff.mp H
  obtain ⟨t122, A30, H⟩ := H
  replace H : (if t122 = true then (if 0 < (l1.length : Int) then (if 1 < (l1.length : Int) then (if 2 < (l1.length : Int) then (if 0 ≤ (wrap64 (a0 - 1)) then ((impl_rounded.f (wrap64 ((wrap64 ((wrap64 (77 * (rd l1 0))) + (wrap64 (150 * (rd l1 1))))) + (wrap64 (29 * (rd l1 2))))) 256).bind fun t126 => ((impl_brought.f a0 t126).bind fun t127 => ((impl_rounded.f (wrap64 (144 * (wrap64 ((rd l1 2) - t127)))) 256).bind fun t128 => ((impl_brought.f a0 (wrap64 ((shl .i64 1 (wrap64 (a0 - 1))) + t128))).bind fun t129 => ((impl_rounded.f (wrap64 (183 * (wrap64 ((rd l1 0) - t127)))) 256).bind fun t130 => ((impl_brought.f a0 (wrap64 ((shl .i64 1 (wrap64 (a0 - 1))) + t130))).bind fun t131 => (some (([t127, t129, t131] : List Int))))))))) else (none)) else (none)) else (none)) else (none)) else (some ([] : List Int))) = some r := H
  have A3 := Aside0.mk A30
  clear A30
  by_cases c4 : t122 = true
  · subst c4
    have H1 : (if 0 < (l1.length : Int) then (if 1 < (l1.length : Int) then (if 2 < (l1.length : Int) then (if 0 ≤ (wrap64 (a0 - 1)) then ((impl_rounded.f (wrap64 ((wrap64 ((wrap64 (77 * (rd l1 0))) + (wrap64 (150 * (rd l1 1))))) + (wrap64 (29 * (rd l1 2))))) 256).bind fun t126 => ((impl_brought.f a0 t126).bind fun t127 => ((impl_rounded.f (wrap64 (144 * (wrap64 ((rd l1 2) - t127)))) 256).bind fun t128 => ((impl_brought.f a0 (wrap64 ((shl .i64 1 (wrap64 (a0 - 1))) + t128))).bind fun t129 => ((impl_rounded.f (wrap64 (183 * (wrap64 ((rd l1 0) - t127)))) 256).bind fun t130 => ((impl_brought.f a0 (wrap64 ((shl .i64 1 (wrap64 (a0 - 1))) + t130))).bind fun t131 => (some (([t127, t129, t131] : List Int))))))))) else (none)) else (none)) else (none)) else (none)) = some r := by rw [if_pos rfl] at H; exact H
    clear H
    have H := H1
    clear H1
    by_cases c5 : 0 < (l1.length : Int)
    · rw [if_pos c5] at H
      have c5b0 : decide (0 < (l1.length : Int)) = true := decide_eq_true c5
      have c5b1 : decide (0 < l1.length) = true := decide_eq_true (by omega)
      clear c5
      by_cases c6 : 1 < (l1.length : Int)
      · rw [if_pos c6] at H
        have c6b0 : decide (1 < (l1.length : Int)) = true := decide_eq_true c6
        have c6b1 : decide (1 < l1.length) = true := decide_eq_true (by omega)
        clear c6
        by_cases c7 : 2 < (l1.length : Int)
        · rw [if_pos c7] at H
          have c7b0 : decide (2 < (l1.length : Int)) = true := decide_eq_true c7
          have c7b1 : decide (2 < l1.length) = true := decide_eq_true (by omega)
          clear c7
          obtain ⟨ji8, hji8⟩ : ∃ j_ : Int, (wrap64 (a0 - 1)) = j_ := ⟨_, rfl⟩
          replace H : (if 0 ≤ (ji8) then ((impl_rounded.f (wrap64 ((wrap64 ((wrap64 (77 * (rd l1 0))) + (wrap64 (150 * (rd l1 1))))) + (wrap64 (29 * (rd l1 2))))) 256).bind fun t126 => ((impl_brought.f a0 t126).bind fun t127 => ((impl_rounded.f (wrap64 (144 * (wrap64 ((rd l1 2) - t127)))) 256).bind fun t128 => ((impl_brought.f a0 (wrap64 ((shl .i64 1 (ji8)) + t128))).bind fun t129 => ((impl_rounded.f (wrap64 (183 * (wrap64 ((rd l1 0) - t127)))) 256).bind fun t130 => ((impl_brought.f a0 (wrap64 ((shl .i64 1 (ji8)) + t130))).bind fun t131 => (some (([t127, t129, t131] : List Int))))))))) else (none)) = some r := by first | (rw [hji8] at H; exact H) | (simp only [hji8] at H ⊢; exact H)
          (try rw [hji8] at A3)
          have hji8w : (IntKind.i64.wrap (a0 - 1)) = ji8 := (i64_w _).trans hji8
          by_cases c9 : 0 ≤ (ji8)
          · rw [if_pos c9] at H
            have c9b0 := eq_true c9
            have c9b1 : decide (0 ≤ (ji8)) = true := decide_eq_true c9
            clear c9
            obtain ⟨ji10, hji10⟩ : ∃ j_ : Int, (shl .i64 1 (ji8)) = j_ := ⟨_, rfl⟩
            replace H : ((impl_rounded.f (wrap64 ((wrap64 ((wrap64 (77 * (rd l1 0))) + (wrap64 (150 * (rd l1 1))))) + (wrap64 (29 * (rd l1 2))))) 256).bind fun t126 => ((impl_brought.f a0 t126).bind fun t127 => ((impl_rounded.f (wrap64 (144 * (wrap64 ((rd l1 2) - t127)))) 256).bind fun t128 => ((impl_brought.f a0 (wrap64 ((ji10) + t128))).bind fun t129 => ((impl_rounded.f (wrap64 (183 * (wrap64 ((rd l1 0) - t127)))) 256).bind fun t130 => ((impl_brought.f a0 (wrap64 ((ji10) + t130))).bind fun t131 => (some (([t127, t129, t131] : List Int))))))))) = some r := by first | (rw [hji10] at H; exact H) | (simp only [hji10] at H ⊢; exact H)
            (try rw [hji10] at A3)
            have hji10_ : (IntKind.i64.wrap (1 * 2 ^ min (ji8).toNat 64)) = ji10 := hji10
            have hji10z : (ji8) ≤ 64 → (IntKind.i64.wrap (1 * 2 ^ (ji8).toNat)) = ji10 := shl_small hji10
            have hji10u : (IntKind.i64.wrap (2 ^ min (ji8).toNat 64)) = ji10 := by have h_ := hji10_; rw [Int.one_mul] at h_; exact h_
            have hji10v : (ji8) ≤ 64 → (IntKind.i64.wrap (2 ^ (ji8).toNat)) = ji10 := fun hle_ => by have h_ := hji10z hle_; rw [Int.one_mul] at h_; exact h_
            have hji10y : (wrap64 (1 * 2 ^ min (ji8).toNat 64)) = ji10 := (i64_w _).symm.trans hji10_
            have hji10x : (ji8) ≤ 64 → (wrap64 (1 * 2 ^ (ji8).toNat)) = ji10 := fun h_ => (i64_w _).symm.trans (hji10z h_)
            replace H := Option.bind_eq_some_iff.mp H
            obtain ⟨t126, A110, H⟩ := H
            replace H : ((impl_brought.f a0 t126).bind fun t127 => ((impl_rounded.f (wrap64 (144 * (wrap64 ((rd l1 2) - t127)))) 256).bind fun t128 => ((impl_brought.f a0 (wrap64 ((ji10) + t128))).bind fun t129 => ((impl_rounded.f (wrap64 (183 * (wrap64 ((rd l1 0) - t127)))) 256).bind fun t130 => ((impl_brought.f a0 (wrap64 ((ji10) + t130))).bind fun t131 => (some (([t127, t129, t131] : List Int)))))))) = some r := H
            have A11 := Aside0.mk A110
            clear A110
            replace H := Option.bind_eq_some_iff.mp H
            obtain ⟨t127, A120, H⟩ := H
            replace H : ((impl_rounded.f (wrap64 (144 * (wrap64 ((rd l1 2) - t127)))) 256).bind fun t128 => ((impl_brought.f a0 (wrap64 ((ji10) + t128))).bind fun t129 => ((impl_rounded.f (wrap64 (183 * (wrap64 ((rd l1 0) - t127)))) 256).bind fun t130 => ((impl_brought.f a0 (wrap64 ((ji10) + t130))).bind fun t131 => (some (([t127, t129, t131] : List Int))))))) = some r := H
            have A12 := Aside0.mk A120
            clear A120
            replace H := Option.bind_eq_some_iff.mp H
            obtain ⟨t128, A130, H⟩ := H
            replace H : ((impl_brought.f a0 (wrap64 ((ji10) + t128))).bind fun t129 => ((impl_rounded.f (wrap64 (183 * (wrap64 ((rd l1 0) - t127)))) 256).bind fun t130 => ((impl_brought.f a0 (wrap64 ((ji10) + t130))).bind fun t131 => (some (([t127, t129, t131] : List Int)))))) = some r := H
            have A13 := Aside0.mk A130
            clear A130
            replace H := Option.bind_eq_some_iff.mp H
            obtain ⟨t129, A140, H⟩ := H
            replace H : ((impl_rounded.f (wrap64 (183 * (wrap64 ((rd l1 0) - t127)))) 256).bind fun t130 => ((impl_brought.f a0 (wrap64 ((ji10) + t130))).bind fun t131 => (some (([t127, t129, t131] : List Int))))) = some r := H
            have A14 := Aside0.mk A140
            clear A140
            replace H := Option.bind_eq_some_iff.mp H
            obtain ⟨t130, A150, H⟩ := H
            replace H : ((impl_brought.f a0 (wrap64 ((ji10) + t130))).bind fun t131 => (some (([t127, t129, t131] : List Int)))) = some r := H
            have A15 := Aside0.mk A150
            clear A150
            replace H := Option.bind_eq_some_iff.mp H
            obtain ⟨t131, A160, H⟩ := H
            replace H : (some (([t127, t129, t131] : List Int))) = some r := H
            have A16 := Aside0.mk A160
            clear A160
            obtain ⟨y132, hy132⟩ : ∃ y_ : List Int, y_ = (([t127, t129, t131] : List Int)) := ⟨_, rfl⟩
            replace H : (some y132) = some r := by first | (rw [hy132]; with_reducible exact H) | (have H2_ := (Option.bind_some _ _).symm.trans H; rw [hy132]; with_reducible exact H2_) | (have H2_ := (Option.bind_some _ _).symm.trans H; with_reducible exact H2_) | with_reducible exact H | (rw [hy132]; exact H) | exact H
            have Ny132 := Aside0.mk hy132
            clear hy132
            obtain rfl := Option.some.inj H
            go_enter Try.func18, Try.ntmps18
            go_wp2_with (first | (go_at_call 61; (with_reducible refine (impl_isPixel.calls k a0 _ _ l1 true _ ?side1 ?side2 A3.out).mono ?_); (case side1 => repeat (first | exact HR1.out | (with_reducible refine Kd.C_alloc ?_ _) | (with_reducible refine Kd.C_drewN ?_ _) | (with_reducible refine Kd.C_drew ?_))); (case side2 => exact HC1.out); rintro e w' ⟨rfl, ⟨nd, rfl⟩⟩; (try first | exact ⟨rfl, _, World.drewN_drewN _ _ _⟩ | exact ⟨rfl, _, Eq.trans (World.drewN_drewN _ _ _) (congrArg (World.drewN _) (Nat.add_assoc _ _ _))⟩); have p123 : 0 ≤ (0 : Int) := (by omega); have q123 : 0 < (l1.length : Int) := of_decide_eq_true (by first | (with_reducible assumption) | assumption); obtain ⟨ad123, e123, hx123_0⟩ := Kd.at_int HR1.out 0 p123 q123; cases e123; have qi123 : (0 < l1.length) = True := eq_true (by omega); (try rw [show ((0 : Int)).toNat = 0 from rfl] at hx123_0); (try rw [Addr.add_zero'] at hx123_0); replace p123 := eq_true p123; replace q123 := eq_true q123; have p124 : 0 ≤ (1 : Int) := (by omega); have q124 : 1 < (l1.length : Int) := of_decide_eq_true (by first | (with_reducible assumption) | assumption); obtain ⟨ad124, e124, hx124_0⟩ := Kd.at_int HR1.out 1 p124 q124; obtain rfl : ad123 = ad124 := (by injection e124); (try simp only [show (1 : Int).toNat = 1 from rfl, Nat.reduceMul, Nat.reduceEqDiff, Go.Addr.add, ↓reduceIte] at hx124_0); have qi124 : (1 < l1.length) = True := eq_true (by omega); (try rw [show ((1 : Int)).toNat = 1 from rfl] at hx124_0); replace p124 := eq_true p124; replace q124 := eq_true q124; have p125 : 0 ≤ (2 : Int) := (by omega); have q125 : 2 < (l1.length : Int) := of_decide_eq_true (by first | (with_reducible assumption) | assumption); obtain ⟨ad125, e125, hx125_0⟩ := Kd.at_int HR1.out 2 p125 q125; obtain rfl : ad123 = ad125 := (by injection e125); (try simp only [show (2 : Int).toNat = 2 from rfl, Nat.reduceMul, Nat.reduceEqDiff, Go.Addr.add, ↓reduceIte] at hx125_0); have qi125 : (2 < l1.length) = True := eq_true (by omega); (try rw [show ((2 : Int)).toNat = 2 from rfl] at hx125_0); replace p125 := eq_true p125; replace q125 := eq_true q125) | (go_at_call 63; (with_reducible refine (impl_rounded.calls (wrap64 ((wrap64 ((wrap64 (77 * (rd l1 0))) + (wrap64 (150 * (rd l1 1))))) + (wrap64 (29 * (rd l1 2))))) 256 t126 _ A11.out).mono ?_); rintro e w' ⟨rfl, ⟨nd, rfl⟩⟩; (try first | exact ⟨rfl, _, World.drewN_drewN _ _ _⟩ | exact ⟨rfl, _, Eq.trans (World.drewN_drewN _ _ _) (congrArg (World.drewN _) (Nat.add_assoc _ _ _))⟩)) | (go_at_call 62; (with_reducible refine (impl_brought.calls a0 t126 t127 _ A12.out).mono ?_); rintro e w17 ⟨rfl, hb⟩; have n0_ := Aside0.mk (below_step (by repeat (first | (with_reducible first | exact HB.out | apply below_alloc | apply pw_below_drewN | apply below_drew1) | exact HB.out)) hb); clear HB; have HB := n0_; clear n0_; (try clear hb); (try clear hb2); (try clear hk); (try clear hi)) | (go_at_call 63; (with_reducible refine (impl_rounded.calls (wrap64 (144 * (wrap64 ((rd l1 2) - t127)))) 256 t128 _ A13.out).mono ?_); rintro e w' ⟨rfl, ⟨nd, rfl⟩⟩; (try first | exact ⟨rfl, _, World.drewN_drewN _ _ _⟩ | exact ⟨rfl, _, Eq.trans (World.drewN_drewN _ _ _) (congrArg (World.drewN _) (Nat.add_assoc _ _ _))⟩)) | (go_at_call 62; (with_reducible refine (impl_brought.calls a0 (wrap64 ((ji10) + t128)) t129 _ A14.out).mono ?_); rintro e w18 ⟨rfl, hb⟩; have n0_ := Aside0.mk (below_step (by repeat (first | (with_reducible first | exact HB.out | apply below_alloc | apply pw_below_drewN | apply below_drew1) | exact HB.out)) hb); clear HB; have HB := n0_; clear n0_; (try clear hb); (try clear hb2); (try clear hk); (try clear hi)) | (go_at_call 63; (with_reducible refine (impl_rounded.calls (wrap64 (183 * (wrap64 ((rd l1 0) - t127)))) 256 t130 _ A15.out).mono ?_); rintro e w' ⟨rfl, ⟨nd, rfl⟩⟩; (try first | exact ⟨rfl, _, World.drewN_drewN _ _ _⟩ | exact ⟨rfl, _, Eq.trans (World.drewN_drewN _ _ _) (congrArg (World.drewN _) (Nat.add_assoc _ _ _))⟩)) | (go_at_call 62; (with_reducible refine (impl_brought.calls a0 (wrap64 ((ji10) + t130)) t131 _ A16.out).mono ?_); rintro e w19 ⟨rfl, hb⟩; have n0_ := Aside0.mk (below_step (by repeat (first | (with_reducible first | exact HB.out | apply below_alloc | apply pw_below_drewN | apply below_drew1) | exact HB.out)) hb); clear HB; have HB := n0_; clear n0_; (try clear hb); (try clear hb2); (try clear hk); (try clear hi)) | ((with_reducible refine gate_dst (N := 60) rfl ?_); refine Kd.R_lit (Kd.int .i64) _ 3 ?hg (N := 60) ?hd (xs := ([t127, t129, t131] : List Int)) (inner := [.int .i64 t127, .int .i64 t129, .int .i64 t131]) (ok := fun _ => True) (okp := fun _ => True) ?hr ?hp (fun _ hk => hk) trivial (Below.refl _ _) (Nat.le_refl _) (by simp) ?_; (case hd => rfl); (case hg => rfl); (case hr => first | (go_simp; done) | (go_simp; rfl)); (case hp => exact (Reps.one (show Kd.M (Kd.int .i64) _ _ _ t127 [.int .i64 t127] from rfl) (Reps.one (show Kd.M (Kd.int .i64) _ _ _ t129 [.int .i64 t129] from rfl) (Reps.one (show Kd.M (Kd.int .i64) _ _ _ t131 [.int .i64 t131] from rfl) (Reps.none _ _))))); intro v133 w20 ho21 hb hg_ hnew_; clear hg_ hnew_; (first | rw [← Ny132.out] at ho21 | (simp only [Int.reduceToNat] at ho21; rw [← Ny132.out] at ho21)); have n0_ := Aside0.mk (Kd.R_lower ho21 (below_size (by repeat (first | (with_reducible first | exact HB.out | apply below_alloc | apply pw_below_drewN | apply below_drew1) | exact HB.out)))); have n1_ := Aside0.mk (below_step (by repeat (first | (with_reducible first | exact HB.out | apply below_alloc | apply pw_below_drewN | apply below_drew1) | exact HB.out)) hb); clear HB; have HO134 := n0_; have HB := n1_; clear n0_ n1_; clear hb ho21))
            repeat (go_quiet (first | (go_at_call 61; (with_reducible refine (impl_isPixel.calls k a0 _ _ l1 true _ ?side1 ?side2 A3.out).mono ?_); (case side1 => repeat (first | exact HR1.out | (with_reducible refine Kd.C_alloc ?_ _) | (with_reducible refine Kd.C_drewN ?_ _) | (with_reducible refine Kd.C_drew ?_))); (case side2 => exact HC1.out); rintro e w' ⟨rfl, ⟨nd, rfl⟩⟩; (try first | exact ⟨rfl, _, World.drewN_drewN _ _ _⟩ | exact ⟨rfl, _, Eq.trans (World.drewN_drewN _ _ _) (congrArg (World.drewN _) (Nat.add_assoc _ _ _))⟩); have p123 : 0 ≤ (0 : Int) := (by omega); have q123 : 0 < (l1.length : Int) := of_decide_eq_true (by first | (with_reducible assumption) | assumption); obtain ⟨ad123, e123, hx123_0⟩ := Kd.at_int HR1.out 0 p123 q123; cases e123; have qi123 : (0 < l1.length) = True := eq_true (by omega); (try rw [show ((0 : Int)).toNat = 0 from rfl] at hx123_0); (try rw [Addr.add_zero'] at hx123_0); replace p123 := eq_true p123; replace q123 := eq_true q123; have p124 : 0 ≤ (1 : Int) := (by omega); have q124 : 1 < (l1.length : Int) := of_decide_eq_true (by first | (with_reducible assumption) | assumption); obtain ⟨ad124, e124, hx124_0⟩ := Kd.at_int HR1.out 1 p124 q124; obtain rfl : ad123 = ad124 := (by injection e124); (try simp only [show (1 : Int).toNat = 1 from rfl, Nat.reduceMul, Nat.reduceEqDiff, Go.Addr.add, ↓reduceIte] at hx124_0); have qi124 : (1 < l1.length) = True := eq_true (by omega); (try rw [show ((1 : Int)).toNat = 1 from rfl] at hx124_0); replace p124 := eq_true p124; replace q124 := eq_true q124; have p125 : 0 ≤ (2 : Int) := (by omega); have q125 : 2 < (l1.length : Int) := of_decide_eq_true (by first | (with_reducible assumption) | assumption); obtain ⟨ad125, e125, hx125_0⟩ := Kd.at_int HR1.out 2 p125 q125; obtain rfl : ad123 = ad125 := (by injection e125); (try simp only [show (2 : Int).toNat = 2 from rfl, Nat.reduceMul, Nat.reduceEqDiff, Go.Addr.add, ↓reduceIte] at hx125_0); have qi125 : (2 < l1.length) = True := eq_true (by omega); (try rw [show ((2 : Int)).toNat = 2 from rfl] at hx125_0); replace p125 := eq_true p125; replace q125 := eq_true q125) | (go_at_call 63; (with_reducible refine (impl_rounded.calls (wrap64 ((wrap64 ((wrap64 (77 * (rd l1 0))) + (wrap64 (150 * (rd l1 1))))) + (wrap64 (29 * (rd l1 2))))) 256 t126 _ A11.out).mono ?_); rintro e w' ⟨rfl, ⟨nd, rfl⟩⟩; (try first | exact ⟨rfl, _, World.drewN_drewN _ _ _⟩ | exact ⟨rfl, _, Eq.trans (World.drewN_drewN _ _ _) (congrArg (World.drewN _) (Nat.add_assoc _ _ _))⟩)) | (go_at_call 62; (with_reducible refine (impl_brought.calls a0 t126 t127 _ A12.out).mono ?_); rintro e w17 ⟨rfl, hb⟩; have n0_ := Aside0.mk (below_step (by repeat (first | (with_reducible first | exact HB.out | apply below_alloc | apply pw_below_drewN | apply below_drew1) | exact HB.out)) hb); clear HB; have HB := n0_; clear n0_; (try clear hb); (try clear hb2); (try clear hk); (try clear hi)) | (go_at_call 63; (with_reducible refine (impl_rounded.calls (wrap64 (144 * (wrap64 ((rd l1 2) - t127)))) 256 t128 _ A13.out).mono ?_); rintro e w' ⟨rfl, ⟨nd, rfl⟩⟩; (try first | exact ⟨rfl, _, World.drewN_drewN _ _ _⟩ | exact ⟨rfl, _, Eq.trans (World.drewN_drewN _ _ _) (congrArg (World.drewN _) (Nat.add_assoc _ _ _))⟩)) | (go_at_call 62; (with_reducible refine (impl_brought.calls a0 (wrap64 ((ji10) + t128)) t129 _ A14.out).mono ?_); rintro e w18 ⟨rfl, hb⟩; have n0_ := Aside0.mk (below_step (by repeat (first | (with_reducible first | exact HB.out | apply below_alloc | apply pw_below_drewN | apply below_drew1) | exact HB.out)) hb); clear HB; have HB := n0_; clear n0_; (try clear hb); (try clear hb2); (try clear hk); (try clear hi)) | (go_at_call 63; (with_reducible refine (impl_rounded.calls (wrap64 (183 * (wrap64 ((rd l1 0) - t127)))) 256 t130 _ A15.out).mono ?_); rintro e w' ⟨rfl, ⟨nd, rfl⟩⟩; (try first | exact ⟨rfl, _, World.drewN_drewN _ _ _⟩ | exact ⟨rfl, _, Eq.trans (World.drewN_drewN _ _ _) (congrArg (World.drewN _) (Nat.add_assoc _ _ _))⟩)) | (go_at_call 62; (with_reducible refine (impl_brought.calls a0 (wrap64 ((ji10) + t130)) t131 _ A16.out).mono ?_); rintro e w19 ⟨rfl, hb⟩; have n0_ := Aside0.mk (below_step (by repeat (first | (with_reducible first | exact HB.out | apply below_alloc | apply pw_below_drewN | apply below_drew1) | exact HB.out)) hb); clear HB; have HB := n0_; clear n0_; (try clear hb); (try clear hb2); (try clear hk); (try clear hi)) | ((with_reducible refine gate_dst (N := 60) rfl ?_); refine Kd.R_lit (Kd.int .i64) _ 3 ?hg (N := 60) ?hd (xs := ([t127, t129, t131] : List Int)) (inner := [.int .i64 t127, .int .i64 t129, .int .i64 t131]) (ok := fun _ => True) (okp := fun _ => True) ?hr ?hp (fun _ hk => hk) trivial (Below.refl _ _) (Nat.le_refl _) (by simp) ?_; (case hd => rfl); (case hg => rfl); (case hr => first | (go_simp; done) | (go_simp; rfl)); (case hp => exact (Reps.one (show Kd.M (Kd.int .i64) _ _ _ t127 [.int .i64 t127] from rfl) (Reps.one (show Kd.M (Kd.int .i64) _ _ _ t129 [.int .i64 t129] from rfl) (Reps.one (show Kd.M (Kd.int .i64) _ _ _ t131 [.int .i64 t131] from rfl) (Reps.none _ _))))); intro v133 w20 ho21 hb hg_ hnew_; clear hg_ hnew_; (first | rw [← Ny132.out] at ho21 | (simp only [Int.reduceToNat] at ho21; rw [← Ny132.out] at ho21)); have n0_ := Aside0.mk (Kd.R_lower ho21 (below_size (by repeat (first | (with_reducible first | exact HB.out | apply below_alloc | apply pw_below_drewN | apply below_drew1) | exact HB.out)))); have n1_ := Aside0.mk (below_step (by repeat (first | (with_reducible first | exact HB.out | apply below_alloc | apply pw_below_drewN | apply below_drew1) | exact HB.out)) hb); clear HB; have HO134 := n0_; have HB := n1_; clear n0_ n1_; clear hb ho21)); try go_wp2_with (first | (go_at_call 61; (with_reducible refine (impl_isPixel.calls k a0 _ _ l1 true _ ?side1 ?side2 A3.out).mono ?_); (case side1 => repeat (first | exact HR1.out | (with_reducible refine Kd.C_alloc ?_ _) | (with_reducible refine Kd.C_drewN ?_ _) | (with_reducible refine Kd.C_drew ?_))); (case side2 => exact HC1.out); rintro e w' ⟨rfl, ⟨nd, rfl⟩⟩; (try first | exact ⟨rfl, _, World.drewN_drewN _ _ _⟩ | exact ⟨rfl, _, Eq.trans (World.drewN_drewN _ _ _) (congrArg (World.drewN _) (Nat.add_assoc _ _ _))⟩); have p123 : 0 ≤ (0 : Int) := (by omega); have q123 : 0 < (l1.length : Int) := of_decide_eq_true (by first | (with_reducible assumption) | assumption); obtain ⟨ad123, e123, hx123_0⟩ := Kd.at_int HR1.out 0 p123 q123; cases e123; have qi123 : (0 < l1.length) = True := eq_true (by omega); (try rw [show ((0 : Int)).toNat = 0 from rfl] at hx123_0); (try rw [Addr.add_zero'] at hx123_0); replace p123 := eq_true p123; replace q123 := eq_true q123; have p124 : 0 ≤ (1 : Int) := (by omega); have q124 : 1 < (l1.length : Int) := of_decide_eq_true (by first | (with_reducible assumption) | assumption); obtain ⟨ad124, e124, hx124_0⟩ := Kd.at_int HR1.out 1 p124 q124; obtain rfl : ad123 = ad124 := (by injection e124); (try simp only [show (1 : Int).toNat = 1 from rfl, Nat.reduceMul, Nat.reduceEqDiff, Go.Addr.add, ↓reduceIte] at hx124_0); have qi124 : (1 < l1.length) = True := eq_true (by omega); (try rw [show ((1 : Int)).toNat = 1 from rfl] at hx124_0); replace p124 := eq_true p124; replace q124 := eq_true q124; have p125 : 0 ≤ (2 : Int) := (by omega); have q125 : 2 < (l1.length : Int) := of_decide_eq_true (by first | (with_reducible assumption) | assumption); obtain ⟨ad125, e125, hx125_0⟩ := Kd.at_int HR1.out 2 p125 q125; obtain rfl : ad123 = ad125 := (by injection e125); (try simp only [show (2 : Int).toNat = 2 from rfl, Nat.reduceMul, Nat.reduceEqDiff, Go.Addr.add, ↓reduceIte] at hx125_0); have qi125 : (2 < l1.length) = True := eq_true (by omega); (try rw [show ((2 : Int)).toNat = 2 from rfl] at hx125_0); replace p125 := eq_true p125; replace q125 := eq_true q125) | (go_at_call 63; (with_reducible refine (impl_rounded.calls (wrap64 ((wrap64 ((wrap64 (77 * (rd l1 0))) + (wrap64 (150 * (rd l1 1))))) + (wrap64 (29 * (rd l1 2))))) 256 t126 _ A11.out).mono ?_); rintro e w' ⟨rfl, ⟨nd, rfl⟩⟩; (try first | exact ⟨rfl, _, World.drewN_drewN _ _ _⟩ | exact ⟨rfl, _, Eq.trans (World.drewN_drewN _ _ _) (congrArg (World.drewN _) (Nat.add_assoc _ _ _))⟩)) | (go_at_call 62; (with_reducible refine (impl_brought.calls a0 t126 t127 _ A12.out).mono ?_); rintro e w17 ⟨rfl, hb⟩; have n0_ := Aside0.mk (below_step (by repeat (first | (with_reducible first | exact HB.out | apply below_alloc | apply pw_below_drewN | apply below_drew1) | exact HB.out)) hb); clear HB; have HB := n0_; clear n0_; (try clear hb); (try clear hb2); (try clear hk); (try clear hi)) | (go_at_call 63; (with_reducible refine (impl_rounded.calls (wrap64 (144 * (wrap64 ((rd l1 2) - t127)))) 256 t128 _ A13.out).mono ?_); rintro e w' ⟨rfl, ⟨nd, rfl⟩⟩; (try first | exact ⟨rfl, _, World.drewN_drewN _ _ _⟩ | exact ⟨rfl, _, Eq.trans (World.drewN_drewN _ _ _) (congrArg (World.drewN _) (Nat.add_assoc _ _ _))⟩)) | (go_at_call 62; (with_reducible refine (impl_brought.calls a0 (wrap64 ((ji10) + t128)) t129 _ A14.out).mono ?_); rintro e w18 ⟨rfl, hb⟩; have n0_ := Aside0.mk (below_step (by repeat (first | (with_reducible first | exact HB.out | apply below_alloc | apply pw_below_drewN | apply below_drew1) | exact HB.out)) hb); clear HB; have HB := n0_; clear n0_; (try clear hb); (try clear hb2); (try clear hk); (try clear hi)) | (go_at_call 63; (with_reducible refine (impl_rounded.calls (wrap64 (183 * (wrap64 ((rd l1 0) - t127)))) 256 t130 _ A15.out).mono ?_); rintro e w' ⟨rfl, ⟨nd, rfl⟩⟩; (try first | exact ⟨rfl, _, World.drewN_drewN _ _ _⟩ | exact ⟨rfl, _, Eq.trans (World.drewN_drewN _ _ _) (congrArg (World.drewN _) (Nat.add_assoc _ _ _))⟩)) | (go_at_call 62; (with_reducible refine (impl_brought.calls a0 (wrap64 ((ji10) + t130)) t131 _ A16.out).mono ?_); rintro e w19 ⟨rfl, hb⟩; have n0_ := Aside0.mk (below_step (by repeat (first | (with_reducible first | exact HB.out | apply below_alloc | apply pw_below_drewN | apply below_drew1) | exact HB.out)) hb); clear HB; have HB := n0_; clear n0_; (try clear hb); (try clear hb2); (try clear hk); (try clear hi)) | ((with_reducible refine gate_dst (N := 60) rfl ?_); refine Kd.R_lit (Kd.int .i64) _ 3 ?hg (N := 60) ?hd (xs := ([t127, t129, t131] : List Int)) (inner := [.int .i64 t127, .int .i64 t129, .int .i64 t131]) (ok := fun _ => True) (okp := fun _ => True) ?hr ?hp (fun _ hk => hk) trivial (Below.refl _ _) (Nat.le_refl _) (by simp) ?_; (case hd => rfl); (case hg => rfl); (case hr => first | (go_simp; done) | (go_simp; rfl)); (case hp => exact (Reps.one (show Kd.M (Kd.int .i64) _ _ _ t127 [.int .i64 t127] from rfl) (Reps.one (show Kd.M (Kd.int .i64) _ _ _ t129 [.int .i64 t129] from rfl) (Reps.one (show Kd.M (Kd.int .i64) _ _ _ t131 [.int .i64 t131] from rfl) (Reps.none _ _))))); intro v133 w20 ho21 hb hg_ hnew_; clear hg_ hnew_; (first | rw [← Ny132.out] at ho21 | (simp only [Int.reduceToNat] at ho21; rw [← Ny132.out] at ho21)); have n0_ := Aside0.mk (Kd.R_lower ho21 (below_size (by repeat (first | (with_reducible first | exact HB.out | apply below_alloc | apply pw_below_drewN | apply below_drew1) | exact HB.out)))); have n1_ := Aside0.mk (below_step (by repeat (first | (with_reducible first | exact HB.out | apply below_alloc | apply pw_below_drewN | apply below_drew1) | exact HB.out)) hb); clear HB; have HO134 := n0_; have HB := n1_; clear n0_ n1_; clear hb ho21)))
            go_ret
            exact ⟨_, by first | rfl | (simp [errW_none, errW_some] <;> rfl) | (simp only [← hji8, ← hji10]; first | rfl | (simp [errW_none, errW_some] <;> rfl)) | (simp [*, errW_none, errW_some] <;> rfl), by (with_reducible repeat (first | apply Kd.R_alloc | apply Kd.R_drewN | apply Kd.R_drew)); exact HO134.out, by repeat (first | (with_reducible first | exact HB.out | apply below_alloc | apply pw_below_drewN | apply below_drew1) | exact HB.out)⟩
          · rw [if_neg c9] at H
            exact absurd H (by simp)
        · rw [if_neg c7] at H
          exact absurd H (by simp)
      · rw [if_neg c6] at H
        exact absurd H (by simp)
    · rw [if_neg c5] at H
      exact absurd H (by simp)
  · replace c4 := Bool.eq_false_iff.mpr c4
    subst c4
    have H1 : (some ([] : List Int)) = some r := by rw [if_neg (show ¬ (false = true) by decide)] at H; exact H
    clear H
    have H := H1
    clear H1
    obtain rfl := Option.some.inj H
    go_enter Try.func18, Try.ntmps18
    go_wp2_with (first | (go_at_call 61; (with_reducible refine (impl_isPixel.calls k a0 _ _ l1 false _ ?side1 ?side2 A3.out).mono ?_); (case side1 => repeat (first | exact HR1.out | (with_reducible refine Kd.C_alloc ?_ _) | (with_reducible refine Kd.C_drewN ?_ _) | (with_reducible refine Kd.C_drew ?_))); (case side2 => exact HC1.out); rintro e w' ⟨rfl, ⟨nd, rfl⟩⟩; (try first | exact ⟨rfl, _, World.drewN_drewN _ _ _⟩ | exact ⟨rfl, _, Eq.trans (World.drewN_drewN _ _ _) (congrArg (World.drewN _) (Nat.add_assoc _ _ _))⟩)))
    repeat (go_quiet (first | (go_at_call 61; (with_reducible refine (impl_isPixel.calls k a0 _ _ l1 false _ ?side1 ?side2 A3.out).mono ?_); (case side1 => repeat (first | exact HR1.out | (with_reducible refine Kd.C_alloc ?_ _) | (with_reducible refine Kd.C_drewN ?_ _) | (with_reducible refine Kd.C_drew ?_))); (case side2 => exact HC1.out); rintro e w' ⟨rfl, ⟨nd, rfl⟩⟩; (try first | exact ⟨rfl, _, World.drewN_drewN _ _ _⟩ | exact ⟨rfl, _, Eq.trans (World.drewN_drewN _ _ _) (congrArg (World.drewN _) (Nat.add_assoc _ _ _))⟩))); try go_wp2_with (first | (go_at_call 61; (with_reducible refine (impl_isPixel.calls k a0 _ _ l1 false _ ?side1 ?side2 A3.out).mono ?_); (case side1 => repeat (first | exact HR1.out | (with_reducible refine Kd.C_alloc ?_ _) | (with_reducible refine Kd.C_drewN ?_ _) | (with_reducible refine Kd.C_drew ?_))); (case side2 => exact HC1.out); rintro e w' ⟨rfl, ⟨nd, rfl⟩⟩; (try first | exact ⟨rfl, _, World.drewN_drewN _ _ _⟩ | exact ⟨rfl, _, Eq.trans (World.drewN_drewN _ _ _) (congrArg (World.drewN _) (Nat.add_assoc _ _ _))⟩))))
    go_ret
    exact ⟨_, by first | rfl | (simp [errW_none, errW_some] <;> rfl) | (simp [*, errW_none, errW_some] <;> rfl), by first | exact Kd.R_nil _ _ _ _ _ | exact Kd.N_nil _ _ _ _ _ | exact Kd.V_nil _ _ _ _ _ | exact Kd.Q_nil _ _ _ _ _ | exact Kd.S_nil _ _ _ _ _, by repeat (first | (with_reducible first | exact HB.out | apply below_alloc | apply pw_below_drewN | apply below_drew1) | exact HB.out)⟩

/-- Brightness and colour of a pixel. -/
def toY (l : List Int) : Int := rnd (77 * rd l 0 + 150 * rd l 1 + 29 * rd l 2) 256
def toYccL (p : Int) (l : List Int) : List Int := [toY l, clipI (halfP p + rnd (144 * (rd l 2 - toY l)) 256) 0 (topP p), clipI (halfP p + rnd (183 * (rd l 0 - toY l)) 256) 0 (topP p)]
def toYccI (p : Int) (l : List Int) : List Int := if pixB p l = true then toYccL p l else []
theorem toY_range {p : Int} {l : List Int} (h : pixB p l = true) : 0 ≤ toY l ∧ toY l ≤ topP p := by
  obtain ⟨_, _, hv⟩ := pixB_vals h
  have h0 := hv 0 (by omega) (by omega)
  have h1 := hv 1 (by omega) (by omega)
  have h2 := hv 2 (by omega) (by omega)
  unfold toY rnd
  omega
theorem clip_in {x lo hi : Int} (h0 : lo ≤ x) (h1 : x ≤ hi) : clipI x lo hi = x := by
  unfold clipI
  rw [if_neg (by omega), if_neg (by omega)]
theorem rnd_range {n : Int} (b : Int) (h0 : -b ≤ n) (h1 : n ≤ b) (hb : 0 ≤ b) : -b - 1 ≤ rnd n 256 ∧ rnd n 256 ≤ b + 1 := by
  unfold rnd
  omega
theorem iToYcc_f (p : Int) (l : List Int) (hl : l.length ≤ maxLen) : Ev (fun k => impl_ToYcc.f k p l) (toYccI p l) := by
  unfold impl_ToYcc.f
  refine evBind (isPixel_f p l hl) (evIf (fun h => ?_) (fun h => ?_))
  · obtain ⟨hp, h3, hv⟩ := pixB_vals h
    have h0 := hv 0 (by omega) (by omega)
    have h1 := hv 1 (by omega) (by omega)
    have h2 := hv 2 (by omega) (by omega)
    have hy := toY_range h
    have ht := topP_pos p
    have hh := halfP_pos p
    have ru := rnd_range (n := 144 * (rd l 2 - toY l)) 1000000 (by omega) (by omega) (by omega)
    have rv := rnd_range (n := 183 * (rd l 0 - toY l)) 1000000 (by omega) (by omega) (by omega)
    refine evPos (by omega) (evPos (by omega) (evPos (by omega) (evPos (by rw [w64 (by omega) (by omega)]; omega) ?_)))
    rw [w64 (x := 77 * rd l 0) (by omega) (by omega), w64 (x := 150 * rd l 1) (by omega) (by omega), w64 (x := 29 * rd l 2) (by omega) (by omega), w64 (x := 77 * rd l 0 + 150 * rd l 1) (by omega) (by omega), w64 (x := 77 * rd l 0 + 150 * rd l 1 + 29 * rd l 2) (by omega) (by omega)]
    refine evBind (evConst (rounded_f (by omega) (by omega) (by omega) (by omega))) (evBind (evConst (brought_f hp)) ?_)
    rw [show clipI (rnd (77 * rd l 0 + 150 * rd l 1 + 29 * rd l 2) 256) 0 (topP p) = toY l from clip_in hy.1 hy.2]
    rw [w64 (x := rd l 2 - toY l) (by omega) (by omega), w64 (x := 144 * (rd l 2 - toY l)) (by omega) (by omega), w64 (x := rd l 0 - toY l) (by omega) (by omega), w64 (x := 183 * (rd l 0 - toY l)) (by omega) (by omega), shl_half hp]
    refine evBind (evConst (rounded_f (by omega) (by omega) (by omega) (by omega))) ?_
    rw [w64 (x := halfP p + rnd (144 * (rd l 2 - toY l)) 256) (by omega) (by omega)]
    refine evBind (evConst (brought_f hp)) (evBind (evConst (rounded_f (by omega) (by omega) (by omega) (by omega))) ?_)
    rw [w64 (x := halfP p + rnd (183 * (rd l 0 - toY l)) 256) (by omega) (by omega)]
    refine evBind (evConst (brought_f hp)) ?_
    unfold toYccI toYccL
    rw [if_pos h]
    exact Ev.now _
  · unfold toYccI
    rw [if_neg h]
    exact Ev.now _

/-! ### spec_ToYcc: function 17 (by hand) -/
def spec_ToYcc.f (p : Int) (l : List Int) : Option (List Int) := some (toYccI p l)
set_option maxHeartbeats 8000000 in
set_option maxRecDepth 100000 in
theorem spec_ToYcc.calls (a0 : Int) (A1 : Option Addr) (c1 : Nat) (l1 : List Int) (r : List Int) (w : World) (hr1 : Kd.C (Kd.int .i64) w A1 l1.length l1) (hc1 : l1.length ≤ c1) (h : spec_ToYcc.f a0 l1 = some r) :
    Calls Try.prog 17 #[.int .i64 a0, .slice A1 l1.length c1] w fun e w' => ∃ v0_ : Value, e = .returned (v0_) ∧ Kd.R (Kd.int .i64) 3 w' w.heap.size (fun _ => True) v0_ r ∧ Below w.heap.size w w' := by
  obtain rfl := Option.some.inj h
  clear h
  have HR := Aside0.mk hr1
  have HC := Aside0.mk hc1
  have HB := Aside0.mk (Below.refl w.heap.size w)
  clear hr1 hc1
  by_cases hp : pixB a0 l1 = true
  · obtain ⟨hp8, h3, hv⟩ := pixB_vals hp
    have q0 := hv 0 (by omega) (by omega)
    have q1 := hv 1 (by omega) (by omega)
    have q2 := hv 2 (by omega) (by omega)
    have hy := toY_range hp
    have ht := topP_pos a0
    have hh := halfP_pos a0
    obtain ⟨ad, e1, x0, x1, x2⟩ := three_cells HR.out h3
    subst e1
    have HE := Aside0.mk (show toYccI a0 l1 = toYccL a0 l1 from by unfold toYccI; rw [if_pos hp])
    have HP := Aside0.mk hp
    have H8 := Aside0.mk hp8
    have HZ := Aside0.mk (show toY l1 = rnd (77 * rd l1 0 + 150 * rd l1 1 + 29 * rd l1 2) 256 from rfl)
    have HL := Aside0.mk (show toYccL a0 l1 = [clipI (toY l1) 0 (topP a0), clipI (halfP a0 + rnd (144 * (rd l1 2 - toY l1)) 256) 0 (topP a0), clipI (halfP a0 + rnd (183 * (rd l1 0 - toY l1)) 256) 0 (topP a0)] from by unfold toYccL; rw [clip_in hy.1 hy.2])
    rw [HE.out, HL.out]
    clear HE HL hp hp8 hv
    obtain ⟨p0, P0⟩ : ∃ p0, Aside0 (p0 = rd l1 0) := ⟨_, ⟨rfl⟩⟩
    obtain ⟨p1, P1⟩ : ∃ p1, Aside0 (p1 = rd l1 1) := ⟨_, ⟨rfl⟩⟩
    obtain ⟨p2, P2⟩ : ∃ p2, Aside0 (p2 = rd l1 2) := ⟨_, ⟨rfl⟩⟩
    obtain ⟨y, YY⟩ : ∃ y, Aside0 (y = toY l1) := ⟨_, ⟨rfl⟩⟩
    obtain ⟨tp, TP⟩ : ∃ tp, Aside0 (tp = topP a0) := ⟨_, ⟨rfl⟩⟩
    obtain ⟨hf, HF⟩ : ∃ hf, Aside0 (hf = halfP a0) := ⟨_, ⟨rfl⟩⟩
    rw [← P0.out] at q0 x0 HZ ⊢
    rw [← P1.out] at q1 x1 HZ
    rw [← P2.out] at q2 x2 HZ ⊢
    rw [← YY.out] at hy HZ ⊢
    rw [← TP.out] at ht q0 q1 q2 hy ⊢
    rw [← HF.out] at hh ⊢
    have C0 := fun W => (show Calls Try.prog 60 #[.int .i64 (77 * p0 + 150 * p1 + 29 * p2), .int .i64 256] W fun e w' => e = .returned (.int .i64 y) ∧ Drawn0 W w' from by rw [HZ.out]; exact round_calls (by omega) (by omega) (by omega) (by omega) W)
    obtain ⟨u, UU⟩ : ∃ u, Aside0 (u = rnd (144 * (p2 - y)) 256) := ⟨_, ⟨rfl⟩⟩
    obtain ⟨v, VV⟩ : ∃ v, Aside0 (v = rnd (183 * (p0 - y)) 256) := ⟨_, ⟨rfl⟩⟩
    have ru := rnd_range (n := 144 * (p2 - y)) 1000000 (by omega) (by omega) (by omega)
    have rv := rnd_range (n := 183 * (p0 - y)) 1000000 (by omega) (by omega) (by omega)
    have C1 := fun W => (show Calls Try.prog 60 #[.int .i64 (144 * (p2 - y)), .int .i64 256] W fun e w' => e = .returned (.int .i64 u) ∧ Drawn0 W w' from by rw [UU.out]; exact round_calls (by omega) (by omega) (by omega) (by omega) W)
    have C2 := fun W => (show Calls Try.prog 60 #[.int .i64 (183 * (p0 - y)), .int .i64 256] W fun e w' => e = .returned (.int .i64 v) ∧ Drawn0 W w' from by rw [VV.out]; exact round_calls (by omega) (by omega) (by omega) (by omega) W)
    rw [← UU.out, ← VV.out]
    rw [← UU.out] at ru
    rw [← VV.out] at rv
    have K0 := Aside0.mk C0
    have K1 := Aside0.mk C1
    have K2 := Aside0.mk C2
    have g8 : 0 ≤ a0 := by have := H8.out; omega
    have g9 : 1 ≤ a0 := by have := H8.out; omega
    have g7 : a0 ≤ 12 := by have := H8.out; omega
    have n0 : 0 < (l1.length : Int) := by omega
    have n1 : 1 < (l1.length : Int) := by omega
    have n2 : 2 < (l1.length : Int) := by omega
    have i0 : 0 < l1.length := by omega
    have i1 : 1 < l1.length := by omega
    have i2 : 2 < l1.length := by omega
    clear C0 C1 C2 h3
    obtain ⟨ru0, ru1⟩ := ru
    obtain ⟨rv0, rv1⟩ := rv
    obtain ⟨hy0, hy1⟩ := hy
    obtain ⟨q00, q01⟩ := q0
    obtain ⟨q10, q11⟩ := q1
    obtain ⟨q20, q21⟩ := q2
    obtain ⟨ht0, ht1⟩ := ht
    obtain ⟨hh0, hh1⟩ := hh
    go_enter Try.func17, Try.ntmps17
    go_wp2_with (first | (go_at_call 58; (with_reducible refine (boolCall (sPx_calls _ _ _ _ _ HR.out HC.out) HP.out).mono ?_); rintro e w' ⟨rfl, ⟨nd, rfl⟩⟩))
    have s1 : wrap64 (wrap64 (2 ^ a0.toNat) - 1) = tp := by rw [TP.out]; rcases H8.out with rfl | rfl <;> decide +kernel
    have s2 : wrap64 (2 ^ (a0.toNat - 1)) = hf := by rw [HF.out]; rcases H8.out with rfl | rfl <;> decide +kernel
    simp only [s1, s2]
    clear s1 s2 g8 g9 g7
    go_quiet ((go_at_call 60; first | ((with_reducible refine (K0.out _).mono ?_); rintro e w' ⟨rfl, ⟨nd, rfl⟩⟩; first | exact ⟨rfl, _, World.drewN_drewN _ _ _⟩ | exact ⟨rfl, _, Eq.trans (World.drewN_drewN _ _ _) (congrArg (World.drewN _) (Nat.add_assoc _ _ _))⟩) | ((with_reducible refine (K1.out _).mono ?_); rintro e w' ⟨rfl, ⟨nd, rfl⟩⟩; first | exact ⟨rfl, _, World.drewN_drewN _ _ _⟩ | exact ⟨rfl, _, Eq.trans (World.drewN_drewN _ _ _) (congrArg (World.drewN _) (Nat.add_assoc _ _ _))⟩) | ((with_reducible refine (K2.out _).mono ?_); rintro e w' ⟨rfl, ⟨nd, rfl⟩⟩; first | exact ⟨rfl, _, World.drewN_drewN _ _ _⟩ | exact ⟨rfl, _, Eq.trans (World.drewN_drewN _ _ _) (congrArg (World.drewN _) (Nat.add_assoc _ _ _))⟩)))
    go_wp2_with (first | (go_at_call 59; (with_reducible refine (clip_calls _ _ _ _).mono ?_); rintro e w' ⟨rfl, ⟨nd, rfl⟩⟩) | (go_at_call 60; first | ((with_reducible refine (K0.out _).mono ?_); rintro e w' ⟨rfl, ⟨nd, rfl⟩⟩) | ((with_reducible refine (K1.out _).mono ?_); rintro e w' ⟨rfl, ⟨nd, rfl⟩⟩) | ((with_reducible refine (K2.out _).mono ?_); rintro e w' ⟨rfl, ⟨nd, rfl⟩⟩)))
    go_ret
    refine ⟨_, rfl, lit_ints (W := w.drewN _) (pw_below_drewN (Below.refl _ _) _) 3 [clipI y 0 tp, clipI (hf + u) 0 tp, clipI (hf + v) 0 tp] (by simp), ?_⟩
    repeat (first | exact Below.refl _ _ | apply below_alloc | apply pw_below_drewN | apply below_drew1)
  · have HE := Aside0.mk (show toYccI a0 l1 = [] from by unfold toYccI; rw [if_neg hp])
    have HP := Aside0.mk (Bool.eq_false_iff.mpr hp)
    clear hp
    rw [HE.out]
    clear HE
    go_enter Try.func17, Try.ntmps17
    go_wp2_with (first | (go_at_call 58; (with_reducible refine (boolCall (sPx_calls _ _ _ _ _ HR.out HC.out) HP.out).mono ?_); rintro e w' ⟨rfl, ⟨nd, rfl⟩⟩))
    go_ret
    refine ⟨_, rfl, lit_ints (W := w.drewN _) (pw_below_drewN (Below.refl _ _) _) 3 [] (by simp), ?_⟩
    repeat (first | exact Below.refl _ _ | apply below_alloc | apply pw_below_drewN | apply below_drew1)

/-! ### laws_big: function 19 -/
def laws_big.f (l0 : List Int) : Option (Bool) := some (decide ((l0.length : Int) > 1048576))
set_option maxHeartbeats 8000000 in
set_option maxRecDepth 100000 in
theorem laws_big.calls (A0 : Option Addr) (c0 : Nat) (l0 : List Int) (r : Bool) (w : World) (hr0 : Kd.C (Kd.int .u8) w A0 l0.length l0) (hc0 : l0.length ≤ c0) (h : laws_big.f l0 = some r) :
    Calls Try.prog 19 #[.slice A0 l0.length c0] w fun e w' => e = .returned (.bool r) ∧ Drawn0 w w' := by
  have HR0 := Aside0.mk hr0
  have HC0 := Aside0.mk hc0
  clear hr0 hc0
  have H : (some (decide ((l0.length : Int) > 1048576))) = some r := h
  clear h
  obtain rfl := Option.some.inj H
  go_enter Try.func19, Try.ntmps19
  go_wp2
  go_ret
  exact ⟨by first | rfl | (simp; done) | (simp [*]; done), by repeat (first | exact Drawn0.refl _ | apply Drawn0.step)⟩

theorem big_f (l : List Int) : laws_big.f l = some (decide ((l.length : Int) > 1048576)) := rfl

/-- A state of type 114 at block g of W; what its slices lead to came in by w0. -/
def IsS114 (w0 W : World) (g : Nat) (f0 : List Int) (f1 : Int) (f2 : Int) : Prop := ∃ A0 c0, W.heap[g]? = some (.cells #[.slice A0 f0.length c0, .int .i64 f1, .int .i64 f2] 114 (0, 0)) ∧ w0.heap.size ≤ g ∧ Kd.C (Kd.int .u8) w0 A0 f0.length f0
theorem IsS114.grown {w0 W : World} {g : Nat} {f0 : List Int} {f1 : Int} {f2 : Int} {W1 : World} {row : Option Nat} (h : IsS114 w0 W g f0 f1 f2) (hw : W.grownBy W1 row) (hne : some g ≠ row) : IsS114 w0 W1 g f0 f1 f2 := by
  obtain ⟨A0, c0, hb, hg, hr0⟩ := h
  exact ⟨A0, c0, blk_grown hb hw hne, hg, hr0⟩
theorem IsS114.own_neN {w0 W : World} {g : Nat} {f0 : List Int} {f1 : Int} {f2 : Int} {α : Type} {d : Kd α} {e : Nat} {base : Nat} {ok : Nat → Prop} {v : Value} {xs : List α} (h : IsS114 w0 W g f0 f1 f2) (ho : Kd.N d e W base ok v xs) (ht : e ≠ 114) : some g ≠ v.ownBlock := by
  obtain ⟨A0, c0, hb, hg, hr0⟩ := h
  exact Kd.N_ne ho hb ht
theorem IsS114.fresh {w0 W : World} {g : Nat} {f0 : List Int} {f1 : Int} {f2 : Int} (h : IsS114 w0 W g f0 f1 f2) : ∀ k, W.heap.size ≤ k → k ≠ g := by
  obtain ⟨A0, c0, hb, hg, hr0⟩ := h
  exact Kd.freshB hb
theorem IsS114.kept {w0 W : World} {g : Nat} {f0 : List Int} {f1 : Int} {f2 : Int} {W1 : World} {S : Nat → Prop} (h : IsS114 w0 W g f0 f1 f2) (hk : Kept W W1 S) (hne : ¬ S g) : IsS114 w0 W1 g f0 f1 f2 := by
  obtain ⟨A0, c0, hb, hg, hr0⟩ := h
  exact ⟨A0, c0, blk_kept hb hk hne, hg, hr0⟩
theorem IsS114.below {w0 W : World} {g : Nat} {f0 : List Int} {f1 : Int} {f2 : Int} {W1 : World} (h : IsS114 w0 W g f0 f1 f2) (hw : Below W.heap.size W W1) : IsS114 w0 W1 g f0 f1 f2 := h.grown (grown_of_below hw none) (by simp)
theorem IsS114.alloc {w0 W : World} {g : Nat} {f0 : List Int} {f1 : Int} {f2 : Int} (h : IsS114 w0 W g f0 f1 f2) (o : Obj) : IsS114 w0 (W.alloc o) g f0 f1 f2 := h.below (below_alloc (Below.refl _ _) o)
theorem IsS114.drewN {w0 W : World} {g : Nat} {f0 : List Int} {f1 : Int} {f2 : Int} (h : IsS114 w0 W g f0 f1 f2) (m : Nat) : IsS114 w0 (W.drewN m) g f0 f1 f2 := h
theorem IsS114.drew {w0 W : World} {g : Nat} {f0 : List Int} {f1 : Int} {f2 : Int} (h : IsS114 w0 W g f0 f1 f2) : IsS114 w0 W.drew g f0 f1 f2 := h
theorem IsS114.at_ {w0 W : World} {g : Nat} {f0 : List Int} {f1 : Int} {f2 : Int} {w' : World} {m : Nat} (hq : W.drewN m = w') (h : IsS114 w0 W g f0 f1 f2) : IsS114 w0 w' g f0 f1 f2 := by subst hq; exact IsS114.drewN h m
theorem IsS114.apart {w0 W : World} {g : Nat} {f0 : List Int} {f1 : Int} {f2 : Int} {α : Type} {d : Kd α} {e : Nat} {base : Nat} {ok : Nat → Prop} {v : Value} {xs : List α} (h : IsS114 w0 W g f0 f1 f2) (ho : d.R e W base ok v xs) (ht : ∀ q, q ∈ e :: d.E → q ≠ 114) : d.R e W base (fun k => ok k ∧ k ≠ g) v xs := by
  obtain ⟨A0, c0, hb, hg, hr0⟩ := h
  exact Kd.R_types ho hb ht
theorem IsS114.own_ne {w0 W : World} {g : Nat} {f0 : List Int} {f1 : Int} {f2 : Int} {α : Type} {d : Kd α} {e : Nat} {base : Nat} {ok : Nat → Prop} {v : Value} {xs : List α} (h : IsS114 w0 W g f0 f1 f2) (ho : d.R e W base ok v xs) (ht : e ≠ 114) : some g ≠ v.ownBlock := by
  obtain ⟨A0, c0, hb, hg, hr0⟩ := h
  exact Kd.R_ne ho hb ht
theorem IsS114.apartQ {w0 W : World} {g : Nat} {f0 : List Int} {f1 : Int} {f2 : Int} {α : Type} {d : Kd α} {e : Nat} {base : Nat} {ok : Nat → Prop} {v : Value} {xs : List α} (h : IsS114 w0 W g f0 f1 f2) (ho : d.Q e W base ok v xs) (ht : ∀ q, q ∈ e :: d.E → q ≠ 114) : d.Q e W base (fun k => ok k ∧ k ≠ g) v xs := by
  obtain ⟨A0, c0, hb, hg, hr0⟩ := h
  exact Kd.Q_types ho hb ht
theorem IsS114.own_neQ {w0 W : World} {g : Nat} {f0 : List Int} {f1 : Int} {f2 : Int} {α : Type} {d : Kd α} {e : Nat} {base : Nat} {ok : Nat → Prop} {v : Value} {xs : List α} (h : IsS114 w0 W g f0 f1 f2) (ho : d.Q e W base ok v xs) (ht : e ≠ 114) : some g ≠ v.ownBlock := by
  obtain ⟨A0, c0, hb, hg, hr0⟩ := h
  exact Kd.Q_ne ho hb ht
theorem IsS114.apartS {w0 W : World} {g : Nat} {f0 : List Int} {f1 : Int} {f2 : Int} {α : Type} {d : Kd α} {e : Nat} {base : Nat} {ok : Nat → Prop} {v : Value} {xs : List α} (h : IsS114 w0 W g f0 f1 f2) (ho : d.S e W base ok v xs) (ht : ∀ q, q ∈ e :: d.E → q ≠ 114) : d.S e W base (fun k => ok k ∧ k ≠ g) v xs := by
  obtain ⟨A0, c0, hb, hg, hr0⟩ := h
  exact Kd.S_types ho hb ht
theorem IsS114.own_neS {w0 W : World} {g : Nat} {f0 : List Int} {f1 : Int} {f2 : Int} {α : Type} {d : Kd α} {e : Nat} {base : Nat} {ok : Nat → Prop} {v : Value} {xs : List α} (h : IsS114 w0 W g f0 f1 f2) (ho : d.S e W base ok v xs) (ht : e ≠ 114) : some g ≠ v.ownBlock := by
  obtain ⟨A0, c0, hb, hg, hr0⟩ := h
  exact Kd.S_ne ho hb ht
theorem IsS114.lt {w0 W : World} {g : Nat} {f0 : List Int} {f1 : Int} {f2 : Int} (h : IsS114 w0 W g f0 f1 f2) : g < W.heap.size := by
  obtain ⟨A0, c0, hb, hg, hr0⟩ := h
  exact blk_lt hb
theorem IsS114.ge {w0 W : World} {g : Nat} {f0 : List Int} {f1 : Int} {f2 : Int} (h : IsS114 w0 W g f0 f1 f2) : w0.heap.size ≤ g := by
  obtain ⟨A0, c0, hb, hg, hr0⟩ := h
  exact hg
theorem IsS114.ne_blk {w0 W : World} {g : Nat} {f0 : List Int} {f1 : Int} {f2 : Int} {a : Nat} {cs : Array Value} {t : TypeId} {fr : Nat × Nat} (h : IsS114 w0 W g f0 f1 f2) (hb2 : W.heap[a]? = some (.cells cs t fr)) (ht : t ≠ 114) : g ≠ a := by
  obtain ⟨A0, c0, hb, hg, hr0⟩ := h
  rintro rfl
  rw [hb] at hb2
  injection hb2 with hb2
  injection hb2 with _ ht2
  exact ht ht2.symm
theorem IsS114.far {w0 W : World} {g : Nat} {f0 : List Int} {f1 : Int} {f2 : Int} {p : Addr} (h : IsS114 w0 W g f0 f1 f2) (hne : g ≠ p.block) (u : Value) : IsS114 w0 (W.setCell p u) g f0 f1 f2 := by
  obtain ⟨A0, c0, hb, hg, hr0⟩ := h
  exact ⟨A0, c0, blk_far hb hne u, hg, hr0⟩
theorem cellS114_0 {W : World} {g : Nat} {A0 : Option Addr} {c0 : Nat} {f0 : List Int} {f1 : Int} {f2 : Int} (h : W.heap[g]? = some (.cells #[.slice A0 f0.length c0, .int .i64 f1, .int .i64 f2] 114 (0, 0))) : W.cell? ⟨g, 0, none⟩ = some (.slice A0 f0.length c0) := (blk_cell h 0).trans rfl
theorem cellS114_1 {W : World} {g : Nat} {A0 : Option Addr} {c0 : Nat} {f0 : List Int} {f1 : Int} {f2 : Int} (h : W.heap[g]? = some (.cells #[.slice A0 f0.length c0, .int .i64 f1, .int .i64 f2] 114 (0, 0))) : W.cell? ⟨g, 1, none⟩ = some (.int .i64 f1) := (blk_cell h 1).trans rfl
theorem IsS114.set_1 {w0 W : World} {g : Nat} {f0 : List Int} {f1 : Int} {f2 : Int} (h : IsS114 w0 W g f0 f1 f2) (x : Int) : IsS114 w0 (W.setCell ⟨g, 1, none⟩ (.int .i64 x)) g f0 x f2 := by
  obtain ⟨A0, c0, hb, hg, hr0⟩ := h
  exact ⟨A0, c0, by simpa using blk_set hb 1 (.int .i64 x), hg, hr0⟩
theorem cellS114_2 {W : World} {g : Nat} {A0 : Option Addr} {c0 : Nat} {f0 : List Int} {f1 : Int} {f2 : Int} (h : W.heap[g]? = some (.cells #[.slice A0 f0.length c0, .int .i64 f1, .int .i64 f2] 114 (0, 0))) : W.cell? ⟨g, 2, none⟩ = some (.int .i64 f2) := (blk_cell h 2).trans rfl
theorem IsS114.set_2 {w0 W : World} {g : Nat} {f0 : List Int} {f1 : Int} {f2 : Int} (h : IsS114 w0 W g f0 f1 f2) (x : Int) : IsS114 w0 (W.setCell ⟨g, 2, none⟩ (.int .i64 x)) g f0 f1 x := by
  obtain ⟨A0, c0, hb, hg, hr0⟩ := h
  exact ⟨A0, c0, by simpa using blk_set hb 2 (.int .i64 x), hg, hr0⟩
theorem IsS114.new (w0 W : World) (A0 : Option Addr) (c0 : Nat) (f0 : List Int) (f1 : Int) (f2 : Int) (hB : Below w0.heap.size w0 W) (hr0 : Kd.C (Kd.int .u8) w0 A0 f0.length f0) : IsS114 w0 (W.alloc (.cells #[.slice A0 f0.length c0, .int .i64 f1, .int .i64 f2] 114)) W.heap.size f0 f1 f2 := ⟨A0, c0, by simpa using heap_alloc_new W _, hB.size, hr0⟩

/-! ### spec_l01Open: function 64 -/
def spec_l01Open.f (l0 : List Int) : Option (List Int × Int × Int) := some (l0, 0, 13 + ((l0.length : Int) % 1000))
set_option maxHeartbeats 8000000 in
set_option maxRecDepth 100000 in
theorem spec_l01Open.calls (A0 : Option Addr) (c0 : Nat) (l0 : List Int) (r1 : List Int) (r2 : Int) (r3 : Int) (w0 w : World) (hB : Below w0.heap.size w0 w) (hr0 : Kd.C (Kd.int .u8) w0 A0 l0.length l0) (hc0 : l0.length ≤ c0) (h : spec_l01Open.f l0 = some (r1, r2, r3)) :
    Calls Try.prog 64 #[.slice A0 l0.length c0] w fun e w' => ∃ g_ : Nat, e = .returned (.pointer (some ⟨g_, 0, none⟩)) ∧ IsS114 w0 w' g_ r1 r2 r3 ∧ Below w0.heap.size w0 w' ∧ Below w.heap.size w w' := by
  have hu114 := Try.underlying114
  have HR0 := Aside0.mk hr0
  have HC0 := Aside0.mk hc0
  clear hr0 hc0
  have HBW := Aside0.mk (Below.refl w.heap.size w)
  have HW0 := Aside0.mk hB.size
  have HB := Aside0.mk hB
  clear hB
  have H : (some (l0, 0, 13 + ((l0.length : Int) % 1000))) = some (r1, r2, r3) := h
  clear h
  simp only [Option.some.injEq, Prod.mk.injEq] at H
  obtain ⟨rfl, rfl, rfl⟩ := H
  go_enter Try.func64, Try.ntmps64
  go_wp2_with (first | ((with_reducible refine gate_dst (N := 9) rfl ?_); refine box_event ?hg (N := 9) ?hd (cs := #[.slice A0 l0.length c0, .int .i64 0, .int .i64 (13 + ((l0.length : Int) % 1000))]) (t := 114) ?hr ?_; (case hd => rfl); (case hg => rfl); (case hr => first | (go_simp; done) | (go_simp; rfl)); intro gb135 hg w2 hbox hb; have n0_ := Aside0.mk (below_step HBW.out hb); have n1_ := Aside0.mk (below_step (by repeat (first | (with_reducible first | exact HB.out | apply below_alloc | apply pw_below_drewN | apply below_drew1) | exact HB.out)) hb); have n2_ := Aside0.mk (hbox); have n3_ := Aside0.mk ((by rw [hg]; exact (below_size (by repeat (first | (with_reducible first | exact HBW.out | apply below_alloc | apply pw_below_drewN | apply below_drew1) | exact HBW.out))) : w.heap.size ≤ gb135)); have n4_ := Aside0.mk ((Nat.le_trans HW0.out (by rw [hg]; exact (below_size (by repeat (first | (with_reducible first | exact HBW.out | apply below_alloc | apply pw_below_drewN | apply below_drew1) | exact HBW.out))) : w.heap.size ≤ gb135) : w0.heap.size ≤ gb135)); clear HBW; clear HB; have HBW := n0_; have HB := n1_; have BK135 := n2_; have GW135 := n3_; have GE135 := n4_; clear n0_ n1_ n2_ n3_ n4_; clear hb hbox hg))
  go_ret
  exact ⟨_, rfl, (show IsS114 w0 _ gb135 l0 0 (13 + ((l0.length : Int) % 1000)) from ⟨_, _, by (with_reducible repeat (first | refine blk_drewN ?_ _ | refine blk_drew ?_ | refine blk_alloc ?_ _)); exact BK135.out, GE135.out, HR0.out⟩), by repeat (first | (with_reducible first | exact HB.out | apply below_alloc | apply pw_below_drewN | apply below_drew1 | refine below_set ?_ GE135.out) | exact HB.out), by repeat (first | (with_reducible first | exact HBW.out | apply below_alloc | apply pw_below_drewN | apply below_drew1 | refine below_set ?_ GW135.out) | exact HBW.out)⟩

theorem open_f (code : List Int) (hc : CodeOk code) : EvP (fun _ => spec_l01Open.f code) (fun r => r.1 = code ∧ CurOk 0 r.2.1 r.2.2) := by
  unfold spec_l01Open.f
  exact evpNow rfl ⟨rfl, ⟨by simp, by simp, by simp only []; omega, by simp only []; omega⟩⟩

end Go.Proofs.Ytimappilioaagaa.CL
