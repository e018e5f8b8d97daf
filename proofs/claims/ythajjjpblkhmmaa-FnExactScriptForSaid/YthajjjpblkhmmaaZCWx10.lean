/- Functions that a law of this seat reaches: written by a program of this session (wip/xprint.py), and by hand. -/
import Derived.Test.YthajjjpblkhmmaaZCWx0
import Derived.Test.YthajjjpblkhmmaaZCWx5
import Derived.Test.YthajjjpblkhmmaaZCWx6
import Derived.Test.YthajjjpblkhmmaaZCWx7
import Derived.Test.YthajjjpblkhmmaaZCWx8
import Derived.Test.YthajjjpblkhmmaaZCWx9
namespace Go.Proofs.Ythajjjpblkhmmaa.CW
open Go.RowKit Go.Proofs.Ythajjjpblkhmmaa.B Go.Proofs.YthajjjpblkhmmaaW.PrintWords Go.Proofs.YthajjjpblkhmmaaW.PrintLast Go.Proofs.YthajjjpblkhmmaaW.PrintMore
attribute [local go_sem] max2_int min2_int max_two min_two max_three min_three max_four min_four   -- for this text's walks alone
set_option linter.unusedVariables false
set_option linter.unusedSimpArgs false

/-! ### laws_heldScanS: function 53 -/
def laws_heldScanS.l0 : Nat → List (S28) → Int → Int → Option (Int)
  | 0, _, _, _ => none
  | k + 1, x0, x1, x5 => if x5 < (x0.length : Int) then (if 0 ≤ x5 then ((laws_heldIntS.f k ((rd_T28 x0 x5).f0) x1).bind fun t246 => (if t246 < 0 then (some (-1)) else (if ((rd_T28 x0 x5).f1) = t246 then (if ((rd_T28 x0 x5).f2) = (wrap64 (t246 + 1)) then (if ((rd_T28 x0 x5).f3) = (wrap64 ((wrap64 (t246 + 1)) + 1)) then (if ((rd_T28 x0 x5).f4) = (wrap64 ((wrap64 ((wrap64 (t246 + 1)) + 1)) + 1)) then (laws_heldScanS.l0 k x0 (wrap64 ((wrap64 ((wrap64 ((wrap64 (t246 + 1)) + 1)) + 1)) + 1)) (wrap64 (x5 + 1))) else (some (-1))) else (some (-1))) else (some (-1))) else (some (-1))))) else (none)) else (some x1)
def laws_heldScanS.f (k : Nat) (l0 : List (S28)) (a1 : Int) : Option (Int) := laws_heldScanS.l0 k l0 a1 0
theorem laws_heldScanS.mono_l : ∀ k, (∀ y0 y1 y2, LeO (laws_heldScanS.l0 k y0 y1 y2) (laws_heldScanS.l0 (k + 1) y0 y1 y2))
  | 0 => fun _ _ _ r h => by simp [laws_heldScanS.l0] at h
  | k + 1 => by
    have ih0 := laws_heldScanS.mono_l k
    · intro y0 y1 y2
      unfold laws_heldScanS.l0
      repeat' first
      | (with_reducible exact ih0 _ _ _)
      | (with_reducible exact laws_heldIntS.mono _ _ _)
      | (with_reducible exact LeO.refl _)
      | (with_reducible exact LeO.none _)
      | (with_reducible refine LeO.ite ?_ ?_)
      | (with_reducible refine LeO.bind ?_ (fun _ => ?_))
      | exact ih0 _ _ _
      | exact laws_heldIntS.mono _ _ _
      | exact LeO.none _
      | refine LeO.ite ?_ ?_
      | refine LeO.bind ?_ (fun _ => ?_)
theorem laws_heldScanS.mono : ∀ a0 a1 k, LeO (laws_heldScanS.f k a0 a1) (laws_heldScanS.f (k + 1) a0 a1) := by
  intro a0 a1 k
  have ih0 := laws_heldScanS.mono_l k
  unfold laws_heldScanS.f
  repeat' first
      | (with_reducible exact ih0 _ _ _)
      | (with_reducible exact laws_heldIntS.mono _ _ _)
      | (with_reducible exact LeO.refl _)
      | (with_reducible exact LeO.none _)
      | (with_reducible refine LeO.ite ?_ ?_)
      | (with_reducible refine LeO.bind ?_ (fun _ => ?_))
      | exact ih0 _ _ _
      | exact laws_heldIntS.mono _ _ _
      | exact LeO.none _
      | refine LeO.ite ?_ ?_
      | refine LeO.bind ?_ (fun _ => ?_)
set_option maxHeartbeats 8000000 in
set_option maxRecDepth 100000 in
theorem laws_heldScanS.calls (k : Nat) (A0 : Option Addr) (c0 : Nat) (l0 : List (S28)) (a1 : Int) (r : Int) (w : World) (hr0 : Kd.C k28 w A0 l0.length l0) (hc0 : l0.length ≤ c0) (h : laws_heldScanS.f k l0 a1 = some r) :
    Calls Try.prog 53 #[.slice A0 l0.length c0, .int .i64 a1] w fun e w' => e = .returned (.int .i64 r) ∧ Drawn0 w w' := by
  have HR0 := Aside0.mk hr0
  have HC0 := Aside0.mk hc0
  clear hr0 hc0
  have H : (laws_heldScanS.l0 k l0 a1 0) = some r := h
  clear h
  have H' := Aside0.mk H
  clear H
  go_enter Try.func53, Try.ntmps53
  go_wp2
  go_loopg [1, 5] k (fun kq v1 v5 w' => ∃ (x1_1 : Int) (x5_1 : Int), v1 = .int .i64 x1_1 ∧ v5 = .int .i64 x5_1 ∧ Aside0 (laws_heldScanS.l0 kq l0 x1_1 x5_1 = some r) ∧ Aside0 (kq ≤ k) ∧ Drawn0 w w')
  case atStart => exact ⟨(a1), (0), (by first | rfl | (simp; done) | (simp [*]; done)), (by first | rfl | (simp; done) | (simp [*]; done)), H', ⟨Nat.le_refl _⟩, by repeat (first | exact Drawn0.refl _ | apply Drawn0.step)⟩
  case round =>
    clear H'
    try clear p2
    obtain ⟨x1_1, x5_1, rfl, rfl, HA, HK1, ⟨m1, rfl⟩⟩ := hrel
    cases gk with
    | zero => exact absurd HA.out (by simp [laws_heldScanS.l0])
    | succ k1 =>
      have H := HA.out
      clear HA
      simp only [laws_heldScanS.l0] at H
      by_cases c3 : x5_1 < (l0.length : Int)
      · rw [if_pos c3] at H
        have c3b0 : decide (x5_1 < (l0.length : Int)) = true := decide_eq_true c3
        clear c3
        by_cases c4 : 0 ≤ x5_1
        · rw [if_pos c4] at H
          have c4b0 : decide (0 ≤ x5_1) = true := decide_eq_true c4
          clear c4
          replace H := Option.bind_eq_some_iff.mp H
          obtain ⟨t246, A50, H⟩ := H
          replace H : (if t246 < 0 then (some (-1)) else (if ((rd_T28 l0 x5_1).f1) = t246 then (if ((rd_T28 l0 x5_1).f2) = (wrap64 (t246 + 1)) then (if ((rd_T28 l0 x5_1).f3) = (wrap64 ((wrap64 (t246 + 1)) + 1)) then (if ((rd_T28 l0 x5_1).f4) = (wrap64 ((wrap64 ((wrap64 (t246 + 1)) + 1)) + 1)) then (laws_heldScanS.l0 k1 l0 (wrap64 ((wrap64 ((wrap64 ((wrap64 (t246 + 1)) + 1)) + 1)) + 1)) (wrap64 (x5_1 + 1))) else (some (-1))) else (some (-1))) else (some (-1))) else (some (-1)))) = some r := H
          have A5 := Aside0.mk A50
          clear A50
          by_cases c6 : t246 < 0
          · rw [if_pos c6] at H
            have c6b0 : decide (t246 < 0) = true := decide_eq_true c6
            clear c6
            obtain rfl := Option.some.inj H
            have p245 : 0 ≤ (x5_1 : Int) := of_decide_eq_true (by first | (with_reducible assumption) | assumption)
            have q245 : x5_1 < (l0.length : Int) := of_decide_eq_true (by first | (with_reducible assumption) | assumption)
            obtain ⟨ad245, A245_0, c245_0, e245, hx245_0, hx245_1, hx245_2, hx245_3, hx245_4, hl245_0, hi245_0⟩ := at_T28 HR0.out x5_1 p245 q245
            cases e245
            have HR245_0 := Aside0.mk hi245_0
            have HC245_0 := Aside0.mk hl245_0
            clear hi245_0 hl245_0
            replace p245 := eq_true p245
            replace q245 := eq_true q245
            go_wp2_with (first | ((with_reducible refine gate_callee (f := 24) rfl ?_); refine goesL_ (some 18) rfl rfl Try.func24 (by kernel_rfl) rfl #[.slice A245_0 ((rd_T28 l0 x5_1).f0).length c245_0, .int .i64 x1_1] rfl (by (try simp only [List.map_toArray, List.map_cons, List.map_nil]); first | done | rfl | (simp only [List.length_drop, List.length_take]; rfl)) ?_; (with_reducible refine (laws_heldIntS.calls k1 _ _ ((rd_T28 l0 x5_1).f0) x1_1 t246 _ ?side1 ?side2 A5.out).mono ?_); (case side1 => repeat (first | exact HR245_0.out | (with_reducible refine Kd.C_alloc ?_ _) | (with_reducible refine Kd.C_drewN ?_ _) | (with_reducible refine Kd.C_drew ?_))); (case side2 => exact HC245_0.out); rintro e w' ⟨rfl, ⟨nd, rfl⟩⟩; refine ⟨_, rfl, ?_⟩))
            go_ret
            exact ⟨by first | rfl | (simp; done) | (simp [*]; done), by repeat (first | exact Drawn0.refl _ | apply Drawn0.step)⟩
          · rw [if_neg c6] at H
            have c6b0 : decide (t246 < 0) = false := decide_eq_false c6
            clear c6
            by_cases c7 : ((rd_T28 l0 x5_1).f1) = t246
            · rw [if_pos c7] at H
              have c7b0 : (((rd_T28 l0 x5_1).f1) == t246) = true := beq_iff_eq.mpr c7
              have c7b1 : (((rd_T28 l0 x5_1).f1) != t246) = false := bne_eq_false_iff_eq.mpr c7
              clear c7
              by_cases c8 : ((rd_T28 l0 x5_1).f2) = (wrap64 (t246 + 1))
              · rw [if_pos c8] at H
                have c8b0 : (((rd_T28 l0 x5_1).f2) == (wrap64 (t246 + 1))) = true := beq_iff_eq.mpr c8
                have c8b1 : (((rd_T28 l0 x5_1).f2) != (wrap64 (t246 + 1))) = false := bne_eq_false_iff_eq.mpr c8
                clear c8
                by_cases c9 : ((rd_T28 l0 x5_1).f3) = (wrap64 ((wrap64 (t246 + 1)) + 1))
                · rw [if_pos c9] at H
                  have c9b0 : (((rd_T28 l0 x5_1).f3) == (wrap64 ((wrap64 (t246 + 1)) + 1))) = true := beq_iff_eq.mpr c9
                  have c9b1 : (((rd_T28 l0 x5_1).f3) != (wrap64 ((wrap64 (t246 + 1)) + 1))) = false := bne_eq_false_iff_eq.mpr c9
                  clear c9
                  by_cases c10 : ((rd_T28 l0 x5_1).f4) = (wrap64 ((wrap64 ((wrap64 (t246 + 1)) + 1)) + 1))
                  · rw [if_pos c10] at H
                    have c10b0 : (((rd_T28 l0 x5_1).f4) == (wrap64 ((wrap64 ((wrap64 (t246 + 1)) + 1)) + 1))) = true := beq_iff_eq.mpr c10
                    have c10b1 : (((rd_T28 l0 x5_1).f4) != (wrap64 ((wrap64 ((wrap64 (t246 + 1)) + 1)) + 1))) = false := bne_eq_false_iff_eq.mpr c10
                    clear c10
                    have H' := Aside0.mk H
                    clear H
                    have p245 : 0 ≤ (x5_1 : Int) := of_decide_eq_true (by first | (with_reducible assumption) | assumption)
                    have q245 : x5_1 < (l0.length : Int) := of_decide_eq_true (by first | (with_reducible assumption) | assumption)
                    obtain ⟨ad245, A245_0, c245_0, e245, hx245_0, hx245_1, hx245_2, hx245_3, hx245_4, hl245_0, hi245_0⟩ := at_T28 HR0.out x5_1 p245 q245
                    cases e245
                    have HR245_0 := Aside0.mk hi245_0
                    have HC245_0 := Aside0.mk hl245_0
                    clear hi245_0 hl245_0
                    replace p245 := eq_true p245
                    replace q245 := eq_true q245
                    go_wp2_with (first | ((with_reducible refine gate_callee (f := 24) rfl ?_); refine goesL_ (some 18) rfl rfl Try.func24 (by kernel_rfl) rfl #[.slice A245_0 ((rd_T28 l0 x5_1).f0).length c245_0, .int .i64 x1_1] rfl (by (try simp only [List.map_toArray, List.map_cons, List.map_nil]); first | done | rfl | (simp only [List.length_drop, List.length_take]; rfl)) ?_; (with_reducible refine (laws_heldIntS.calls k1 _ _ ((rd_T28 l0 x5_1).f0) x1_1 t246 _ ?side1 ?side2 A5.out).mono ?_); (case side1 => repeat (first | exact HR245_0.out | (with_reducible refine Kd.C_alloc ?_ _) | (with_reducible refine Kd.C_drewN ?_ _) | (with_reducible refine Kd.C_drew ?_))); (case side2 => exact HC245_0.out); rintro e w' ⟨rfl, ⟨nd, rfl⟩⟩; refine ⟨_, rfl, ?_⟩; have p247 : 0 ≤ (x5_1 : Int) := of_decide_eq_true (by first | (with_reducible assumption) | assumption); have q247 : x5_1 < (l0.length : Int) := of_decide_eq_true (by first | (with_reducible assumption) | assumption); obtain ⟨ad247, A247_0, c247_0, e247, hx247_0, hx247_1, hx247_2, hx247_3, hx247_4, hl247_0, hi247_0⟩ := at_T28 HR0.out x5_1 p247 q247; obtain rfl : ad245 = ad247 := (by injection e247); have HR247_0 := Aside0.mk hi247_0; have HC247_0 := Aside0.mk hl247_0; clear hi247_0 hl247_0; replace p247 := eq_true p247; replace q247 := eq_true q247; have ea_ := Option.some.inj (hx245_0.symm.trans hx247_0); injection ea_ with ea_ en_ ec_; subst ea_; subst ec_; clear en_; have p248 : 0 ≤ (x5_1 : Int) := of_decide_eq_true (by first | (with_reducible assumption) | assumption); have q248 : x5_1 < (l0.length : Int) := of_decide_eq_true (by first | (with_reducible assumption) | assumption); obtain ⟨ad248, A248_0, c248_0, e248, hx248_0, hx248_1, hx248_2, hx248_3, hx248_4, hl248_0, hi248_0⟩ := at_T28 HR0.out x5_1 p248 q248; obtain rfl : ad245 = ad248 := (by injection e248); have HR248_0 := Aside0.mk hi248_0; have HC248_0 := Aside0.mk hl248_0; clear hi248_0 hl248_0; replace p248 := eq_true p248; replace q248 := eq_true q248; have ea_ := Option.some.inj (hx245_0.symm.trans hx248_0); injection ea_ with ea_ en_ ec_; subst ea_; subst ec_; clear en_; have p249 : 0 ≤ (x5_1 : Int) := of_decide_eq_true (by first | (with_reducible assumption) | assumption); have q249 : x5_1 < (l0.length : Int) := of_decide_eq_true (by first | (with_reducible assumption) | assumption); obtain ⟨ad249, A249_0, c249_0, e249, hx249_0, hx249_1, hx249_2, hx249_3, hx249_4, hl249_0, hi249_0⟩ := at_T28 HR0.out x5_1 p249 q249; obtain rfl : ad245 = ad249 := (by injection e249); have HR249_0 := Aside0.mk hi249_0; have HC249_0 := Aside0.mk hl249_0; clear hi249_0 hl249_0; replace p249 := eq_true p249; replace q249 := eq_true q249; have ea_ := Option.some.inj (hx245_0.symm.trans hx249_0); injection ea_ with ea_ en_ ec_; subst ea_; subst ec_; clear en_; have p250 : 0 ≤ (x5_1 : Int) := of_decide_eq_true (by first | (with_reducible assumption) | assumption); have q250 : x5_1 < (l0.length : Int) := of_decide_eq_true (by first | (with_reducible assumption) | assumption); obtain ⟨ad250, A250_0, c250_0, e250, hx250_0, hx250_1, hx250_2, hx250_3, hx250_4, hl250_0, hi250_0⟩ := at_T28 HR0.out x5_1 p250 q250; obtain rfl : ad245 = ad250 := (by injection e250); have HR250_0 := Aside0.mk hi250_0; have HC250_0 := Aside0.mk hl250_0; clear hi250_0 hl250_0; replace p250 := eq_true p250; replace q250 := eq_true q250; have ea_ := Option.some.inj (hx245_0.symm.trans hx250_0); injection ea_ with ea_ en_ ec_; subst ea_; subst ec_; clear en_))
                    go_roundg k1
                    case measure => have := HK1.out; omega
                    case rel => exact ⟨(wrap64 ((wrap64 ((wrap64 ((wrap64 (t246 + 1)) + 1)) + 1)) + 1)), (wrap64 (x5_1 + 1)), (by first | rfl | (simp; done) | (simp [*]; done)), (by first | rfl | (simp; done) | (simp [*]; done)), H', ⟨by have := HK1.out; omega⟩, by repeat (first | exact Drawn0.refl _ | apply Drawn0.step)⟩
                  · rw [if_neg c10] at H
                    have c10b0 : (((rd_T28 l0 x5_1).f4) == (wrap64 ((wrap64 ((wrap64 (t246 + 1)) + 1)) + 1))) = false := beq_eq_false_iff_ne.mpr c10
                    have c10b1 : (((rd_T28 l0 x5_1).f4) != (wrap64 ((wrap64 ((wrap64 (t246 + 1)) + 1)) + 1))) = true := bne_iff_ne.mpr c10
                    obtain rfl := Option.some.inj H
                    have p245 : 0 ≤ (x5_1 : Int) := of_decide_eq_true (by first | (with_reducible assumption) | assumption)
                    have q245 : x5_1 < (l0.length : Int) := of_decide_eq_true (by first | (with_reducible assumption) | assumption)
                    obtain ⟨ad245, A245_0, c245_0, e245, hx245_0, hx245_1, hx245_2, hx245_3, hx245_4, hl245_0, hi245_0⟩ := at_T28 HR0.out x5_1 p245 q245
                    cases e245
                    have HR245_0 := Aside0.mk hi245_0
                    have HC245_0 := Aside0.mk hl245_0
                    clear hi245_0 hl245_0
                    replace p245 := eq_true p245
                    replace q245 := eq_true q245
                    go_wp2_with (first | ((with_reducible refine gate_callee (f := 24) rfl ?_); refine goesL_ (some 18) rfl rfl Try.func24 (by kernel_rfl) rfl #[.slice A245_0 ((rd_T28 l0 x5_1).f0).length c245_0, .int .i64 x1_1] rfl (by (try simp only [List.map_toArray, List.map_cons, List.map_nil]); first | done | rfl | (simp only [List.length_drop, List.length_take]; rfl)) ?_; (with_reducible refine (laws_heldIntS.calls k1 _ _ ((rd_T28 l0 x5_1).f0) x1_1 t246 _ ?side1 ?side2 A5.out).mono ?_); (case side1 => repeat (first | exact HR245_0.out | (with_reducible refine Kd.C_alloc ?_ _) | (with_reducible refine Kd.C_drewN ?_ _) | (with_reducible refine Kd.C_drew ?_))); (case side2 => exact HC245_0.out); rintro e w' ⟨rfl, ⟨nd, rfl⟩⟩; refine ⟨_, rfl, ?_⟩; have p247 : 0 ≤ (x5_1 : Int) := of_decide_eq_true (by first | (with_reducible assumption) | assumption); have q247 : x5_1 < (l0.length : Int) := of_decide_eq_true (by first | (with_reducible assumption) | assumption); obtain ⟨ad247, A247_0, c247_0, e247, hx247_0, hx247_1, hx247_2, hx247_3, hx247_4, hl247_0, hi247_0⟩ := at_T28 HR0.out x5_1 p247 q247; obtain rfl : ad245 = ad247 := (by injection e247); have HR247_0 := Aside0.mk hi247_0; have HC247_0 := Aside0.mk hl247_0; clear hi247_0 hl247_0; replace p247 := eq_true p247; replace q247 := eq_true q247; have ea_ := Option.some.inj (hx245_0.symm.trans hx247_0); injection ea_ with ea_ en_ ec_; subst ea_; subst ec_; clear en_; have p248 : 0 ≤ (x5_1 : Int) := of_decide_eq_true (by first | (with_reducible assumption) | assumption); have q248 : x5_1 < (l0.length : Int) := of_decide_eq_true (by first | (with_reducible assumption) | assumption); obtain ⟨ad248, A248_0, c248_0, e248, hx248_0, hx248_1, hx248_2, hx248_3, hx248_4, hl248_0, hi248_0⟩ := at_T28 HR0.out x5_1 p248 q248; obtain rfl : ad245 = ad248 := (by injection e248); have HR248_0 := Aside0.mk hi248_0; have HC248_0 := Aside0.mk hl248_0; clear hi248_0 hl248_0; replace p248 := eq_true p248; replace q248 := eq_true q248; have ea_ := Option.some.inj (hx245_0.symm.trans hx248_0); injection ea_ with ea_ en_ ec_; subst ea_; subst ec_; clear en_; have p249 : 0 ≤ (x5_1 : Int) := of_decide_eq_true (by first | (with_reducible assumption) | assumption); have q249 : x5_1 < (l0.length : Int) := of_decide_eq_true (by first | (with_reducible assumption) | assumption); obtain ⟨ad249, A249_0, c249_0, e249, hx249_0, hx249_1, hx249_2, hx249_3, hx249_4, hl249_0, hi249_0⟩ := at_T28 HR0.out x5_1 p249 q249; obtain rfl : ad245 = ad249 := (by injection e249); have HR249_0 := Aside0.mk hi249_0; have HC249_0 := Aside0.mk hl249_0; clear hi249_0 hl249_0; replace p249 := eq_true p249; replace q249 := eq_true q249; have ea_ := Option.some.inj (hx245_0.symm.trans hx249_0); injection ea_ with ea_ en_ ec_; subst ea_; subst ec_; clear en_; have p250 : 0 ≤ (x5_1 : Int) := of_decide_eq_true (by first | (with_reducible assumption) | assumption); have q250 : x5_1 < (l0.length : Int) := of_decide_eq_true (by first | (with_reducible assumption) | assumption); obtain ⟨ad250, A250_0, c250_0, e250, hx250_0, hx250_1, hx250_2, hx250_3, hx250_4, hl250_0, hi250_0⟩ := at_T28 HR0.out x5_1 p250 q250; obtain rfl : ad245 = ad250 := (by injection e250); have HR250_0 := Aside0.mk hi250_0; have HC250_0 := Aside0.mk hl250_0; clear hi250_0 hl250_0; replace p250 := eq_true p250; replace q250 := eq_true q250; have ea_ := Option.some.inj (hx245_0.symm.trans hx250_0); injection ea_ with ea_ en_ ec_; subst ea_; subst ec_; clear en_))
                    go_ret
                    exact ⟨by first | rfl | (simp; done) | (simp [*]; done), by repeat (first | exact Drawn0.refl _ | apply Drawn0.step)⟩
                · rw [if_neg c9] at H
                  have c9b0 : (((rd_T28 l0 x5_1).f3) == (wrap64 ((wrap64 (t246 + 1)) + 1))) = false := beq_eq_false_iff_ne.mpr c9
                  have c9b1 : (((rd_T28 l0 x5_1).f3) != (wrap64 ((wrap64 (t246 + 1)) + 1))) = true := bne_iff_ne.mpr c9
                  obtain rfl := Option.some.inj H
                  have p245 : 0 ≤ (x5_1 : Int) := of_decide_eq_true (by first | (with_reducible assumption) | assumption)
                  have q245 : x5_1 < (l0.length : Int) := of_decide_eq_true (by first | (with_reducible assumption) | assumption)
                  obtain ⟨ad245, A245_0, c245_0, e245, hx245_0, hx245_1, hx245_2, hx245_3, hx245_4, hl245_0, hi245_0⟩ := at_T28 HR0.out x5_1 p245 q245
                  cases e245
                  have HR245_0 := Aside0.mk hi245_0
                  have HC245_0 := Aside0.mk hl245_0
                  clear hi245_0 hl245_0
                  replace p245 := eq_true p245
                  replace q245 := eq_true q245
                  go_wp2_with (first | ((with_reducible refine gate_callee (f := 24) rfl ?_); refine goesL_ (some 18) rfl rfl Try.func24 (by kernel_rfl) rfl #[.slice A245_0 ((rd_T28 l0 x5_1).f0).length c245_0, .int .i64 x1_1] rfl (by (try simp only [List.map_toArray, List.map_cons, List.map_nil]); first | done | rfl | (simp only [List.length_drop, List.length_take]; rfl)) ?_; (with_reducible refine (laws_heldIntS.calls k1 _ _ ((rd_T28 l0 x5_1).f0) x1_1 t246 _ ?side1 ?side2 A5.out).mono ?_); (case side1 => repeat (first | exact HR245_0.out | (with_reducible refine Kd.C_alloc ?_ _) | (with_reducible refine Kd.C_drewN ?_ _) | (with_reducible refine Kd.C_drew ?_))); (case side2 => exact HC245_0.out); rintro e w' ⟨rfl, ⟨nd, rfl⟩⟩; refine ⟨_, rfl, ?_⟩; have p247 : 0 ≤ (x5_1 : Int) := of_decide_eq_true (by first | (with_reducible assumption) | assumption); have q247 : x5_1 < (l0.length : Int) := of_decide_eq_true (by first | (with_reducible assumption) | assumption); obtain ⟨ad247, A247_0, c247_0, e247, hx247_0, hx247_1, hx247_2, hx247_3, hx247_4, hl247_0, hi247_0⟩ := at_T28 HR0.out x5_1 p247 q247; obtain rfl : ad245 = ad247 := (by injection e247); have HR247_0 := Aside0.mk hi247_0; have HC247_0 := Aside0.mk hl247_0; clear hi247_0 hl247_0; replace p247 := eq_true p247; replace q247 := eq_true q247; have ea_ := Option.some.inj (hx245_0.symm.trans hx247_0); injection ea_ with ea_ en_ ec_; subst ea_; subst ec_; clear en_; have p248 : 0 ≤ (x5_1 : Int) := of_decide_eq_true (by first | (with_reducible assumption) | assumption); have q248 : x5_1 < (l0.length : Int) := of_decide_eq_true (by first | (with_reducible assumption) | assumption); obtain ⟨ad248, A248_0, c248_0, e248, hx248_0, hx248_1, hx248_2, hx248_3, hx248_4, hl248_0, hi248_0⟩ := at_T28 HR0.out x5_1 p248 q248; obtain rfl : ad245 = ad248 := (by injection e248); have HR248_0 := Aside0.mk hi248_0; have HC248_0 := Aside0.mk hl248_0; clear hi248_0 hl248_0; replace p248 := eq_true p248; replace q248 := eq_true q248; have ea_ := Option.some.inj (hx245_0.symm.trans hx248_0); injection ea_ with ea_ en_ ec_; subst ea_; subst ec_; clear en_; have p249 : 0 ≤ (x5_1 : Int) := of_decide_eq_true (by first | (with_reducible assumption) | assumption); have q249 : x5_1 < (l0.length : Int) := of_decide_eq_true (by first | (with_reducible assumption) | assumption); obtain ⟨ad249, A249_0, c249_0, e249, hx249_0, hx249_1, hx249_2, hx249_3, hx249_4, hl249_0, hi249_0⟩ := at_T28 HR0.out x5_1 p249 q249; obtain rfl : ad245 = ad249 := (by injection e249); have HR249_0 := Aside0.mk hi249_0; have HC249_0 := Aside0.mk hl249_0; clear hi249_0 hl249_0; replace p249 := eq_true p249; replace q249 := eq_true q249; have ea_ := Option.some.inj (hx245_0.symm.trans hx249_0); injection ea_ with ea_ en_ ec_; subst ea_; subst ec_; clear en_))
                  go_ret
                  exact ⟨by first | rfl | (simp; done) | (simp [*]; done), by repeat (first | exact Drawn0.refl _ | apply Drawn0.step)⟩
              · rw [if_neg c8] at H
                have c8b0 : (((rd_T28 l0 x5_1).f2) == (wrap64 (t246 + 1))) = false := beq_eq_false_iff_ne.mpr c8
                have c8b1 : (((rd_T28 l0 x5_1).f2) != (wrap64 (t246 + 1))) = true := bne_iff_ne.mpr c8
                obtain rfl := Option.some.inj H
                have p245 : 0 ≤ (x5_1 : Int) := of_decide_eq_true (by first | (with_reducible assumption) | assumption)
                have q245 : x5_1 < (l0.length : Int) := of_decide_eq_true (by first | (with_reducible assumption) | assumption)
                obtain ⟨ad245, A245_0, c245_0, e245, hx245_0, hx245_1, hx245_2, hx245_3, hx245_4, hl245_0, hi245_0⟩ := at_T28 HR0.out x5_1 p245 q245
                cases e245
                have HR245_0 := Aside0.mk hi245_0
                have HC245_0 := Aside0.mk hl245_0
                clear hi245_0 hl245_0
                replace p245 := eq_true p245
                replace q245 := eq_true q245
                go_wp2_with (first | ((with_reducible refine gate_callee (f := 24) rfl ?_); refine goesL_ (some 18) rfl rfl Try.func24 (by kernel_rfl) rfl #[.slice A245_0 ((rd_T28 l0 x5_1).f0).length c245_0, .int .i64 x1_1] rfl (by (try simp only [List.map_toArray, List.map_cons, List.map_nil]); first | done | rfl | (simp only [List.length_drop, List.length_take]; rfl)) ?_; (with_reducible refine (laws_heldIntS.calls k1 _ _ ((rd_T28 l0 x5_1).f0) x1_1 t246 _ ?side1 ?side2 A5.out).mono ?_); (case side1 => repeat (first | exact HR245_0.out | (with_reducible refine Kd.C_alloc ?_ _) | (with_reducible refine Kd.C_drewN ?_ _) | (with_reducible refine Kd.C_drew ?_))); (case side2 => exact HC245_0.out); rintro e w' ⟨rfl, ⟨nd, rfl⟩⟩; refine ⟨_, rfl, ?_⟩; have p247 : 0 ≤ (x5_1 : Int) := of_decide_eq_true (by first | (with_reducible assumption) | assumption); have q247 : x5_1 < (l0.length : Int) := of_decide_eq_true (by first | (with_reducible assumption) | assumption); obtain ⟨ad247, A247_0, c247_0, e247, hx247_0, hx247_1, hx247_2, hx247_3, hx247_4, hl247_0, hi247_0⟩ := at_T28 HR0.out x5_1 p247 q247; obtain rfl : ad245 = ad247 := (by injection e247); have HR247_0 := Aside0.mk hi247_0; have HC247_0 := Aside0.mk hl247_0; clear hi247_0 hl247_0; replace p247 := eq_true p247; replace q247 := eq_true q247; have ea_ := Option.some.inj (hx245_0.symm.trans hx247_0); injection ea_ with ea_ en_ ec_; subst ea_; subst ec_; clear en_; have p248 : 0 ≤ (x5_1 : Int) := of_decide_eq_true (by first | (with_reducible assumption) | assumption); have q248 : x5_1 < (l0.length : Int) := of_decide_eq_true (by first | (with_reducible assumption) | assumption); obtain ⟨ad248, A248_0, c248_0, e248, hx248_0, hx248_1, hx248_2, hx248_3, hx248_4, hl248_0, hi248_0⟩ := at_T28 HR0.out x5_1 p248 q248; obtain rfl : ad245 = ad248 := (by injection e248); have HR248_0 := Aside0.mk hi248_0; have HC248_0 := Aside0.mk hl248_0; clear hi248_0 hl248_0; replace p248 := eq_true p248; replace q248 := eq_true q248; have ea_ := Option.some.inj (hx245_0.symm.trans hx248_0); injection ea_ with ea_ en_ ec_; subst ea_; subst ec_; clear en_))
                go_ret
                exact ⟨by first | rfl | (simp; done) | (simp [*]; done), by repeat (first | exact Drawn0.refl _ | apply Drawn0.step)⟩
            · rw [if_neg c7] at H
              have c7b0 : (((rd_T28 l0 x5_1).f1) == t246) = false := beq_eq_false_iff_ne.mpr c7
              have c7b1 : (((rd_T28 l0 x5_1).f1) != t246) = true := bne_iff_ne.mpr c7
              obtain rfl := Option.some.inj H
              have p245 : 0 ≤ (x5_1 : Int) := of_decide_eq_true (by first | (with_reducible assumption) | assumption)
              have q245 : x5_1 < (l0.length : Int) := of_decide_eq_true (by first | (with_reducible assumption) | assumption)
              obtain ⟨ad245, A245_0, c245_0, e245, hx245_0, hx245_1, hx245_2, hx245_3, hx245_4, hl245_0, hi245_0⟩ := at_T28 HR0.out x5_1 p245 q245
              cases e245
              have HR245_0 := Aside0.mk hi245_0
              have HC245_0 := Aside0.mk hl245_0
              clear hi245_0 hl245_0
              replace p245 := eq_true p245
              replace q245 := eq_true q245
              go_wp2_with (first | ((with_reducible refine gate_callee (f := 24) rfl ?_); refine goesL_ (some 18) rfl rfl Try.func24 (by kernel_rfl) rfl #[.slice A245_0 ((rd_T28 l0 x5_1).f0).length c245_0, .int .i64 x1_1] rfl (by (try simp only [List.map_toArray, List.map_cons, List.map_nil]); first | done | rfl | (simp only [List.length_drop, List.length_take]; rfl)) ?_; (with_reducible refine (laws_heldIntS.calls k1 _ _ ((rd_T28 l0 x5_1).f0) x1_1 t246 _ ?side1 ?side2 A5.out).mono ?_); (case side1 => repeat (first | exact HR245_0.out | (with_reducible refine Kd.C_alloc ?_ _) | (with_reducible refine Kd.C_drewN ?_ _) | (with_reducible refine Kd.C_drew ?_))); (case side2 => exact HC245_0.out); rintro e w' ⟨rfl, ⟨nd, rfl⟩⟩; refine ⟨_, rfl, ?_⟩; have p247 : 0 ≤ (x5_1 : Int) := of_decide_eq_true (by first | (with_reducible assumption) | assumption); have q247 : x5_1 < (l0.length : Int) := of_decide_eq_true (by first | (with_reducible assumption) | assumption); obtain ⟨ad247, A247_0, c247_0, e247, hx247_0, hx247_1, hx247_2, hx247_3, hx247_4, hl247_0, hi247_0⟩ := at_T28 HR0.out x5_1 p247 q247; obtain rfl : ad245 = ad247 := (by injection e247); have HR247_0 := Aside0.mk hi247_0; have HC247_0 := Aside0.mk hl247_0; clear hi247_0 hl247_0; replace p247 := eq_true p247; replace q247 := eq_true q247; have ea_ := Option.some.inj (hx245_0.symm.trans hx247_0); injection ea_ with ea_ en_ ec_; subst ea_; subst ec_; clear en_))
              go_ret
              exact ⟨by first | rfl | (simp; done) | (simp [*]; done), by repeat (first | exact Drawn0.refl _ | apply Drawn0.step)⟩
        · rw [if_neg c4] at H
          exact absurd H (by simp)
      · rw [if_neg c3] at H
        have c3b0 : decide (x5_1 < (l0.length : Int)) = false := decide_eq_false c3
        clear c3
        obtain rfl := Option.some.inj H
        go_wp2
        go_ret
        exact ⟨by first | rfl | (simp; done) | (simp [*]; done), by repeat (first | exact Drawn0.refl _ | apply Drawn0.step)⟩

/-- What scans hold when they are marked. -/
def cntSc : Int → List S28 → List S28
  | _, [] => []
  | a, x :: l => ⟨countL a x.f0.length, a + x.f0.length, a + x.f0.length + 1, a + x.f0.length + 1 + 1, a + x.f0.length + 1 + 1 + 1⟩ :: cntSc (a + x.f0.length + 1 + 1 + 1 + 1) l
theorem rdSc_mid (pre : List S28) (x : S28) (l : List S28) : rd_T28 (pre ++ x :: l) (pre.length : Int) = x := by
  rw [rdS_nat (by simp)]
  simp
theorem markScanS_c : ∀ (l pre : List S28) (a : Int), pre.length + l.length ≤ 1048576 → 0 ≤ a → a + totS l + 4 * (l.length : Int) ≤ 4611686018427387904 → Ev (fun k => laws_markScanS.l0 k (pre ++ l) a pre.length) (a + totS l + 4 * (l.length : Int), pre ++ cntSc a l)
  | [], pre, a, hl, h0, h1 => by
    refine Ev.step (fun k => by rw [laws_markScanS.l0]) (evNeg (by simp) ?_)
    simp only [totS, cntSc, List.map_nil, List.sum_nil, List.length_nil]
    rw [show a + ((0 : Nat) : Int) + 4 * ((0 : Nat) : Int) = a from by simp]
    exact Ev.now _
  | x :: l, pre, a, hl, h0, h1 => by
    rw [totS_cons] at h1 ⊢
    rw [List.length_cons] at hl h1 ⊢
    refine Ev.step (fun k => by rw [laws_markScanS.l0]) (evPos (by rw [List.length_append, List.length_cons]; omega) (evPos (by omega) ?_))
    rw [rdSc_mid]
    refine evBind (markIntS_f x.f0 a h0 (by omega)) ?_
    simp only []
    rw [w64 (x := a + (x.f0.length : Int) + 1) (by omega) (by omega), w64 (x := a + (x.f0.length : Int) + 1 + 1) (by omega) (by omega), w64 (x := a + (x.f0.length : Int) + 1 + 1 + 1) (by omega) (by omega), w64 (x := a + (x.f0.length : Int) + 1 + 1 + 1 + 1) (by omega) (by omega)]
    rw [show (pre.length : Int) + 1 = ((pre.length + 1 : Nat) : Int) from by omega, w64n (by omega), Int.toNat_natCast, List.set_append_right _ _ (Nat.le_refl _), Nat.sub_self, List.set_cons_zero]
    have key := markScanS_c l (pre ++ [⟨countL a x.f0.length, a + x.f0.length, a + x.f0.length + 1, a + x.f0.length + 1 + 1, a + x.f0.length + 1 + 1 + 1⟩]) (a + x.f0.length + 1 + 1 + 1 + 1) (by rw [List.length_append]; simp only [List.length_cons, List.length_nil]; omega) (by omega) (by omega)
    rw [List.length_append, List.append_assoc, List.append_assoc] at key
    rw [cntSc, show a + ((x.f0.length + totS l : Nat) : Int) + 4 * ((l.length + 1 : Nat) : Int) = a + x.f0.length + 1 + 1 + 1 + 1 + (totS l : Int) + 4 * (l.length : Int) from by omega]
    exact key
theorem heldScanS_c : ∀ (l pre : List S28) (a : Int), pre.length + l.length ≤ 1048576 → 0 ≤ a → a + totS l + 4 * (l.length : Int) ≤ 4611686018427387904 → Ev (fun k => laws_heldScanS.l0 k (pre ++ cntSc a l) a pre.length) (a + totS l + 4 * (l.length : Int))
  | [], pre, a, hl, h0, h1 => by
    refine Ev.step (fun k => by rw [laws_heldScanS.l0]) (evNeg (by simp [cntSc]) ?_)
    simp only [totS, List.map_nil, List.sum_nil, List.length_nil]
    rw [show a + ((0 : Nat) : Int) + 4 * ((0 : Nat) : Int) = a from by simp]
    exact Ev.now _
  | x :: l, pre, a, hl, h0, h1 => by
    rw [totS_cons] at h1 ⊢
    rw [List.length_cons] at hl h1 ⊢
    rw [cntSc]
    refine Ev.step (fun k => by rw [laws_heldScanS.l0]) (evPos (by rw [List.length_append, List.length_cons]; omega) (evPos (by omega) ?_))
    rw [rdSc_mid]
    refine evBind (heldIntS_f a x.f0.length h0 (by omega)) (evNeg (by omega) ?_)
    rw [w64 (x := a + (x.f0.length : Int) + 1) (by omega) (by omega), w64 (x := a + (x.f0.length : Int) + 1 + 1) (by omega) (by omega), w64 (x := a + (x.f0.length : Int) + 1 + 1 + 1) (by omega) (by omega), w64 (x := a + (x.f0.length : Int) + 1 + 1 + 1 + 1) (by omega) (by omega)]
    refine evPos rfl (evPos rfl (evPos rfl (evPos rfl ?_)))
    rw [show (pre.length : Int) + 1 = ((pre.length + 1 : Nat) : Int) from by omega, w64n (by omega)]
    have key := heldScanS_c l (pre ++ [⟨countL a x.f0.length, a + x.f0.length, a + x.f0.length + 1, a + x.f0.length + 1 + 1, a + x.f0.length + 1 + 1 + 1⟩]) (a + x.f0.length + 1 + 1 + 1 + 1) (by rw [List.length_append]; simp only [List.length_cons, List.length_nil]; omega) (by omega) (by omega)
    rw [List.length_append, List.append_assoc] at key
    rw [show a + ((x.f0.length + totS l : Nat) : Int) + 4 * ((l.length + 1 : Nat) : Int) = a + x.f0.length + 1 + 1 + 1 + 1 + (totS l : Int) + 4 * (l.length : Int) from by omega]
    exact key
theorem markScanS_g (l : List S28) (a : Int) (hl : l.length ≤ 1048576) (h0 : 0 ≤ a) (h1 : a + totS l + 4 * (l.length : Int) ≤ 4611686018427387904) : Ev (fun k => laws_markScanS.f k l a) (a + totS l + 4 * (l.length : Int), cntSc a l) := markScanS_c l [] a (by simpa using hl) h0 h1
theorem heldScanS_g (l : List S28) (a : Int) (hl : l.length ≤ 1048576) (h0 : 0 ≤ a) (h1 : a + totS l + 4 * (l.length : Int) ≤ 4611686018427387904) : Ev (fun k => laws_heldScanS.f k (cntSc a l) a) (a + totS l + 4 * (l.length : Int)) := heldScanS_c l [] a (by simpa using hl) h0 h1

/-! ### laws_FnExactScriptFor: function 10 -/
def laws_FnExactScriptFor.j0 : Nat → Int → List (S28) → List (S28) → Bool → Int → Int → Int → Int → List (S130) → Option (Bool)
  | 0, _, _, _, _, _, _, _, _, _ => none
  | k + 1, x1, x6, x8, x46, x252000, x252001, x252002, x252003, x252004 => if x46 = true then (some false) else ((laws_markScanS.f k x8 1).bind fun bt286 => ((laws_heldScanS.f k bt286.2 1).bind fun t288 => (if t288 < 0 then (some false) else (if t288 = bt286.1 then ((laws_toFrame.f k x252000 x252001 x252002 x252003 x252004).bind fun bt289 => ((impl_ScriptFor.f k bt289.1 bt289.2.1 bt289.2.2.1 bt289.2.2.2.1 bt289.2.2.2.2 x1).bind fun t296 => ((laws_eqScanS.f k t296 x6).bind fun t299 => (if t299 = true then ((laws_heldScanS.f k bt286.2 1).bind fun t300 => (if t300 < 0 then (some false) else (if t300 = bt286.1 then (some true) else (some false)))) else (some false))))) else (some false)))))
def laws_FnExactScriptFor.f (k : Nat) (a0_0 : Int) (a0_1 : Int) (a0_2 : Int) (a0_3 : Int) (l0_4 : List (S130)) (a1 : Int) : Option (Bool) := (laws_szFrame.f a0_0 a0_1 a0_2 a0_3 l0_4 1048576).bind fun t252 => (if t252 < 0 then (some true) else ((laws_toFrame.f k a0_0 a0_1 a0_2 a0_3 l0_4).bind fun bt253 => ((spec_ScriptFor.f k bt253.1 bt253.2.1 bt253.2.2.1 bt253.2.2.2.1 bt253.2.2.2.2 a1).bind fun t260 => ((laws_toFrame.f k a0_0 a0_1 a0_2 a0_3 l0_4).bind fun bt263 => ((impl_ScriptFor.f k bt263.1 bt263.2.1 bt263.2.2.1 bt263.2.2.2.1 bt263.2.2.2.2 a1).bind fun t271 => ((laws_eqScanS.f k t271 t260).bind fun t274 => (if t274 = true then ((laws_toFrame.f k a0_0 a0_1 a0_2 a0_3 l0_4).bind fun bt275 => ((laws_eqFrame.f k bt263.1 bt263.2.1 bt263.2.2.1 bt263.2.2.2.1 bt263.2.2.2.2 bt275.1 bt275.2.1 bt275.2.2.1 bt275.2.2.2.1 bt275.2.2.2.2).bind fun t282 => (if t282 = true then ((laws_markFrame.f k bt263.1 bt263.2.1 bt263.2.2.1 bt263.2.2.2.1 bt263.2.2.2.2 1).bind fun bt283 => (if bt283.1 < 0 then (laws_FnExactScriptFor.j0 k a1 t260 t271 true a0_0 a0_1 a0_2 a0_3 l0_4) else ((laws_eqScanS.f k t271 t260).bind fun t285 => (laws_FnExactScriptFor.j0 k a1 t260 t271 (!t285) a0_0 a0_1 a0_2 a0_3 l0_4)))) else (some false)))) else (some false))))))))
theorem laws_FnExactScriptFor.mono_l : ∀ k, (∀ y0 y1 y2 y3 y4 y5 y6 y7 y8, LeO (laws_FnExactScriptFor.j0 k y0 y1 y2 y3 y4 y5 y6 y7 y8) (laws_FnExactScriptFor.j0 (k + 1) y0 y1 y2 y3 y4 y5 y6 y7 y8))
  | 0 => fun _ _ _ _ _ _ _ _ _ r h => by simp [laws_FnExactScriptFor.j0] at h
  | k + 1 => by
    have ih0 := laws_FnExactScriptFor.mono_l k
    · intro y0 y1 y2 y3 y4 y5 y6 y7 y8
      unfold laws_FnExactScriptFor.j0
      repeat' first
      | (with_reducible exact ih0 _ _ _ _ _ _ _ _ _)
      | (with_reducible exact impl_ScriptFor.mono _ _ _ _ _ _ _)
      | (with_reducible exact laws_eqFrame.mono _ _ _ _ _ _ _ _ _ _ _)
      | (with_reducible exact laws_eqScanS.mono _ _ _)
      | (with_reducible exact laws_heldScanS.mono _ _ _)
      | (with_reducible exact laws_markFrame.mono _ _ _ _ _ _ _)
      | (with_reducible exact laws_markScanS.mono _ _ _)
      | (with_reducible exact laws_toFrame.mono _ _ _ _ _ _)
      | (with_reducible exact spec_ScriptFor.mono _ _ _ _ _ _ _)
      | (with_reducible exact LeO.refl _)
      | (with_reducible exact LeO.none _)
      | (with_reducible refine LeO.ite ?_ ?_)
      | (with_reducible refine LeO.bind ?_ (fun _ => ?_))
      | exact ih0 _ _ _ _ _ _ _ _ _
      | exact impl_ScriptFor.mono _ _ _ _ _ _ _
      | exact laws_eqFrame.mono _ _ _ _ _ _ _ _ _ _ _
      | exact laws_eqScanS.mono _ _ _
      | exact laws_heldScanS.mono _ _ _
      | exact laws_markFrame.mono _ _ _ _ _ _ _
      | exact laws_markScanS.mono _ _ _
      | exact laws_toFrame.mono _ _ _ _ _ _
      | exact spec_ScriptFor.mono _ _ _ _ _ _ _
      | exact LeO.none _
      | refine LeO.ite ?_ ?_
      | refine LeO.bind ?_ (fun _ => ?_)
theorem laws_FnExactScriptFor.mono : ∀ a0 a1 a2 a3 a4 a5 k, LeO (laws_FnExactScriptFor.f k a0 a1 a2 a3 a4 a5) (laws_FnExactScriptFor.f (k + 1) a0 a1 a2 a3 a4 a5) := by
  intro a0 a1 a2 a3 a4 a5 k
  have ih0 := laws_FnExactScriptFor.mono_l k
  unfold laws_FnExactScriptFor.f
  repeat' first
      | (with_reducible exact ih0 _ _ _ _ _ _ _ _ _)
      | (with_reducible exact impl_ScriptFor.mono _ _ _ _ _ _ _)
      | (with_reducible exact laws_eqFrame.mono _ _ _ _ _ _ _ _ _ _ _)
      | (with_reducible exact laws_eqScanS.mono _ _ _)
      | (with_reducible exact laws_heldScanS.mono _ _ _)
      | (with_reducible exact laws_markFrame.mono _ _ _ _ _ _ _)
      | (with_reducible exact laws_markScanS.mono _ _ _)
      | (with_reducible exact laws_toFrame.mono _ _ _ _ _ _)
      | (with_reducible exact spec_ScriptFor.mono _ _ _ _ _ _ _)
      | (with_reducible exact LeO.refl _)
      | (with_reducible exact LeO.none _)
      | (with_reducible refine LeO.ite ?_ ?_)
      | (with_reducible refine LeO.bind ?_ (fun _ => ?_))
      | exact ih0 _ _ _ _ _ _ _ _ _
      | exact impl_ScriptFor.mono _ _ _ _ _ _ _
      | exact laws_eqFrame.mono _ _ _ _ _ _ _ _ _ _ _
      | exact laws_eqScanS.mono _ _ _
      | exact laws_heldScanS.mono _ _ _
      | exact laws_markFrame.mono _ _ _ _ _ _ _
      | exact laws_markScanS.mono _ _ _
      | exact laws_toFrame.mono _ _ _ _ _ _
      | exact spec_ScriptFor.mono _ _ _ _ _ _ _
      | exact LeO.none _
      | refine LeO.ite ?_ ?_
      | refine LeO.bind ?_ (fun _ => ?_)
set_option maxHeartbeats 8000000 in
set_option maxRecDepth 100000 in
theorem laws_FnExactScriptFor.calls (k : Nat) (a0_0 : Int) (a0_1 : Int) (a0_2 : Int) (a0_3 : Int) (A0_4 : Option Addr) (c0_4 : Nat) (l0_4 : List (S130)) (a1 : Int) (r : Bool) (w : World) (hr0_4 : Kd.C k130 w A0_4 l0_4.length l0_4) (hc0_4 : l0_4.length ≤ c0_4) (HTRUE_ : Aside0 (r = true)) (h : laws_FnExactScriptFor.f k a0_0 a0_1 a0_2 a0_3 l0_4 a1 = some r) :
    Calls Try.prog 10 #[.agg #[.int .i64 a0_0, .int .i64 a0_1, .int .i64 a0_2, .int .i64 a0_3, .slice A0_4 l0_4.length c0_4], .int .i64 a1] w fun e w' => e = .returned (.bool r) ∧ Below w.heap.size w w' := by
  have hu55 := Try.underlying55
  have hu45 := Try.underlying45
  have HR0_4 := Aside0.mk hr0_4
  have HC0_4 := Aside0.mk hc0_4
  clear hr0_4 hc0_4
  have HB := Aside0.mk (Below.refl w.heap.size w)
  have H : ((laws_szFrame.f a0_0 a0_1 a0_2 a0_3 l0_4 1048576).bind fun t252 => (if t252 < 0 then (some true) else ((laws_toFrame.f k a0_0 a0_1 a0_2 a0_3 l0_4).bind fun bt253 => ((spec_ScriptFor.f k bt253.1 bt253.2.1 bt253.2.2.1 bt253.2.2.2.1 bt253.2.2.2.2 a1).bind fun t260 => ((laws_toFrame.f k a0_0 a0_1 a0_2 a0_3 l0_4).bind fun bt263 => ((impl_ScriptFor.f k bt263.1 bt263.2.1 bt263.2.2.1 bt263.2.2.2.1 bt263.2.2.2.2 a1).bind fun t271 => ((laws_eqScanS.f k t271 t260).bind fun t274 => (if t274 = true then ((laws_toFrame.f k a0_0 a0_1 a0_2 a0_3 l0_4).bind fun bt275 => ((laws_eqFrame.f k bt263.1 bt263.2.1 bt263.2.2.1 bt263.2.2.2.1 bt263.2.2.2.2 bt275.1 bt275.2.1 bt275.2.2.1 bt275.2.2.2.1 bt275.2.2.2.2).bind fun t282 => (if t282 = true then ((laws_markFrame.f k bt263.1 bt263.2.1 bt263.2.2.1 bt263.2.2.2.1 bt263.2.2.2.2 1).bind fun bt283 => (if bt283.1 < 0 then (laws_FnExactScriptFor.j0 k a1 t260 t271 true a0_0 a0_1 a0_2 a0_3 l0_4) else ((laws_eqScanS.f k t271 t260).bind fun t285 => (laws_FnExactScriptFor.j0 k a1 t260 t271 (!t285) a0_0 a0_1 a0_2 a0_3 l0_4)))) else (some false)))) else (some false))))))))) = some r := h
  clear h
  replace H := Option.bind_eq_some_iff.mp H
  obtain ⟨t252, A30, H⟩ := H
  replace H : (if t252 < 0 then (some true) else ((laws_toFrame.f k a0_0 a0_1 a0_2 a0_3 l0_4).bind fun bt253 => ((spec_ScriptFor.f k bt253.1 bt253.2.1 bt253.2.2.1 bt253.2.2.2.1 bt253.2.2.2.2 a1).bind fun t260 => ((laws_toFrame.f k a0_0 a0_1 a0_2 a0_3 l0_4).bind fun bt263 => ((impl_ScriptFor.f k bt263.1 bt263.2.1 bt263.2.2.1 bt263.2.2.2.1 bt263.2.2.2.2 a1).bind fun t271 => ((laws_eqScanS.f k t271 t260).bind fun t274 => (if t274 = true then ((laws_toFrame.f k a0_0 a0_1 a0_2 a0_3 l0_4).bind fun bt275 => ((laws_eqFrame.f k bt263.1 bt263.2.1 bt263.2.2.1 bt263.2.2.2.1 bt263.2.2.2.2 bt275.1 bt275.2.1 bt275.2.2.1 bt275.2.2.2.1 bt275.2.2.2.2).bind fun t282 => (if t282 = true then ((laws_markFrame.f k bt263.1 bt263.2.1 bt263.2.2.1 bt263.2.2.2.1 bt263.2.2.2.2 1).bind fun bt283 => (if bt283.1 < 0 then (laws_FnExactScriptFor.j0 k a1 t260 t271 true a0_0 a0_1 a0_2 a0_3 l0_4) else ((laws_eqScanS.f k t271 t260).bind fun t285 => (laws_FnExactScriptFor.j0 k a1 t260 t271 (!t285) a0_0 a0_1 a0_2 a0_3 l0_4)))) else (some false)))) else (some false)))))))) = some r := H
  have A3 := Aside0.mk A30
  clear A30
  by_cases c4 : t252 < 0
  · rw [if_pos c4] at H
    have c4b0 : decide (t252 < 0) = true := decide_eq_true c4
    clear c4
    obtain rfl := Option.some.inj H
    go_enter Try.func10, Try.ntmps10
    go_wp2_with (first | ((with_reducible refine gate_dst (N := 2) rfl ?_); refine box_event ?hg (N := 2) ?hd (cs := #[.int .i64 a0_0, .int .i64 a0_1, .int .i64 a0_2, .int .i64 a0_3, .slice A0_4 l0_4.length c0_4]) (t := 55) ?hr ?_; (case hd => rfl); (case hg => rfl); (case hr => first | (go_simp; done) | (go_simp; rfl)); intro gb251 hg w5 hbox hb; have n0_ := Aside0.mk (below_step (by repeat (first | (with_reducible first | exact HB.out | apply below_alloc | apply pw_below_drewN | apply below_drew1) | exact HB.out)) hb); have n1_ := Aside0.mk (hbox); have n2_ := Aside0.mk ((by rw [hg]; exact (below_size (by repeat (first | (with_reducible first | exact HB.out | apply below_alloc | apply pw_below_drewN | apply below_drew1) | exact HB.out))) : w.heap.size ≤ gb251)); have n3_ := Aside0.mk ((by rw [hg]; exact (below_size (by repeat (first | (with_reducible first | exact HB.out | apply below_alloc | apply pw_below_drewN | apply below_drew1) | exact HB.out))) : w.heap.size ≤ gb251)); clear HB; have HB := n0_; have BK251 := n1_; have GW251 := n2_; have GE251 := n3_; clear n0_ n1_ n2_ n3_; clear hb hbox hg; have hcz6_0 : w5.cell? ⟨gb251, 0, none⟩ = some (.int .i64 a0_0) := (blk_cell BK251.out 0).trans rfl; have hcz6_1 : w5.cell? ⟨gb251, 1, none⟩ = some (.int .i64 a0_1) := (blk_cell BK251.out 1).trans rfl; have hcz6_2 : w5.cell? ⟨gb251, 2, none⟩ = some (.int .i64 a0_2) := (blk_cell BK251.out 2).trans rfl; have hcz6_3 : w5.cell? ⟨gb251, 3, none⟩ = some (.int .i64 a0_3) := (blk_cell BK251.out 3).trans rfl; have hcz6_4 : w5.cell? ⟨gb251, 4, none⟩ = some (.slice A0_4 l0_4.length c0_4) := (blk_cell BK251.out 4).trans rfl; have hfz6_0 := blk_frozen BK251.out 0; have hfz6_1 := blk_frozen BK251.out 1; have hfz6_2 := blk_frozen BK251.out 2; have hfz6_3 := blk_frozen BK251.out 3; have hfz6_4 := blk_frozen BK251.out 4) | ((with_reducible refine gate_callee (f := 39) rfl ?_); refine goesL_ (some 15) rfl rfl Try.func39 (by kernel_rfl) rfl #[.agg #[.int .i64 a0_0, .int .i64 a0_1, .int .i64 a0_2, .int .i64 a0_3, .slice A0_4 l0_4.length c0_4], .int .i64 1048576] rfl (by (try simp only [List.map_toArray, List.map_cons, List.map_nil]); first | done | rfl | (simp only [List.length_drop, List.length_take]; rfl)) ?_; (with_reducible refine (laws_szFrame.calls a0_0 a0_1 a0_2 a0_3 _ _ l0_4 1048576 t252 _ ?side1 ?side2 A3.out).mono ?_); (case side1 => repeat (first | exact (Kd.C_below HR0_4.out HB.out) | (with_reducible refine Kd.C_alloc ?_ _) | (with_reducible refine Kd.C_drewN ?_ _) | (with_reducible refine Kd.C_drew ?_))); (case side2 => exact HC0_4.out); rintro e w7 ⟨rfl, hb⟩; refine ⟨_, rfl, ?_⟩; have n0_ := Aside0.mk (blk_below (g := gb251) (o := .cells #[.int .i64 a0_0, .int .i64 a0_1, .int .i64 a0_2, .int .i64 a0_3, .slice A0_4 l0_4.length c0_4] 55 (0, 0)) (by (with_reducible repeat (first | refine blk_drewN ?_ _ | refine blk_drew ?_ | refine blk_alloc ?_ _)); exact BK251.out) hb); have n1_ := Aside0.mk (below_step (by repeat (first | (with_reducible first | exact HB.out | apply below_alloc | apply pw_below_drewN | apply below_drew1 | refine below_set ?_ GE251.out) | exact HB.out)) hb); clear BK251; clear HB; have BK251 := n0_; have HB := n1_; clear n0_ n1_; (try clear hb); (try clear hb2); (try clear hk); (try clear hi)))
    go_ret
    exact ⟨by first | rfl | (simp [errW_none, errW_some] <;> rfl) | (simp [*, errW_none, errW_some] <;> rfl), by repeat (first | (with_reducible first | exact HB.out | apply below_alloc | apply pw_below_drewN | apply below_drew1 | refine below_set ?_ GE251.out) | exact HB.out)⟩
  · rw [if_neg c4] at H
    have c4b0 : decide (t252 < 0) = false := decide_eq_false c4
    clear c4
    replace H := Option.bind_eq_some_iff.mp H
    obtain ⟨⟨t253, t254, t255, t256, t257⟩, A80, H⟩ := H
    replace H : ((spec_ScriptFor.f k t253 t254 t255 t256 t257 a1).bind fun t260 => ((laws_toFrame.f k a0_0 a0_1 a0_2 a0_3 l0_4).bind fun bt263 => ((impl_ScriptFor.f k bt263.1 bt263.2.1 bt263.2.2.1 bt263.2.2.2.1 bt263.2.2.2.2 a1).bind fun t271 => ((laws_eqScanS.f k t271 t260).bind fun t274 => (if t274 = true then ((laws_toFrame.f k a0_0 a0_1 a0_2 a0_3 l0_4).bind fun bt275 => ((laws_eqFrame.f k bt263.1 bt263.2.1 bt263.2.2.1 bt263.2.2.2.1 bt263.2.2.2.2 bt275.1 bt275.2.1 bt275.2.2.1 bt275.2.2.2.1 bt275.2.2.2.2).bind fun t282 => (if t282 = true then ((laws_markFrame.f k bt263.1 bt263.2.1 bt263.2.2.1 bt263.2.2.2.1 bt263.2.2.2.2 1).bind fun bt283 => (if bt283.1 < 0 then (laws_FnExactScriptFor.j0 k a1 t260 t271 true a0_0 a0_1 a0_2 a0_3 l0_4) else ((laws_eqScanS.f k t271 t260).bind fun t285 => (laws_FnExactScriptFor.j0 k a1 t260 t271 (!t285) a0_0 a0_1 a0_2 a0_3 l0_4)))) else (some false)))) else (some false)))))) = some r := H
    have A8 := Aside0.mk A80
    clear A80
    replace H := Option.bind_eq_some_iff.mp H
    obtain ⟨t260, A90, H⟩ := H
    replace H : ((laws_toFrame.f k a0_0 a0_1 a0_2 a0_3 l0_4).bind fun bt263 => ((impl_ScriptFor.f k bt263.1 bt263.2.1 bt263.2.2.1 bt263.2.2.2.1 bt263.2.2.2.2 a1).bind fun t271 => ((laws_eqScanS.f k t271 t260).bind fun t274 => (if t274 = true then ((laws_toFrame.f k a0_0 a0_1 a0_2 a0_3 l0_4).bind fun bt275 => ((laws_eqFrame.f k bt263.1 bt263.2.1 bt263.2.2.1 bt263.2.2.2.1 bt263.2.2.2.2 bt275.1 bt275.2.1 bt275.2.2.1 bt275.2.2.2.1 bt275.2.2.2.2).bind fun t282 => (if t282 = true then ((laws_markFrame.f k bt263.1 bt263.2.1 bt263.2.2.1 bt263.2.2.2.1 bt263.2.2.2.2 1).bind fun bt283 => (if bt283.1 < 0 then (laws_FnExactScriptFor.j0 k a1 t260 t271 true a0_0 a0_1 a0_2 a0_3 l0_4) else ((laws_eqScanS.f k t271 t260).bind fun t285 => (laws_FnExactScriptFor.j0 k a1 t260 t271 (!t285) a0_0 a0_1 a0_2 a0_3 l0_4)))) else (some false)))) else (some false))))) = some r := H
    have A9 := Aside0.mk A90
    clear A90
    replace H := Option.bind_eq_some_iff.mp H
    obtain ⟨⟨t263, t264, t265, t266, t267⟩, A100, H⟩ := H
    replace H : ((impl_ScriptFor.f k t263 t264 t265 t266 t267 a1).bind fun t271 => ((laws_eqScanS.f k t271 t260).bind fun t274 => (if t274 = true then ((laws_toFrame.f k a0_0 a0_1 a0_2 a0_3 l0_4).bind fun bt275 => ((laws_eqFrame.f k t263 t264 t265 t266 t267 bt275.1 bt275.2.1 bt275.2.2.1 bt275.2.2.2.1 bt275.2.2.2.2).bind fun t282 => (if t282 = true then ((laws_markFrame.f k t263 t264 t265 t266 t267 1).bind fun bt283 => (if bt283.1 < 0 then (laws_FnExactScriptFor.j0 k a1 t260 t271 true a0_0 a0_1 a0_2 a0_3 l0_4) else ((laws_eqScanS.f k t271 t260).bind fun t285 => (laws_FnExactScriptFor.j0 k a1 t260 t271 (!t285) a0_0 a0_1 a0_2 a0_3 l0_4)))) else (some false)))) else (some false)))) = some r := H
    have A10 := Aside0.mk A100
    clear A100
    replace H := Option.bind_eq_some_iff.mp H
    obtain ⟨t271, A110, H⟩ := H
    replace H : ((laws_eqScanS.f k t271 t260).bind fun t274 => (if t274 = true then ((laws_toFrame.f k a0_0 a0_1 a0_2 a0_3 l0_4).bind fun bt275 => ((laws_eqFrame.f k t263 t264 t265 t266 t267 bt275.1 bt275.2.1 bt275.2.2.1 bt275.2.2.2.1 bt275.2.2.2.2).bind fun t282 => (if t282 = true then ((laws_markFrame.f k t263 t264 t265 t266 t267 1).bind fun bt283 => (if bt283.1 < 0 then (laws_FnExactScriptFor.j0 k a1 t260 t271 true a0_0 a0_1 a0_2 a0_3 l0_4) else ((laws_eqScanS.f k t271 t260).bind fun t285 => (laws_FnExactScriptFor.j0 k a1 t260 t271 (!t285) a0_0 a0_1 a0_2 a0_3 l0_4)))) else (some false)))) else (some false))) = some r := H
    have A11 := Aside0.mk A110
    clear A110
    replace H := Option.bind_eq_some_iff.mp H
    obtain ⟨t274, A120, H⟩ := H
    replace H : (if t274 = true then ((laws_toFrame.f k a0_0 a0_1 a0_2 a0_3 l0_4).bind fun bt275 => ((laws_eqFrame.f k t263 t264 t265 t266 t267 bt275.1 bt275.2.1 bt275.2.2.1 bt275.2.2.2.1 bt275.2.2.2.2).bind fun t282 => (if t282 = true then ((laws_markFrame.f k t263 t264 t265 t266 t267 1).bind fun bt283 => (if bt283.1 < 0 then (laws_FnExactScriptFor.j0 k a1 t260 t271 true a0_0 a0_1 a0_2 a0_3 l0_4) else ((laws_eqScanS.f k t271 t260).bind fun t285 => (laws_FnExactScriptFor.j0 k a1 t260 t271 (!t285) a0_0 a0_1 a0_2 a0_3 l0_4)))) else (some false)))) else (some false)) = some r := H
    have A12 := Aside0.mk A120
    clear A120
    by_cases c13 : t274 = true
    · subst c13
      have H1 : ((laws_toFrame.f k a0_0 a0_1 a0_2 a0_3 l0_4).bind fun bt275 => ((laws_eqFrame.f k t263 t264 t265 t266 t267 bt275.1 bt275.2.1 bt275.2.2.1 bt275.2.2.2.1 bt275.2.2.2.2).bind fun t282 => (if t282 = true then ((laws_markFrame.f k t263 t264 t265 t266 t267 1).bind fun bt283 => (if bt283.1 < 0 then (laws_FnExactScriptFor.j0 k a1 t260 t271 true a0_0 a0_1 a0_2 a0_3 l0_4) else ((laws_eqScanS.f k t271 t260).bind fun t285 => (laws_FnExactScriptFor.j0 k a1 t260 t271 (!t285) a0_0 a0_1 a0_2 a0_3 l0_4)))) else (some false)))) = some r := by rw [if_pos rfl] at H; exact H
      clear H
      have H := H1
      clear H1
      replace H := Option.bind_eq_some_iff.mp H
      obtain ⟨⟨t275, t276, t277, t278, t279⟩, A140, H⟩ := H
      replace H : ((laws_eqFrame.f k t263 t264 t265 t266 t267 t275 t276 t277 t278 t279).bind fun t282 => (if t282 = true then ((laws_markFrame.f k t263 t264 t265 t266 t267 1).bind fun bt283 => (if bt283.1 < 0 then (laws_FnExactScriptFor.j0 k a1 t260 t271 true a0_0 a0_1 a0_2 a0_3 l0_4) else ((laws_eqScanS.f k t271 t260).bind fun t285 => (laws_FnExactScriptFor.j0 k a1 t260 t271 (!t285) a0_0 a0_1 a0_2 a0_3 l0_4)))) else (some false))) = some r := H
      have A14 := Aside0.mk A140
      clear A140
      replace H := Option.bind_eq_some_iff.mp H
      obtain ⟨t282, A150, H⟩ := H
      replace H : (if t282 = true then ((laws_markFrame.f k t263 t264 t265 t266 t267 1).bind fun bt283 => (if bt283.1 < 0 then (laws_FnExactScriptFor.j0 k a1 t260 t271 true a0_0 a0_1 a0_2 a0_3 l0_4) else ((laws_eqScanS.f k t271 t260).bind fun t285 => (laws_FnExactScriptFor.j0 k a1 t260 t271 (!t285) a0_0 a0_1 a0_2 a0_3 l0_4)))) else (some false)) = some r := H
      have A15 := Aside0.mk A150
      clear A150
      by_cases c16 : t282 = true
      · subst c16
        have H1 : ((laws_markFrame.f k t263 t264 t265 t266 t267 1).bind fun bt283 => (if bt283.1 < 0 then (laws_FnExactScriptFor.j0 k a1 t260 t271 true a0_0 a0_1 a0_2 a0_3 l0_4) else ((laws_eqScanS.f k t271 t260).bind fun t285 => (laws_FnExactScriptFor.j0 k a1 t260 t271 (!t285) a0_0 a0_1 a0_2 a0_3 l0_4)))) = some r := by rw [if_pos rfl] at H; exact H
        clear H
        have H := H1
        clear H1
        replace H := Option.bind_eq_some_iff.mp H
        obtain ⟨⟨t283, t284⟩, A170, H⟩ := H
        replace H : (if t283 < 0 then (laws_FnExactScriptFor.j0 k a1 t260 t271 true a0_0 a0_1 a0_2 a0_3 l0_4) else ((laws_eqScanS.f k t271 t260).bind fun t285 => (laws_FnExactScriptFor.j0 k a1 t260 t271 (!t285) a0_0 a0_1 a0_2 a0_3 l0_4))) = some r := H
        have A17 := Aside0.mk A170
        clear A170
        have HC18 := Aside0.mk H
        clear H
        go_enter Try.func10, Try.ntmps10
        try go_wp2_with (first | ((with_reducible refine gate_dst (N := 2) rfl ?_); refine box_event ?hg (N := 2) ?hd (cs := #[.int .i64 a0_0, .int .i64 a0_1, .int .i64 a0_2, .int .i64 a0_3, .slice A0_4 l0_4.length c0_4]) (t := 55) ?hr ?_; (case hd => rfl); (case hg => rfl); (case hr => first | (go_simp; done) | (go_simp; rfl)); intro gb251 hg w19 hbox hb; have n0_ := Aside0.mk (below_step (by repeat (first | (with_reducible first | exact HB.out | apply below_alloc | apply pw_below_drewN | apply below_drew1) | exact HB.out)) hb); have n1_ := Aside0.mk (hbox); have n2_ := Aside0.mk ((by rw [hg]; exact (below_size (by repeat (first | (with_reducible first | exact HB.out | apply below_alloc | apply pw_below_drewN | apply below_drew1) | exact HB.out))) : w.heap.size ≤ gb251)); have n3_ := Aside0.mk ((by rw [hg]; exact (below_size (by repeat (first | (with_reducible first | exact HB.out | apply below_alloc | apply pw_below_drewN | apply below_drew1) | exact HB.out))) : w.heap.size ≤ gb251)); clear HB; have HB := n0_; have BK251 := n1_; have GW251 := n2_; have GE251 := n3_; clear n0_ n1_ n2_ n3_; clear hb hbox hg; have hcz20_0 : w19.cell? ⟨gb251, 0, none⟩ = some (.int .i64 a0_0) := (blk_cell BK251.out 0).trans rfl; have hcz20_1 : w19.cell? ⟨gb251, 1, none⟩ = some (.int .i64 a0_1) := (blk_cell BK251.out 1).trans rfl; have hcz20_2 : w19.cell? ⟨gb251, 2, none⟩ = some (.int .i64 a0_2) := (blk_cell BK251.out 2).trans rfl; have hcz20_3 : w19.cell? ⟨gb251, 3, none⟩ = some (.int .i64 a0_3) := (blk_cell BK251.out 3).trans rfl; have hcz20_4 : w19.cell? ⟨gb251, 4, none⟩ = some (.slice A0_4 l0_4.length c0_4) := (blk_cell BK251.out 4).trans rfl; have hfz20_0 := blk_frozen BK251.out 0; have hfz20_1 := blk_frozen BK251.out 1; have hfz20_2 := blk_frozen BK251.out 2; have hfz20_3 := blk_frozen BK251.out 3; have hfz20_4 := blk_frozen BK251.out 4) | ((with_reducible refine gate_callee (f := 39) rfl ?_); refine goesL_ (some 15) rfl rfl Try.func39 (by kernel_rfl) rfl #[.agg #[.int .i64 a0_0, .int .i64 a0_1, .int .i64 a0_2, .int .i64 a0_3, .slice A0_4 l0_4.length c0_4], .int .i64 1048576] rfl (by (try simp only [List.map_toArray, List.map_cons, List.map_nil]); first | done | rfl | (simp only [List.length_drop, List.length_take]; rfl)) ?_; (with_reducible refine (laws_szFrame.calls a0_0 a0_1 a0_2 a0_3 _ _ l0_4 1048576 t252 _ ?side1 ?side2 A3.out).mono ?_); (case side1 => repeat (first | exact (Kd.C_below HR0_4.out HB.out) | (with_reducible refine Kd.C_alloc ?_ _) | (with_reducible refine Kd.C_drewN ?_ _) | (with_reducible refine Kd.C_drew ?_))); (case side2 => exact HC0_4.out); rintro e w21 ⟨rfl, hb⟩; refine ⟨_, rfl, ?_⟩; have n0_ := Aside0.mk (blk_below (g := gb251) (o := .cells #[.int .i64 a0_0, .int .i64 a0_1, .int .i64 a0_2, .int .i64 a0_3, .slice A0_4 l0_4.length c0_4] 55 (0, 0)) (by (with_reducible repeat (first | refine blk_drewN ?_ _ | refine blk_drew ?_ | refine blk_alloc ?_ _)); exact BK251.out) hb); have n1_ := Aside0.mk (below_step (by repeat (first | (with_reducible first | exact HB.out | apply below_alloc | apply pw_below_drewN | apply below_drew1 | refine below_set ?_ GE251.out) | exact HB.out)) hb); clear BK251; clear HB; have BK251 := n0_; have HB := n1_; clear n0_ n1_; (try clear hb); (try clear hb2); (try clear hk); (try clear hi); have hcz22_0 : w21.cell? ⟨gb251, 0, none⟩ = some (.int .i64 a0_0) := (blk_cell BK251.out 0).trans rfl; have hcz22_1 : w21.cell? ⟨gb251, 1, none⟩ = some (.int .i64 a0_1) := (blk_cell BK251.out 1).trans rfl; have hcz22_2 : w21.cell? ⟨gb251, 2, none⟩ = some (.int .i64 a0_2) := (blk_cell BK251.out 2).trans rfl; have hcz22_3 : w21.cell? ⟨gb251, 3, none⟩ = some (.int .i64 a0_3) := (blk_cell BK251.out 3).trans rfl; have hcz22_4 : w21.cell? ⟨gb251, 4, none⟩ = some (.slice A0_4 l0_4.length c0_4) := (blk_cell BK251.out 4).trans rfl; have hfz22_0 := blk_frozen BK251.out 0; have hfz22_1 := blk_frozen BK251.out 1; have hfz22_2 := blk_frozen BK251.out 2; have hfz22_3 := blk_frozen BK251.out 3; have hfz22_4 := blk_frozen BK251.out 4) | ((with_reducible refine gate_callee (f := 41) rfl ?_); refine goesL_ (some 19) rfl rfl Try.func41 (by kernel_rfl) rfl #[.agg #[.int .i64 a0_0, .int .i64 a0_1, .int .i64 a0_2, .int .i64 a0_3, .slice A0_4 l0_4.length c0_4]] rfl (by (try simp only [List.map_toArray, List.map_cons, List.map_nil]); first | done | rfl | (simp only [List.length_drop, List.length_take]; rfl)) ?_; (with_reducible refine (laws_toFrame.calls k a0_0 a0_1 a0_2 a0_3 _ _ l0_4 t253 t254 t255 t256 t257 _ ?side1 ?side2 A8.out).mono ?_); (case side1 => repeat (first | exact (Kd.C_below HR0_4.out HB.out) | (with_reducible refine Kd.C_alloc ?_ _) | (with_reducible refine Kd.C_drewN ?_ _) | (with_reducible refine Kd.C_drew ?_))); (case side2 => exact HC0_4.out); rintro e w23 ⟨v258, rfl, ho0, hb⟩; refine ⟨_, rfl, ?_⟩; have n0_ := Aside0.mk (Kd.R_lower ho0 (below_size (by repeat (first | (with_reducible first | exact HB.out | apply below_alloc | apply pw_below_drewN | apply below_drew1 | refine below_set ?_ GE251.out) | exact HB.out)))); have n1_ := Aside0.mk (blk_below (g := gb251) (o := .cells #[.int .i64 a0_0, .int .i64 a0_1, .int .i64 a0_2, .int .i64 a0_3, .slice A0_4 l0_4.length c0_4] 55 (0, 0)) (by (with_reducible repeat (first | refine blk_drewN ?_ _ | refine blk_drew ?_ | refine blk_alloc ?_ _)); exact BK251.out) hb); have n2_ := Aside0.mk (below_step (by repeat (first | (with_reducible first | exact HB.out | apply below_alloc | apply pw_below_drewN | apply below_drew1 | refine below_set ?_ GE251.out) | exact HB.out)) hb); clear BK251; clear HB; have HO259 := n0_; have BK251 := n1_; have HB := n2_; clear n0_ n1_ n2_; (try clear hb); (try clear hb2); (try clear hk); (try clear hi); (try clear ho0); obtain ⟨Ao24, co24, eo24⟩ := Kd.R_slice HO259.out; subst eo24) | ((with_reducible refine gate_callee (f := 33) rfl ?_); refine goesL_ (some 21) rfl rfl Try.func33 (by kernel_rfl) rfl #[.agg #[.int .i64 t253, .int .i64 t254, .int .i64 t255, .int .i64 t256, .slice Ao24 t257.length co24], .int .i64 a1] rfl (by (try simp only [List.map_toArray, List.map_cons, List.map_nil]); first | done | rfl | (simp only [List.length_drop, List.length_take]; rfl)) ?_; (with_reducible refine (spec_ScriptFor.calls k t253 t254 t255 t256 _ _ t257 a1 t260 _ ?side1 ?side2 A9.out).mono ?_); (case side1 => repeat (first | exact (Kd.R_reads' HO259.out).2.2 | (with_reducible refine Kd.C_alloc ?_ _) | (with_reducible refine Kd.C_drewN ?_ _) | (with_reducible refine Kd.C_drew ?_))); (case side2 => exact (Kd.R_reads' HO259.out).2.1); rintro e w25 ⟨v261, rfl, ho0, hb⟩; refine ⟨_, rfl, ?_⟩; have n0_ := Aside0.mk (Kd.R_below (by (with_reducible repeat (first | apply Kd.R_alloc | apply Kd.R_drewN | apply Kd.R_drew)); exact HO259.out) hb); have n1_ := Aside0.mk (Kd.N_lower (Kd.N_mono (ok' := fun k_ => some k_ ≠ (.slice Ao24 t257.length co24 : Value).ownBlock ∧ k_ ≠ gb251) ho0 (fun k_ hk_ => ⟨(Kd.fresh' (Kd.R_lt (by (with_reducible repeat (first | apply Kd.R_alloc | apply Kd.R_drewN | apply Kd.R_drew)); exact HO259.out)) k_ hk_), (Kd.freshB (g := gb251) (o := .cells #[.int .i64 a0_0, .int .i64 a0_1, .int .i64 a0_2, .int .i64 a0_3, .slice A0_4 l0_4.length c0_4] 55 (0, 0)) (by (with_reducible repeat (first | refine blk_drewN ?_ _ | refine blk_drew ?_ | refine blk_alloc ?_ _)); exact BK251.out) k_ hk_)⟩)) (below_size (by repeat (first | (with_reducible first | exact HB.out | apply below_alloc | apply pw_below_drewN | apply below_drew1 | refine below_set ?_ GE251.out) | exact HB.out)))); have n2_ := Aside0.mk (blk_below (g := gb251) (o := .cells #[.int .i64 a0_0, .int .i64 a0_1, .int .i64 a0_2, .int .i64 a0_3, .slice A0_4 l0_4.length c0_4] 55 (0, 0)) (by (with_reducible repeat (first | refine blk_drewN ?_ _ | refine blk_drew ?_ | refine blk_alloc ?_ _)); exact BK251.out) hb); have n3_ := Aside0.mk (below_step (by repeat (first | (with_reducible first | exact HB.out | apply below_alloc | apply pw_below_drewN | apply below_drew1 | refine below_set ?_ GE251.out) | exact HB.out)) hb); clear HO259; clear BK251; clear HB; have HO259 := n0_; have HO262 := n1_; have BK251 := n2_; have HB := n3_; clear n0_ n1_ n2_ n3_; (try clear hb); (try clear hb2); (try clear hk); (try clear hi); (try clear ho0); have hcz26_0 : w25.cell? ⟨gb251, 0, none⟩ = some (.int .i64 a0_0) := (blk_cell BK251.out 0).trans rfl; have hcz26_1 : w25.cell? ⟨gb251, 1, none⟩ = some (.int .i64 a0_1) := (blk_cell BK251.out 1).trans rfl; have hcz26_2 : w25.cell? ⟨gb251, 2, none⟩ = some (.int .i64 a0_2) := (blk_cell BK251.out 2).trans rfl; have hcz26_3 : w25.cell? ⟨gb251, 3, none⟩ = some (.int .i64 a0_3) := (blk_cell BK251.out 3).trans rfl; have hcz26_4 : w25.cell? ⟨gb251, 4, none⟩ = some (.slice A0_4 l0_4.length c0_4) := (blk_cell BK251.out 4).trans rfl; have hfz26_0 := blk_frozen BK251.out 0; have hfz26_1 := blk_frozen BK251.out 1; have hfz26_2 := blk_frozen BK251.out 2; have hfz26_3 := blk_frozen BK251.out 3; have hfz26_4 := blk_frozen BK251.out 4) | ((with_reducible refine gate_callee (f := 41) rfl ?_); refine goesL_ (some 23) rfl rfl Try.func41 (by kernel_rfl) rfl #[.agg #[.int .i64 a0_0, .int .i64 a0_1, .int .i64 a0_2, .int .i64 a0_3, .slice A0_4 l0_4.length c0_4]] rfl (by (try simp only [List.map_toArray, List.map_cons, List.map_nil]); first | done | rfl | (simp only [List.length_drop, List.length_take]; rfl)) ?_; (with_reducible refine (laws_toFrame.calls k a0_0 a0_1 a0_2 a0_3 _ _ l0_4 t263 t264 t265 t266 t267 _ ?side1 ?side2 A10.out).mono ?_); (case side1 => repeat (first | exact (Kd.C_below HR0_4.out HB.out) | (with_reducible refine Kd.C_alloc ?_ _) | (with_reducible refine Kd.C_drewN ?_ _) | (with_reducible refine Kd.C_drew ?_))); (case side2 => exact HC0_4.out); rintro e w27 ⟨v268, rfl, ho0, hb⟩; refine ⟨_, rfl, ?_⟩; have n0_ := Aside0.mk (Kd.R_elder' (by (with_reducible repeat (first | apply Kd.R_alloc | apply Kd.R_drewN | apply Kd.R_drew)); exact HO259.out) (Kd.R_base ho0) hb); have n1_ := Aside0.mk (Kd.N_elder' (by (with_reducible repeat (first | apply Kd.N_alloc | apply Kd.N_drewN | apply Kd.N_drew)); exact HO262.out) (Kd.R_base ho0) hb); have n2_ := Aside0.mk (Kd.R_lower (Kd.R_new' ho0 (Kd.R_lt (by (with_reducible repeat (first | apply Kd.R_alloc | apply Kd.R_drewN | apply Kd.R_drew)); exact HO259.out))) (below_size (by repeat (first | (with_reducible first | exact HB.out | apply below_alloc | apply pw_below_drewN | apply below_drew1 | refine below_set ?_ GE251.out) | exact HB.out)))); have n3_ := Aside0.mk (blk_below (g := gb251) (o := .cells #[.int .i64 a0_0, .int .i64 a0_1, .int .i64 a0_2, .int .i64 a0_3, .slice A0_4 l0_4.length c0_4] 55 (0, 0)) (by (with_reducible repeat (first | refine blk_drewN ?_ _ | refine blk_drew ?_ | refine blk_alloc ?_ _)); exact BK251.out) hb); have n4_ := Aside0.mk (below_step (by repeat (first | (with_reducible first | exact HB.out | apply below_alloc | apply pw_below_drewN | apply below_drew1 | refine below_set ?_ GE251.out) | exact HB.out)) hb); clear HO259; clear HO262; clear BK251; clear HB; have HO259 := n0_; have HO262 := n1_; have HO269 := n2_; have BK251 := n3_; have HB := n4_; clear n0_ n1_ n2_ n3_ n4_; (try clear hb); (try clear hb2); (try clear hk); (try clear hi); (try clear ho0)) | ((with_reducible refine gate_dst (N := 7) rfl ?_); refine box_event ?hg (N := 7) ?hd (cs := #[.int .i64 0, .int .i64 0, .int .i64 0, .int .i64 0, .slice none 0 0]) (t := 45) ?hr ?_; (case hd => rfl); (case hg => rfl); (case hr => first | (go_simp; done) | (go_simp; rfl)); intro gb270 hg w28 hbox hb; have n0_ := Aside0.mk (Kd.R_below (by (with_reducible repeat (first | apply Kd.R_alloc | apply Kd.R_drewN | apply Kd.R_drew)); exact HO259.out) hb); have n1_ := Aside0.mk (Kd.N_below (Kd.N_elderB (by (with_reducible repeat (first | apply Kd.N_alloc | apply Kd.N_drewN | apply Kd.N_drew)); exact HO262.out) gb270 (Nat.le_of_eq hg.symm)) hb); have n2_ := Aside0.mk (Kd.R_below (by (with_reducible repeat (first | apply Kd.R_alloc | apply Kd.R_drewN | apply Kd.R_drew)); exact HO269.out) hb); have n3_ := Aside0.mk (blk_below (g := gb251) (o := .cells #[.int .i64 a0_0, .int .i64 a0_1, .int .i64 a0_2, .int .i64 a0_3, .slice A0_4 l0_4.length c0_4] 55 (0, 0)) (by (with_reducible repeat (first | refine blk_drewN ?_ _ | refine blk_drew ?_ | refine blk_alloc ?_ _)); exact BK251.out) hb); have n4_ := Aside0.mk (below_step (by repeat (first | (with_reducible first | exact HB.out | apply below_alloc | apply pw_below_drewN | apply below_drew1 | refine below_set ?_ GE251.out) | exact HB.out)) hb); have n5_ := Aside0.mk (hbox); have n6_ := Aside0.mk ((by rw [hg]; exact (below_size (by repeat (first | (with_reducible first | exact HB.out | apply below_alloc | apply pw_below_drewN | apply below_drew1 | refine below_set ?_ GE251.out) | exact HB.out))) : w.heap.size ≤ gb270)); have n7_ := Aside0.mk ((by rw [hg]; exact (below_size (by repeat (first | (with_reducible first | exact HB.out | apply below_alloc | apply pw_below_drewN | apply below_drew1 | refine below_set ?_ GE251.out) | exact HB.out))) : w.heap.size ≤ gb270)); have n8_ := Aside0.mk ((by rw [hg]; exact Nat.ne_of_lt (blk_lt (g := gb251) (o := .cells #[.int .i64 a0_0, .int .i64 a0_1, .int .i64 a0_2, .int .i64 a0_3, .slice A0_4 l0_4.length c0_4] 55 (0, 0)) (by (with_reducible repeat (first | refine blk_drewN ?_ _ | refine blk_drew ?_ | refine blk_alloc ?_ _)); exact BK251.out)) : gb251 ≠ gb270)); have n9_ := Aside0.mk ((by rw [hg]; exact Nat.ne_of_gt (blk_lt (g := gb251) (o := .cells #[.int .i64 a0_0, .int .i64 a0_1, .int .i64 a0_2, .int .i64 a0_3, .slice A0_4 l0_4.length c0_4] 55 (0, 0)) (by (with_reducible repeat (first | refine blk_drewN ?_ _ | refine blk_drew ?_ | refine blk_alloc ?_ _)); exact BK251.out)) : gb270 ≠ gb251)); clear HO259; clear HO262; clear HO269; clear BK251; clear HB; have HO259 := n0_; have HO262 := n1_; have HO269 := n2_; have BK251 := n3_; have HB := n4_; have BK270 := n5_; have GW270 := n6_; have GE270 := n7_; have NB251_270 := n8_; have NB270_251 := n9_; clear n0_ n1_ n2_ n3_ n4_ n5_ n6_ n7_ n8_ n9_; clear hb hbox hg; have hnb29 := NB270_251.out; have hnc29 := NB251_270.out; have hcz30_0 : w28.cell? ⟨gb270, 0, none⟩ = some (.int .i64 0) := (blk_cell BK270.out 0).trans rfl; have hcz30_1 : w28.cell? ⟨gb270, 1, none⟩ = some (.int .i64 0) := (blk_cell BK270.out 1).trans rfl; have hcz30_2 : w28.cell? ⟨gb270, 2, none⟩ = some (.int .i64 0) := (blk_cell BK270.out 2).trans rfl; have hcz30_3 : w28.cell? ⟨gb270, 3, none⟩ = some (.int .i64 0) := (blk_cell BK270.out 3).trans rfl; have hcz30_4 : w28.cell? ⟨gb270, 4, none⟩ = some (.slice none 0 0) := (blk_cell BK270.out 4).trans rfl; have hfz30_0 := blk_frozen BK270.out 0; have hfz30_1 := blk_frozen BK270.out 1; have hfz30_2 := blk_frozen BK270.out 2; have hfz30_3 := blk_frozen BK270.out 3; have hfz30_4 := blk_frozen BK270.out 4; obtain ⟨Ao31, co31, eo31⟩ := Kd.R_slice HO269.out; subst eo31) | ((with_reducible refine gate_callee (f := 50) rfl ?_); refine goesL_ (some 26) rfl rfl Try.func50 (by kernel_rfl) rfl #[.agg #[.int .i64 t263, .int .i64 t264, .int .i64 t265, .int .i64 t266, .slice Ao31 t267.length co31], .int .i64 a1] rfl (by (try simp only [List.map_toArray, List.map_cons, List.map_nil]); first | done | rfl | (simp only [List.length_drop, List.length_take]; rfl)) ?_; (with_reducible refine (impl_ScriptFor.calls k t263 t264 t265 t266 _ _ t267 a1 t271 _ ?side1 ?side2 A11.out).mono ?_); (case side1 => refine (Kd.R_reads' (e := 42) (base := w.heap.size) (ok := fun k_ => (True ∧ some k_ ≠ (.slice Ao24 t257.length co24 : Value).ownBlock)) (n := t267.length) (c := co31) ?_).2.2; exact (by (with_reducible repeat (first | apply Kd.R_alloc | apply Kd.R_drewN | apply Kd.R_drew)); exact (Kd.R_mono (Kd.R_far (p := ⟨gb270, 4, none⟩) (Kd.R_far (p := ⟨gb270, 3, none⟩) (Kd.R_far (p := ⟨gb270, 2, none⟩) (Kd.R_far (p := ⟨gb270, 1, none⟩) (Kd.R_far (p := ⟨gb270, 0, none⟩) (Kd.R_types HO269.out BK270.out (by decide)) (fun _ hk => hk.2) (.int .i64 t263)) (fun _ hk => hk.2) (.int .i64 t264)) (fun _ hk => hk.2) (.int .i64 t265)) (fun _ hk => hk.2) (.int .i64 t266)) (fun _ hk => hk.2) (.slice Ao31 t267.length co31)) (fun _ h_ => h_.1)))); (case side2 => exact (Kd.R_reads' HO269.out).2.1); rintro e w32 ⟨v272, rfl, ho0, hb⟩; refine ⟨_, rfl, ?_⟩; obtain ⟨N_HO273, hN_HO273⟩ := sepN ho0; have n0_ := Aside0.mk (Kd.R_below (by (with_reducible repeat (first | apply Kd.R_alloc | apply Kd.R_drewN | apply Kd.R_drew)); exact (Kd.R_mono (Kd.R_far (p := ⟨gb270, 4, none⟩) (Kd.R_far (p := ⟨gb270, 3, none⟩) (Kd.R_far (p := ⟨gb270, 2, none⟩) (Kd.R_far (p := ⟨gb270, 1, none⟩) (Kd.R_far (p := ⟨gb270, 0, none⟩) (Kd.R_types HO259.out BK270.out (by decide)) (fun _ hk => hk.2) (.int .i64 t263)) (fun _ hk => hk.2) (.int .i64 t264)) (fun _ hk => hk.2) (.int .i64 t265)) (fun _ hk => hk.2) (.int .i64 t266)) (fun _ hk => hk.2) (.slice Ao31 t267.length co31)) (fun _ h_ => h_.1))) hb); have n1_ := Aside0.mk (sepON (by (with_reducible repeat (first | apply Kd.N_alloc | apply Kd.N_drewN | apply Kd.N_drew)); exact (Kd.N_mono (Kd.N_far (p := ⟨gb270, 4, none⟩) (Kd.N_far (p := ⟨gb270, 3, none⟩) (Kd.N_far (p := ⟨gb270, 2, none⟩) (Kd.N_far (p := ⟨gb270, 1, none⟩) (Kd.N_far (p := ⟨gb270, 0, none⟩) (Kd.N_mono HO262.out (fun k_ hk => (⟨hk, hk.2⟩ : _ ∧ k_ ≠ gb270))) (fun _ hk => hk.2) (.int .i64 t263)) (fun _ hk => hk.2) (.int .i64 t264)) (fun _ hk => hk.2) (.int .i64 t265)) (fun _ hk => hk.2) (.int .i64 t266)) (fun _ hk => hk.2) (.slice Ao31 t267.length co31)) (fun _ h_ => h_.1))) hN_HO273 hb); have n2_ := Aside0.mk (Kd.R_below (by (with_reducible repeat (first | apply Kd.R_alloc | apply Kd.R_drewN | apply Kd.R_drew)); exact (Kd.R_mono (Kd.R_far (p := ⟨gb270, 4, none⟩) (Kd.R_far (p := ⟨gb270, 3, none⟩) (Kd.R_far (p := ⟨gb270, 2, none⟩) (Kd.R_far (p := ⟨gb270, 1, none⟩) (Kd.R_far (p := ⟨gb270, 0, none⟩) (Kd.R_types HO269.out BK270.out (by decide)) (fun _ hk => hk.2) (.int .i64 t263)) (fun _ hk => hk.2) (.int .i64 t264)) (fun _ hk => hk.2) (.int .i64 t265)) (fun _ hk => hk.2) (.int .i64 t266)) (fun _ hk => hk.2) (.slice Ao31 t267.length co31)) (fun _ h_ => h_.1))) hb); have n3_ := Aside0.mk (Kd.S_lower (sepW ho0 hN_HO273) (below_size (by repeat (first | (with_reducible first | exact HB.out | apply below_alloc | apply pw_below_drewN | apply below_drew1 | refine below_set ?_ GE251.out | refine below_set ?_ GE270.out) | exact HB.out)))); have n4_ := Aside0.mk (blk_below (g := gb251) (o := .cells #[.int .i64 a0_0, .int .i64 a0_1, .int .i64 a0_2, .int .i64 a0_3, .slice A0_4 l0_4.length c0_4] 55 (0, 0)) (by (with_reducible repeat (first | refine blk_drewN ?_ _ | refine blk_drew ?_ | refine blk_alloc ?_ _)); refine blk_far ?_ NB251_270.out _; (with_reducible repeat (first | refine blk_drewN ?_ _ | refine blk_drew ?_ | refine blk_alloc ?_ _)); refine blk_far ?_ NB251_270.out _; (with_reducible repeat (first | refine blk_drewN ?_ _ | refine blk_drew ?_ | refine blk_alloc ?_ _)); refine blk_far ?_ NB251_270.out _; (with_reducible repeat (first | refine blk_drewN ?_ _ | refine blk_drew ?_ | refine blk_alloc ?_ _)); refine blk_far ?_ NB251_270.out _; (with_reducible repeat (first | refine blk_drewN ?_ _ | refine blk_drew ?_ | refine blk_alloc ?_ _)); refine blk_far ?_ NB251_270.out _; (with_reducible repeat (first | refine blk_drewN ?_ _ | refine blk_drew ?_ | refine blk_alloc ?_ _)); exact BK251.out) hb); have n5_ := Aside0.mk (blk_below (g := gb270) (o := .cells #[.int .i64 t263, .int .i64 t264, .int .i64 t265, .int .i64 t266, .slice Ao31 t267.length co31] 45 (0, 0)) (by (with_reducible repeat (first | refine blk_drewN ?_ _ | refine blk_drew ?_ | refine blk_alloc ?_ _)); refine blk_put (cs := #[.int .i64 t263, .int .i64 t264, .int .i64 t265, .int .i64 t266, .slice none 0 0]) ?_ 4 _ rfl; (with_reducible repeat (first | refine blk_drewN ?_ _ | refine blk_drew ?_ | refine blk_alloc ?_ _)); refine blk_put (cs := #[.int .i64 t263, .int .i64 t264, .int .i64 t265, .int .i64 0, .slice none 0 0]) ?_ 3 _ rfl; (with_reducible repeat (first | refine blk_drewN ?_ _ | refine blk_drew ?_ | refine blk_alloc ?_ _)); refine blk_put (cs := #[.int .i64 t263, .int .i64 t264, .int .i64 0, .int .i64 0, .slice none 0 0]) ?_ 2 _ rfl; (with_reducible repeat (first | refine blk_drewN ?_ _ | refine blk_drew ?_ | refine blk_alloc ?_ _)); refine blk_put (cs := #[.int .i64 t263, .int .i64 0, .int .i64 0, .int .i64 0, .slice none 0 0]) ?_ 1 _ rfl; (with_reducible repeat (first | refine blk_drewN ?_ _ | refine blk_drew ?_ | refine blk_alloc ?_ _)); refine blk_put (cs := #[.int .i64 0, .int .i64 0, .int .i64 0, .int .i64 0, .slice none 0 0]) ?_ 0 _ rfl; (with_reducible repeat (first | refine blk_drewN ?_ _ | refine blk_drew ?_ | refine blk_alloc ?_ _)); exact BK270.out) hb); have n6_ := Aside0.mk (below_step (by repeat (first | (with_reducible first | exact HB.out | apply below_alloc | apply pw_below_drewN | apply below_drew1 | refine below_set ?_ GE251.out | refine below_set ?_ GE270.out) | exact HB.out)) hb); clear HO259; clear HO262; clear HO269; clear BK251; clear BK270; clear HB; have HO259 := n0_; have HO262 := n1_; have HO269 := n2_; have HO273 := n3_; have BK251 := n4_; have BK270 := n5_; have HB := n6_; clear n0_ n1_ n2_ n3_ n4_ n5_ n6_; (try clear hb); (try clear hb2); (try clear hk); (try clear hi); (try clear ho0); obtain ⟨Ao33, co33, eo33⟩ := Kd.S_slice HO273.out; subst eo33; obtain ⟨Ao34, co34, eo34⟩ := Kd.N_slice HO262.out; subst eo34) | ((with_reducible refine gate_callee (f := 51) rfl ?_); refine goesL_ (some 29) rfl rfl Try.func51 (by kernel_rfl) rfl #[.slice Ao33 t271.length co33, .slice Ao34 t260.length co34] rfl (by (try simp only [List.map_toArray, List.map_cons, List.map_nil]); first | done | rfl | (simp only [List.length_drop, List.length_take]; rfl)) ?_; (with_reducible refine (laws_eqScanS.calls k _ _ t271 _ _ t260 true _ ?side1 ?side2 ?side3 ?side4 A12.out).mono ?_); (case side1 => repeat (first | exact (Kd.S_reads' HO273.out).2.2 | (with_reducible refine Kd.C_alloc ?_ _) | (with_reducible refine Kd.C_drewN ?_ _) | (with_reducible refine Kd.C_drew ?_))); (case side2 => exact (Kd.S_reads' HO273.out).2.1); (case side3 => repeat (first | exact (Kd.N_reads' HO262.out).2.2 | (with_reducible refine Kd.C_alloc ?_ _) | (with_reducible refine Kd.C_drewN ?_ _) | (with_reducible refine Kd.C_drew ?_))); (case side4 => exact (Kd.N_reads' HO262.out).2.1); rintro e w35 ⟨rfl, hb⟩; refine ⟨_, rfl, ?_⟩; have n0_ := Aside0.mk (Kd.R_below (by (with_reducible repeat (first | apply Kd.R_alloc | apply Kd.R_drewN | apply Kd.R_drew)); exact HO259.out) hb); have n1_ := Aside0.mk (Kd.N_below (by (with_reducible repeat (first | apply Kd.N_alloc | apply Kd.N_drewN | apply Kd.N_drew)); exact HO262.out) hb); have n2_ := Aside0.mk (Kd.R_below (by (with_reducible repeat (first | apply Kd.R_alloc | apply Kd.R_drewN | apply Kd.R_drew)); exact HO269.out) hb); have n3_ := Aside0.mk (Kd.S_below (by (with_reducible repeat (first | apply Kd.S_alloc | apply Kd.S_drewN | apply Kd.S_drew)); exact HO273.out) hb); have n4_ := Aside0.mk (blk_below (g := gb251) (o := .cells #[.int .i64 a0_0, .int .i64 a0_1, .int .i64 a0_2, .int .i64 a0_3, .slice A0_4 l0_4.length c0_4] 55 (0, 0)) (by (with_reducible repeat (first | refine blk_drewN ?_ _ | refine blk_drew ?_ | refine blk_alloc ?_ _)); exact BK251.out) hb); have n5_ := Aside0.mk (blk_below (g := gb270) (o := .cells #[.int .i64 t263, .int .i64 t264, .int .i64 t265, .int .i64 t266, .slice Ao31 t267.length co31] 45 (0, 0)) (by (with_reducible repeat (first | refine blk_drewN ?_ _ | refine blk_drew ?_ | refine blk_alloc ?_ _)); exact BK270.out) hb); have n6_ := Aside0.mk (below_step (by repeat (first | (with_reducible first | exact HB.out | apply below_alloc | apply pw_below_drewN | apply below_drew1 | refine below_set ?_ GE251.out | refine below_set ?_ GE270.out) | exact HB.out)) hb); clear HO259; clear HO262; clear HO269; clear HO273; clear BK251; clear BK270; clear HB; have HO259 := n0_; have HO262 := n1_; have HO269 := n2_; have HO273 := n3_; have BK251 := n4_; have BK270 := n5_; have HB := n6_; clear n0_ n1_ n2_ n3_ n4_ n5_ n6_; (try clear hb); (try clear hb2); (try clear hk); (try clear hi)))
        have n0_ := Aside0.mk (Kd.R_drew HO259.out)
        have n1_ := Aside0.mk (Kd.N_drew HO262.out)
        have n2_ := Aside0.mk (Kd.R_drew HO269.out)
        have n3_ := Aside0.mk (Kd.S_drew HO273.out)
        have n4_ := Aside0.mk (blk_drew BK251.out)
        have n5_ := Aside0.mk (blk_drew BK270.out)
        have n6_ := Aside0.mk (below_drew1 HB.out)
        clear HO259
        clear HO262
        clear HO269
        clear HO273
        clear BK251
        clear BK270
        clear HB
        have HO259 := n0_
        have HO262 := n1_
        have HO269 := n2_
        have HO273 := n3_
        have BK251 := n4_
        have BK270 := n5_
        have HB := n6_
        clear n0_ n1_ n2_ n3_ n4_ n5_ n6_
        refine start_ (n := 5) (S := fun w' => w'.cell? ⟨gb270, 0, none⟩ = some (.int .i64 t263) ∧ w'.cell? ⟨gb270, 1, none⟩ = some (.int .i64 t264) ∧ w'.cell? ⟨gb270, 2, none⟩ = some (.int .i64 t265) ∧ w'.cell? ⟨gb270, 3, none⟩ = some (.int .i64 t266) ∧ w'.cell? ⟨gb270, 4, none⟩ = some (.slice Ao31 t267.length co31) ∧ w'.cell? ⟨gb251, 0, none⟩ = some (.int .i64 a0_0) ∧ w'.cell? ⟨gb251, 1, none⟩ = some (.int .i64 a0_1) ∧ w'.cell? ⟨gb251, 2, none⟩ = some (.int .i64 a0_2) ∧ w'.cell? ⟨gb251, 3, none⟩ = some (.int .i64 a0_3) ∧ w'.cell? ⟨gb251, 4, none⟩ = some (.slice A0_4 l0_4.length c0_4)) (ds := []) #[false, false, false, false, false] (by kernel_rfl) rfl rfl ⟨(blk_cell BK270.out 0).trans rfl, (blk_cell BK270.out 1).trans rfl, (blk_cell BK270.out 2).trans rfl, (blk_cell BK270.out 3).trans rfl, (blk_cell BK270.out 4).trans rfl, (blk_cell BK251.out 0).trans rfl, (blk_cell BK251.out 1).trans rfl, (blk_cell BK251.out 2).trans rfl, (blk_cell BK251.out 3).trans rfl, (blk_cell BK251.out 4).trans rfl⟩ (fun hHeld => ?_)
        generalize w35.drew = w36 at HO259 HO262 HO269 HO273 BK251 BK270 HB hHeld ⊢
        refine take_ (i := 0) (N := some 31) (v := ?_) (a' := ?_) #[true, false, false, false, false] rfl rfl (by kernel_rfl) (fun _ _ _ h => h) (Or.inl ⟨by rfl, ?_⟩) hHeld ?_ ?_
        rotate_left
        · rintro w' ⟨s0, s1, s2, s3, s4, s5, s6, s7, s8, s9⟩
          go_simp
          with_reducible rfl
        rotate_left
        · simp only [Act.put, List.setIfInBounds_toArray, List.set_cons_zero, List.set_cons_succ, i64_w, i32_w]
          rfl
        refine take_ (i := 1) (N := some 32) (v := ?_) (a' := ?_) #[true, true, false, false, false] rfl rfl (by kernel_rfl) (fun _ _ _ h => h) (Or.inl ⟨by rfl, ?_⟩) hHeld ?_ ?_
        rotate_left
        · rintro w' ⟨s0, s1, s2, s3, s4, s5, s6, s7, s8, s9⟩
          go_simp
          with_reducible rfl
        rotate_left
        · simp only [Act.put, List.setIfInBounds_toArray, List.set_cons_zero, List.set_cons_succ, i64_w, i32_w]
          rfl
        refine one_ (i := 2) (N := some 33) #[true, true, true, false, false] rfl rfl (by kernel_rfl) (by decide) (fun K hK => ?_)
        refine goes_ Try.func41 (by kernel_rfl) rfl #[.agg #[.int .i64 a0_0, .int .i64 a0_1, .int .i64 a0_2, .int .i64 a0_3, .slice A0_4 l0_4.length c0_4]] (by rfl) rfl rfl (by (try simp only [List.map_toArray, List.map_cons, List.map_nil]); first | done | rfl | (simp only [List.length_drop, List.length_take]; rfl)) ?_
        with_reducible refine (laws_toFrame.calls k a0_0 a0_1 a0_2 a0_3 _ _ l0_4 t275 t276 t277 t278 t279 _ ?side1 ?side2 A14.out).mono ?_
        (case side1 => repeat (first | exact (Kd.C_below HR0_4.out HB.out) | (with_reducible refine Kd.C_alloc ?_ _) | (with_reducible refine Kd.C_drewN ?_ _) | (with_reducible refine Kd.C_drew ?_)))
        (case side2 => exact HC0_4.out)
        rintro e w37 ⟨v280, rfl, ho0, hb⟩
        refine ⟨_, rfl, ?_⟩
        have n0_ := Aside0.mk (Kd.R_elder' (by (with_reducible repeat (first | apply Kd.R_alloc | apply Kd.R_drewN | apply Kd.R_drew)); exact HO259.out) (Kd.R_base ho0) hb)
        have n1_ := Aside0.mk (Kd.N_elder' (by (with_reducible repeat (first | apply Kd.N_alloc | apply Kd.N_drewN | apply Kd.N_drew)); exact HO262.out) (Kd.R_base ho0) hb)
        have n2_ := Aside0.mk (Kd.R_elder' (by (with_reducible repeat (first | apply Kd.R_alloc | apply Kd.R_drewN | apply Kd.R_drew)); exact HO269.out) (Kd.R_base ho0) hb)
        have n3_ := Aside0.mk (Kd.S_below (by (with_reducible repeat (first | apply Kd.S_alloc | apply Kd.S_drewN | apply Kd.S_drew)); exact HO273.out) hb)
        have n4_ := Aside0.mk (Kd.R_lower (Kd.R_new' (Kd.R_new' ho0 (Kd.R_lt (by (with_reducible repeat (first | apply Kd.R_alloc | apply Kd.R_drewN | apply Kd.R_drew)); exact HO259.out))) (Kd.R_lt (by (with_reducible repeat (first | apply Kd.R_alloc | apply Kd.R_drewN | apply Kd.R_drew)); exact HO269.out))) (below_size (by repeat (first | (with_reducible first | exact HB.out | apply below_alloc | apply pw_below_drewN | apply below_drew1 | refine below_set ?_ GE251.out | refine below_set ?_ GE270.out) | exact HB.out))))
        have n5_ := Aside0.mk (blk_below (g := gb251) (o := .cells #[.int .i64 a0_0, .int .i64 a0_1, .int .i64 a0_2, .int .i64 a0_3, .slice A0_4 l0_4.length c0_4] 55 (0, 0)) (by (with_reducible repeat (first | refine blk_drewN ?_ _ | refine blk_drew ?_ | refine blk_alloc ?_ _)); exact BK251.out) hb)
        have n6_ := Aside0.mk (blk_below (g := gb270) (o := .cells #[.int .i64 t263, .int .i64 t264, .int .i64 t265, .int .i64 t266, .slice Ao31 t267.length co31] 45 (0, 0)) (by (with_reducible repeat (first | refine blk_drewN ?_ _ | refine blk_drew ?_ | refine blk_alloc ?_ _)); exact BK270.out) hb)
        have n7_ := Aside0.mk (below_step (by repeat (first | (with_reducible first | exact HB.out | apply below_alloc | apply pw_below_drewN | apply below_drew1 | refine below_set ?_ GE251.out | refine below_set ?_ GE270.out) | exact HB.out)) hb)
        clear HO259
        clear HO262
        clear HO269
        clear HO273
        clear BK251
        clear BK270
        clear HB
        have HO259 := n0_
        have HO262 := n1_
        have HO269 := n2_
        have HO273 := n3_
        have HO281 := n4_
        have BK251 := n5_
        have BK270 := n6_
        have HB := n7_
        clear n0_ n1_ n2_ n3_ n4_ n5_ n6_ n7_
        (try clear hb)
        (try clear hb2)
        (try clear hk)
        (try clear hi)
        (try clear ho0)
        obtain ⟨Ao38, co38, eo38⟩ := Kd.R_slice HO281.out
        (first | subst eo38 | (injection eo38 with f1_ f2_ f3_; have f4_ := f1_.symm; have f5_ := f3_.symm; clear f1_ f2_ f3_; subst f4_; subst f5_))
        refine hK.out _ _ ⟨(blk_cell BK270.out 0).trans rfl, (blk_cell BK270.out 1).trans rfl, (blk_cell BK270.out 2).trans rfl, (blk_cell BK270.out 3).trans rfl, (blk_cell BK270.out 4).trans rfl, (blk_cell BK251.out 0).trans rfl, (blk_cell BK251.out 1).trans rfl, (blk_cell BK251.out 2).trans rfl, (blk_cell BK251.out 3).trans rfl, (blk_cell BK251.out 4).trans rfl⟩ (fun hHeld => ?_)
        clear hK K
        refine norm_ (a' := ?_) ?_ ?_
        rotate_left
        · show Act.put _ (some 33) _ = _
          simp only [Act.put, List.setIfInBounds_toArray, List.set_cons_zero, List.set_cons_succ, i64_w, i32_w]
          rfl
        refine one_ (i := 3) (N := some 34) #[true, true, true, true, false] rfl rfl (by kernel_rfl) (by decide) (fun K hK => ?_)
        refine goes_ Try.func43 (by kernel_rfl) rfl #[.agg #[.int .i64 t263, .int .i64 t264, .int .i64 t265, .int .i64 t266, .slice Ao31 t267.length co31], .agg #[.int .i64 t275, .int .i64 t276, .int .i64 t277, .int .i64 t278, .slice Ao38 t279.length co38]] (by rfl) rfl rfl (by (try simp only [List.map_toArray, List.map_cons, List.map_nil]); first | done | rfl | (simp only [List.length_drop, List.length_take]; rfl)) ?_
        with_reducible refine (laws_eqFrame.calls k t263 t264 t265 t266 _ _ t267 t275 t276 t277 t278 _ _ t279 true _ ?side1 ?side2 ?side3 ?side4 A15.out).mono ?_
        (case side1 => repeat (first | exact (Kd.R_reads' HO269.out).2.2 | (with_reducible refine Kd.C_alloc ?_ _) | (with_reducible refine Kd.C_drewN ?_ _) | (with_reducible refine Kd.C_drew ?_)))
        (case side2 => exact (Kd.R_reads' HO269.out).2.1)
        (case side3 => repeat (first | exact (Kd.R_reads' HO281.out).2.2 | (with_reducible refine Kd.C_alloc ?_ _) | (with_reducible refine Kd.C_drewN ?_ _) | (with_reducible refine Kd.C_drew ?_)))
        (case side4 => exact (Kd.R_reads' HO281.out).2.1)
        rintro e w39 ⟨rfl, hb⟩
        refine ⟨_, rfl, ?_⟩
        have n0_ := Aside0.mk (Kd.R_below (by (with_reducible repeat (first | apply Kd.R_alloc | apply Kd.R_drewN | apply Kd.R_drew)); exact HO259.out) hb)
        have n1_ := Aside0.mk (Kd.N_below (by (with_reducible repeat (first | apply Kd.N_alloc | apply Kd.N_drewN | apply Kd.N_drew)); exact HO262.out) hb)
        have n2_ := Aside0.mk (Kd.R_below (by (with_reducible repeat (first | apply Kd.R_alloc | apply Kd.R_drewN | apply Kd.R_drew)); exact HO269.out) hb)
        have n3_ := Aside0.mk (Kd.S_below (by (with_reducible repeat (first | apply Kd.S_alloc | apply Kd.S_drewN | apply Kd.S_drew)); exact HO273.out) hb)
        have n4_ := Aside0.mk (Kd.R_below (by (with_reducible repeat (first | apply Kd.R_alloc | apply Kd.R_drewN | apply Kd.R_drew)); exact HO281.out) hb)
        have n5_ := Aside0.mk (blk_below (g := gb251) (o := .cells #[.int .i64 a0_0, .int .i64 a0_1, .int .i64 a0_2, .int .i64 a0_3, .slice A0_4 l0_4.length c0_4] 55 (0, 0)) (by (with_reducible repeat (first | refine blk_drewN ?_ _ | refine blk_drew ?_ | refine blk_alloc ?_ _)); exact BK251.out) hb)
        have n6_ := Aside0.mk (blk_below (g := gb270) (o := .cells #[.int .i64 t263, .int .i64 t264, .int .i64 t265, .int .i64 t266, .slice Ao31 t267.length co31] 45 (0, 0)) (by (with_reducible repeat (first | refine blk_drewN ?_ _ | refine blk_drew ?_ | refine blk_alloc ?_ _)); exact BK270.out) hb)
        have n7_ := Aside0.mk (below_step (by repeat (first | (with_reducible first | exact HB.out | apply below_alloc | apply pw_below_drewN | apply below_drew1 | refine below_set ?_ GE251.out | refine below_set ?_ GE270.out) | exact HB.out)) hb)
        clear HO259
        clear HO262
        clear HO269
        clear HO273
        clear HO281
        clear BK251
        clear BK270
        clear HB
        have HO259 := n0_
        have HO262 := n1_
        have HO269 := n2_
        have HO273 := n3_
        have HO281 := n4_
        have BK251 := n5_
        have BK270 := n6_
        have HB := n7_
        clear n0_ n1_ n2_ n3_ n4_ n5_ n6_ n7_
        (try clear hb)
        (try clear hb2)
        (try clear hk)
        (try clear hi)
        refine hK.out _ _ ⟨(blk_cell BK270.out 0).trans rfl, (blk_cell BK270.out 1).trans rfl, (blk_cell BK270.out 2).trans rfl, (blk_cell BK270.out 3).trans rfl, (blk_cell BK270.out 4).trans rfl, (blk_cell BK251.out 0).trans rfl, (blk_cell BK251.out 1).trans rfl, (blk_cell BK251.out 2).trans rfl, (blk_cell BK251.out 3).trans rfl, (blk_cell BK251.out 4).trans rfl⟩ (fun hHeld => ?_)
        clear hK K
        refine norm_ (a' := ?_) ?_ ?_
        rotate_left
        · show Act.put _ (some 34) _ = _
          simp only [Act.put, List.setIfInBounds_toArray, List.set_cons_zero, List.set_cons_succ, i64_w, i32_w]
          rfl
        refine pure_ (i := 4) (N := some 35) (v := ?_) (a' := ?_) #[true, true, true, true, true] rfl rfl (by kernel_rfl) (fun _ _ _ h => h) (Or.inl ⟨by rfl, ?_⟩) ?_ ?_
        rotate_left
        · intro w'
          go_simp
          with_reducible rfl
        rotate_left
        · simp only [Act.put, List.setIfInBounds_toArray, List.set_cons_zero, List.set_cons_succ, i64_w, i32_w]
          rfl
        refine done_ (by kernel_rfl) ?_
        have hcz40_0 : w39.cell? ⟨gb270, 0, none⟩ = some (.int .i64 t263) := (blk_cell BK270.out 0).trans rfl
        have hcz40_1 : w39.cell? ⟨gb270, 1, none⟩ = some (.int .i64 t264) := (blk_cell BK270.out 1).trans rfl
        have hcz40_2 : w39.cell? ⟨gb270, 2, none⟩ = some (.int .i64 t265) := (blk_cell BK270.out 2).trans rfl
        have hcz40_3 : w39.cell? ⟨gb270, 3, none⟩ = some (.int .i64 t266) := (blk_cell BK270.out 3).trans rfl
        have hcz40_4 : w39.cell? ⟨gb270, 4, none⟩ = some (.slice Ao31 t267.length co31) := (blk_cell BK270.out 4).trans rfl
        have hfz40_0 := blk_frozen BK270.out 0
        have hfz40_1 := blk_frozen BK270.out 1
        have hfz40_2 := blk_frozen BK270.out 2
        have hfz40_3 := blk_frozen BK270.out 3
        have hfz40_4 := blk_frozen BK270.out 4
        go_upto_region 14 with (first | ((with_reducible refine gate_callee (f := 47) rfl ?_); refine goesL_ (some 38) rfl rfl Try.func47 (by kernel_rfl) rfl #[.agg #[.int .i64 t263, .int .i64 t264, .int .i64 t265, .int .i64 t266, .slice Ao31 t267.length co31], .int .i64 1] rfl (by (try simp only [List.map_toArray, List.map_cons, List.map_nil]); first | done | rfl | (simp only [List.length_drop, List.length_take]; rfl)) ?_; (with_reducible refine (laws_markFrame.calls k t263 t264 t265 t266 (fun k_ => some k_ = (.slice Ao31 t267.length co31 : Value).ownBlock) (.slice Ao31 t267.length co31) t267 1 t283 t284 w _ ?side1 ?side2 A17.out).mono ?_); (case side1 => repeat (first | (with_reducible first | exact HB.out | apply below_alloc | apply pw_below_drewN | apply below_drew1 | refine below_set ?_ GE251.out | refine below_set ?_ GE270.out) | exact HB.out)); (case side2 => exact Kd.R_tight rfl HO269.out); rintro e w41 ⟨rfl, hy0, hb, hkp⟩; refine ⟨_, rfl, ?_⟩; ((first | (with_reducible have hq_ := blk_kept (blk_drewN BK251.out _) hkp) | (with_reducible have hq_ := blk_kept BK251.out hkp)); have n0_ := Aside0.mk (hq_ (fun hs_ => (fun e_ => (Kd.R_ne HO269.out BK251.out (by decide)) e_) hs_)); clear hq_); have n1_ := Aside0.mk (Kd.N_mono (ok' := fun k_ => some k_ ≠ (.slice Ao31 t267.length co31 : Value).ownBlock ∧ k_ < N_HO273 ∧ k_ ≠ gb251 ∧ k_ ≠ gb270) (Kd.N_keptB (HO262.out) hkp (fun k_ hk_ hs_ => by simp only [ne_eq, hs_, not_true_eq_false, and_false, false_and] at hk_)) (fun k_ hk_ => by simp only [ne_eq, hk_, not_false_eq_true, and_self])); have n2_ := Aside0.mk (Kd.R_reok rfl hy0 (fun k_ e_ => HO269.out.1 k_ e_)); ((first | (with_reducible have hq_ := blk_kept (blk_drewN BK270.out _) hkp) | (with_reducible have hq_ := blk_kept BK270.out hkp)); have n3_ := Aside0.mk (hq_ (fun hs_ => (fun e_ => (Kd.R_ne HO269.out BK270.out (by decide)) e_) hs_)); clear hq_); have n4_ := Aside0.mk (Kd.S_mono (ok' := fun k_ => N_HO273 ≤ k_) (Kd.S_keptB ((Kd.S_apart' HO273.out (Kd.R_typed HO269.out) (by decide))) hkp (fun k_ hk_ hs_ => by simp only [ne_eq, hs_, not_true_eq_false, and_false, false_and] at hk_)) (fun k_ hk_ => hk_.1.1.2)); have n5_ := Aside0.mk (hb); clear BK251; clear HO262; clear HO269; clear BK270; clear HO273; clear HB; have BK251 := n0_; have HO262 := n1_; have HO269 := n2_; have BK270 := n3_; have HO273 := n4_; have HB := n5_; clear n0_ n1_ n2_ n3_ n4_ n5_; (try clear hb); (try clear hkp); (try clear hy0)))
        (try simp only [Act.put, List.setIfInBounds_toArray, List.set_cons_zero, List.set_cons_succ])
        go_cut [46] (fun v46 wc => ∃ (kq : Nat) (x46_17 : Bool), v46 = .bool x46_17 ∧ Aside0 (laws_FnExactScriptFor.j0 kq a1 t260 t271 x46_17 a0_0 a0_1 a0_2 a0_3 l0_4 = some r) ∧ Aside0 (kq ≤ k) ∧ Aside0 (Kd.N k28 28 wc w.heap.size (fun k_ => k_ < N_HO273 ∧ some k_ ≠ ((.slice Ao31 t267.length co31) : Value).ownBlock ∧ k_ ≠ gb251 ∧ k_ ≠ gb270) (.slice Ao34 t260.length co34) t260) ∧ Aside0 (Kd.S k28 28 wc w.heap.size (fun k_ => N_HO273 ≤ k_) (.slice Ao33 t271.length co33) t271) ∧ Aside0 (Kd.R k42 42 wc w.heap.size (fun _ => True) (.slice Ao31 t267.length co31) t284) ∧ Aside0 (wc.heap[gb251]? = some (.cells #[.int .i64 a0_0, .int .i64 a0_1, .int .i64 a0_2, .int .i64 a0_3, (.slice A0_4 l0_4.length c0_4)] 55 (0, 0))) ∧ Aside0 (wc.heap[gb270]? = some (.cells #[.int .i64 t263, .int .i64 t264, .int .i64 t265, .int .i64 t266, (.slice Ao31 t267.length co31)] 45 (0, 0))) ∧ Aside0 (Below w.heap.size w wc))
        case first =>
          have H := HC18.out
          clear HC18
          by_cases c42 : t283 < 0
          · rw [if_pos c42] at H
            have c42b0 : decide (t283 < 0) = true := decide_eq_true c42
            clear c42
            (first | rw [c42b0] | (simp only [i64_w, i32_w]; rw [c42b0]) | skip)
            have H' := Aside0.mk H
            clear H
            go_wp2
            go_meet
            case rel => exact ⟨_, (true), (by first | rfl | (simp; done) | (simp [*]; done)), H', ⟨by first | omega | exact Nat.le_refl _⟩, ⟨by (with_reducible repeat (first | apply Kd.N_alloc | apply Kd.N_drewN | apply Kd.N_drew)); exact Kd.N_mono HO262.out (fun _ hk => by simp only [ne_eq, hk, not_false_eq_true, and_self])⟩, ⟨by (with_reducible repeat (first | apply Kd.S_alloc | apply Kd.S_drewN | apply Kd.S_drew)); exact HO273.out⟩, ⟨by (with_reducible repeat (first | apply Kd.R_alloc | apply Kd.R_drewN | apply Kd.R_drew)); exact Kd.R_mono HO269.out (fun _ hk => trivial)⟩, ⟨by (with_reducible repeat (first | refine blk_drewN ?_ _ | refine blk_drew ?_ | refine blk_alloc ?_ _)); exact BK251.out⟩, ⟨by (with_reducible repeat (first | refine blk_drewN ?_ _ | refine blk_drew ?_ | refine blk_alloc ?_ _)); exact BK270.out⟩, ⟨by repeat (first | (with_reducible first | exact HB.out | apply below_alloc | apply pw_below_drewN | apply below_drew1 | refine below_set ?_ GE251.out | refine below_set ?_ GE270.out) | exact HB.out)⟩⟩
          · rw [if_neg c42] at H
            have c42b0 : decide (t283 < 0) = false := decide_eq_false c42
            clear c42
            (first | rw [c42b0] | (simp only [i64_w, i32_w]; rw [c42b0]) | skip)
            replace H := Option.bind_eq_some_iff.mp H
            obtain ⟨t285, A430, H⟩ := H
            replace H : (laws_FnExactScriptFor.j0 k a1 t260 t271 (!t285) a0_0 a0_1 a0_2 a0_3 l0_4) = some r := H
            have A43 := Aside0.mk A430
            clear A430
            have H' := Aside0.mk H
            clear H
            go_wp2_with (first | (go_at_call 51; (with_reducible refine (laws_eqScanS.calls k _ _ t271 _ _ t260 t285 _ ?side1 ?side2 ?side3 ?side4 A43.out).mono ?_); (case side1 => repeat (first | exact (Kd.S_reads' HO273.out).2.2 | (with_reducible refine Kd.C_alloc ?_ _) | (with_reducible refine Kd.C_drewN ?_ _) | (with_reducible refine Kd.C_drew ?_))); (case side2 => exact (Kd.S_reads' HO273.out).2.1); (case side3 => repeat (first | exact (Kd.N_reads' HO262.out).2.2 | (with_reducible refine Kd.C_alloc ?_ _) | (with_reducible refine Kd.C_drewN ?_ _) | (with_reducible refine Kd.C_drew ?_))); (case side4 => exact (Kd.N_reads' HO262.out).2.1); rintro e w44 ⟨rfl, hb⟩; have n0_ := Aside0.mk (Kd.N_below (by (with_reducible repeat (first | apply Kd.N_alloc | apply Kd.N_drewN | apply Kd.N_drew)); exact HO262.out) hb); have n1_ := Aside0.mk (Kd.R_below (by (with_reducible repeat (first | apply Kd.R_alloc | apply Kd.R_drewN | apply Kd.R_drew)); exact HO269.out) hb); have n2_ := Aside0.mk (Kd.S_below (by (with_reducible repeat (first | apply Kd.S_alloc | apply Kd.S_drewN | apply Kd.S_drew)); exact HO273.out) hb); have n3_ := Aside0.mk (blk_below (g := gb251) (o := .cells #[.int .i64 a0_0, .int .i64 a0_1, .int .i64 a0_2, .int .i64 a0_3, .slice A0_4 l0_4.length c0_4] 55 (0, 0)) (by (with_reducible repeat (first | refine blk_drewN ?_ _ | refine blk_drew ?_ | refine blk_alloc ?_ _)); exact BK251.out) hb); have n4_ := Aside0.mk (blk_below (g := gb270) (o := .cells #[.int .i64 t263, .int .i64 t264, .int .i64 t265, .int .i64 t266, .slice Ao31 t267.length co31] 45 (0, 0)) (by (with_reducible repeat (first | refine blk_drewN ?_ _ | refine blk_drew ?_ | refine blk_alloc ?_ _)); exact BK270.out) hb); have n5_ := Aside0.mk (below_step (by repeat (first | (with_reducible first | exact HB.out | apply below_alloc | apply pw_below_drewN | apply below_drew1 | refine below_set ?_ GE251.out | refine below_set ?_ GE270.out) | exact HB.out)) hb); clear HO262; clear HO269; clear HO273; clear BK251; clear BK270; clear HB; have HO262 := n0_; have HO269 := n1_; have HO273 := n2_; have BK251 := n3_; have BK270 := n4_; have HB := n5_; clear n0_ n1_ n2_ n3_ n4_ n5_; (try clear hb); (try clear hb2); (try clear hk); (try clear hi)))
            go_meet
            case rel => exact ⟨_, (!t285), (by first | rfl | (simp; done) | (simp [*]; done)), H', ⟨by first | omega | exact Nat.le_refl _⟩, ⟨by (with_reducible repeat (first | apply Kd.N_alloc | apply Kd.N_drewN | apply Kd.N_drew)); exact Kd.N_mono HO262.out (fun _ hk => by simp only [ne_eq, hk, not_false_eq_true, and_self])⟩, ⟨by (with_reducible repeat (first | apply Kd.S_alloc | apply Kd.S_drewN | apply Kd.S_drew)); exact HO273.out⟩, ⟨by (with_reducible repeat (first | apply Kd.R_alloc | apply Kd.R_drewN | apply Kd.R_drew)); exact Kd.R_mono HO269.out (fun _ hk => trivial)⟩, ⟨by (with_reducible repeat (first | refine blk_drewN ?_ _ | refine blk_drew ?_ | refine blk_alloc ?_ _)); exact BK251.out⟩, ⟨by (with_reducible repeat (first | refine blk_drewN ?_ _ | refine blk_drew ?_ | refine blk_alloc ?_ _)); exact BK270.out⟩, ⟨by repeat (first | (with_reducible first | exact HB.out | apply below_alloc | apply pw_below_drewN | apply below_drew1 | refine below_set ?_ GE251.out | refine below_set ?_ GE270.out) | exact HB.out)⟩⟩
        case rest =>
          clear HC18
          try clear c1
          try clear c2
          try clear p2
          try clear c3
          try clear c4
          try clear c4b0
          try clear c5
          try clear c10
          try clear c13
          try clear c16
          try clear c29
          try clear c33
          try clear c39
          try clear c41
          try clear c42
          try clear c42b0
          try clear c43
          try clear hcz20_0
          try clear hcz20_1
          try clear hcz20_2
          try clear hcz20_3
          try clear hcz20_4
          try clear hcz22_0
          try clear hcz22_1
          try clear hcz22_2
          try clear hcz22_3
          try clear hcz22_4
          try clear hcz26_0
          try clear hcz26_1
          try clear hcz26_2
          try clear hcz26_3
          try clear hcz26_4
          try clear hcz30_0
          try clear hcz30_1
          try clear hcz30_2
          try clear hcz30_3
          try clear hcz30_4
          try clear hcz40_0
          try clear hcz40_1
          try clear hcz40_2
          try clear hcz40_3
          try clear hcz40_4
          try clear hcz6_0
          try clear hcz6_1
          try clear hcz6_2
          try clear hcz6_3
          try clear hcz6_4
          try clear hfz20_0
          try clear hfz20_1
          try clear hfz20_2
          try clear hfz20_3
          try clear hfz20_4
          try clear hfz22_0
          try clear hfz22_1
          try clear hfz22_2
          try clear hfz22_3
          try clear hfz22_4
          try clear hfz26_0
          try clear hfz26_1
          try clear hfz26_2
          try clear hfz26_3
          try clear hfz26_4
          try clear hfz30_0
          try clear hfz30_1
          try clear hfz30_2
          try clear hfz30_3
          try clear hfz30_4
          try clear hfz40_0
          try clear hfz40_1
          try clear hfz40_2
          try clear hfz40_3
          try clear hfz40_4
          try clear hfz6_0
          try clear hfz6_1
          try clear hfz6_2
          try clear hfz6_3
          try clear hfz6_4
          obtain ⟨kq, x46_17, rfl, HA, HJ17, HO_6, HO_8, HO_271004, BK251, BK270, HB⟩ := hcut
          have hl271004_17 := (Kd.R_reads' HO_271004.out).1
          rw [hl271004_17] at HO_271004
          (try simp only [hl271004_17])
          (try simp only [hl271004_17] at BK251)
          (try simp only [hl271004_17] at BK270)
          (try simp only [hl271004_17] at HO_6)
          (try simp only [hl271004_17] at HO_8)
          cases kq with
          | zero => exact absurd HA.out (by simp [laws_FnExactScriptFor.j0])
          | succ kj17 =>
            have H := HA.out
            clear HA
            simp only [laws_FnExactScriptFor.j0] at H
            by_cases c45 : x46_17 = true
            · subst c45
              have H1 : (some false) = some r := by rw [if_pos rfl] at H; exact H
              clear H
              have H := H1
              clear H1
              exact noArm H HTRUE_.out
            · replace c45 := Bool.eq_false_iff.mpr c45
              subst c45
              have H1 : ((laws_markScanS.f kj17 t271 1).bind fun bt286 => ((laws_heldScanS.f kj17 bt286.2 1).bind fun t288 => (if t288 < 0 then (some false) else (if t288 = bt286.1 then ((laws_toFrame.f kj17 a0_0 a0_1 a0_2 a0_3 l0_4).bind fun bt289 => ((impl_ScriptFor.f kj17 bt289.1 bt289.2.1 bt289.2.2.1 bt289.2.2.2.1 bt289.2.2.2.2 a1).bind fun t296 => ((laws_eqScanS.f kj17 t296 t260).bind fun t299 => (if t299 = true then ((laws_heldScanS.f kj17 bt286.2 1).bind fun t300 => (if t300 < 0 then (some false) else (if t300 = bt286.1 then (some true) else (some false)))) else (some false))))) else (some false))))) = some r := by rw [if_neg (show ¬ (false = true) by decide)] at H; exact H
              clear H
              have H := H1
              clear H1
              replace H := Option.bind_eq_some_iff.mp H
              obtain ⟨⟨t286, t287⟩, A460, H⟩ := H
              replace H : ((laws_heldScanS.f kj17 t287 1).bind fun t288 => (if t288 < 0 then (some false) else (if t288 = t286 then ((laws_toFrame.f kj17 a0_0 a0_1 a0_2 a0_3 l0_4).bind fun bt289 => ((impl_ScriptFor.f kj17 bt289.1 bt289.2.1 bt289.2.2.1 bt289.2.2.2.1 bt289.2.2.2.2 a1).bind fun t296 => ((laws_eqScanS.f kj17 t296 t260).bind fun t299 => (if t299 = true then ((laws_heldScanS.f kj17 t287 1).bind fun t300 => (if t300 < 0 then (some false) else (if t300 = t286 then (some true) else (some false)))) else (some false))))) else (some false)))) = some r := H
              have A46 := Aside0.mk A460
              clear A460
              replace H := Option.bind_eq_some_iff.mp H
              obtain ⟨t288, A470, H⟩ := H
              replace H : (if t288 < 0 then (some false) else (if t288 = t286 then ((laws_toFrame.f kj17 a0_0 a0_1 a0_2 a0_3 l0_4).bind fun bt289 => ((impl_ScriptFor.f kj17 bt289.1 bt289.2.1 bt289.2.2.1 bt289.2.2.2.1 bt289.2.2.2.2 a1).bind fun t296 => ((laws_eqScanS.f kj17 t296 t260).bind fun t299 => (if t299 = true then ((laws_heldScanS.f kj17 t287 1).bind fun t300 => (if t300 < 0 then (some false) else (if t300 = t286 then (some true) else (some false)))) else (some false))))) else (some false))) = some r := H
              have A47 := Aside0.mk A470
              clear A470
              by_cases c48 : t288 < 0
              · rw [if_pos c48] at H
                have c48b0 : decide (t288 < 0) = true := decide_eq_true c48
                clear c48
                exact noArm H HTRUE_.out
              · rw [if_neg c48] at H
                have c48b0 : decide (t288 < 0) = false := decide_eq_false c48
                clear c48
                by_cases c49 : t288 = t286
                · rw [if_pos c49] at H
                  have c49b0 : (t288 == t286) = true := beq_iff_eq.mpr c49
                  have c49b1 : (t288 != t286) = false := bne_eq_false_iff_eq.mpr c49
                  clear c49
                  replace H := Option.bind_eq_some_iff.mp H
                  obtain ⟨⟨t289, t290, t291, t292, t293⟩, A500, H⟩ := H
                  replace H : ((impl_ScriptFor.f kj17 t289 t290 t291 t292 t293 a1).bind fun t296 => ((laws_eqScanS.f kj17 t296 t260).bind fun t299 => (if t299 = true then ((laws_heldScanS.f kj17 t287 1).bind fun t300 => (if t300 < 0 then (some false) else (if t300 = t286 then (some true) else (some false)))) else (some false)))) = some r := H
                  have A50 := Aside0.mk A500
                  clear A500
                  replace H := Option.bind_eq_some_iff.mp H
                  obtain ⟨t296, A510, H⟩ := H
                  replace H : ((laws_eqScanS.f kj17 t296 t260).bind fun t299 => (if t299 = true then ((laws_heldScanS.f kj17 t287 1).bind fun t300 => (if t300 < 0 then (some false) else (if t300 = t286 then (some true) else (some false)))) else (some false))) = some r := H
                  have A51 := Aside0.mk A510
                  clear A510
                  replace H := Option.bind_eq_some_iff.mp H
                  obtain ⟨t299, A520, H⟩ := H
                  replace H : (if t299 = true then ((laws_heldScanS.f kj17 t287 1).bind fun t300 => (if t300 < 0 then (some false) else (if t300 = t286 then (some true) else (some false)))) else (some false)) = some r := H
                  have A52 := Aside0.mk A520
                  clear A520
                  by_cases c53 : t299 = true
                  · subst c53
                    have H1 : ((laws_heldScanS.f kj17 t287 1).bind fun t300 => (if t300 < 0 then (some false) else (if t300 = t286 then (some true) else (some false)))) = some r := by rw [if_pos rfl] at H; exact H
                    clear H
                    have H := H1
                    clear H1
                    replace H := Option.bind_eq_some_iff.mp H
                    obtain ⟨t300, A540, H⟩ := H
                    replace H : (if t300 < 0 then (some false) else (if t300 = t286 then (some true) else (some false))) = some r := H
                    have A54 := Aside0.mk A540
                    clear A540
                    by_cases c55 : t300 < 0
                    · rw [if_pos c55] at H
                      have c55b0 : decide (t300 < 0) = true := decide_eq_true c55
                      clear c55
                      exact noArm H HTRUE_.out
                    · rw [if_neg c55] at H
                      have c55b0 : decide (t300 < 0) = false := decide_eq_false c55
                      clear c55
                      by_cases c56 : t300 = t286
                      · rw [if_pos c56] at H
                        have c56b0 : (t300 == t286) = true := beq_iff_eq.mpr c56
                        have c56b1 : (t300 != t286) = false := bne_eq_false_iff_eq.mpr c56
                        clear c56
                        obtain rfl := Option.some.inj H
                        go_wp2_with (first | ((with_reducible refine gate_callee (f := 52) rfl ?_); refine goesL_ (some 49) rfl rfl Try.func52 (by kernel_rfl) rfl #[.slice Ao33 t271.length co33, .int .i64 1] rfl (by (try simp only [List.map_toArray, List.map_cons, List.map_nil]); first | done | rfl | (simp only [List.length_drop, List.length_take]; rfl)) ?_; (refine (laws_markScanS.calls kj17 _ (.slice Ao33 t271.length co33) t271 1 t286 t287 w _ ?side1 (by first | exact Kd.S_bound HO_8.out | exact Kd.S_drewN (Kd.S_bound HO_8.out) _) A46.out).mono ?_); (case side1 => repeat (first | (with_reducible first | exact HB.out | apply below_alloc | apply pw_below_drewN | apply below_drew1 | refine below_set ?_ GE251.out | refine below_set ?_ GE270.out) | exact HB.out)); rintro e w57 ⟨rfl, hy0, hb, hkp⟩; refine ⟨_, rfl, ?_⟩; ((first | (with_reducible have hq_ := Kd.N_kept (Kd.N_drewN HO_6.out _) hkp) | (with_reducible have hq_ := Kd.N_kept HO_6.out hkp)); have n0_ := Aside0.mk (hq_ (fun k_ h_ hs_ => Nat.lt_irrefl _ (Nat.lt_of_lt_of_le (h_.1) (hs_.1)))); clear hq_); have n1_ := Aside0.mk (Kd.S_mono hy0 (fun _ h_ => h_.1)); have n2_ := Aside0.mk (keptT rfl (by (with_reducible repeat (first | apply Kd.R_alloc | apply Kd.R_drewN | apply Kd.R_drew)); exact HO_271004.out) hkp (fun _ h_ => h_.2.2.2) (by decide)); ((first | (with_reducible have hq_ := blk_kept (blk_drewN BK251.out _) hkp) | (with_reducible have hq_ := blk_kept BK251.out hkp)); have n3_ := Aside0.mk (hq_ (fun hs_ => blkNo (by (with_reducible repeat (first | refine blk_drewN ?_ _ | refine blk_drew ?_ | refine blk_alloc ?_ _)); exact BK251.out) hs_.2.2.2 (by decide))); clear hq_); ((first | (with_reducible have hq_ := blk_kept (blk_drewN BK270.out _) hkp) | (with_reducible have hq_ := blk_kept BK270.out hkp)); have n4_ := Aside0.mk (hq_ (fun hs_ => blkNo (by (with_reducible repeat (first | refine blk_drewN ?_ _ | refine blk_drew ?_ | refine blk_alloc ?_ _)); exact BK270.out) hs_.2.2.2 (by decide))); clear hq_); have n5_ := Aside0.mk (hb); clear HO_6; clear HO_8; clear HO_271004; clear BK251; clear BK270; clear HB; have HO_6 := n0_; have HO_8 := n1_; have HO_271004 := n2_; have BK251 := n3_; have BK270 := n4_; have HB := n5_; clear n0_ n1_ n2_ n3_ n4_ n5_; (try clear hb); (try clear hkp); (try clear hy0)) | ((with_reducible refine gate_callee (f := 53) rfl ?_); refine goesL_ (some 52) rfl rfl Try.func53 (by kernel_rfl) rfl #[.slice Ao33 t287.length co33, .int .i64 1] rfl (by (try simp only [List.map_toArray, List.map_cons, List.map_nil]); first | done | (rw [show t287.length = t271.length from (Kd.S_reads' HO_8.out).1.symm] <;> rfl) | rfl | (simp only [List.length_drop, List.length_take]; rfl)) ?_; (with_reducible refine (laws_heldScanS.calls kj17 _ _ t287 1 t288 _ ?side1 ?side2 A47.out).mono ?_); (case side1 => repeat (first | exact (Kd.S_reads' HO_8.out).2.2 | (with_reducible refine Kd.C_alloc ?_ _) | (with_reducible refine Kd.C_drewN ?_ _) | (with_reducible refine Kd.C_drew ?_))); (case side2 => rw [show t287.length = t271.length from (Kd.S_reads' HO_8.out).1.symm]; exact (Kd.S_reads' HO_8.out).2.1); rintro e w' ⟨rfl, ⟨nd, rfl⟩⟩; refine ⟨_, rfl, ?_⟩; have hnb58 := NB251_270.out; have hnc58 := NB270_251.out; have hcz59_0 : w57.cell? ⟨gb251, 0, none⟩ = some (.int .i64 a0_0) := (blk_cell BK251.out 0).trans rfl; have hcz59_1 : w57.cell? ⟨gb251, 1, none⟩ = some (.int .i64 a0_1) := (blk_cell BK251.out 1).trans rfl; have hcz59_2 : w57.cell? ⟨gb251, 2, none⟩ = some (.int .i64 a0_2) := (blk_cell BK251.out 2).trans rfl; have hcz59_3 : w57.cell? ⟨gb251, 3, none⟩ = some (.int .i64 a0_3) := (blk_cell BK251.out 3).trans rfl; have hcz59_4 : w57.cell? ⟨gb251, 4, none⟩ = some (.slice A0_4 l0_4.length c0_4) := (blk_cell BK251.out 4).trans rfl; have hfz59_0 := blk_frozen BK251.out 0; have hfz59_1 := blk_frozen BK251.out 1; have hfz59_2 := blk_frozen BK251.out 2; have hfz59_3 := blk_frozen BK251.out 3; have hfz59_4 := blk_frozen BK251.out 4) | ((with_reducible refine gate_callee (f := 41) rfl ?_); refine goesL_ (some 59) rfl rfl Try.func41 (by kernel_rfl) rfl #[.agg #[.int .i64 a0_0, .int .i64 a0_1, .int .i64 a0_2, .int .i64 a0_3, .slice A0_4 l0_4.length c0_4]] rfl (by (try simp only [List.map_toArray, List.map_cons, List.map_nil]); first | done | rfl | (simp only [List.length_drop, List.length_take]; rfl)) ?_; (with_reducible refine (laws_toFrame.calls kj17 a0_0 a0_1 a0_2 a0_3 _ _ l0_4 t289 t290 t291 t292 t293 _ ?side1 ?side2 A50.out).mono ?_); (case side1 => repeat (first | exact (Kd.C_below HR0_4.out (by repeat (first | (with_reducible first | exact HB.out | apply below_alloc | apply pw_below_drewN | apply below_drew1 | refine below_set ?_ GE251.out | refine below_set ?_ GE270.out) | exact HB.out))) | (with_reducible refine Kd.C_alloc ?_ _) | (with_reducible refine Kd.C_drewN ?_ _) | (with_reducible refine Kd.C_drew ?_))); (case side2 => exact HC0_4.out); rintro e w60 ⟨v294, rfl, ho0, hb⟩; refine ⟨_, rfl, ?_⟩; have n0_ := Aside0.mk (Kd.N_elder' (by (with_reducible repeat (first | apply Kd.N_alloc | apply Kd.N_drewN | apply Kd.N_drew)); exact HO_6.out) (Kd.R_base ho0) hb); have n1_ := Aside0.mk (Kd.S_below (by (with_reducible repeat (first | apply Kd.S_alloc | apply Kd.S_drewN | apply Kd.S_drew)); exact HO_8.out) hb); have n2_ := Aside0.mk (Kd.R_elder' (by (with_reducible repeat (first | apply Kd.R_alloc | apply Kd.R_drewN | apply Kd.R_drew)); exact HO_271004.out) (Kd.R_base ho0) hb); have n3_ := Aside0.mk (Kd.R_lower (Kd.R_new' ho0 (Kd.R_lt (by (with_reducible repeat (first | apply Kd.R_alloc | apply Kd.R_drewN | apply Kd.R_drew)); exact HO_271004.out))) (below_size (by repeat (first | (with_reducible first | exact HB.out | apply below_alloc | apply pw_below_drewN | apply below_drew1 | refine below_set ?_ GE251.out | refine below_set ?_ GE270.out) | exact HB.out)))); have n4_ := Aside0.mk (blk_below (g := gb251) (o := .cells #[.int .i64 a0_0, .int .i64 a0_1, .int .i64 a0_2, .int .i64 a0_3, .slice A0_4 l0_4.length c0_4] 55 (0, 0)) (by (with_reducible repeat (first | refine blk_drewN ?_ _ | refine blk_drew ?_ | refine blk_alloc ?_ _)); exact BK251.out) hb); have n5_ := Aside0.mk (blk_below (g := gb270) (o := .cells #[.int .i64 t263, .int .i64 t264, .int .i64 t265, .int .i64 t266, .slice Ao31 t284.length co31] 45 (0, 0)) (by (with_reducible repeat (first | refine blk_drewN ?_ _ | refine blk_drew ?_ | refine blk_alloc ?_ _)); exact BK270.out) hb); have n6_ := Aside0.mk (below_step (by repeat (first | (with_reducible first | exact HB.out | apply below_alloc | apply pw_below_drewN | apply below_drew1 | refine below_set ?_ GE251.out | refine below_set ?_ GE270.out) | exact HB.out)) hb); clear HO_6; clear HO_8; clear HO_271004; clear BK251; clear BK270; clear HB; have HO_6 := n0_; have HO_8 := n1_; have HO_271004 := n2_; have HO295 := n3_; have BK251 := n4_; have BK270 := n5_; have HB := n6_; clear n0_ n1_ n2_ n3_ n4_ n5_ n6_; (try clear hb); (try clear hb2); (try clear hk); (try clear hi); (try clear ho0); obtain ⟨Ao61, co61, eo61⟩ := Kd.R_slice HO295.out; subst eo61) | ((with_reducible refine gate_callee (f := 50) rfl ?_); refine goesL_ (some 61) rfl rfl Try.func50 (by kernel_rfl) rfl #[.agg #[.int .i64 t289, .int .i64 t290, .int .i64 t291, .int .i64 t292, .slice Ao61 t293.length co61], .int .i64 a1] rfl (by (try simp only [List.map_toArray, List.map_cons, List.map_nil]); first | done | rfl | (simp only [List.length_drop, List.length_take]; rfl)) ?_; (with_reducible refine (impl_ScriptFor.calls kj17 t289 t290 t291 t292 _ _ t293 a1 t296 _ ?side1 ?side2 A51.out).mono ?_); (case side1 => repeat (first | exact (Kd.R_reads' HO295.out).2.2 | (with_reducible refine Kd.C_alloc ?_ _) | (with_reducible refine Kd.C_drewN ?_ _) | (with_reducible refine Kd.C_drew ?_))); (case side2 => exact (Kd.R_reads' HO295.out).2.1); rintro e w62 ⟨v297, rfl, ho0, hb⟩; refine ⟨_, rfl, ?_⟩; obtain ⟨N_HO298, hN_HO298⟩ := sepN ho0; have n0_ := Aside0.mk (sepON (by (with_reducible repeat (first | apply Kd.N_alloc | apply Kd.N_drewN | apply Kd.N_drew)); exact HO_6.out) hN_HO298 hb); have n1_ := Aside0.mk (sepO (by (with_reducible repeat (first | apply Kd.S_alloc | apply Kd.S_drewN | apply Kd.S_drew)); exact HO_8.out) hN_HO298 hb); have n2_ := Aside0.mk (Kd.R_below (by (with_reducible repeat (first | apply Kd.R_alloc | apply Kd.R_drewN | apply Kd.R_drew)); exact HO_271004.out) hb); have n3_ := Aside0.mk (Kd.R_below (by (with_reducible repeat (first | apply Kd.R_alloc | apply Kd.R_drewN | apply Kd.R_drew)); exact HO295.out) hb); have n4_ := Aside0.mk (Kd.S_lower (sepW (sepW ho0 hN_HO298) hN_HO298) (below_size (by repeat (first | (with_reducible first | exact HB.out | apply below_alloc | apply pw_below_drewN | apply below_drew1 | refine below_set ?_ GE251.out | refine below_set ?_ GE270.out) | exact HB.out)))); have n5_ := Aside0.mk (blk_below (g := gb251) (o := .cells #[.int .i64 a0_0, .int .i64 a0_1, .int .i64 a0_2, .int .i64 a0_3, .slice A0_4 l0_4.length c0_4] 55 (0, 0)) (by (with_reducible repeat (first | refine blk_drewN ?_ _ | refine blk_drew ?_ | refine blk_alloc ?_ _)); exact BK251.out) hb); have n6_ := Aside0.mk (blk_below (g := gb270) (o := .cells #[.int .i64 t263, .int .i64 t264, .int .i64 t265, .int .i64 t266, .slice Ao31 t284.length co31] 45 (0, 0)) (by (with_reducible repeat (first | refine blk_drewN ?_ _ | refine blk_drew ?_ | refine blk_alloc ?_ _)); exact BK270.out) hb); have n7_ := Aside0.mk (below_step (by repeat (first | (with_reducible first | exact HB.out | apply below_alloc | apply pw_below_drewN | apply below_drew1 | refine below_set ?_ GE251.out | refine below_set ?_ GE270.out) | exact HB.out)) hb); clear HO_6; clear HO_8; clear HO_271004; clear HO295; clear BK251; clear BK270; clear HB; have HO_6 := n0_; have HO_8 := n1_; have HO_271004 := n2_; have HO295 := n3_; have HO298 := n4_; have BK251 := n5_; have BK270 := n6_; have HB := n7_; clear n0_ n1_ n2_ n3_ n4_ n5_ n6_ n7_; (try clear hb); (try clear hb2); (try clear hk); (try clear hi); (try clear ho0); obtain ⟨Ao63, co63, eo63⟩ := Kd.S_slice HO298.out; subst eo63) | ((with_reducible refine gate_callee (f := 51) rfl ?_); refine goesL_ (some 64) rfl rfl Try.func51 (by kernel_rfl) rfl #[.slice Ao63 t296.length co63, .slice Ao34 t260.length co34] rfl (by (try simp only [List.map_toArray, List.map_cons, List.map_nil]); first | done | rfl | (simp only [List.length_drop, List.length_take]; rfl)) ?_; (with_reducible refine (laws_eqScanS.calls kj17 _ _ t296 _ _ t260 true _ ?side1 ?side2 ?side3 ?side4 A52.out).mono ?_); (case side1 => repeat (first | exact (Kd.S_reads' HO298.out).2.2 | (with_reducible refine Kd.C_alloc ?_ _) | (with_reducible refine Kd.C_drewN ?_ _) | (with_reducible refine Kd.C_drew ?_))); (case side2 => exact (Kd.S_reads' HO298.out).2.1); (case side3 => repeat (first | exact (Kd.N_reads' HO_6.out).2.2 | (with_reducible refine Kd.C_alloc ?_ _) | (with_reducible refine Kd.C_drewN ?_ _) | (with_reducible refine Kd.C_drew ?_))); (case side4 => exact (Kd.N_reads' HO_6.out).2.1); rintro e w64 ⟨rfl, hb⟩; refine ⟨_, rfl, ?_⟩; have n0_ := Aside0.mk (Kd.N_below (by (with_reducible repeat (first | apply Kd.N_alloc | apply Kd.N_drewN | apply Kd.N_drew)); exact HO_6.out) hb); have n1_ := Aside0.mk (Kd.S_below (by (with_reducible repeat (first | apply Kd.S_alloc | apply Kd.S_drewN | apply Kd.S_drew)); exact HO_8.out) hb); have n2_ := Aside0.mk (Kd.R_below (by (with_reducible repeat (first | apply Kd.R_alloc | apply Kd.R_drewN | apply Kd.R_drew)); exact HO_271004.out) hb); have n3_ := Aside0.mk (Kd.S_below (by (with_reducible repeat (first | apply Kd.S_alloc | apply Kd.S_drewN | apply Kd.S_drew)); exact HO298.out) hb); have n4_ := Aside0.mk (blk_below (g := gb251) (o := .cells #[.int .i64 a0_0, .int .i64 a0_1, .int .i64 a0_2, .int .i64 a0_3, .slice A0_4 l0_4.length c0_4] 55 (0, 0)) (by (with_reducible repeat (first | refine blk_drewN ?_ _ | refine blk_drew ?_ | refine blk_alloc ?_ _)); exact BK251.out) hb); have n5_ := Aside0.mk (blk_below (g := gb270) (o := .cells #[.int .i64 t263, .int .i64 t264, .int .i64 t265, .int .i64 t266, .slice Ao31 t284.length co31] 45 (0, 0)) (by (with_reducible repeat (first | refine blk_drewN ?_ _ | refine blk_drew ?_ | refine blk_alloc ?_ _)); exact BK270.out) hb); have n6_ := Aside0.mk (below_step (by repeat (first | (with_reducible first | exact HB.out | apply below_alloc | apply pw_below_drewN | apply below_drew1 | refine below_set ?_ GE251.out | refine below_set ?_ GE270.out) | exact HB.out)) hb); clear HO_6; clear HO_8; clear HO_271004; clear HO298; clear BK251; clear BK270; clear HB; have HO_6 := n0_; have HO_8 := n1_; have HO_271004 := n2_; have HO298 := n3_; have BK251 := n4_; have BK270 := n5_; have HB := n6_; clear n0_ n1_ n2_ n3_ n4_ n5_ n6_; (try clear hb); (try clear hb2); (try clear hk); (try clear hi)) | ((with_reducible refine gate_callee (f := 53) rfl ?_); refine goesL_ (some 68) rfl rfl Try.func53 (by kernel_rfl) rfl #[.slice Ao33 t287.length co33, .int .i64 1] rfl (by (try simp only [List.map_toArray, List.map_cons, List.map_nil]); first | done | (rw [show t287.length = t271.length from (Kd.S_reads' HO_8.out).1.symm] <;> rfl) | rfl | (simp only [List.length_drop, List.length_take]; rfl)) ?_; (with_reducible refine (laws_heldScanS.calls kj17 _ _ t287 1 t300 _ ?side1 ?side2 A54.out).mono ?_); (case side1 => repeat (first | exact (Kd.S_reads' HO_8.out).2.2 | (with_reducible refine Kd.C_alloc ?_ _) | (with_reducible refine Kd.C_drewN ?_ _) | (with_reducible refine Kd.C_drew ?_))); (case side2 => rw [show t287.length = t271.length from (Kd.S_reads' HO_8.out).1.symm]; exact (Kd.S_reads' HO_8.out).2.1); rintro e w' ⟨rfl, ⟨nd, rfl⟩⟩; refine ⟨_, rfl, ?_⟩))
                        go_ret
                        exact ⟨by first | rfl | (simp [errW_none, errW_some] <;> rfl) | (simp [*, errW_none, errW_some] <;> rfl), by repeat (first | (with_reducible first | exact HB.out | apply below_alloc | apply pw_below_drewN | apply below_drew1 | refine below_set ?_ GE251.out | refine below_set ?_ GE270.out) | exact HB.out)⟩
                      · rw [if_neg c56] at H
                        have c56b0 : (t300 == t286) = false := beq_eq_false_iff_ne.mpr c56
                        have c56b1 : (t300 != t286) = true := bne_iff_ne.mpr c56
                        exact noArm H HTRUE_.out
                  · replace c53 := Bool.eq_false_iff.mpr c53
                    subst c53
                    have H1 : (some false) = some r := by rw [if_neg (show ¬ (false = true) by decide)] at H; exact H
                    clear H
                    have H := H1
                    clear H1
                    exact noArm H HTRUE_.out
                · rw [if_neg c49] at H
                  have c49b0 : (t288 == t286) = false := beq_eq_false_iff_ne.mpr c49
                  have c49b1 : (t288 != t286) = true := bne_iff_ne.mpr c49
                  exact noArm H HTRUE_.out
      · replace c16 := Bool.eq_false_iff.mpr c16
        subst c16
        have H1 : (some false) = some r := by rw [if_neg (show ¬ (false = true) by decide)] at H; exact H
        clear H
        have H := H1
        clear H1
        exact noArm H HTRUE_.out
    · replace c13 := Bool.eq_false_iff.mpr c13
      subst c13
      have H1 : (some false) = some r := by rw [if_neg (show ¬ (false = true) by decide)] at H; exact H
      clear H
      have H := H1
      clear H1
      exact noArm H HTRUE_.out

def wf130 (x : S130) : Prop := (Lit.int .i64 x.f0).wf = true ∧ (Lit.int .i64 x.f1).wf = true ∧ (Lit.int .i64 x.f2).wf = true ∧ (Lit.int .i64 x.f3).wf = true
theorem op130 : Op.Opens Try.prog 130 k130 wf130 := Op.opens_mono (Op.opens_struct (fun x_ => ⟨x_.1, x_.2.1, x_.2.2.1, x_.2.2.2⟩) (fun _ => rfl) Try.underlying130 (by kernel_rfl) (Op.opensF_cons rfl (by kernel_rfl) (Op.opens_int Try.underlying3) (Op.opensF_cons rfl (by kernel_rfl) (Op.opens_int Try.underlying3) (Op.opensF_cons rfl (by kernel_rfl) (Op.opens_int Try.underlying3) (Op.opensF_last rfl (by kernel_rfl) (Op.opens_int Try.underlying3)))))) (fun _ h_ => h_)
def wf55 (x : S55) : Prop := (Lit.int .i64 x.f0).wf = true ∧ (Lit.int .i64 x.f1).wf = true ∧ (Lit.int .i64 x.f2).wf = true ∧ (Lit.int .i64 x.f3).wf = true ∧ ((x.f4).length ≤ maxLen ∧ ∀ y_12 ∈ (x.f4), wf130 y_12)
theorem op55 : Op.Opens Try.prog 55 k55 wf55 := Op.opens_mono (Op.opens_struct (fun x_ => ⟨x_.1, x_.2.1, x_.2.2.1, x_.2.2.2.1, x_.2.2.2.2⟩) (fun _ => rfl) Try.underlying55 (by kernel_rfl) (Op.opensF_cons rfl (by kernel_rfl) (Op.opens_int Try.underlying3) (Op.opensF_cons rfl (by kernel_rfl) (Op.opens_int Try.underlying3) (Op.opensF_cons rfl (by kernel_rfl) (Op.opens_int Try.underlying3) (Op.opensF_cons rfl (by kernel_rfl) (Op.opens_int Try.underlying3) (Op.opensF_last rfl (by kernel_rfl) (Op.opens_slice Try.underlying53 (by kernel_rfl) op130))))))) (fun _ h_ => h_)
/-- The one pure statement of laws_FnExactScriptFor. -/
def laws_FnExactScriptFor.Pure : Prop := ∀ (a0_0 : Int) (a0_1 : Int) (a0_2 : Int) (a0_3 : Int) (l0_4 : List (S130)) (a1 : Int), (Lit.int .i64 a0_0).wf = true → (Lit.int .i64 a0_1).wf = true → (Lit.int .i64 a0_2).wf = true → (Lit.int .i64 a0_3).wf = true → (l0_4.length ≤ maxLen ∧ ∀ y_12 ∈ l0_4, wf130 y_12) → (Lit.int .i64 a1).wf = true → ∃ k, laws_FnExactScriptFor.f k a0_0 a0_1 a0_2 a0_3 l0_4 a1 = some true
theorem laws_FnExactScriptFor.walk (P : laws_FnExactScriptFor.Pure) (a0_0 : Int) (a0_1 : Int) (a0_2 : Int) (a0_3 : Int) (A0_4 : Option Addr) (c0_4 : Nat) (l0_4 : List (S130)) (a1 : Int) (w : World) (hr0_4 : Kd.C k130 w A0_4 l0_4.length l0_4) (hc0_4 : l0_4.length ≤ c0_4) (qa0_0 : (Lit.int .i64 a0_0).wf = true) (qa0_1 : (Lit.int .i64 a0_1).wf = true) (qa0_2 : (Lit.int .i64 a0_2).wf = true) (qa0_3 : (Lit.int .i64 a0_3).wf = true) (ql0_4 : (l0_4.length ≤ maxLen ∧ ∀ y_12 ∈ l0_4, wf130 y_12)) (qa1 : (Lit.int .i64 a1).wf = true) :
    Calls Try.prog 10 #[.agg #[.int .i64 a0_0, .int .i64 a0_1, .int .i64 a0_2, .int .i64 a0_3, .slice A0_4 l0_4.length c0_4], .int .i64 a1] w fun e w' => e = .returned (.bool true) ∧ Below w.heap.size w w' := by
  obtain ⟨k, h⟩ := P a0_0 a0_1 a0_2 a0_3 l0_4 a1 qa0_0 qa0_1 qa0_2 qa0_3 ql0_4 qa1
  refine (laws_FnExactScriptFor.calls k a0_0 a0_1 a0_2 a0_3 A0_4 c0_4 l0_4 a1 true w hr0_4 hc0_4 ⟨rfl⟩ h).mono ?_
  rintro e w' ⟨rfl, hd⟩
  exact ⟨rfl, hd⟩

theorem pure_ScriptFor : laws_FnExactScriptFor.Pure := by
  intro p w h r l kind _ _ _ _ hql _
  refine Ev.rounds (g := fun k => laws_FnExactScriptFor.f k p w h r l kind) ?_
  unfold laws_FnExactScriptFor.f
  have hll := hql.1
  unfold maxLen at hll
  refine evBind (evConst (szFrame_f p w h r l 1048576 (by omega) (by omega) hll)) (evIf (fun _ => Ev.now _) (fun hs => ?_))
  have hl : l.length ≤ 1048576 := by
    by_cases h : 1048576 - (l.length : Int) < 0
    · rw [if_pos h] at hs; omega
    · omega
  have hm : (l.map convC).length ≤ 1048576 := by rw [List.length_map]; exact hl
  have TF := toFrame_f p w h r l hl
  have SE := sScriptFor_f p w h r (l.map convC) hm kind
  have IE := iScriptFor_f p w h r (l.map convC) hm kind
  obtain ⟨b1, b2⟩ := scriptI_ok p w h r (l.map convC) kind
  generalize scriptI p w h r (l.map convC) kind = R at SE IE b1 b2
  have b3 := totS_le (b := 4) R b2
  have hz : ¬ (1 + (totS R : Int) + 4 * (R.length : Int) < 0) := by omega
  have EC := eqScanS_f R (by omega) (fun x hx => by have := b2 x hx; omega)
  have MF := markFrame_f p w h r (l.map convC) 1 (by omega) (by omega)
  have MC := markScanS_g R 1 (by omega) (by omega) (by omega)
  have HC := heldScanS_g R 1 (by omega) (by omega) (by omega)
  refine evBind TF (evBind SE (evBind TF (evBind IE (evBind EC (evPos rfl (evBind TF (evBind (eqFrame_f p w h r (l.map convC) (by omega)) (evPos rfl ?_))))))))
  refine evBind MF (evNeg (show ¬ (1 + 4 * ((l.map convC).length : Int) < 0) by omega) (evBind EC ?_))
  refine Ev.step (fun k => by rw [laws_FnExactScriptFor.j0]) (evNeg (by simp) (evBind MC (evBind HC (evNeg hz (evPos rfl ?_)))))
  exact evBind TF (evBind IE (evBind EC (evPos rfl (evBind HC (evNeg hz (evPos rfl (Ev.now _)))))))

end Go.Proofs.Ythajjjpblkhmmaa.CW
