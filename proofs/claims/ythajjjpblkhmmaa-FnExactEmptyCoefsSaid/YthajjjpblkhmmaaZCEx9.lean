/- Functions that a law of this seat reaches: written by a program of this session (wip/xprint.py), and by hand. -/
import Derived.Test.YthajjjpblkhmmaaZCEx0
import Derived.Test.YthajjjpblkhmmaaZCEx4
import Derived.Test.YthajjjpblkhmmaaZCEx5
import Derived.Test.YthajjjpblkhmmaaZCEx8
namespace Go.Proofs.Ythajjjpblkhmmaa.CE
open Go.RowKit Go.Proofs.Ythajjjpblkhmmaa.B Go.Proofs.YthajjjpblkhmmaaW.PrintWords Go.Proofs.YthajjjpblkhmmaaW.PrintLast Go.Proofs.YthajjjpblkhmmaaW.PrintMore
attribute [local go_sem] max2_int min2_int max_two min_two max_three min_three max_four min_four   -- for this text's walks alone
set_option linter.unusedVariables false
set_option linter.unusedSimpArgs false

/-! ### laws_heldIntSS: function 65 -/
def laws_heldIntSS.l0 : Nat → List (List Int) → Int → Int → Option (Int)
  | 0, _, _, _ => none
  | k + 1, x0, x1, x5 => if x5 < (x0.length : Int) then (if 0 ≤ x5 then ((laws_heldIntS.f k (rd_L3 x0 x5) x1).bind fun t218 => (if t218 < 0 then (some (-1)) else (laws_heldIntSS.l0 k x0 t218 (wrap64 (x5 + 1))))) else (none)) else (some x1)
def laws_heldIntSS.f (k : Nat) (l0 : List (List Int)) (a1 : Int) : Option (Int) := laws_heldIntSS.l0 k l0 a1 0
theorem laws_heldIntSS.mono_l : ∀ k, (∀ y0 y1 y2, LeO (laws_heldIntSS.l0 k y0 y1 y2) (laws_heldIntSS.l0 (k + 1) y0 y1 y2))
  | 0 => fun _ _ _ r h => by simp [laws_heldIntSS.l0] at h
  | k + 1 => by
    have ih0 := laws_heldIntSS.mono_l k
    · intro y0 y1 y2
      unfold laws_heldIntSS.l0
      repeat' first
      | (with_reducible exact ih0 _ _ _)
      | (with_reducible exact laws_heldIntS.mono _ _ _)
      | (with_reducible exact LeO.refl _)
      | (with_reducible exact LeO.none _)
      | (with_reducible refine LeO.ite ?_ ?_)
      | (with_reducible refine LeO.bind ?_ (fun _ => ?_))
      | exact ih0 _ _ _
      | exact laws_heldIntS.mono _ _ _
      | exact LeO.none _
      | refine LeO.ite ?_ ?_
      | refine LeO.bind ?_ (fun _ => ?_)
theorem laws_heldIntSS.mono : ∀ a0 a1 k, LeO (laws_heldIntSS.f k a0 a1) (laws_heldIntSS.f (k + 1) a0 a1) := by
  intro a0 a1 k
  have ih0 := laws_heldIntSS.mono_l k
  unfold laws_heldIntSS.f
  repeat' first
      | (with_reducible exact ih0 _ _ _)
      | (with_reducible exact laws_heldIntS.mono _ _ _)
      | (with_reducible exact LeO.refl _)
      | (with_reducible exact LeO.none _)
      | (with_reducible refine LeO.ite ?_ ?_)
      | (with_reducible refine LeO.bind ?_ (fun _ => ?_))
      | exact ih0 _ _ _
      | exact laws_heldIntS.mono _ _ _
      | exact LeO.none _
      | refine LeO.ite ?_ ?_
      | refine LeO.bind ?_ (fun _ => ?_)
set_option maxHeartbeats 8000000 in
set_option maxRecDepth 100000 in
theorem laws_heldIntSS.calls (k : Nat) (A0 : Option Addr) (c0 : Nat) (l0 : List (List Int)) (a1 : Int) (r : Int) (w : World) (hr0 : Kd.C (Kd.slice 3 (Kd.int .i64)) w A0 l0.length l0) (hc0 : l0.length ≤ c0) (h : laws_heldIntSS.f k l0 a1 = some r) :
    Calls Try.prog 65 #[.slice A0 l0.length c0, .int .i64 a1] w fun e w' => e = .returned (.int .i64 r) ∧ Drawn0 w w' := by
  have HR0 := Aside0.mk hr0
  have HC0 := Aside0.mk hc0
  clear hr0 hc0
  have H : (laws_heldIntSS.l0 k l0 a1 0) = some r := h
  clear h
  have H' := Aside0.mk H
  clear H
  go_enter Try.func65, Try.ntmps65
  go_wp2
  go_loopg [1, 5] k (fun kq v1 v5 w' => ∃ (x1_1 : Int) (x5_1 : Int), v1 = .int .i64 x1_1 ∧ v5 = .int .i64 x5_1 ∧ Aside0 (laws_heldIntSS.l0 kq l0 x1_1 x5_1 = some r) ∧ Aside0 (kq ≤ k) ∧ Drawn0 w w')
  case atStart => exact ⟨(a1), (0), (by first | rfl | (simp; done) | (simp [*]; done)), (by first | rfl | (simp; done) | (simp [*]; done)), H', ⟨Nat.le_refl _⟩, by repeat (first | exact Drawn0.refl _ | apply Drawn0.step)⟩
  case round =>
    clear H'
    try clear p2
    obtain ⟨x1_1, x5_1, rfl, rfl, HA, HK1, ⟨m1, rfl⟩⟩ := hrel
    cases gk with
    | zero => exact absurd HA.out (by simp [laws_heldIntSS.l0])
    | succ k1 =>
      have H := HA.out
      clear HA
      simp only [laws_heldIntSS.l0] at H
      by_cases c3 : x5_1 < (l0.length : Int)
      · rw [if_pos c3] at H
        have c3b0 : decide (x5_1 < (l0.length : Int)) = true := decide_eq_true c3
        clear c3
        by_cases c4 : 0 ≤ x5_1
        · rw [if_pos c4] at H
          have c4b0 : decide (0 ≤ x5_1) = true := decide_eq_true c4
          clear c4
          replace H := Option.bind_eq_some_iff.mp H
          obtain ⟨t218, A50, H⟩ := H
          replace H : (if t218 < 0 then (some (-1)) else (laws_heldIntSS.l0 k1 l0 t218 (wrap64 (x5_1 + 1)))) = some r := H
          have A5 := Aside0.mk A50
          clear A50
          by_cases c6 : t218 < 0
          · rw [if_pos c6] at H
            have c6b0 : decide (t218 < 0) = true := decide_eq_true c6
            clear c6
            obtain rfl := Option.some.inj H
            have p217 : 0 ≤ (x5_1 : Int) := of_decide_eq_true (by first | (with_reducible assumption) | assumption)
            have q217 : x5_1 < (l0.length : Int) := of_decide_eq_true (by first | (with_reducible assumption) | assumption)
            obtain ⟨ad217, A217_0, c217_0, e217, hx217_0, hl217_0, hi217_0⟩ := at_L3 HR0.out x5_1 p217 q217
            cases e217
            have HR217_0 := Aside0.mk hi217_0
            have HC217_0 := Aside0.mk hl217_0
            clear hi217_0 hl217_0
            replace p217 := eq_true p217
            replace q217 := eq_true q217
            go_wp2_with (first | ((with_reducible refine gate_callee (f := 24) rfl ?_); refine goesL_ (some 17) rfl rfl Try.func24 (by kernel_rfl) rfl #[.slice A217_0 (rd_L3 l0 x5_1).length c217_0, .int .i64 x1_1] rfl (by (try simp only [List.map_toArray, List.map_cons, List.map_nil]); first | done | rfl | (simp only [List.length_drop, List.length_take]; rfl)) ?_; (with_reducible refine (laws_heldIntS.calls k1 _ _ (rd_L3 l0 x5_1) x1_1 t218 _ ?side1 ?side2 A5.out).mono ?_); (case side1 => repeat (first | exact HR217_0.out | (with_reducible refine Kd.C_alloc ?_ _) | (with_reducible refine Kd.C_drewN ?_ _) | (with_reducible refine Kd.C_drew ?_))); (case side2 => exact HC217_0.out); rintro e w' ⟨rfl, ⟨nd, rfl⟩⟩; refine ⟨_, rfl, ?_⟩))
            go_ret
            exact ⟨by first | rfl | (simp; done) | (simp [*]; done), by repeat (first | exact Drawn0.refl _ | apply Drawn0.step)⟩
          · rw [if_neg c6] at H
            have c6b0 : decide (t218 < 0) = false := decide_eq_false c6
            clear c6
            have H' := Aside0.mk H
            clear H
            have p217 : 0 ≤ (x5_1 : Int) := of_decide_eq_true (by first | (with_reducible assumption) | assumption)
            have q217 : x5_1 < (l0.length : Int) := of_decide_eq_true (by first | (with_reducible assumption) | assumption)
            obtain ⟨ad217, A217_0, c217_0, e217, hx217_0, hl217_0, hi217_0⟩ := at_L3 HR0.out x5_1 p217 q217
            cases e217
            have HR217_0 := Aside0.mk hi217_0
            have HC217_0 := Aside0.mk hl217_0
            clear hi217_0 hl217_0
            replace p217 := eq_true p217
            replace q217 := eq_true q217
            go_wp2_with (first | ((with_reducible refine gate_callee (f := 24) rfl ?_); refine goesL_ (some 17) rfl rfl Try.func24 (by kernel_rfl) rfl #[.slice A217_0 (rd_L3 l0 x5_1).length c217_0, .int .i64 x1_1] rfl (by (try simp only [List.map_toArray, List.map_cons, List.map_nil]); first | done | rfl | (simp only [List.length_drop, List.length_take]; rfl)) ?_; (with_reducible refine (laws_heldIntS.calls k1 _ _ (rd_L3 l0 x5_1) x1_1 t218 _ ?side1 ?side2 A5.out).mono ?_); (case side1 => repeat (first | exact HR217_0.out | (with_reducible refine Kd.C_alloc ?_ _) | (with_reducible refine Kd.C_drewN ?_ _) | (with_reducible refine Kd.C_drew ?_))); (case side2 => exact HC217_0.out); rintro e w' ⟨rfl, ⟨nd, rfl⟩⟩; refine ⟨_, rfl, ?_⟩))
            go_roundg k1
            case measure => have := HK1.out; omega
            case rel => exact ⟨(t218), (wrap64 (x5_1 + 1)), (by first | rfl | (simp; done) | (simp [*]; done)), (by first | rfl | (simp; done) | (simp [*]; done)), H', ⟨by have := HK1.out; omega⟩, by repeat (first | exact Drawn0.refl _ | apply Drawn0.step)⟩
        · rw [if_neg c4] at H
          exact absurd H (by simp)
      · rw [if_neg c3] at H
        have c3b0 : decide (x5_1 < (l0.length : Int)) = false := decide_eq_false c3
        clear c3
        obtain rfl := Option.some.inj H
        go_wp2
        go_ret
        exact ⟨by first | rfl | (simp; done) | (simp [*]; done), by repeat (first | exact Drawn0.refl _ | apply Drawn0.step)⟩

/-- What rows of numbers hold when they are marked, counted on from row to row. -/
def cntSS : Int → List (List Int) → List (List Int)
  | _, [] => []
  | a, x :: l => countL a x.length :: cntSS (a + x.length) l
theorem rdSS_mid (pre : List (List Int)) (x : List Int) (l : List (List Int)) : rd_L3 (pre ++ x :: l) (pre.length : Int) = x := by
  rw [rdSS_nat (by simp)]
  simp
theorem markIntSS_c : ∀ (l pre : List (List Int)) (a : Int), pre.length + l.length ≤ 1048576 → 0 ≤ a → a + tot l ≤ 4611686018427387904 → Ev (fun k => laws_markIntSS.l0 k (pre ++ l) a pre.length) (a + tot l, pre ++ cntSS a l)
  | [], pre, a, hl, h0, h1 => by
    refine Ev.step (fun k => by rw [laws_markIntSS.l0]) (evNeg (by simp) ?_)
    simp only [tot, cntSS, List.map_nil, List.sum_nil]
    rw [show a + ((0 : Nat) : Int) = a from by simp]
    exact Ev.now _
  | x :: l, pre, a, hl, h0, h1 => by
    rw [tot_cons] at h1 ⊢
    rw [List.length_cons] at hl
    refine Ev.step (fun k => by rw [laws_markIntSS.l0]) (evPos (by rw [List.length_append, List.length_cons]; omega) (evPos (by omega) ?_))
    rw [rdSS_mid]
    refine evBind (markIntS_f x a h0 (by omega)) ?_
    simp only []
    rw [show (pre.length : Int) + 1 = ((pre.length + 1 : Nat) : Int) from by omega, w64n (by omega), Int.toNat_natCast, List.set_append_right _ _ (Nat.le_refl _), Nat.sub_self, List.set_cons_zero]
    have key := markIntSS_c l (pre ++ [countL a x.length]) (a + x.length) (by rw [List.length_append]; simp only [List.length_cons, List.length_nil]; omega) (by omega) (by omega)
    rw [List.length_append, List.append_assoc, List.append_assoc] at key
    rw [cntSS, show a + ((x.length + tot l : Nat) : Int) = a + x.length + (tot l : Int) from by omega]
    exact key
theorem markIntSS_g (l : List (List Int)) (a : Int) (hl : l.length ≤ 1048576) (h0 : 0 ≤ a) (h1 : a + tot l ≤ 4611686018427387904) : Ev (fun k => laws_markIntSS.f k l a) (a + tot l, cntSS a l) := markIntSS_c l [] a (by simpa using hl) h0 h1
theorem heldIntSS_c : ∀ (l pre : List (List Int)) (a : Int), pre.length + l.length ≤ 1048576 → 0 ≤ a → a + tot l ≤ 4611686018427387904 → Ev (fun k => laws_heldIntSS.l0 k (pre ++ cntSS a l) a pre.length) (a + tot l)
  | [], pre, a, hl, h0, h1 => by
    refine Ev.step (fun k => by rw [laws_heldIntSS.l0]) (evNeg (by simp [cntSS]) ?_)
    simp only [tot, List.map_nil, List.sum_nil]
    rw [show a + ((0 : Nat) : Int) = a from by simp]
    exact Ev.now _
  | x :: l, pre, a, hl, h0, h1 => by
    rw [tot_cons] at h1 ⊢
    rw [List.length_cons] at hl
    rw [cntSS]
    refine Ev.step (fun k => by rw [laws_heldIntSS.l0]) (evPos (by rw [List.length_append, List.length_cons]; omega) (evPos (by omega) ?_))
    rw [rdSS_mid]
    refine evBind (heldIntS_f a x.length h0 (by omega)) (evNeg (by omega) ?_)
    rw [show (pre.length : Int) + 1 = ((pre.length + 1 : Nat) : Int) from by omega, w64n (by omega)]
    have key := heldIntSS_c l (pre ++ [countL a x.length]) (a + x.length) (by rw [List.length_append]; simp only [List.length_cons, List.length_nil]; omega) (by omega) (by omega)
    rw [List.length_append, List.append_assoc] at key
    rw [show a + ((x.length + tot l : Nat) : Int) = a + x.length + (tot l : Int) from by omega]
    exact key
theorem heldIntSS_g (l : List (List Int)) (a : Int) (hl : l.length ≤ 1048576) (h0 : 0 ≤ a) (h1 : a + tot l ≤ 4611686018427387904) : Ev (fun k => laws_heldIntSS.f k (cntSS a l) a) (a + tot l) := heldIntSS_c l [] a (by simpa using hl) h0 h1
theorem tot_le {b : Nat} : ∀ l : List (List Int), (∀ x ∈ l, x.length ≤ b) → tot l ≤ l.length * b
  | [], _ => by simp [tot]
  | x :: l, h => by
    rw [tot_cons, List.length_cons, Nat.succ_mul]
    have h1 := h x List.mem_cons_self
    have h2 := tot_le l (fun y hy => h y (List.mem_cons_of_mem _ hy))
    omega

/-! ### laws_heldIntSSS: function 100 -/
def laws_heldIntSSS.l0 : Nat → List (List (List Int)) → Int → Int → Option (Int)
  | 0, _, _, _ => none
  | k + 1, x0, x1, x5 => if x5 < (x0.length : Int) then (if 0 ≤ x5 then ((laws_heldIntSS.f k (rd_L4 x0 x5) x1).bind fun t220 => (if t220 < 0 then (some (-1)) else (laws_heldIntSSS.l0 k x0 t220 (wrap64 (x5 + 1))))) else (none)) else (some x1)
def laws_heldIntSSS.f (k : Nat) (l0 : List (List (List Int))) (a1 : Int) : Option (Int) := laws_heldIntSSS.l0 k l0 a1 0
theorem laws_heldIntSSS.mono_l : ∀ k, (∀ y0 y1 y2, LeO (laws_heldIntSSS.l0 k y0 y1 y2) (laws_heldIntSSS.l0 (k + 1) y0 y1 y2))
  | 0 => fun _ _ _ r h => by simp [laws_heldIntSSS.l0] at h
  | k + 1 => by
    have ih0 := laws_heldIntSSS.mono_l k
    · intro y0 y1 y2
      unfold laws_heldIntSSS.l0
      repeat' first
      | (with_reducible exact ih0 _ _ _)
      | (with_reducible exact laws_heldIntSS.mono _ _ _)
      | (with_reducible exact LeO.refl _)
      | (with_reducible exact LeO.none _)
      | (with_reducible refine LeO.ite ?_ ?_)
      | (with_reducible refine LeO.bind ?_ (fun _ => ?_))
      | exact ih0 _ _ _
      | exact laws_heldIntSS.mono _ _ _
      | exact LeO.none _
      | refine LeO.ite ?_ ?_
      | refine LeO.bind ?_ (fun _ => ?_)
theorem laws_heldIntSSS.mono : ∀ a0 a1 k, LeO (laws_heldIntSSS.f k a0 a1) (laws_heldIntSSS.f (k + 1) a0 a1) := by
  intro a0 a1 k
  have ih0 := laws_heldIntSSS.mono_l k
  unfold laws_heldIntSSS.f
  repeat' first
      | (with_reducible exact ih0 _ _ _)
      | (with_reducible exact laws_heldIntSS.mono _ _ _)
      | (with_reducible exact LeO.refl _)
      | (with_reducible exact LeO.none _)
      | (with_reducible refine LeO.ite ?_ ?_)
      | (with_reducible refine LeO.bind ?_ (fun _ => ?_))
      | exact ih0 _ _ _
      | exact laws_heldIntSS.mono _ _ _
      | exact LeO.none _
      | refine LeO.ite ?_ ?_
      | refine LeO.bind ?_ (fun _ => ?_)
set_option maxHeartbeats 8000000 in
set_option maxRecDepth 100000 in
theorem laws_heldIntSSS.calls (k : Nat) (A0 : Option Addr) (c0 : Nat) (l0 : List (List (List Int))) (a1 : Int) (r : Int) (w : World) (hr0 : Kd.C (Kd.slice 22 (Kd.slice 3 (Kd.int .i64))) w A0 l0.length l0) (hc0 : l0.length ≤ c0) (h : laws_heldIntSSS.f k l0 a1 = some r) :
    Calls Try.prog 100 #[.slice A0 l0.length c0, .int .i64 a1] w fun e w' => e = .returned (.int .i64 r) ∧ Drawn0 w w' := by
  have HR0 := Aside0.mk hr0
  have HC0 := Aside0.mk hc0
  clear hr0 hc0
  have H : (laws_heldIntSSS.l0 k l0 a1 0) = some r := h
  clear h
  have H' := Aside0.mk H
  clear H
  go_enter Try.func100, Try.ntmps100
  go_wp2
  go_loopg [1, 5] k (fun kq v1 v5 w' => ∃ (x1_1 : Int) (x5_1 : Int), v1 = .int .i64 x1_1 ∧ v5 = .int .i64 x5_1 ∧ Aside0 (laws_heldIntSSS.l0 kq l0 x1_1 x5_1 = some r) ∧ Aside0 (kq ≤ k) ∧ Drawn0 w w')
  case atStart => exact ⟨(a1), (0), (by first | rfl | (simp; done) | (simp [*]; done)), (by first | rfl | (simp; done) | (simp [*]; done)), H', ⟨Nat.le_refl _⟩, by repeat (first | exact Drawn0.refl _ | apply Drawn0.step)⟩
  case round =>
    clear H'
    try clear c1
    try clear p2
    obtain ⟨x1_1, x5_1, rfl, rfl, HA, HK1, ⟨m1, rfl⟩⟩ := hrel
    cases gk with
    | zero => exact absurd HA.out (by simp [laws_heldIntSSS.l0])
    | succ k1 =>
      have H := HA.out
      clear HA
      simp only [laws_heldIntSSS.l0] at H
      by_cases c3 : x5_1 < (l0.length : Int)
      · rw [if_pos c3] at H
        have c3b0 : decide (x5_1 < (l0.length : Int)) = true := decide_eq_true c3
        clear c3
        by_cases c4 : 0 ≤ x5_1
        · rw [if_pos c4] at H
          have c4b0 : decide (0 ≤ x5_1) = true := decide_eq_true c4
          clear c4
          replace H := Option.bind_eq_some_iff.mp H
          obtain ⟨t220, A50, H⟩ := H
          replace H : (if t220 < 0 then (some (-1)) else (laws_heldIntSSS.l0 k1 l0 t220 (wrap64 (x5_1 + 1)))) = some r := H
          have A5 := Aside0.mk A50
          clear A50
          by_cases c6 : t220 < 0
          · rw [if_pos c6] at H
            have c6b0 : decide (t220 < 0) = true := decide_eq_true c6
            clear c6
            obtain rfl := Option.some.inj H
            have p219 : 0 ≤ (x5_1 : Int) := of_decide_eq_true (by first | (with_reducible assumption) | assumption)
            have q219 : x5_1 < (l0.length : Int) := of_decide_eq_true (by first | (with_reducible assumption) | assumption)
            obtain ⟨ad219, A219_0, c219_0, e219, hx219_0, hl219_0, hi219_0⟩ := at_L4 HR0.out x5_1 p219 q219
            cases e219
            have HR219_0 := Aside0.mk hi219_0
            have HC219_0 := Aside0.mk hl219_0
            clear hi219_0 hl219_0
            replace p219 := eq_true p219
            replace q219 := eq_true q219
            go_wp2_with (first | ((with_reducible refine gate_callee (f := 65) rfl ?_); refine goesL_ (some 17) rfl rfl Try.func65 (by kernel_rfl) rfl #[.slice A219_0 (rd_L4 l0 x5_1).length c219_0, .int .i64 x1_1] rfl (by (try simp only [List.map_toArray, List.map_cons, List.map_nil]); first | done | rfl | (simp only [List.length_drop, List.length_take]; rfl)) ?_; (with_reducible refine (laws_heldIntSS.calls k1 _ _ (rd_L4 l0 x5_1) x1_1 t220 _ ?side1 ?side2 A5.out).mono ?_); (case side1 => repeat (first | exact HR219_0.out | (with_reducible refine Kd.C_alloc ?_ _) | (with_reducible refine Kd.C_drewN ?_ _) | (with_reducible refine Kd.C_drew ?_))); (case side2 => exact HC219_0.out); rintro e w' ⟨rfl, ⟨nd, rfl⟩⟩; refine ⟨_, rfl, ?_⟩))
            go_ret
            exact ⟨by first | rfl | (simp; done) | (simp [*]; done), by repeat (first | exact Drawn0.refl _ | apply Drawn0.step)⟩
          · rw [if_neg c6] at H
            have c6b0 : decide (t220 < 0) = false := decide_eq_false c6
            clear c6
            have H' := Aside0.mk H
            clear H
            have p219 : 0 ≤ (x5_1 : Int) := of_decide_eq_true (by first | (with_reducible assumption) | assumption)
            have q219 : x5_1 < (l0.length : Int) := of_decide_eq_true (by first | (with_reducible assumption) | assumption)
            obtain ⟨ad219, A219_0, c219_0, e219, hx219_0, hl219_0, hi219_0⟩ := at_L4 HR0.out x5_1 p219 q219
            cases e219
            have HR219_0 := Aside0.mk hi219_0
            have HC219_0 := Aside0.mk hl219_0
            clear hi219_0 hl219_0
            replace p219 := eq_true p219
            replace q219 := eq_true q219
            go_wp2_with (first | ((with_reducible refine gate_callee (f := 65) rfl ?_); refine goesL_ (some 17) rfl rfl Try.func65 (by kernel_rfl) rfl #[.slice A219_0 (rd_L4 l0 x5_1).length c219_0, .int .i64 x1_1] rfl (by (try simp only [List.map_toArray, List.map_cons, List.map_nil]); first | done | rfl | (simp only [List.length_drop, List.length_take]; rfl)) ?_; (with_reducible refine (laws_heldIntSS.calls k1 _ _ (rd_L4 l0 x5_1) x1_1 t220 _ ?side1 ?side2 A5.out).mono ?_); (case side1 => repeat (first | exact HR219_0.out | (with_reducible refine Kd.C_alloc ?_ _) | (with_reducible refine Kd.C_drewN ?_ _) | (with_reducible refine Kd.C_drew ?_))); (case side2 => exact HC219_0.out); rintro e w' ⟨rfl, ⟨nd, rfl⟩⟩; refine ⟨_, rfl, ?_⟩))
            go_roundg k1
            case measure => have := HK1.out; omega
            case rel => exact ⟨(t220), (wrap64 (x5_1 + 1)), (by first | rfl | (simp; done) | (simp [*]; done)), (by first | rfl | (simp; done) | (simp [*]; done)), H', ⟨by have := HK1.out; omega⟩, by repeat (first | exact Drawn0.refl _ | apply Drawn0.step)⟩
        · rw [if_neg c4] at H
          exact absurd H (by simp)
      · rw [if_neg c3] at H
        have c3b0 : decide (x5_1 < (l0.length : Int)) = false := decide_eq_false c3
        clear c3
        obtain rfl := Option.some.inj H
        go_wp2
        go_ret
        exact ⟨by first | rfl | (simp; done) | (simp [*]; done), by repeat (first | exact Drawn0.refl _ | apply Drawn0.step)⟩

/-! ### laws_heldCoefs: function 49 -/
def laws_heldCoefs.f (k : Nat) (l0_0 : List (List (List Int))) (a1 : Int) : Option (Int) := (laws_heldIntSSS.f k l0_0 a1).bind fun t222 => (if t222 < 0 then (some (-1)) else (some t222))
theorem laws_heldCoefs.mono : ∀ a0 a1 k, LeO (laws_heldCoefs.f k a0 a1) (laws_heldCoefs.f (k + 1) a0 a1) := by
  intro a0 a1 k
  unfold laws_heldCoefs.f
  repeat' first
      | (with_reducible exact laws_heldIntSSS.mono _ _ _)
      | (with_reducible exact LeO.refl _)
      | (with_reducible exact LeO.none _)
      | (with_reducible refine LeO.ite ?_ ?_)
      | (with_reducible refine LeO.bind ?_ (fun _ => ?_))
      | exact laws_heldIntSSS.mono _ _ _
      | exact LeO.none _
      | refine LeO.ite ?_ ?_
      | refine LeO.bind ?_ (fun _ => ?_)
set_option maxHeartbeats 8000000 in
set_option maxRecDepth 100000 in
theorem laws_heldCoefs.calls (k : Nat) (A0_0 : Option Addr) (c0_0 : Nat) (l0_0 : List (List (List Int))) (a1 : Int) (r : Int) (w : World) (hr0_0 : Kd.C (Kd.slice 22 (Kd.slice 3 (Kd.int .i64))) w A0_0 l0_0.length l0_0) (hc0_0 : l0_0.length ≤ c0_0) (h : laws_heldCoefs.f k l0_0 a1 = some r) :
    Calls Try.prog 49 #[.agg #[.slice A0_0 l0_0.length c0_0], .int .i64 a1] w fun e w' => e = .returned (.int .i64 r) ∧ Below w.heap.size w w' := by
  have hu63 := Try.underlying63
  have HR0_0 := Aside0.mk hr0_0
  have HC0_0 := Aside0.mk hc0_0
  clear hr0_0 hc0_0
  have HB := Aside0.mk (Below.refl w.heap.size w)
  have H : ((laws_heldIntSSS.f k l0_0 a1).bind fun t222 => (if t222 < 0 then (some (-1)) else (some t222))) = some r := h
  clear h
  replace H := Option.bind_eq_some_iff.mp H
  obtain ⟨t222, A30, H⟩ := H
  replace H : (if t222 < 0 then (some (-1)) else (some t222)) = some r := H
  have A3 := Aside0.mk A30
  clear A30
  by_cases c4 : t222 < 0
  · rw [if_pos c4] at H
    have c4b0 : decide (t222 < 0) = true := decide_eq_true c4
    clear c4
    obtain rfl := Option.some.inj H
    go_enter Try.func49, Try.ntmps49
    go_wp2_with (first | ((with_reducible refine gate_dst (N := 2) rfl ?_); refine box_event ?hg (N := 2) ?hd (cs := #[.slice A0_0 l0_0.length c0_0]) (t := 63) ?hr ?_; (case hd => rfl); (case hg => rfl); (case hr => first | (go_simp; done) | (go_simp; rfl)); intro gb221 hg w5 hbox hb; have n0_ := Aside0.mk (below_step (by repeat (first | (with_reducible first | exact HB.out | apply below_alloc | apply pw_below_drewN | apply below_drew1) | exact HB.out)) hb); have n1_ := Aside0.mk (hbox); have n2_ := Aside0.mk ((by rw [hg]; exact (below_size (by repeat (first | (with_reducible first | exact HB.out | apply below_alloc | apply pw_below_drewN | apply below_drew1) | exact HB.out))) : w.heap.size ≤ gb221)); have n3_ := Aside0.mk ((by rw [hg]; exact (below_size (by repeat (first | (with_reducible first | exact HB.out | apply below_alloc | apply pw_below_drewN | apply below_drew1) | exact HB.out))) : w.heap.size ≤ gb221)); clear HB; have HB := n0_; have BK221 := n1_; have GW221 := n2_; have GE221 := n3_; clear n0_ n1_ n2_ n3_; clear hb hbox hg; have hcz6_0 : w5.cell? ⟨gb221, 0, none⟩ = some (.slice A0_0 l0_0.length c0_0) := (blk_cell BK221.out 0).trans rfl; have hfz6_0 := blk_frozen BK221.out 0) | ((with_reducible refine gate_callee (f := 100) rfl ?_); refine goesL_ (some 8) rfl rfl Try.func100 (by kernel_rfl) rfl #[.slice A0_0 l0_0.length c0_0, .int .i64 a1] rfl (by (try simp only [List.map_toArray, List.map_cons, List.map_nil]); first | done | rfl | (simp only [List.length_drop, List.length_take]; rfl)) ?_; (with_reducible refine (laws_heldIntSSS.calls k _ _ l0_0 a1 t222 _ ?side1 ?side2 A3.out).mono ?_); (case side1 => repeat (first | exact (Kd.C_below HR0_0.out HB.out) | (with_reducible refine Kd.C_alloc ?_ _) | (with_reducible refine Kd.C_drewN ?_ _) | (with_reducible refine Kd.C_drew ?_))); (case side2 => exact HC0_0.out); rintro e w' ⟨rfl, ⟨nd, rfl⟩⟩; refine ⟨_, rfl, ?_⟩))
    go_ret
    exact ⟨by first | rfl | (simp [errW_none, errW_some] <;> rfl) | (simp [*, errW_none, errW_some] <;> rfl), by repeat (first | (with_reducible first | exact HB.out | apply below_alloc | apply pw_below_drewN | apply below_drew1 | refine below_set ?_ GE221.out) | exact HB.out)⟩
  · rw [if_neg c4] at H
    have c4b0 : decide (t222 < 0) = false := decide_eq_false c4
    clear c4
    obtain rfl := Option.some.inj H
    go_enter Try.func49, Try.ntmps49
    go_wp2_with (first | ((with_reducible refine gate_dst (N := 2) rfl ?_); refine box_event ?hg (N := 2) ?hd (cs := #[.slice A0_0 l0_0.length c0_0]) (t := 63) ?hr ?_; (case hd => rfl); (case hg => rfl); (case hr => first | (go_simp; done) | (go_simp; rfl)); intro gb221 hg w7 hbox hb; have n0_ := Aside0.mk (below_step (by repeat (first | (with_reducible first | exact HB.out | apply below_alloc | apply pw_below_drewN | apply below_drew1) | exact HB.out)) hb); have n1_ := Aside0.mk (hbox); have n2_ := Aside0.mk ((by rw [hg]; exact (below_size (by repeat (first | (with_reducible first | exact HB.out | apply below_alloc | apply pw_below_drewN | apply below_drew1) | exact HB.out))) : w.heap.size ≤ gb221)); have n3_ := Aside0.mk ((by rw [hg]; exact (below_size (by repeat (first | (with_reducible first | exact HB.out | apply below_alloc | apply pw_below_drewN | apply below_drew1) | exact HB.out))) : w.heap.size ≤ gb221)); clear HB; have HB := n0_; have BK221 := n1_; have GW221 := n2_; have GE221 := n3_; clear n0_ n1_ n2_ n3_; clear hb hbox hg; have hcz8_0 : w7.cell? ⟨gb221, 0, none⟩ = some (.slice A0_0 l0_0.length c0_0) := (blk_cell BK221.out 0).trans rfl; have hfz8_0 := blk_frozen BK221.out 0) | ((with_reducible refine gate_callee (f := 100) rfl ?_); refine goesL_ (some 8) rfl rfl Try.func100 (by kernel_rfl) rfl #[.slice A0_0 l0_0.length c0_0, .int .i64 a1] rfl (by (try simp only [List.map_toArray, List.map_cons, List.map_nil]); first | done | rfl | (simp only [List.length_drop, List.length_take]; rfl)) ?_; (with_reducible refine (laws_heldIntSSS.calls k _ _ l0_0 a1 t222 _ ?side1 ?side2 A3.out).mono ?_); (case side1 => repeat (first | exact (Kd.C_below HR0_0.out HB.out) | (with_reducible refine Kd.C_alloc ?_ _) | (with_reducible refine Kd.C_drewN ?_ _) | (with_reducible refine Kd.C_drew ?_))); (case side2 => exact HC0_0.out); rintro e w' ⟨rfl, ⟨nd, rfl⟩⟩; refine ⟨_, rfl, ?_⟩))
    go_ret
    exact ⟨by first | rfl | (simp [errW_none, errW_some] <;> rfl) | (simp [*, errW_none, errW_some] <;> rfl), by repeat (first | (with_reducible first | exact HB.out | apply below_alloc | apply pw_below_drewN | apply below_drew1 | refine below_set ?_ GE221.out) | exact HB.out)⟩

def tot3 (l : List (List (List Int))) : Nat := (l.map tot).sum
theorem tot3_cons (x : List (List Int)) (l : List (List (List Int))) : tot3 (x :: l) = tot x + tot3 l := by simp [tot3]
/-- What planes hold when they are marked. -/
def cntSSS : Int → List (List (List Int)) → List (List (List Int))
  | _, [] => []
  | a, x :: l => cntSS a x :: cntSSS (a + tot x) l
theorem rdSSS_mid (pre : List (List (List Int))) (x : List (List Int)) (l : List (List (List Int))) : rd_L4 (pre ++ x :: l) (pre.length : Int) = x := by
  rw [rdSSS_nat (by simp)]
  simp
theorem markIntSSS_c : ∀ (l pre : List (List (List Int))) (a : Int), pre.length + l.length ≤ 1048576 → (∀ x ∈ l, x.length ≤ 1048576) → 0 ≤ a → a + tot3 l ≤ 4611686018427387904 → Ev (fun k => laws_markIntSSS.l0 k (pre ++ l) a pre.length) (a + tot3 l, pre ++ cntSSS a l)
  | [], pre, a, hl, _, h0, h1 => by
    refine Ev.step (fun k => by rw [laws_markIntSSS.l0]) (evNeg (by simp) ?_)
    simp only [tot3, cntSSS, List.map_nil, List.sum_nil]
    rw [show a + ((0 : Nat) : Int) = a from by simp]
    exact Ev.now _
  | x :: l, pre, a, hl, hx, h0, h1 => by
    rw [tot3_cons] at h1 ⊢
    rw [List.length_cons] at hl
    refine Ev.step (fun k => by rw [laws_markIntSSS.l0]) (evPos (by rw [List.length_append, List.length_cons]; omega) (evPos (by omega) ?_))
    rw [rdSSS_mid]
    refine evBind (markIntSS_g x a (hx x List.mem_cons_self) h0 (by omega)) ?_
    simp only []
    rw [show (pre.length : Int) + 1 = ((pre.length + 1 : Nat) : Int) from by omega, w64n (by omega), Int.toNat_natCast, List.set_append_right _ _ (Nat.le_refl _), Nat.sub_self, List.set_cons_zero]
    have key := markIntSSS_c l (pre ++ [cntSS a x]) (a + tot x) (by rw [List.length_append]; simp only [List.length_cons, List.length_nil]; omega) (fun y hy => hx y (List.mem_cons_of_mem _ hy)) (by omega) (by omega)
    rw [List.length_append, List.append_assoc, List.append_assoc] at key
    rw [cntSSS, show a + ((tot x + tot3 l : Nat) : Int) = a + tot x + (tot3 l : Int) from by omega]
    exact key
theorem markCoefs_g (l : List (List (List Int))) (a : Int) (hl : l.length ≤ 1048576) (hx : ∀ x ∈ l, x.length ≤ 1048576) (h0 : 0 ≤ a) (h1 : a + tot3 l ≤ 4611686018427387904) : Ev (fun k => laws_markCoefs.f k l a) (a + tot3 l, cntSSS a l) := by
  unfold laws_markCoefs.f
  exact evBind (markIntSSS_c l [] a (by simpa using hl) hx h0 h1) (Ev.now _)
theorem heldIntSSS_c : ∀ (l pre : List (List (List Int))) (a : Int), pre.length + l.length ≤ 1048576 → (∀ x ∈ l, x.length ≤ 1048576) → 0 ≤ a → a + tot3 l ≤ 4611686018427387904 → Ev (fun k => laws_heldIntSSS.l0 k (pre ++ cntSSS a l) a pre.length) (a + tot3 l)
  | [], pre, a, hl, _, h0, h1 => by
    refine Ev.step (fun k => by rw [laws_heldIntSSS.l0]) (evNeg (by simp [cntSSS]) ?_)
    simp only [tot3, List.map_nil, List.sum_nil]
    rw [show a + ((0 : Nat) : Int) = a from by simp]
    exact Ev.now _
  | x :: l, pre, a, hl, hx, h0, h1 => by
    rw [tot3_cons] at h1 ⊢
    rw [List.length_cons] at hl
    rw [cntSSS]
    refine Ev.step (fun k => by rw [laws_heldIntSSS.l0]) (evPos (by rw [List.length_append, List.length_cons]; omega) (evPos (by omega) ?_))
    rw [rdSSS_mid]
    refine evBind (heldIntSS_g x a (hx x List.mem_cons_self) h0 (by omega)) (evNeg (by omega) ?_)
    rw [show (pre.length : Int) + 1 = ((pre.length + 1 : Nat) : Int) from by omega, w64n (by omega)]
    have key := heldIntSSS_c l (pre ++ [cntSS a x]) (a + tot x) (by rw [List.length_append]; simp only [List.length_cons, List.length_nil]; omega) (fun y hy => hx y (List.mem_cons_of_mem _ hy)) (by omega) (by omega)
    rw [List.length_append, List.append_assoc] at key
    rw [show a + ((tot x + tot3 l : Nat) : Int) = a + tot x + (tot3 l : Int) from by omega]
    exact key
theorem heldCoefs_g (l : List (List (List Int))) (a : Int) (hl : l.length ≤ 1048576) (hx : ∀ x ∈ l, x.length ≤ 1048576) (h0 : 0 ≤ a) (h1 : a + tot3 l ≤ 4611686018427387904) : Ev (fun k => laws_heldCoefs.f k (cntSSS a l) a) (a + tot3 l) := by
  unfold laws_heldCoefs.f
  exact evBind (heldIntSSS_c l [] a (by simpa using hl) hx h0 h1) (evNeg (by omega) (Ev.now _))
theorem tot3_le {b : Nat} : ∀ l : List (List (List Int)), (∀ x ∈ l, tot x ≤ b) → tot3 l ≤ l.length * b
  | [], _ => by simp [tot3]
  | x :: l, h => by
    rw [tot3_cons, List.length_cons, Nat.succ_mul]
    have h1 := h x List.mem_cons_self
    have h2 := tot3_le l (fun y hy => h y (List.mem_cons_of_mem _ hy))
    omega

end Go.Proofs.Ythajjjpblkhmmaa.CE
