/- Functions that a law of this seat reaches: written by a program of this session (wip/xprint.py), and by hand. -/
import Derived.Test.YtdeheflbigggbaaCMx0
namespace Go.Proofs.Ytdeheflbigggbaa.CM
open Go.RowKit Go.Proofs.Ytdeheflbigggbaa.B Go.Proofs.YtdeheflbigggbaaW.PrintWords Go.Proofs.YtdeheflbigggbaaW.PrintLast Go.Proofs.YtdeheflbigggbaaW.PrintMore
attribute [local go_sem] max2_int min2_int max_two min_two max_three min_three max_four min_four   -- for this text's walks alone
set_option linter.unusedVariables false
set_option linter.unusedSimpArgs false

/-! ### spec_l01Between: function 58 -/
def spec_l01Between.f (a0 : Int) (a1 : Int) (a2 : Int) : Option (Bool) := if a0 ≥ a1 then (some (decide (a0 ≤ a2))) else (some false)
set_option maxHeartbeats 8000000 in
set_option maxRecDepth 100000 in
theorem spec_l01Between.calls (a0 : Int) (a1 : Int) (a2 : Int) (r : Bool) (w : World) (h : spec_l01Between.f a0 a1 a2 = some r) :
    Calls Try.prog 58 #[.int .i64 a0, .int .i64 a1, .int .i64 a2] w fun e w' => e = .returned (.bool r) ∧ Drawn0 w w' := by
  have H : (if a0 ≥ a1 then (some (decide (a0 ≤ a2))) else (some false)) = some r := h
  clear h
  by_cases c4 : a0 ≥ a1
  · rw [if_pos c4] at H
    have c4b0 : decide (a1 ≤ a0) = true := decide_eq_true c4
    clear c4
    obtain rfl := Option.some.inj H
    go_enter Try.func58, Try.ntmps58
    go_wp2
    go_ret
    exact ⟨by first | rfl | (simp; done) | (simp [*]; done), by repeat (first | exact Drawn0.refl _ | apply Drawn0.step)⟩
  · rw [if_neg c4] at H
    have c4b0 : decide (a1 ≤ a0) = false := decide_eq_false c4
    clear c4
    obtain rfl := Option.some.inj H
    go_enter Try.func58, Try.ntmps58
    go_wp2
    go_ret
    exact ⟨by first | rfl | (simp; done) | (simp [*]; done), by repeat (first | exact Drawn0.refl _ | apply Drawn0.step)⟩

theorem between_f (a b c : Int) : spec_l01Between.f a b c = some (inR a b c) := inR_ite a b c

/-! ### spec_l07Abs: function 96 -/
def spec_l07Abs.f (a0 : Int) : Option (Int) := if a0 < 0 then (some (wrap64 (-a0))) else (some a0)
set_option maxHeartbeats 8000000 in
set_option maxRecDepth 100000 in
theorem spec_l07Abs.calls (a0 : Int) (r : Int) (w : World) (h : spec_l07Abs.f a0 = some r) :
    Calls Try.prog 96 #[.int .i64 a0] w fun e w' => e = .returned (.int .i64 r) ∧ Drawn0 w w' := by
  have H : (if a0 < 0 then (some (wrap64 (-a0))) else (some a0)) = some r := h
  clear h
  by_cases c2 : a0 < 0
  · rw [if_pos c2] at H
    have c2b0 : decide (a0 < 0) = true := decide_eq_true c2
    clear c2
    obtain rfl := Option.some.inj H
    go_enter Try.func96, Try.ntmps96
    go_wp2
    go_ret
    exact ⟨by first | rfl | (simp; done) | (simp [*]; done), by repeat (first | exact Drawn0.refl _ | apply Drawn0.step)⟩
  · rw [if_neg c2] at H
    have c2b0 : decide (a0 < 0) = false := decide_eq_false c2
    clear c2
    obtain rfl := Option.some.inj H
    go_enter Try.func96, Try.ntmps96
    go_wp2
    go_ret
    exact ⟨by first | rfl | (simp; done) | (simp [*]; done), by repeat (first | exact Drawn0.refl _ | apply Drawn0.step)⟩

theorem sAbs_f {n : Int} (h0 : -32767 ≤ n) (h1 : n ≤ 32767) : spec_l07Abs.f n = some ((n.natAbs : Nat) : Int) := by
  unfold spec_l07Abs.f
  by_cases h : n < 0
  · rw [if_pos h, w64 (by omega) (by omega)]
    congr 1
    omega
  · rw [if_neg h]
    congr 1
    omega

/-! ### spec_ClassOf: function 57 -/
def spec_ClassOf.l0 : Nat → Int → Int → Option (Int)
  | 0, _, _ => none
  | k + 1, x3, x4 => if x4 > 0 then (spec_ClassOf.l0 k (wrap64 (x3 + 1)) (wrap64 (Int.tdiv x4 2))) else (some x3)
def spec_ClassOf.f (k : Nat) (a0 : Int) : Option (Int) := (spec_l01Between.f a0 (-32767) 32767).bind fun t101 => (if t101 = true then ((spec_l07Abs.f a0).bind fun t102 => (spec_ClassOf.l0 k 0 t102)) else (some (-1)))
theorem spec_ClassOf.mono_l : ∀ k, (∀ y0 y1, LeO (spec_ClassOf.l0 k y0 y1) (spec_ClassOf.l0 (k + 1) y0 y1))
  | 0 => fun _ _ r h => by simp [spec_ClassOf.l0] at h
  | k + 1 => by
    have ih0 := spec_ClassOf.mono_l k
    · intro y0 y1
      unfold spec_ClassOf.l0
      repeat' first
      | (with_reducible exact ih0 _ _)
      | (with_reducible exact LeO.refl _)
      | (with_reducible exact LeO.none _)
      | (with_reducible refine LeO.ite ?_ ?_)
      | (with_reducible refine LeO.bind ?_ (fun _ => ?_))
      | exact ih0 _ _
      | exact LeO.none _
      | refine LeO.ite ?_ ?_
      | refine LeO.bind ?_ (fun _ => ?_)
theorem spec_ClassOf.mono : ∀ a0 k, LeO (spec_ClassOf.f k a0) (spec_ClassOf.f (k + 1) a0) := by
  intro a0 k
  have ih0 := spec_ClassOf.mono_l k
  unfold spec_ClassOf.f
  repeat' first
      | (with_reducible exact ih0 _ _)
      | (with_reducible exact LeO.refl _)
      | (with_reducible exact LeO.none _)
      | (with_reducible refine LeO.ite ?_ ?_)
      | (with_reducible refine LeO.bind ?_ (fun _ => ?_))
      | exact ih0 _ _
      | exact LeO.none _
      | refine LeO.ite ?_ ?_
      | refine LeO.bind ?_ (fun _ => ?_)
set_option maxHeartbeats 8000000 in
set_option maxRecDepth 100000 in
theorem spec_ClassOf.calls (k : Nat) (a0 : Int) (r : Int) (w : World) (h : spec_ClassOf.f k a0 = some r) :
    Calls Try.prog 57 #[.int .i64 a0] w fun e w' => e = .returned (.int .i64 r) ∧ Drawn0 w w' := by
  have H : ((spec_l01Between.f a0 (-32767) 32767).bind fun t101 => (if t101 = true then ((spec_l07Abs.f a0).bind fun t102 => (spec_ClassOf.l0 k 0 t102)) else (some (-1)))) = some r := h
  clear h
  replace H := Option.bind_eq_some_iff.mp H
  obtain ⟨t101, A20, H⟩ := H
  replace H : (if t101 = true then ((spec_l07Abs.f a0).bind fun t102 => (spec_ClassOf.l0 k 0 t102)) else (some (-1))) = some r := H
  have A2 := Aside0.mk A20
  clear A20
  by_cases c3 : t101 = true
  · subst c3
    have H1 : ((spec_l07Abs.f a0).bind fun t102 => (spec_ClassOf.l0 k 0 t102)) = some r := by rw [if_pos rfl] at H; exact H
    clear H
    have H := H1
    clear H1
    replace H := Option.bind_eq_some_iff.mp H
    obtain ⟨t102, A40, H⟩ := H
    replace H : (spec_ClassOf.l0 k 0 t102) = some r := H
    have A4 := Aside0.mk A40
    clear A40
    have H' := Aside0.mk H
    clear H
    go_enter Try.func57, Try.ntmps57
    go_wp2_with (first | ((with_reducible refine gate_callee (f := 58) rfl ?_); refine goesL_ (some 6) rfl rfl Try.func58 (by kernel_rfl) rfl #[.int .i64 a0, .int .i64 (-32767), .int .i64 32767] rfl (by (try simp only [List.map_toArray, List.map_cons, List.map_nil]); first | done | rfl | (simp only [List.length_drop, List.length_take]; rfl)) ?_; (with_reducible refine (spec_l01Between.calls a0 (-32767) 32767 true _ A2.out).mono ?_); rintro e w' ⟨rfl, ⟨nd, rfl⟩⟩; refine ⟨_, rfl, ?_⟩) | ((with_reducible refine gate_callee (f := 96) rfl ?_); refine goesL_ (some 9) rfl rfl Try.func96 (by kernel_rfl) rfl #[.int .i64 a0] rfl (by (try simp only [List.map_toArray, List.map_cons, List.map_nil]); first | done | rfl | (simp only [List.length_drop, List.length_take]; rfl)) ?_; (with_reducible refine (spec_l07Abs.calls a0 t102 _ A4.out).mono ?_); rintro e w' ⟨rfl, ⟨nd, rfl⟩⟩; refine ⟨_, rfl, ?_⟩))
    go_loopg [3, 4] k (fun kq v3 v4 w' => ∃ (x3_1 : Int) (x4_1 : Int), v3 = .int .i64 x3_1 ∧ v4 = .int .i64 x4_1 ∧ Aside0 (spec_ClassOf.l0 kq x3_1 x4_1 = some r) ∧ Aside0 (kq ≤ k) ∧ Drawn0 w w')
    case atStart => exact ⟨(0), (t102), (by first | rfl | (simp; done) | (simp [*]; done)), (by first | rfl | (simp; done) | (simp [*]; done)), H', ⟨Nat.le_refl _⟩, by repeat (first | exact Drawn0.refl _ | apply Drawn0.step)⟩
    case round =>
      clear H'
      try clear p2
      try clear c3
      obtain ⟨x3_1, x4_1, rfl, rfl, HA, HK1, ⟨m1, rfl⟩⟩ := hrel
      cases gk with
      | zero => exact absurd HA.out (by simp [spec_ClassOf.l0])
      | succ k1 =>
        have H := HA.out
        clear HA
        simp only [spec_ClassOf.l0] at H
        by_cases c5 : x4_1 > 0
        · rw [if_pos c5] at H
          have c5b0 : decide (0 < x4_1) = true := decide_eq_true c5
          clear c5
          have H' := Aside0.mk H
          clear H
          go_wp2
          go_roundg k1
          case measure => have := HK1.out; omega
          case rel => exact ⟨(wrap64 (x3_1 + 1)), (wrap64 (Int.tdiv x4_1 2)), (by first | rfl | (simp; done) | (simp [*]; done)), (by first | rfl | (simp; done) | (simp [*]; done)), H', ⟨by have := HK1.out; omega⟩, by repeat (first | exact Drawn0.refl _ | apply Drawn0.step)⟩
        · rw [if_neg c5] at H
          have c5b0 : decide (0 < x4_1) = false := decide_eq_false c5
          clear c5
          obtain rfl := Option.some.inj H
          go_wp2
          go_ret
          exact ⟨by first | rfl | (simp; done) | (simp [*]; done), by repeat (first | exact Drawn0.refl _ | apply Drawn0.step)⟩
  · replace c3 := Bool.eq_false_iff.mpr c3
    subst c3
    have H1 : (some (-1)) = some r := by rw [if_neg (show ¬ (false = true) by decide)] at H; exact H
    clear H
    have H := H1
    clear H1
    obtain rfl := Option.some.inj H
    go_enter Try.func57, Try.ntmps57
    go_wp2_with (first | ((with_reducible refine gate_callee (f := 58) rfl ?_); refine goesL_ (some 6) rfl rfl Try.func58 (by kernel_rfl) rfl #[.int .i64 a0, .int .i64 (-32767), .int .i64 32767] rfl (by (try simp only [List.map_toArray, List.map_cons, List.map_nil]); first | done | rfl | (simp only [List.length_drop, List.length_take]; rfl)) ?_; (with_reducible refine (spec_l01Between.calls a0 (-32767) 32767 false _ A2.out).mono ?_); rintro e w' ⟨rfl, ⟨nd, rfl⟩⟩; refine ⟨_, rfl, ?_⟩))
    go_ret
    exact ⟨by first | rfl | (simp; done) | (simp [*]; done), by repeat (first | exact Drawn0.refl _ | apply Drawn0.step)⟩

/-- How many bits a number has. -/
def bitN : Nat → Nat → Nat
  | 0, _ => 0
  | f + 1, x => if x = 0 then 0 else 1 + bitN f (x / 2)
theorem bitN_le : ∀ (f x : Nat), bitN f x ≤ f
  | 0, _ => Nat.le_refl _
  | f + 1, x => by
    have := bitN_le f (x / 2)
    unfold bitN
    split <;> omega
theorem bitN_more : ∀ (f g x : Nat), x < 2 ^ f → f ≤ g → bitN g x = bitN f x
  | 0, g, x, h, _ => by
    have : x = 0 := by simpa using h
    subst this
    cases g <;> simp [bitN]
  | f + 1, 0, x, h, hg => by omega
  | f + 1, g + 1, x, h, hg => by
    unfold bitN
    rw [bitN_more f g (x / 2) (by rw [Nat.pow_succ] at h; omega) (by omega)]
theorem sClass_l0 : ∀ (f x c : Nat), x < 2 ^ f → x ≤ 32767 → f ≤ 64 → c + f ≤ 1000 → Ev (fun k => spec_ClassOf.l0 k c x) (((c + bitN f x : Nat) : Int))
  | 0, x, c, h, _, _, _ => by
    have : x = 0 := by simpa using h
    subst this
    refine Ev.step (fun k => by rw [spec_ClassOf.l0]) (evNeg (by omega) (evCast (Ev.now _) ?_))
    simp [bitN]
  | f + 1, x, c, h, hx, hf, hc => by
    refine Ev.step (fun k => by rw [spec_ClassOf.l0]) ?_
    by_cases h0 : x = 0
    · subst h0
      refine evNeg (by omega) (evCast (Ev.now _) ?_)
      simp [bitN]
    · refine evPos (by omega) ?_
      have e : wrap64 (Int.tdiv (x : Int) 2) = ((x / 2 : Nat) : Int) := by
        rw [Int.tdiv_eq_ediv_of_nonneg (by omega), show ((x : Int) / 2) = ((x / 2 : Nat) : Int) from by omega]
        exact w64n (by omega)
      rw [e, show (c : Int) + 1 = ((c + 1 : Nat) : Int) from by omega, w64n (by omega)]
      refine evCast (sClass_l0 f (x / 2) (c + 1) (by rw [Nat.pow_succ] at h; omega) (by omega) (by omega) (by omega)) ?_
      rw [bitN, if_neg h0]
      omega
/-- The class of a number. -/
def clsN (n : Int) : Nat := bitN 64 n.natAbs
theorem clsN_le {n : Int} (h0 : -32767 ≤ n) (h1 : n ≤ 32767) : clsN n ≤ 15 := by
  unfold clsN
  rw [bitN_more 15 64 n.natAbs (by have : n.natAbs ≤ 32767 := by omega
                                   omega) (by omega)]
  exact bitN_le 15 _
theorem clsN_pos {n : Int} (h : n ≠ 0) : 1 ≤ clsN n := by
  unfold clsN bitN
  rw [if_neg (by omega)]
  omega
def coefB (n : Int) : Bool := inR n (-32767) 32767
def clsI (n : Int) : Int := if coefB n = true then (clsN n : Int) else -1
theorem sClassOf_f (n : Int) : Ev (fun k => spec_ClassOf.f k n) (clsI n) := by
  unfold spec_ClassOf.f
  rw [between_f]
  refine evBind (Ev.now _) (evIf (fun h => ?_) (fun h => ?_))
  · have hr := inR_iff.1 h
    refine evBind (evConst (sAbs_f hr.1 hr.2)) ?_
    refine evCast (sClass_l0 64 n.natAbs 0 (by have : n.natAbs ≤ 32767 := by omega
                                               omega) (by omega) (by omega) (by omega)) ?_
    unfold clsI coefB
    rw [if_pos h]
    simp [clsN]
  · refine evCast (Ev.now _) ?_
    unfold clsI coefB
    rw [if_neg h]

/-! ### spec_l10Bins: function 59 -/
mutual
def spec_l10Bins.j0 : Nat → Int → Int → Int → Option ((List (S31)))
  | 0, _, _, _ => none
  | k + 1, x0, x1, x5 => (spec_ClassOf.f k x0).bind fun t109 => (spec_l10Bins.l0 k x0 x1 (([(⟨x1, 0⟩ : S31), (⟨wrap64 (x1 + 1), x5⟩ : S31)] : List (S31))) t109 1)
def spec_l10Bins.l0 : Nat → Int → Int → List (S31) → Int → Int → Option ((List (S31)))
  | 0, _, _, _, _, _ => none
  | k + 1, x0, x1, x6, x7, x8 => if x8 < x7 then (if x6.length < 8796093022208 then (spec_l10Bins.l0 k x0 x1 (x6 ++ [(⟨wrap64 ((wrap64 (x1 + 1)) + x8), 1⟩ : S31)]) x7 (wrap64 (x8 + 1))) else (none)) else (if x7 < 15 then (if x6.length < 8796093022208 then (spec_l10Bins.j2 k x0 x1 (x6 ++ [(⟨wrap64 ((wrap64 (x1 + 1)) + x7), 0⟩ : S31)]) x7) else (none)) else (spec_l10Bins.j2 k x0 x1 x6 x7))
def spec_l10Bins.j2 : Nat → Int → Int → List (S31) → Int → Option ((List (S31)))
  | 0, _, _, _, _ => none
  | k + 1, x0, x1, x6, x7 => spec_l10Bins.l1 k x0 x1 x6 (wrap64 (x7 - 2))
def spec_l10Bins.l1 : Nat → Int → Int → List (S31) → Int → Option ((List (S31)))
  | 0, _, _, _, _ => none
  | k + 1, x0, x1, x6, x9 => if x9 ≥ 0 then ((spec_l07Abs.f x0).bind fun t116 => (if 0 ≤ x9 then (if x6.length < 8796093022208 then (spec_l10Bins.l1 k x0 x1 (x6 ++ [(⟨wrap64 (x1 + 18), Go.bits .and .i64 (shr .i64 t116 x9) 1⟩ : S31)]) (wrap64 (x9 - 1))) else (none)) else (none))) else (some x6)
end
def spec_l10Bins.f (k : Nat) (a0 : Int) (a1 : Int) : Option ((List (S31))) := if a0 = 0 then (some (([(⟨a1, 1⟩ : S31)] : List (S31)))) else (if a0 < 0 then (spec_l10Bins.j0 k a0 a1 1) else (spec_l10Bins.j0 k a0 a1 0))
theorem spec_l10Bins.mono_l : ∀ k, (∀ y0 y1 y2, LeO (spec_l10Bins.j0 k y0 y1 y2) (spec_l10Bins.j0 (k + 1) y0 y1 y2)) ∧ (∀ y0 y1 y2 y3 y4, LeO (spec_l10Bins.l0 k y0 y1 y2 y3 y4) (spec_l10Bins.l0 (k + 1) y0 y1 y2 y3 y4)) ∧ (∀ y0 y1 y2 y3, LeO (spec_l10Bins.j2 k y0 y1 y2 y3) (spec_l10Bins.j2 (k + 1) y0 y1 y2 y3)) ∧ (∀ y0 y1 y2 y3, LeO (spec_l10Bins.l1 k y0 y1 y2 y3) (spec_l10Bins.l1 (k + 1) y0 y1 y2 y3))
  | 0 => ⟨fun _ _ _ r h => by simp [spec_l10Bins.j0] at h, fun _ _ _ _ _ r h => by simp [spec_l10Bins.l0] at h, fun _ _ _ _ r h => by simp [spec_l10Bins.j2] at h, fun _ _ _ _ r h => by simp [spec_l10Bins.l1] at h⟩
  | k + 1 => by
    obtain ⟨ih0, ih1, ih2, ih3⟩ := spec_l10Bins.mono_l k
    refine ⟨?_, ?_, ?_, ?_⟩
    · intro y0 y1 y2
      unfold spec_l10Bins.j0
      repeat' first
      | (with_reducible exact ih0 _ _ _)
      | (with_reducible exact ih1 _ _ _ _ _)
      | (with_reducible exact ih2 _ _ _ _)
      | (with_reducible exact ih3 _ _ _ _)
      | (with_reducible exact spec_ClassOf.mono _ _)
      | (with_reducible exact LeO.refl _)
      | (with_reducible exact LeO.none _)
      | (with_reducible refine LeO.ite ?_ ?_)
      | (with_reducible refine LeO.bind ?_ (fun _ => ?_))
      | exact ih0 _ _ _
      | exact ih1 _ _ _ _ _
      | exact ih2 _ _ _ _
      | exact ih3 _ _ _ _
      | exact spec_ClassOf.mono _ _
      | exact LeO.none _
      | refine LeO.ite ?_ ?_
      | refine LeO.bind ?_ (fun _ => ?_)
    · intro y0 y1 y2 y3 y4
      unfold spec_l10Bins.l0
      repeat' first
      | (with_reducible exact ih0 _ _ _)
      | (with_reducible exact ih1 _ _ _ _ _)
      | (with_reducible exact ih2 _ _ _ _)
      | (with_reducible exact ih3 _ _ _ _)
      | (with_reducible exact spec_ClassOf.mono _ _)
      | (with_reducible exact LeO.refl _)
      | (with_reducible exact LeO.none _)
      | (with_reducible refine LeO.ite ?_ ?_)
      | (with_reducible refine LeO.bind ?_ (fun _ => ?_))
      | exact ih0 _ _ _
      | exact ih1 _ _ _ _ _
      | exact ih2 _ _ _ _
      | exact ih3 _ _ _ _
      | exact spec_ClassOf.mono _ _
      | exact LeO.none _
      | refine LeO.ite ?_ ?_
      | refine LeO.bind ?_ (fun _ => ?_)
    · intro y0 y1 y2 y3
      unfold spec_l10Bins.j2
      repeat' first
      | (with_reducible exact ih0 _ _ _)
      | (with_reducible exact ih1 _ _ _ _ _)
      | (with_reducible exact ih2 _ _ _ _)
      | (with_reducible exact ih3 _ _ _ _)
      | (with_reducible exact spec_ClassOf.mono _ _)
      | (with_reducible exact LeO.refl _)
      | (with_reducible exact LeO.none _)
      | (with_reducible refine LeO.ite ?_ ?_)
      | (with_reducible refine LeO.bind ?_ (fun _ => ?_))
      | exact ih0 _ _ _
      | exact ih1 _ _ _ _ _
      | exact ih2 _ _ _ _
      | exact ih3 _ _ _ _
      | exact spec_ClassOf.mono _ _
      | exact LeO.none _
      | refine LeO.ite ?_ ?_
      | refine LeO.bind ?_ (fun _ => ?_)
    · intro y0 y1 y2 y3
      unfold spec_l10Bins.l1
      repeat' first
      | (with_reducible exact ih0 _ _ _)
      | (with_reducible exact ih1 _ _ _ _ _)
      | (with_reducible exact ih2 _ _ _ _)
      | (with_reducible exact ih3 _ _ _ _)
      | (with_reducible exact spec_ClassOf.mono _ _)
      | (with_reducible exact LeO.refl _)
      | (with_reducible exact LeO.none _)
      | (with_reducible refine LeO.ite ?_ ?_)
      | (with_reducible refine LeO.bind ?_ (fun _ => ?_))
      | exact ih0 _ _ _
      | exact ih1 _ _ _ _ _
      | exact ih2 _ _ _ _
      | exact ih3 _ _ _ _
      | exact spec_ClassOf.mono _ _
      | exact LeO.none _
      | refine LeO.ite ?_ ?_
      | refine LeO.bind ?_ (fun _ => ?_)
theorem spec_l10Bins.mono : ∀ a0 a1 k, LeO (spec_l10Bins.f k a0 a1) (spec_l10Bins.f (k + 1) a0 a1) := by
  intro a0 a1 k
  obtain ⟨ih0, ih1, ih2, ih3⟩ := spec_l10Bins.mono_l k
  unfold spec_l10Bins.f
  repeat' first
      | (with_reducible exact ih0 _ _ _)
      | (with_reducible exact ih1 _ _ _ _ _)
      | (with_reducible exact ih2 _ _ _ _)
      | (with_reducible exact ih3 _ _ _ _)
      | (with_reducible exact spec_ClassOf.mono _ _)
      | (with_reducible exact LeO.refl _)
      | (with_reducible exact LeO.none _)
      | (with_reducible refine LeO.ite ?_ ?_)
      | (with_reducible refine LeO.bind ?_ (fun _ => ?_))
      | exact ih0 _ _ _
      | exact ih1 _ _ _ _ _
      | exact ih2 _ _ _ _
      | exact ih3 _ _ _ _
      | exact spec_ClassOf.mono _ _
      | exact LeO.none _
      | refine LeO.ite ?_ ?_
      | refine LeO.bind ?_ (fun _ => ?_)
set_option maxHeartbeats 8000000 in
set_option maxRecDepth 100000 in
theorem spec_l10Bins.calls (k : Nat) (a0 : Int) (a1 : Int) (r : List (S31)) (w : World) (h : spec_l10Bins.f k a0 a1 = some r) :
    Calls Try.prog 59 #[.int .i64 a0, .int .i64 a1] w fun e w' => ∃ v0_ : Value, e = .returned (v0_) ∧ Kd.R k31 31 w' w.heap.size (fun _ => True) v0_ r ∧ Below w.heap.size w w' := by
  have hu31 := Try.underlying31
  have HB := Aside0.mk (Below.refl w.heap.size w)
  have H : (if a0 = 0 then (some (([(⟨a1, 1⟩ : S31)] : List (S31)))) else (if a0 < 0 then (spec_l10Bins.j0 k a0 a1 1) else (spec_l10Bins.j0 k a0 a1 0))) = some r := h
  clear h
  by_cases c3 : a0 = 0
  · rw [if_pos c3] at H
    have c3b0 : (a0 == 0) = true := beq_iff_eq.mpr c3
    have c3b1 : (a0 != 0) = false := bne_eq_false_iff_eq.mpr c3
    clear c3
    obtain ⟨y103, hy103⟩ : ∃ y_ : List (S31), y_ = (([(⟨a1, 1⟩ : S31)] : List (S31))) := ⟨_, rfl⟩
    replace H : (some y103) = some r := by first | (rw [hy103]; with_reducible exact H) | (have H2_ := (Option.bind_some _ _).symm.trans H; rw [hy103]; with_reducible exact H2_) | (have H2_ := (Option.bind_some _ _).symm.trans H; with_reducible exact H2_) | with_reducible exact H | (rw [hy103]; exact H) | exact H
    have Ny103 := Aside0.mk hy103
    clear hy103
    obtain rfl := Option.some.inj H
    go_enter Try.func59, Try.ntmps59
    go_wp2_with (first | ((with_reducible refine gate_dst (N := 14) rfl ?_); refine Kd.R_lit k31 _ 31 ?hg (N := 14) ?hd (xs := ([(⟨a1, 1⟩ : S31)] : List (S31))) (inner := [.int .i64 a1, .int .i64 1]) (ok := fun _ => True) (okp := fun _ => True) ?hr ?hp (fun _ hk => hk) trivial (Below.refl _ _) (Nat.le_refl _) (by simp) ?_; (case hd => rfl); (case hg => rfl); (case hr => first | (go_simp; done) | (go_simp; rfl)); (case hp => exact (Reps.c2 (show Kd.M k31 _ _ _ (⟨a1, 1⟩ : S31) [.int .i64 a1, .int .i64 1] from (k31_mkM _ _ _ (⟨a1, 1⟩ : S31) )) (Reps.none _ _))); intro v104 w4 ho5 hb hg_ hnew_; clear hg_ hnew_; (first | rw [← Ny103.out] at ho5 | (simp only [Int.reduceToNat] at ho5; rw [← Ny103.out] at ho5)); have n0_ := Aside0.mk (Kd.R_lower ho5 (below_size (by repeat (first | (with_reducible first | exact HB.out | apply below_alloc | apply pw_below_drewN | apply below_drew1) | exact HB.out)))); have n1_ := Aside0.mk (below_step (by repeat (first | (with_reducible first | exact HB.out | apply below_alloc | apply pw_below_drewN | apply below_drew1) | exact HB.out)) hb); clear HB; have HO105 := n0_; have HB := n1_; clear n0_ n1_; clear hb ho5))
    go_ret
    exact ⟨_, by first | rfl | (simp [errW_none, errW_some] <;> rfl) | (simp [*, errW_none, errW_some] <;> rfl), by (with_reducible repeat (first | apply Kd.R_alloc | apply Kd.R_drewN | apply Kd.R_drew)); exact HO105.out, by repeat (first | (with_reducible first | exact HB.out | apply below_alloc | apply pw_below_drewN | apply below_drew1) | exact HB.out)⟩
  · rw [if_neg c3] at H
    have c3b0 : (a0 == 0) = false := beq_eq_false_iff_ne.mpr c3
    have c3b1 : (a0 != 0) = true := bne_iff_ne.mpr c3
    have HC6 := Aside0.mk H
    clear H
    go_enter Try.func59, Try.ntmps59
    go_upto_if 16 with (fail)
    go_cut [5] (fun v5 wc => ∃ (kq : Nat) (x5_5 : Int), v5 = .int .i64 x5_5 ∧ Aside0 (spec_l10Bins.j0 kq a0 a1 x5_5 = some r) ∧ Aside0 (kq ≤ k) ∧ Aside0 (Below w.heap.size w wc))
    case first =>
      have H := HC6.out
      clear HC6
      by_cases c7 : a0 < 0
      · rw [if_pos c7] at H
        have c7b0 : decide (a0 < 0) = true := decide_eq_true c7
        clear c7
        (first | rw [c7b0] | (simp only [i64_w, i32_w]; rw [c7b0]) | skip)
        have H' := Aside0.mk H
        clear H
        go_wp2
        go_meet
        case rel => exact ⟨_, (1), (by first | rfl | (simp; done) | (simp [*]; done)), H', ⟨by first | omega | exact Nat.le_refl _⟩, ⟨by repeat (first | (with_reducible first | exact HB.out | apply below_alloc | apply pw_below_drewN | apply below_drew1) | exact HB.out)⟩⟩
      · rw [if_neg c7] at H
        have c7b0 : decide (a0 < 0) = false := decide_eq_false c7
        clear c7
        (first | rw [c7b0] | (simp only [i64_w, i32_w]; rw [c7b0]) | skip)
        have H' := Aside0.mk H
        clear H
        go_wp2
        go_meet
        case rel => exact ⟨_, (0), (by first | rfl | (simp; done) | (simp [*]; done)), H', ⟨by first | omega | exact Nat.le_refl _⟩, ⟨by repeat (first | (with_reducible first | exact HB.out | apply below_alloc | apply pw_below_drewN | apply below_drew1) | exact HB.out)⟩⟩
    case rest =>
      clear HC6
      try clear c2
      try clear p2
      try clear c3
      try clear c3b0
      try clear c3b1
      try clear c5
      try clear c7
      try clear c7b0
      obtain ⟨kq, x5_5, rfl, HA, HJ5, HB⟩ := hcut
      cases kq with
      | zero => exact absurd HA.out (by simp [spec_l10Bins.j0])
      | succ kj5 =>
        have H := HA.out
        clear HA
        simp only [spec_l10Bins.j0] at H
        obtain ⟨y106, hy106⟩ : ∃ y_ : List (S31), y_ = (([(⟨a1, 0⟩ : S31), (⟨wrap64 (a1 + 1), x5_5⟩ : S31)] : List (S31))) := ⟨_, rfl⟩
        replace H : ((spec_ClassOf.f kj5 a0).bind fun t109 => (spec_l10Bins.l0 kj5 a0 a1 y106 t109 1)) = some r := by first | (rw [hy106]; with_reducible exact H) | (have H2_ := (Option.bind_some _ _).symm.trans H; rw [hy106]; with_reducible exact H2_) | (have H2_ := (Option.bind_some _ _).symm.trans H; with_reducible exact H2_) | with_reducible exact H | (rw [hy106]; exact H) | exact H
        have Ny106 := Aside0.mk hy106
        clear hy106
        replace H := Option.bind_eq_some_iff.mp H
        obtain ⟨t109, A80, H⟩ := H
        replace H : (spec_l10Bins.l0 kj5 a0 a1 y106 t109 1) = some r := H
        have A8 := Aside0.mk A80
        clear A80
        have H' := Aside0.mk H
        clear H
        go_wp2_with (first | ((with_reducible refine gate_dst (N := 23) rfl ?_); refine Kd.R_lit k31 _ 31 ?hg (N := 23) ?hd (xs := ([(⟨a1, 0⟩ : S31), (⟨wrap64 (a1 + 1), x5_5⟩ : S31)] : List (S31))) (inner := [.int .i64 a1, .int .i64 0, .int .i64 (wrap64 (a1 + 1)), .int .i64 x5_5]) (ok := fun _ => True) (okp := fun _ => True) ?hr ?hp (fun _ hk => hk) trivial (Below.refl _ _) (Nat.le_refl _) (by simp) ?_; (case hd => rfl); (case hg => rfl); (case hr => first | (go_simp; done) | (go_simp; rfl)); (case hp => exact (Reps.c2 (show Kd.M k31 _ _ _ (⟨a1, 0⟩ : S31) [.int .i64 a1, .int .i64 0] from (k31_mkM _ _ _ (⟨a1, 0⟩ : S31) )) (Reps.c2 (show Kd.M k31 _ _ _ (⟨wrap64 (a1 + 1), x5_5⟩ : S31) [.int .i64 (wrap64 (a1 + 1)), .int .i64 x5_5] from (k31_mkM _ _ _ (⟨wrap64 (a1 + 1), x5_5⟩ : S31) )) (Reps.none _ _)))); intro v107 w9 ho10 hb hg_ hnew_; clear hg_ hnew_; (first | rw [← Ny106.out] at ho10 | (simp only [Int.reduceToNat] at ho10; rw [← Ny106.out] at ho10)); have n0_ := Aside0.mk (Kd.R_lower ho10 (below_size (by repeat (first | (with_reducible first | exact HB.out | apply below_alloc | apply pw_below_drewN | apply below_drew1) | exact HB.out)))); have n1_ := Aside0.mk (below_step (by repeat (first | (with_reducible first | exact HB.out | apply below_alloc | apply pw_below_drewN | apply below_drew1) | exact HB.out)) hb); clear HB; have HO108 := n0_; have HB := n1_; clear n0_ n1_; clear hb ho10) | ((with_reducible refine gate_callee (f := 57) rfl ?_); refine goesL_ (some 25) rfl rfl Try.func57 (by kernel_rfl) rfl #[.int .i64 a0] rfl (by (try simp only [List.map_toArray, List.map_cons, List.map_nil]); first | done | rfl | (simp only [List.length_drop, List.length_take]; rfl)) ?_; (with_reducible refine (spec_ClassOf.calls kj5 a0 t109 _ A8.out).mono ?_); rintro e w' ⟨rfl, ⟨nd, rfl⟩⟩; refine ⟨_, rfl, ?_⟩))
        go_loopg [6, 8] kj5 (fun kq v6 v8 w' => ∃ (x6_2 : List (S31)) (x8_2 : Int), v8 = .int .i64 x8_2 ∧ Aside0 (spec_l10Bins.l0 kq a0 a1 x6_2 t109 x8_2 = some r) ∧ Aside0 (kq ≤ kj5) ∧ Aside0 (Kd.R k31 31 w' w.heap.size (fun _ => True) v6 x6_2) ∧ Aside0 (Below w.heap.size w w'))
        case atStart => exact ⟨(y106), (1), (by first | rfl | (simp; done) | (simp [*]; done)), H', ⟨Nat.le_refl _⟩, ⟨by (with_reducible repeat (first | apply Kd.R_alloc | apply Kd.R_drewN | apply Kd.R_drew)); exact HO108.out⟩, ⟨by repeat (first | (with_reducible first | exact HB.out | apply below_alloc | apply pw_below_drewN | apply below_drew1) | exact HB.out)⟩⟩
        case round =>
          clear H'
          try clear c2
          try clear p2
          try clear c3
          try clear c3b0
          try clear c3b1
          try clear c5
          try clear p6
          try clear c7
          try clear c7b0
          try clear p2
          obtain ⟨x6_2, x8_2, rfl, HA, HK2, HO_6, HB⟩ := hrel
          cases gk with
          | zero => exact absurd HA.out (by simp [spec_l10Bins.l0])
          | succ k2 =>
            have H := HA.out
            clear HA
            simp only [spec_l10Bins.l0] at H
            by_cases c11 : x8_2 < t109
            · rw [if_pos c11] at H
              have c11b0 : decide (x8_2 < t109) = true := decide_eq_true c11
              clear c11
              by_cases c12 : x6_2.length < 8796093022208
              · rw [if_pos c12] at H
                have LMc12 := Aside0.mk c12
                clear c12
                obtain ⟨y110, hy110⟩ : ∃ y_ : List (S31), y_ = (x6_2 ++ [(⟨wrap64 ((wrap64 (a1 + 1)) + x8_2), 1⟩ : S31)]) := ⟨_, rfl⟩
                replace H : (spec_l10Bins.l0 k2 a0 a1 y110 t109 (wrap64 (x8_2 + 1))) = some r := by first | (rw [hy110]; with_reducible exact H) | (have H2_ := (Option.bind_some _ _).symm.trans H; rw [hy110]; with_reducible exact H2_) | (have H2_ := (Option.bind_some _ _).symm.trans H; with_reducible exact H2_) | with_reducible exact H | (rw [hy110]; exact H) | exact H
                have Ny110 := Aside0.mk hy110
                clear hy110
                have H' := Aside0.mk H
                clear H
                go_wp2_with (first | ((with_reducible refine gate_builtin (b := .append) (xs := #[.tmp 31, .tmp 37]) rfl ?_); at_builtin; refine Kd.R_append k31 (w0 := w) w.heap.size rfl (.tmp 31) (.tmp 37) 22 31 (.agg #[(.int .i64 0), (.int .i64 0)]) 16 rfl Try.underlying22 info31 rfl (by decide) (by omega) u6 x6_2 (⟨wrap64 ((wrap64 (a1 + 1)) + x8_2), 1⟩ : S31) [.int .i64 (wrap64 ((wrap64 (a1 + 1)) + x8_2)), .int .i64 1] (fun _ => True) (fun _ => False) rfl rfl ?aP (fun _ hk => hk.elim) ?aF ?aO ?aB ?aS ?aL ?_; (case aP => exact k31_mkM _ _ _ (⟨wrap64 ((wrap64 (a1 + 1)) + x8_2), 1⟩ : S31)); (case aB => exact (by repeat (first | (with_reducible first | exact HB.out | apply below_alloc | apply pw_below_drewN | apply below_drew1) | exact HB.out))); (case aF => exact (fun _ _ => trivial)); (case aO => exact (by (with_reducible repeat (first | apply Kd.R_alloc | apply Kd.R_drewN | apply Kd.R_drew)); exact HO_6.out)); (case aS => exact (below_size (by repeat (first | (with_reducible first | exact HB.out | apply below_alloc | apply pw_below_drewN | apply below_drew1) | exact HB.out)))); (case aL => have := LMc12.out; omega); intro v111 w13 ho hb hg hat; rw [← Ny110.out] at ho; have n0_ := Aside0.mk (hb); have n1_ := Aside0.mk (ho); clear HB; clear HO_6; have HB := n0_; have HO112 := n1_; clear n0_ n1_; clear ho hb hg hat))
                go_roundg k2
                case measure => have := HJ5.out; have := HK2.out; omega
                case rel => exact ⟨(y110), (wrap64 (x8_2 + 1)), (by first | rfl | (simp; done) | (simp [*]; done)), H', ⟨by have := HJ5.out; have := HK2.out; omega⟩, ⟨by (with_reducible repeat (first | apply Kd.R_alloc | apply Kd.R_drewN | apply Kd.R_drew)); exact HO112.out⟩, ⟨by repeat (first | (with_reducible first | exact HB.out | apply below_alloc | apply pw_below_drewN | apply below_drew1) | exact HB.out)⟩⟩
              · rw [if_neg c12] at H
                exact absurd H (by simp)
            · rw [if_neg c11] at H
              have c11b0 : decide (x8_2 < t109) = false := decide_eq_false c11
              clear c11
              have HC14 := Aside0.mk H
              clear H
              go_upto_if 40 with (fail)
              go_cut [6] (fun v6 wc => ∃ (kq : Nat) (x6_13 : List (S31)), Aside0 (spec_l10Bins.j2 kq a0 a1 x6_13 t109 = some r) ∧ Aside0 (kq ≤ k2) ∧ Aside0 (Kd.R k31 31 wc w.heap.size (fun _ => True) v6 x6_13) ∧ Aside0 (Below w.heap.size w wc))
              case first =>
                have H := HC14.out
                clear HC14
                by_cases c15 : t109 < 15
                · rw [if_pos c15] at H
                  have c15b0 : decide (t109 < 15) = true := decide_eq_true c15
                  clear c15
                  (first | rw [c15b0] | (simp only [i64_w, i32_w]; rw [c15b0]) | skip)
                  by_cases c16 : x6_2.length < 8796093022208
                  · rw [if_pos c16] at H
                    have LMc16 := Aside0.mk c16
                    clear c16
                    obtain ⟨y113, hy113⟩ : ∃ y_ : List (S31), y_ = (x6_2 ++ [(⟨wrap64 ((wrap64 (a1 + 1)) + t109), 0⟩ : S31)]) := ⟨_, rfl⟩
                    replace H : (spec_l10Bins.j2 k2 a0 a1 y113 t109) = some r := by first | (rw [hy113]; with_reducible exact H) | (have H2_ := (Option.bind_some _ _).symm.trans H; rw [hy113]; with_reducible exact H2_) | (have H2_ := (Option.bind_some _ _).symm.trans H; with_reducible exact H2_) | with_reducible exact H | (rw [hy113]; exact H) | exact H
                    have Ny113 := Aside0.mk hy113
                    clear hy113
                    have H' := Aside0.mk H
                    clear H
                    go_wp2_with (first | ((with_reducible refine gate_builtin (b := .append) (xs := #[.tmp 41, .tmp 47]) rfl ?_); at_builtin; refine Kd.R_append k31 (w0 := w) w.heap.size rfl (.tmp 41) (.tmp 47) 22 31 (.agg #[(.int .i64 0), (.int .i64 0)]) 16 rfl Try.underlying22 info31 rfl (by decide) (by omega) u6 x6_2 (⟨wrap64 ((wrap64 (a1 + 1)) + t109), 0⟩ : S31) [.int .i64 (wrap64 ((wrap64 (a1 + 1)) + t109)), .int .i64 0] (fun _ => True) (fun _ => False) rfl rfl ?aP (fun _ hk => hk.elim) ?aF ?aO ?aB ?aS ?aL ?_; (case aP => exact k31_mkM _ _ _ (⟨wrap64 ((wrap64 (a1 + 1)) + t109), 0⟩ : S31)); (case aB => exact (by repeat (first | (with_reducible first | exact HB.out | apply below_alloc | apply pw_below_drewN | apply below_drew1) | exact HB.out))); (case aF => exact (fun _ _ => trivial)); (case aO => exact (by (with_reducible repeat (first | apply Kd.R_alloc | apply Kd.R_drewN | apply Kd.R_drew)); exact HO_6.out)); (case aS => exact (below_size (by repeat (first | (with_reducible first | exact HB.out | apply below_alloc | apply pw_below_drewN | apply below_drew1) | exact HB.out)))); (case aL => have := LMc16.out; omega); intro v114 w17 ho hb hg hat; rw [← Ny113.out] at ho; have n0_ := Aside0.mk (hb); have n1_ := Aside0.mk (ho); clear HB; clear HO_6; have HB := n0_; have HO115 := n1_; clear n0_ n1_; clear ho hb hg hat))
                    go_meet
                    case rel => exact ⟨_, (y113), H', ⟨by have := HJ5.out; have := HK2.out; first | omega | exact Nat.le_refl _⟩, ⟨by (with_reducible repeat (first | apply Kd.R_alloc | apply Kd.R_drewN | apply Kd.R_drew)); exact HO115.out⟩, ⟨by repeat (first | (with_reducible first | exact HB.out | apply below_alloc | apply pw_below_drewN | apply below_drew1) | exact HB.out)⟩⟩
                  · rw [if_neg c16] at H
                    exact absurd H (by simp)
                · rw [if_neg c15] at H
                  have c15b0 : decide (t109 < 15) = false := decide_eq_false c15
                  clear c15
                  (first | rw [c15b0] | (simp only [i64_w, i32_w]; rw [c15b0]) | skip)
                  have H' := Aside0.mk H
                  clear H
                  go_wp2
                  go_meet
                  case rel => exact ⟨_, (x6_2), H', ⟨by have := HJ5.out; have := HK2.out; first | omega | exact Nat.le_refl _⟩, ⟨by (with_reducible repeat (first | apply Kd.R_alloc | apply Kd.R_drewN | apply Kd.R_drew)); exact HO_6.out⟩, ⟨by repeat (first | (with_reducible first | exact HB.out | apply below_alloc | apply pw_below_drewN | apply below_drew1) | exact HB.out)⟩⟩
              case rest =>
                clear HC14
                try clear c1
                try clear c2
                try clear p2
                try clear c3
                try clear c3b0
                try clear c3b1
                try clear c5
                try clear p6
                try clear c7
                try clear c7b0
                try clear c11
                try clear c11b0
                try clear c12
                try clear c15
                try clear c15b0
                try clear c16
                try clear p2
                try clear p6
                obtain ⟨kq, x6_13, HA, HJ13, HO_6, HB⟩ := hcut
                cases kq with
                | zero => exact absurd HA.out (by simp [spec_l10Bins.j2])
                | succ kj13 =>
                  have H := HA.out
                  clear HA
                  simp only [spec_l10Bins.j2] at H
                  have H' := Aside0.mk H
                  clear H
                  go_wp2
                  go_loopg [6, 9] kj13 (fun kq v6 v9 w' => ∃ (x6_4 : List (S31)) (x9_4 : Int), v9 = .int .i64 x9_4 ∧ Aside0 (spec_l10Bins.l1 kq a0 a1 x6_4 x9_4 = some r) ∧ Aside0 (kq ≤ kj13) ∧ Aside0 (Kd.R k31 31 w' w.heap.size (fun _ => True) v6 x6_4) ∧ Aside0 (Below w.heap.size w w'))
                  case atStart => exact ⟨(x6_13), (wrap64 (t109 - 2)), (by first | rfl | (simp; done) | (simp [*]; done)), H', ⟨Nat.le_refl _⟩, ⟨by (with_reducible repeat (first | apply Kd.R_alloc | apply Kd.R_drewN | apply Kd.R_drew)); exact HO_6.out⟩, ⟨by repeat (first | (with_reducible first | exact HB.out | apply below_alloc | apply pw_below_drewN | apply below_drew1) | exact HB.out)⟩⟩
                  case round =>
                    clear H'
                    try clear c1
                    try clear c2
                    try clear p2
                    try clear c3
                    try clear c3b0
                    try clear c3b1
                    try clear c5
                    try clear p6
                    try clear c7
                    try clear c7b0
                    try clear c11
                    try clear c11b0
                    try clear c12
                    try clear c15
                    try clear c15b0
                    try clear c16
                    try clear p2
                    try clear p6
                    obtain ⟨x6_4, x9_4, rfl, HA, HK4, HO_6, HB⟩ := hrel
                    cases gk with
                    | zero => exact absurd HA.out (by simp [spec_l10Bins.l1])
                    | succ k4 =>
                      have H := HA.out
                      clear HA
                      simp only [spec_l10Bins.l1] at H
                      by_cases c18 : x9_4 ≥ 0
                      · rw [if_pos c18] at H
                        have c18b0 : decide (0 ≤ x9_4) = true := decide_eq_true c18
                        clear c18
                        replace H := Option.bind_eq_some_iff.mp H
                        obtain ⟨t116, A190, H⟩ := H
                        replace H : (if 0 ≤ x9_4 then (if x6_4.length < 8796093022208 then (spec_l10Bins.l1 k4 a0 a1 (x6_4 ++ [(⟨wrap64 (a1 + 18), Go.bits .and .i64 (shr .i64 t116 x9_4) 1⟩ : S31)]) (wrap64 (x9_4 - 1))) else (none)) else (none)) = some r := H
                        have A19 := Aside0.mk A190
                        clear A190
                        by_cases c20 : 0 ≤ x9_4
                        · rw [if_pos c20] at H
                          have c20b0 := eq_true c20
                          have c20b1 : decide (0 ≤ x9_4) = true := decide_eq_true c20
                          clear c20
                          obtain ⟨ji21, hji21⟩ : ∃ j_ : Int, (shr .i64 t116 x9_4) = j_ := ⟨_, rfl⟩
                          replace H : (if x6_4.length < 8796093022208 then (spec_l10Bins.l1 k4 a0 a1 (x6_4 ++ [(⟨wrap64 (a1 + 18), Go.bits .and .i64 (ji21) 1⟩ : S31)]) (wrap64 (x9_4 - 1))) else (none)) = some r := by first | (rw [hji21] at H; exact H) | (simp only [hji21] at H ⊢; exact H)
                          (try rw [hji21] at A19)
                          have hji21_ : (t116 / 2 ^ min x9_4.toNat 64) = ji21 := hji21
                          have hji21z : x9_4 ≤ 64 → (t116 / 2 ^ x9_4.toNat) = ji21 := shr_small hji21
                          by_cases c22 : x6_4.length < 8796093022208
                          · rw [if_pos c22] at H
                            have LMc22 := Aside0.mk c22
                            clear c22
                            obtain ⟨y117, hy117⟩ : ∃ y_ : List (S31), y_ = (x6_4 ++ [(⟨wrap64 (a1 + 18), Go.bits .and .i64 (ji21) 1⟩ : S31)]) := ⟨_, rfl⟩
                            replace H : (spec_l10Bins.l1 k4 a0 a1 y117 (wrap64 (x9_4 - 1))) = some r := by first | (rw [hy117]; with_reducible exact H) | (have H2_ := (Option.bind_some _ _).symm.trans H; rw [hy117]; with_reducible exact H2_) | (have H2_ := (Option.bind_some _ _).symm.trans H; with_reducible exact H2_) | with_reducible exact H | (rw [hy117]; exact H) | exact H
                            have Ny117 := Aside0.mk hy117
                            clear hy117
                            have H' := Aside0.mk H
                            clear H
                            go_wp2_with (first | ((with_reducible refine gate_callee (f := 96) rfl ?_); refine goesL_ (some 59) rfl rfl Try.func96 (by kernel_rfl) rfl #[.int .i64 a0] rfl (by (try simp only [List.map_toArray, List.map_cons, List.map_nil]); first | done | rfl | (simp only [List.length_drop, List.length_take]; rfl)) ?_; (with_reducible refine (spec_l07Abs.calls a0 t116 _ A19.out).mono ?_); rintro e w' ⟨rfl, ⟨nd, rfl⟩⟩; refine ⟨_, rfl, ?_⟩) | ((with_reducible refine gate_builtin (b := .append) (xs := #[.tmp 55, .tmp 64]) rfl ?_); at_builtin; refine Kd.R_append k31 (w0 := w) w.heap.size rfl (.tmp 55) (.tmp 64) 22 31 (.agg #[(.int .i64 0), (.int .i64 0)]) 16 rfl Try.underlying22 info31 rfl (by decide) (by omega) u6 x6_4 (⟨wrap64 (a1 + 18), Go.bits .and .i64 (ji21) 1⟩ : S31) [.int .i64 (wrap64 (a1 + 18)), .int .i64 (Go.bits .and .i64 (ji21) 1)] (fun _ => True) (fun _ => False) rfl rfl ?aP (fun _ hk => hk.elim) ?aF ?aO ?aB ?aS ?aL ?_; (case aP => exact k31_mkM _ _ _ (⟨wrap64 (a1 + 18), Go.bits .and .i64 (ji21) 1⟩ : S31)); (case aB => exact (by repeat (first | (with_reducible first | exact HB.out | apply below_alloc | apply pw_below_drewN | apply below_drew1) | exact HB.out))); (case aF => exact (fun _ _ => trivial)); (case aO => exact (by (with_reducible repeat (first | apply Kd.R_alloc | apply Kd.R_drewN | apply Kd.R_drew)); exact HO_6.out)); (case aS => exact (below_size (by repeat (first | (with_reducible first | exact HB.out | apply below_alloc | apply pw_below_drewN | apply below_drew1) | exact HB.out)))); (case aL => have := LMc22.out; omega); intro v118 w23 ho hb hg hat; rw [← Ny117.out] at ho; have n0_ := Aside0.mk (hb); have n1_ := Aside0.mk (ho); clear HB; clear HO_6; have HB := n0_; have HO119 := n1_; clear n0_ n1_; clear ho hb hg hat))
                            go_roundg k4
                            case measure => have := HJ5.out; have := HK2.out; have := HJ13.out; have := HK4.out; omega
                            case rel => exact ⟨(y117), (wrap64 (x9_4 - 1)), (by first | rfl | (simp; done) | (simp [*]; done)), H', ⟨by have := HJ5.out; have := HK2.out; have := HJ13.out; have := HK4.out; omega⟩, ⟨by (with_reducible repeat (first | apply Kd.R_alloc | apply Kd.R_drewN | apply Kd.R_drew)); exact HO119.out⟩, ⟨by repeat (first | (with_reducible first | exact HB.out | apply below_alloc | apply pw_below_drewN | apply below_drew1) | exact HB.out)⟩⟩
                          · rw [if_neg c22] at H
                            exact absurd H (by simp)
                        · rw [if_neg c20] at H
                          exact absurd H (by simp)
                      · rw [if_neg c18] at H
                        have c18b0 : decide (0 ≤ x9_4) = false := decide_eq_false c18
                        clear c18
                        obtain rfl := Option.some.inj H
                        go_wp2
                        go_ret
                        exact ⟨_, by first | rfl | (simp [errW_none, errW_some] <;> rfl) | (simp [*, errW_none, errW_some] <;> rfl), by (with_reducible repeat (first | apply Kd.R_alloc | apply Kd.R_drewN | apply Kd.R_drew)); exact HO_6.out, by repeat (first | (with_reducible first | exact HB.out | apply below_alloc | apply pw_below_drewN | apply below_drew1) | exact HB.out)⟩

def binMk (a b : Int) : S31 := ⟨a, b⟩
def bitAt (x i : Int) : Int := Go.bits .and .i64 (shr .i64 x i) 1
/-- c ones, from a context on; the bits of a number, from the m-th down. -/
def onesL (ctx : Int) (m : Nat) : List S31 := (List.range m).map fun (i : Nat) => ⟨ctx + i, 1⟩
def downL (ctx x : Int) : Nat → List S31
  | 0 => []
  | m + 1 => ⟨ctx, bitAt x m⟩ :: downL ctx x m
theorem onesL_succ (ctx : Int) (m : Nat) : onesL ctx (m + 1) = onesL ctx m ++ [⟨ctx + m, 1⟩] := by simp [onesL, List.range_succ]
theorem onesL_length (ctx : Int) (m : Nat) : (onesL ctx m).length = m := by simp [onesL]
theorem downL_length (ctx x : Int) : ∀ m, (downL ctx x m).length = m
  | 0 => rfl
  | m + 1 => by simp [downL, downL_length ctx x m]
def binsN (n base : Int) : List S31 :=
  if n = 0 then [⟨base, 1⟩] else
    [⟨base, 0⟩, ⟨base + 1, if n < 0 then 1 else 0⟩] ++ onesL (base + 2) (clsN n - 1) ++ (if clsN n < 15 then [⟨base + 1 + clsN n, 0⟩] else []) ++ downL (base + 18) (n.natAbs : Nat) (clsN n - 1)
theorem binsN_length {n base : Int} (hn : coefB n = true) : (binsN n base).length ≤ 40 := by
  have hr := inR_iff.1 hn
  have := clsN_le hr.1 hr.2
  unfold binsN
  split
  · simp
  · simp only [List.length_append, onesL_length, downL_length, List.length_cons, List.length_nil]
    split <;> simp <;> omega
theorem sDown (n base : Int) (h0 : -32767 ≤ n) (h1 : n ≤ 32767) (hb0 : 0 ≤ base) (hb1 : base ≤ 380) : ∀ (m : Nat) (out : List S31), m ≤ 100 → out.length ≤ 1000 - m →
    Ev (fun k => spec_l10Bins.l1 k n base out ((m : Int) - 1)) (out ++ downL (base + 18) (n.natAbs : Nat) m)
  | 0, out, _, _ => by
    refine Ev.step (fun k => by rw [spec_l10Bins.l1]) (evNeg (by omega) (evCast (Ev.now _) ?_))
    simp [downL]
  | m + 1, out, hm, ho => by
    refine Ev.step (fun k => by rw [spec_l10Bins.l1]) (evPos (by omega) ?_)
    refine evBind (evConst (sAbs_f h0 h1)) (evPos (by omega) (evPos (by omega) ?_))
    rw [w64 (x := base + 18) (by omega) (by omega), w64 (x := ((m + 1 : Nat) : Int) - 1 - 1) (by omega) (by omega), show ((m + 1 : Nat) : Int) - 1 = (m : Int) from by omega]
    refine evCast (sDown n base h0 h1 hb0 hb1 m _ (by omega) (by rw [List.length_append, List.length_singleton]; omega)) ?_
    rw [List.append_assoc]
    rfl
theorem sOnes (n base : Int) (h0 : -32767 ≤ n) (h1 : n ≤ 32767) (hb0 : 0 ≤ base) (hb1 : base ≤ 380) (c : Nat) (hc1 : 1 ≤ c) (hc : c ≤ 15) (out : List S31) (ho : out.length ≤ 100) (r : List S31)
    (hr : r = out ++ onesL (base + 2) (c - 1) ++ (if c < 15 then [⟨base + 1 + c, 0⟩] else []) ++ downL (base + 18) (n.natAbs : Nat) (c - 1)) :
    ∀ (d i : Nat), i + d = c - 1 → Ev (fun k => spec_l10Bins.l0 k n base (out ++ onesL (base + 2) i) c ((i + 1 : Nat) : Int)) r := by
  have hlen : ∀ i, i ≤ 15 → (out ++ onesL (base + 2) i).length ≤ 200 := fun i hi => by rw [List.length_append, onesL_length]; omega
  have tail : ∀ out2 : List S31, out2.length ≤ 300 → Ev (fun k => spec_l10Bins.j2 k n base out2 c) (out2 ++ downL (base + 18) (n.natAbs : Nat) (c - 1)) := by
    intro out2 h2
    refine Ev.step (fun k => by rw [spec_l10Bins.j2]) ?_
    rw [w64 (by omega) (by omega), show (c : Int) - 2 = ((c - 1 : Nat) : Int) - 1 from by omega]
    exact sDown n base h0 h1 hb0 hb1 (c - 1) out2 (by omega) (by omega)
  intro d
  induction d with
  | zero =>
    intro i hi
    have hl := hlen i (by omega)
    obtain rfl : i = c - 1 := by omega
    refine Ev.step (fun k => by rw [spec_l10Bins.l0]) (evNeg (by omega) ?_)
    rw [w64 (x := base + 1) (by omega) (by omega), w64 (x := base + 1 + (c : Int)) (by omega) (by omega)]
    refine evIf (fun h15 => evPos (by omega) ?_) (fun h15 => ?_)
    · refine evCast (tail _ (by rw [List.length_append, List.length_singleton]; omega)) ?_
      rw [hr, if_pos (show c < 15 by omega)]
    · refine evCast (tail _ (by omega)) ?_
      rw [hr, if_neg (show ¬ c < 15 by omega), List.append_nil]
  | succ d ih =>
    intro i hi
    have hl := hlen i (by omega)
    refine Ev.step (fun k => by rw [spec_l10Bins.l0]) (evPos (by omega) (evPos (by omega) ?_))
    rw [w64 (x := base + 1) (by omega) (by omega), w64 (x := base + 1 + ((i + 1 : Nat) : Int)) (by omega) (by omega), show ((i + 1 : Nat) : Int) + 1 = ((i + 1 + 1 : Nat) : Int) from by omega, w64n (n := i + 1 + 1) (by omega)]
    have := ih (i + 1) (by omega)
    rw [onesL_succ, ← List.append_assoc, show base + 2 + (i : Int) = base + 1 + ((i + 1 : Nat) : Int) from by omega] at this
    exact this
theorem sBins_f {n base : Int} (hn : coefB n = true) (hb : inR base 0 380 = true) : Ev (fun k => spec_l10Bins.f k n base) (binsN n base) := by
  have hr := inR_iff.1 hn
  have hbr := inR_iff.1 hb
  have hj : ∀ sg : Int, n ≠ 0 → sg = (if n < 0 then 1 else 0) → Ev (fun k => spec_l10Bins.j0 k n base sg) (binsN n base) := by
    intro sg h0 hsg
    have hc := clsN_le hr.1 hr.2
    have hp := clsN_pos h0
    refine Ev.step (fun k => by rw [spec_l10Bins.j0]) (evBind (sClassOf_f n) ?_)
    have e : clsI n = (clsN n : Int) := by unfold clsI; rw [if_pos hn]
    rw [e, w64 (x := base + 1) (by omega) (by omega)]
    have := sOnes n base hr.1 hr.2 hbr.1 hbr.2 (clsN n) hp hc [⟨base, 0⟩, ⟨base + 1, sg⟩] (by simp) (binsN n base) (by unfold binsN; rw [if_neg h0, hsg]) (clsN n - 1) 0 (by omega)
    simpa [onesL] using this
  unfold spec_l10Bins.f
  refine evIf (fun h0 => ?_) (fun h0 => evIf (fun h1 => hj 1 h0 (by rw [if_pos h1])) (fun h1 => hj 0 h0 (by rw [if_neg h1])))
  unfold binsN
  rw [if_pos h0]
  exact Ev.now _
def binsI (n base : Int) : List S31 := if coefB n = true ∧ inR base 0 380 = true then binsN n base else []
theorem clsI_neg (n : Int) : clsI n < 0 ↔ ¬ coefB n = true := by
  unfold clsI
  constructor
  · intro h hc
    rw [if_pos hc] at h
    omega
  · intro h
    rw [if_neg h]
    omega

/-! ### impl_within: function 75 -/
def impl_within.f (a0 : Int) (a1 : Int) (a2 : Int) : Option (Bool) := if a0 ≥ a1 then (some (decide (a0 ≤ a2))) else (some false)
set_option maxHeartbeats 8000000 in
set_option maxRecDepth 100000 in
theorem impl_within.calls (a0 : Int) (a1 : Int) (a2 : Int) (r : Bool) (w : World) (h : impl_within.f a0 a1 a2 = some r) :
    Calls Try.prog 75 #[.int .i64 a0, .int .i64 a1, .int .i64 a2] w fun e w' => e = .returned (.bool r) ∧ Drawn0 w w' := by
  have H : (if a0 ≥ a1 then (some (decide (a0 ≤ a2))) else (some false)) = some r := h
  clear h
  by_cases c4 : a0 ≥ a1
  · rw [if_pos c4] at H
    have c4b0 : decide (a1 ≤ a0) = true := decide_eq_true c4
    clear c4
    obtain rfl := Option.some.inj H
    go_enter Try.func75, Try.ntmps75
    go_wp2
    go_ret
    exact ⟨by first | rfl | (simp; done) | (simp [*]; done), by repeat (first | exact Drawn0.refl _ | apply Drawn0.step)⟩
  · rw [if_neg c4] at H
    have c4b0 : decide (a1 ≤ a0) = false := decide_eq_false c4
    clear c4
    obtain rfl := Option.some.inj H
    go_enter Try.func75, Try.ntmps75
    go_wp2
    go_ret
    exact ⟨by first | rfl | (simp; done) | (simp [*]; done), by repeat (first | exact Drawn0.refl _ | apply Drawn0.step)⟩

theorem within_f (a b c : Int) : impl_within.f a b c = some (inR a b c) := inR_ite a b c

/-! ### impl_isCoef: function 60 -/
def impl_isCoef.f (a0 : Int) : Option (Bool) := (impl_within.f a0 (-32767) 32767).bind fun t120 => (some t120)
set_option maxHeartbeats 8000000 in
set_option maxRecDepth 100000 in
theorem impl_isCoef.calls (a0 : Int) (r : Bool) (w : World) (h : impl_isCoef.f a0 = some r) :
    Calls Try.prog 60 #[.int .i64 a0] w fun e w' => e = .returned (.bool r) ∧ Drawn0 w w' := by
  have H : ((impl_within.f a0 (-32767) 32767).bind fun t120 => (some t120)) = some r := h
  clear h
  replace H := Option.bind_eq_some_iff.mp H
  obtain ⟨t120, A20, H⟩ := H
  replace H : (some t120) = some r := H
  have A2 := Aside0.mk A20
  clear A20
  obtain rfl := Option.some.inj H
  go_enter Try.func60, Try.ntmps60
  go_wp2_with (first | ((with_reducible refine gate_callee (f := 75) rfl ?_); refine goesL_ (some 4) rfl rfl Try.func75 (by kernel_rfl) rfl #[.int .i64 a0, .int .i64 (-32767), .int .i64 32767] rfl (by (try simp only [List.map_toArray, List.map_cons, List.map_nil]); first | done | rfl | (simp only [List.length_drop, List.length_take]; rfl)) ?_; (with_reducible refine (impl_within.calls a0 (-32767) 32767 t120 _ A2.out).mono ?_); rintro e w' ⟨rfl, ⟨nd, rfl⟩⟩; refine ⟨_, rfl, ?_⟩))
  go_ret
  exact ⟨by first | rfl | (simp; done) | (simp [*]; done), by repeat (first | exact Drawn0.refl _ | apply Drawn0.step)⟩

theorem isCoef_f (n : Int) : impl_isCoef.f n = some (coefB n) := by
  unfold impl_isCoef.f
  rw [within_f]
  rfl

/-! ### impl_isBase: function 61 -/
def impl_isBase.f (a0 : Int) : Option (Bool) := (impl_within.f a0 0 380).bind fun t121 => (some t121)
set_option maxHeartbeats 8000000 in
set_option maxRecDepth 100000 in
theorem impl_isBase.calls (a0 : Int) (r : Bool) (w : World) (h : impl_isBase.f a0 = some r) :
    Calls Try.prog 61 #[.int .i64 a0] w fun e w' => e = .returned (.bool r) ∧ Drawn0 w w' := by
  have H : ((impl_within.f a0 0 380).bind fun t121 => (some t121)) = some r := h
  clear h
  replace H := Option.bind_eq_some_iff.mp H
  obtain ⟨t121, A20, H⟩ := H
  replace H : (some t121) = some r := H
  have A2 := Aside0.mk A20
  clear A20
  obtain rfl := Option.some.inj H
  go_enter Try.func61, Try.ntmps61
  go_wp2_with (first | ((with_reducible refine gate_callee (f := 75) rfl ?_); refine goesL_ (some 4) rfl rfl Try.func75 (by kernel_rfl) rfl #[.int .i64 a0, .int .i64 0, .int .i64 380] rfl (by (try simp only [List.map_toArray, List.map_cons, List.map_nil]); first | done | rfl | (simp only [List.length_drop, List.length_take]; rfl)) ?_; (with_reducible refine (impl_within.calls a0 0 380 t121 _ A2.out).mono ?_); rintro e w' ⟨rfl, ⟨nd, rfl⟩⟩; refine ⟨_, rfl, ?_⟩))
  go_ret
  exact ⟨by first | rfl | (simp; done) | (simp [*]; done), by repeat (first | exact Drawn0.refl _ | apply Drawn0.step)⟩

def baseB (n : Int) : Bool := inR n 0 380
theorem isBase_f (n : Int) : impl_isBase.f n = some (baseB n) := by
  unfold impl_isBase.f
  rw [within_f]
  rfl

/-! ### bits_Len32: function 123 (by hand) -/


/-! ### bits_Len64: function 124 (by hand) -/


/-! ### bits_Len: function 119 (by hand) -/
def lays125_ren : Go.Shelf.Ren := ⟨fun | 125 => 119 | 128 => 123 | 129 => 124 | n => n, fun | 46 => 86 | 3 => 3 | 51 => 131 | 53 => 133 | 4 => 4 | 5 => 5 | 9 => 9 | n => n, fun | n => n⟩
theorem lays125 : Go.Proofs.Lays.n125 Try.prog lays125_ren := {
  mixed := by kernel_rfl
  f125 := Try.func119.trans (congrArg some (by kernel_rfl))
  f128 := Try.func123.trans (congrArg some (by kernel_rfl))
  f129 := Try.func124.trans (congrArg some (by kernel_rfl))
  t3 := Try.underlying3
  a3 := Try.isAgg3
  z3 := Try.sizeOf3
  v3 := Try.zeroValue3
  t4 := Try.underlying4
  a4 := Try.isAgg4
  z4 := Try.sizeOf4
  v4 := Try.zeroValue4
  t5 := Try.underlying5
  a5 := Try.isAgg5
  z5 := Try.sizeOf5
  v5 := Try.zeroValue5
  t9 := Try.underlying9
  a9 := Try.isAgg9
  z9 := Try.sizeOf9
  v9 := Try.zeroValue9
  t46 := Try.underlying86
  a46 := Try.isAgg86
  z46 := Try.sizeOf86
  v46 := Try.zeroValue86
  t51 := Try.underlying131
  a51 := Try.isAgg131
  z51 := Try.sizeOf131
  v51 := Try.zeroValue131
  t53 := Try.underlying133
  a53 := Try.isAgg133
  z53 := Try.sizeOf133
  v53 := Try.zeroValue133 }
def bits_Len.f (a0 : Int) : Option Int := if 0 ≤ a0 then (if a0 ≤ 18446744073709551615 then some (Lib.bitLen a0.toNat : Int) else none) else none
theorem bits_Len.calls (a0 : Int) (r : Int) (w : World) (h : bits_Len.f a0 = some r) : Calls Try.prog 119 #[.int .u64 a0] w fun e w' => e = .returned (.int .i64 r) ∧ Drawn0 w w' := by
  unfold bits_Len.f at h
  by_cases h0 : 0 ≤ a0
  · rw [if_pos h0] at h
    by_cases h1 : a0 ≤ 18446744073709551615
    · rw [if_pos h1] at h
      obtain rfl := Option.some.inj h
      refine (Any.bits_Len lays125 a0 w h0 h1).mono ?_
      rintro e w' ⟨rfl, rfl⟩
      exact ⟨rfl, Drawn0.refl _⟩
    · rw [if_neg h1] at h
      cases h
  · rw [if_neg h0] at h
    cases h

/-! ### impl_ClassOf: function 97 -/
def impl_ClassOf.f (a0 : Int) : Option (Int) := (impl_isCoef.f a0).bind fun t122 => (if t122 = true then ((bits_Len.f (IntKind.u64.wrap (mx a0 (wrap64 (-a0))))).bind fun t123 => (some t123)) else (some (-1)))
set_option maxHeartbeats 8000000 in
set_option maxRecDepth 100000 in
theorem impl_ClassOf.calls (a0 : Int) (r : Int) (w : World) (h : impl_ClassOf.f a0 = some r) :
    Calls Try.prog 97 #[.int .i64 a0] w fun e w' => e = .returned (.int .i64 r) ∧ Below w.heap.size w w' := by
  have HB := Aside0.mk (Below.refl w.heap.size w)
  have H : ((impl_isCoef.f a0).bind fun t122 => (if t122 = true then ((bits_Len.f (IntKind.u64.wrap (mx a0 (wrap64 (-a0))))).bind fun t123 => (some t123)) else (some (-1)))) = some r := h
  clear h
  replace H := Option.bind_eq_some_iff.mp H
  obtain ⟨t122, A20, H⟩ := H
  replace H : (if t122 = true then ((bits_Len.f (IntKind.u64.wrap (mx a0 (wrap64 (-a0))))).bind fun t123 => (some t123)) else (some (-1))) = some r := H
  have A2 := Aside0.mk A20
  clear A20
  by_cases c3 : t122 = true
  · subst c3
    have H1 : ((bits_Len.f (IntKind.u64.wrap (mx a0 (wrap64 (-a0))))).bind fun t123 => (some t123)) = some r := by rw [if_pos rfl] at H; exact H
    clear H
    have H := H1
    clear H1
    obtain ⟨ji4, hji4⟩ : ∃ j_ : Int, (mx a0 (wrap64 (-a0))) = j_ := ⟨_, rfl⟩
    replace H : ((bits_Len.f (IntKind.u64.wrap (ji4))).bind fun t123 => (some t123)) = some r := by first | (rw [hji4] at H; exact H) | (simp only [hji4] at H ⊢; exact H)
    (try rw [hji4] at A2)
    have hji4_ : (if a0 < (wrap64 (-a0)) then (wrap64 (-a0)) else a0) = ji4 := hji4
    replace H := Option.bind_eq_some_iff.mp H
    obtain ⟨t123, A50, H⟩ := H
    replace H : (some t123) = some r := H
    have A5 := Aside0.mk A50
    clear A50
    obtain rfl := Option.some.inj H
    go_enter Try.func97, Try.ntmps97
    go_wp2_with (first | ((with_reducible refine gate_callee (f := 60) rfl ?_); refine goesL_ (some 4) rfl rfl Try.func60 (by kernel_rfl) rfl #[.int .i64 a0] rfl (by (try simp only [List.map_toArray, List.map_cons, List.map_nil]); first | done | rfl | (simp only [List.length_drop, List.length_take]; rfl)) ?_; (with_reducible refine (impl_isCoef.calls a0 true _ A2.out).mono ?_); rintro e w' ⟨rfl, ⟨nd, rfl⟩⟩; refine ⟨_, rfl, ?_⟩) | ((with_reducible refine gate_callee (f := 119) rfl ?_); refine goesL_ (some 11) rfl rfl Try.func119 (by kernel_rfl) rfl #[.int .u64 (IntKind.u64.wrap (ji4))] rfl (by (try simp only [List.map_toArray, List.map_cons, List.map_nil]); first | done | (simp only [hji4]; rfl) | rfl | (simp only [List.length_drop, List.length_take]; rfl)) ?_; (with_reducible refine (bits_Len.calls (IntKind.u64.wrap (ji4)) t123 _ A5.out).mono ?_); rintro e w' ⟨rfl, ⟨nd, rfl⟩⟩; refine ⟨_, rfl, ?_⟩))
    go_ret
    exact ⟨by first | rfl | (simp [errW_none, errW_some] <;> rfl) | (simp only [← hji4]; first | rfl | (simp [errW_none, errW_some] <;> rfl)) | (simp [*, errW_none, errW_some] <;> rfl), by repeat (first | (with_reducible first | exact HB.out | apply below_alloc | apply pw_below_drewN | apply below_drew1) | exact HB.out)⟩
  · replace c3 := Bool.eq_false_iff.mpr c3
    subst c3
    have H1 : (some (-1)) = some r := by rw [if_neg (show ¬ (false = true) by decide)] at H; exact H
    clear H
    have H := H1
    clear H1
    obtain rfl := Option.some.inj H
    go_enter Try.func97, Try.ntmps97
    go_wp2_with (first | ((with_reducible refine gate_callee (f := 60) rfl ?_); refine goesL_ (some 4) rfl rfl Try.func60 (by kernel_rfl) rfl #[.int .i64 a0] rfl (by (try simp only [List.map_toArray, List.map_cons, List.map_nil]); first | done | rfl | (simp only [List.length_drop, List.length_take]; rfl)) ?_; (with_reducible refine (impl_isCoef.calls a0 false _ A2.out).mono ?_); rintro e w' ⟨rfl, ⟨nd, rfl⟩⟩; refine ⟨_, rfl, ?_⟩))
    go_ret
    exact ⟨by first | rfl | (simp [errW_none, errW_some] <;> rfl) | (simp [*, errW_none, errW_some] <;> rfl), by repeat (first | (with_reducible first | exact HB.out | apply below_alloc | apply pw_below_drewN | apply below_drew1) | exact HB.out)⟩

end Go.Proofs.Ytdeheflbigggbaa.CM
