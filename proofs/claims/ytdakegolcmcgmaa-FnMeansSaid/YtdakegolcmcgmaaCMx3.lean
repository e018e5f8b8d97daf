/- Functions that a law of this seat reaches: written by a program of this session (wip/xprint.py), and by hand. -/
import Derived.Test.YtdakegolcmcgmaaCMx0
import Derived.Test.YtdakegolcmcgmaaCMx1
import Derived.Test.YtdakegolcmcgmaaCMx2
namespace Go.Proofs.Ytdakegolcmcgmaa.CM
open Go.RowKit Go.Proofs.Ytdakegolcmcgmaa.B Go.Proofs.YtdakegolcmcgmaaW.PrintWords Go.Proofs.YtdakegolcmcgmaaW.PrintLast Go.Proofs.YtdakegolcmcgmaaW.PrintMore
attribute [local go_sem] max2_int min2_int max_two min_two max_three min_three max_four min_four   -- for this text's walks alone
set_option linter.unusedVariables false
set_option linter.unusedSimpArgs false

/-! ### spec_Crop: function 19 -/
mutual
def spec_Crop.j0 : Nat → List Int → Int → Int → Int → List Int → Bool → Option (List Int)
  | 0, _, _, _, _, _, _ => none
  | k + 1, x0, x1, x3, x4, x11, x31 => if x31 = true then (some x11) else (spec_Crop.l0 k x0 x1 x3 x4 x11 0)
def spec_Crop.l0 : Nat → List Int → Int → Int → Int → List Int → Int → Option (List Int)
  | 0, _, _, _, _, _, _ => none
  | k + 1, x0, x1, x3, x4, x11, x12 => if x12 < x4 then (spec_Crop.l1 k x0 x1 x3 x4 x11 x12 0) else (some x11)
def spec_Crop.l1 : Nat → List Int → Int → Int → Int → List Int → Int → Int → Option (List Int)
  | 0, _, _, _, _, _, _, _ => none
  | k + 1, x0, x1, x3, x4, x11, x12, x13 => if x13 < x3 then (if 0 ≤ (wrap64 ((wrap64 (x12 * x1)) + x13)) then (if (wrap64 ((wrap64 (x12 * x1)) + x13)) < (x0.length : Int) then (if x11.length < 17592186044416 then (spec_Crop.l1 k x0 x1 x3 x4 (x11 ++ [rd x0 (wrap64 ((wrap64 (x12 * x1)) + x13))]) x12 (wrap64 (x13 + 1))) else (none)) else (none)) else (none)) else (spec_Crop.l0 k x0 x1 x3 x4 x11 (wrap64 (x12 + 1)))
end
def spec_Crop.f (k : Nat) (l0 : List Int) (a1 : Int) (a2 : Int) (a3 : Int) (a4 : Int) : Option (List Int) := (some (([] : List Int) : List Int)).bind fun y123 => ((spec_PlaneOk.f k l0 a1 a2).bind fun t126 => (if t126 = true then ((spec_l01Between.f a3 1 a1).bind fun t127 => (if t127 = true then ((spec_l01Between.f a4 1 a2).bind fun t128 => (spec_Crop.j0 k l0 a1 a3 a4 y123 (!t128))) else (spec_Crop.j0 k l0 a1 a3 a4 y123 true))) else (spec_Crop.j0 k l0 a1 a3 a4 y123 true)))
theorem spec_Crop.mono_l : ∀ k, (∀ y0 y1 y2 y3 y4 y5, LeO (spec_Crop.j0 k y0 y1 y2 y3 y4 y5) (spec_Crop.j0 (k + 1) y0 y1 y2 y3 y4 y5)) ∧ (∀ y0 y1 y2 y3 y4 y5, LeO (spec_Crop.l0 k y0 y1 y2 y3 y4 y5) (spec_Crop.l0 (k + 1) y0 y1 y2 y3 y4 y5)) ∧ (∀ y0 y1 y2 y3 y4 y5 y6, LeO (spec_Crop.l1 k y0 y1 y2 y3 y4 y5 y6) (spec_Crop.l1 (k + 1) y0 y1 y2 y3 y4 y5 y6))
  | 0 => ⟨fun _ _ _ _ _ _ r h => by simp [spec_Crop.j0] at h, fun _ _ _ _ _ _ r h => by simp [spec_Crop.l0] at h, fun _ _ _ _ _ _ _ r h => by simp [spec_Crop.l1] at h⟩
  | k + 1 => by
    obtain ⟨ih0, ih1, ih2⟩ := spec_Crop.mono_l k
    refine ⟨?_, ?_, ?_⟩
    · intro y0 y1 y2 y3 y4 y5
      unfold spec_Crop.j0
      repeat' first
      | (with_reducible exact ih0 _ _ _ _ _ _)
      | (with_reducible exact ih1 _ _ _ _ _ _)
      | (with_reducible exact ih2 _ _ _ _ _ _ _)
      | (with_reducible exact spec_PlaneOk.mono _ _ _ _)
      | (with_reducible exact LeO.refl _)
      | (with_reducible exact LeO.none _)
      | (with_reducible refine LeO.ite ?_ ?_)
      | (with_reducible refine LeO.bind ?_ (fun _ => ?_))
      | exact ih0 _ _ _ _ _ _
      | exact ih1 _ _ _ _ _ _
      | exact ih2 _ _ _ _ _ _ _
      | exact spec_PlaneOk.mono _ _ _ _
      | exact LeO.none _
      | refine LeO.ite ?_ ?_
      | refine LeO.bind ?_ (fun _ => ?_)
    · intro y0 y1 y2 y3 y4 y5
      unfold spec_Crop.l0
      repeat' first
      | (with_reducible exact ih0 _ _ _ _ _ _)
      | (with_reducible exact ih1 _ _ _ _ _ _)
      | (with_reducible exact ih2 _ _ _ _ _ _ _)
      | (with_reducible exact spec_PlaneOk.mono _ _ _ _)
      | (with_reducible exact LeO.refl _)
      | (with_reducible exact LeO.none _)
      | (with_reducible refine LeO.ite ?_ ?_)
      | (with_reducible refine LeO.bind ?_ (fun _ => ?_))
      | exact ih0 _ _ _ _ _ _
      | exact ih1 _ _ _ _ _ _
      | exact ih2 _ _ _ _ _ _ _
      | exact spec_PlaneOk.mono _ _ _ _
      | exact LeO.none _
      | refine LeO.ite ?_ ?_
      | refine LeO.bind ?_ (fun _ => ?_)
    · intro y0 y1 y2 y3 y4 y5 y6
      unfold spec_Crop.l1
      repeat' first
      | (with_reducible exact ih0 _ _ _ _ _ _)
      | (with_reducible exact ih1 _ _ _ _ _ _)
      | (with_reducible exact ih2 _ _ _ _ _ _ _)
      | (with_reducible exact spec_PlaneOk.mono _ _ _ _)
      | (with_reducible exact LeO.refl _)
      | (with_reducible exact LeO.none _)
      | (with_reducible refine LeO.ite ?_ ?_)
      | (with_reducible refine LeO.bind ?_ (fun _ => ?_))
      | exact ih0 _ _ _ _ _ _
      | exact ih1 _ _ _ _ _ _
      | exact ih2 _ _ _ _ _ _ _
      | exact spec_PlaneOk.mono _ _ _ _
      | exact LeO.none _
      | refine LeO.ite ?_ ?_
      | refine LeO.bind ?_ (fun _ => ?_)
theorem spec_Crop.mono : ∀ a0 a1 a2 a3 a4 k, LeO (spec_Crop.f k a0 a1 a2 a3 a4) (spec_Crop.f (k + 1) a0 a1 a2 a3 a4) := by
  intro a0 a1 a2 a3 a4 k
  obtain ⟨ih0, ih1, ih2⟩ := spec_Crop.mono_l k
  unfold spec_Crop.f
  repeat' first
      | (with_reducible exact ih0 _ _ _ _ _ _)
      | (with_reducible exact ih1 _ _ _ _ _ _)
      | (with_reducible exact ih2 _ _ _ _ _ _ _)
      | (with_reducible exact spec_PlaneOk.mono _ _ _ _)
      | (with_reducible exact LeO.refl _)
      | (with_reducible exact LeO.none _)
      | (with_reducible refine LeO.ite ?_ ?_)
      | (with_reducible refine LeO.bind ?_ (fun _ => ?_))
      | exact ih0 _ _ _ _ _ _
      | exact ih1 _ _ _ _ _ _
      | exact ih2 _ _ _ _ _ _ _
      | exact spec_PlaneOk.mono _ _ _ _
      | exact LeO.none _
      | refine LeO.ite ?_ ?_
      | refine LeO.bind ?_ (fun _ => ?_)
set_option maxHeartbeats 8000000 in
set_option maxRecDepth 100000 in
theorem spec_Crop.calls (k : Nat) (A0 : Option Addr) (c0 : Nat) (l0 : List Int) (a1 : Int) (a2 : Int) (a3 : Int) (a4 : Int) (r : List Int) (w : World) (hr0 : Kd.C (Kd.int .i64) w A0 l0.length l0) (hc0 : l0.length ≤ c0) (h : spec_Crop.f k l0 a1 a2 a3 a4 = some r) :
    Calls Try.prog 19 #[.slice A0 l0.length c0, .int .i64 a1, .int .i64 a2, .int .i64 a3, .int .i64 a4] w fun e w' => ∃ v0_ : Value, e = .returned (v0_) ∧ Kd.R (Kd.int .i64) 3 w' w.heap.size (fun _ => True) v0_ r ∧ Below w.heap.size w w' := by
  have HR0 := Aside0.mk hr0
  have HC0 := Aside0.mk hc0
  clear hr0 hc0
  have HB := Aside0.mk (Below.refl w.heap.size w)
  have H : ((some (([] : List Int) : List Int)).bind fun y123 => ((spec_PlaneOk.f k l0 a1 a2).bind fun t126 => (if t126 = true then ((spec_l01Between.f a3 1 a1).bind fun t127 => (if t127 = true then ((spec_l01Between.f a4 1 a2).bind fun t128 => (spec_Crop.j0 k l0 a1 a3 a4 y123 (!t128))) else (spec_Crop.j0 k l0 a1 a3 a4 y123 true))) else (spec_Crop.j0 k l0 a1 a3 a4 y123 true)))) = some r := h
  clear h
  obtain ⟨y123, hy123⟩ : ∃ y_ : List Int, y_ = (([] : List Int)) := ⟨_, rfl⟩
  replace H : ((spec_PlaneOk.f k l0 a1 a2).bind fun t126 => (if t126 = true then ((spec_l01Between.f a3 1 a1).bind fun t127 => (if t127 = true then ((spec_l01Between.f a4 1 a2).bind fun t128 => (spec_Crop.j0 k l0 a1 a3 a4 y123 (!t128))) else (spec_Crop.j0 k l0 a1 a3 a4 y123 true))) else (spec_Crop.j0 k l0 a1 a3 a4 y123 true))) = some r := by first | (rw [hy123]; with_reducible exact H) | (have H2_ := (Option.bind_some _ _).symm.trans H; rw [hy123]; with_reducible exact H2_) | (have H2_ := (Option.bind_some _ _).symm.trans H; with_reducible exact H2_) | with_reducible exact H | (rw [hy123]; exact H) | exact H
  have Ny123 := Aside0.mk hy123
  clear hy123
  have HC6 := Aside0.mk H
  clear H
  go_enter Try.func19, Try.ntmps19
  go_upto_region 2 with (first | ((with_reducible refine gate_dst (N := 14) rfl ?_); refine Kd.R_lit (Kd.int .i64) _ 3 ?hg (N := 14) ?hd (xs := ([] : List Int)) (inner := []) (ok := fun _ => True) (okp := fun _ => True) ?hr ?hp (fun _ hk => hk) trivial (Below.refl _ _) (Nat.le_refl _) (by simp) ?_; (case hd => rfl); (case hg => rfl); (case hr => first | (go_simp; done) | (go_simp; rfl)); (case hp => exact (Reps.none _ _)); intro v124 w7 ho8 hb hg_ hnew_; clear hg_ hnew_; (first | rw [← Ny123.out] at ho8 | (simp only [Int.reduceToNat] at ho8; rw [← Ny123.out] at ho8)); have n0_ := Aside0.mk (Kd.R_lower ho8 (below_size (by repeat (first | (with_reducible first | exact HB.out | apply below_alloc | apply pw_below_drewN | apply below_drew1) | exact HB.out)))); have n1_ := Aside0.mk (below_step (by repeat (first | (with_reducible first | exact HB.out | apply below_alloc | apply pw_below_drewN | apply below_drew1) | exact HB.out)) hb); clear HB; have HO125 := n0_; have HB := n1_; clear n0_ n1_; clear hb ho8))
  (try simp only [Act.put, List.setIfInBounds_toArray, List.set_cons_zero, List.set_cons_succ])
  go_cut [31] (fun v31 wc => ∃ (kq : Nat) (x31_5 : Bool), v31 = .bool x31_5 ∧ Aside0 (spec_Crop.j0 kq l0 a1 a3 a4 y123 x31_5 = some r) ∧ Aside0 (kq ≤ k) ∧ Aside0 (Kd.R (Kd.int .i64) 3 wc w.heap.size (fun _ => True) v124 y123) ∧ Aside0 (Below w.heap.size w wc))
  case first =>
    have H := HC6.out
    clear HC6
    replace H := Option.bind_eq_some_iff.mp H
    obtain ⟨t126, A90, H⟩ := H
    replace H : (if t126 = true then ((spec_l01Between.f a3 1 a1).bind fun t127 => (if t127 = true then ((spec_l01Between.f a4 1 a2).bind fun t128 => (spec_Crop.j0 k l0 a1 a3 a4 y123 (!t128))) else (spec_Crop.j0 k l0 a1 a3 a4 y123 true))) else (spec_Crop.j0 k l0 a1 a3 a4 y123 true)) = some r := H
    have A9 := Aside0.mk A90
    clear A90
    by_cases c10 : t126 = true
    · subst c10
      have H1 : ((spec_l01Between.f a3 1 a1).bind fun t127 => (if t127 = true then ((spec_l01Between.f a4 1 a2).bind fun t128 => (spec_Crop.j0 k l0 a1 a3 a4 y123 (!t128))) else (spec_Crop.j0 k l0 a1 a3 a4 y123 true))) = some r := by rw [if_pos rfl] at H; exact H
      clear H
      have H := H1
      clear H1
      replace H := Option.bind_eq_some_iff.mp H
      obtain ⟨t127, A110, H⟩ := H
      replace H : (if t127 = true then ((spec_l01Between.f a4 1 a2).bind fun t128 => (spec_Crop.j0 k l0 a1 a3 a4 y123 (!t128))) else (spec_Crop.j0 k l0 a1 a3 a4 y123 true)) = some r := H
      have A11 := Aside0.mk A110
      clear A110
      by_cases c12 : t127 = true
      · subst c12
        have H1 : ((spec_l01Between.f a4 1 a2).bind fun t128 => (spec_Crop.j0 k l0 a1 a3 a4 y123 (!t128))) = some r := by rw [if_pos rfl] at H; exact H
        clear H
        have H := H1
        clear H1
        replace H := Option.bind_eq_some_iff.mp H
        obtain ⟨t128, A130, H⟩ := H
        replace H : (spec_Crop.j0 k l0 a1 a3 a4 y123 (!t128)) = some r := H
        have A13 := Aside0.mk A130
        clear A130
        have H' := Aside0.mk H
        clear H
        go_wp2_with (first | ((with_reducible refine gate_callee (f := 15) rfl ?_); refine goesL_ (some 18) rfl rfl Try.func15 (by kernel_rfl) rfl #[.slice A0 l0.length c0, .int .i64 a1, .int .i64 a2] rfl (by (try simp only [List.map_toArray, List.map_cons, List.map_nil]); first | done | rfl | (simp only [List.length_drop, List.length_take]; rfl)) ?_; (with_reducible refine (spec_PlaneOk.calls k _ _ l0 a1 a2 true _ ?side1 ?side2 A9.out).mono ?_); (case side1 => repeat (first | exact (Kd.C_below HR0.out HB.out) | (with_reducible refine Kd.C_alloc ?_ _) | (with_reducible refine Kd.C_drewN ?_ _) | (with_reducible refine Kd.C_drew ?_))); (case side2 => exact HC0.out); rintro e w' ⟨rfl, ⟨nd, rfl⟩⟩; refine ⟨_, rfl, ?_⟩) | (go_at_call 42; (with_reducible refine (spec_l01Between.calls a3 1 a1 true _ A11.out).mono ?_); rintro e w' ⟨rfl, ⟨nd, rfl⟩⟩) | (go_at_call 42; (with_reducible refine (spec_l01Between.calls a4 1 a2 t128 _ A13.out).mono ?_); rintro e w' ⟨rfl, ⟨nd, rfl⟩⟩))
        go_meet
        case rel => exact ⟨_, (!t128), (by first | rfl | (simp; done) | (simp [*]; done)), H', ⟨by first | omega | exact Nat.le_refl _⟩, ⟨by (with_reducible repeat (first | apply Kd.R_alloc | apply Kd.R_drewN | apply Kd.R_drew)); exact HO125.out⟩, ⟨by repeat (first | (with_reducible first | exact HB.out | apply below_alloc | apply pw_below_drewN | apply below_drew1) | exact HB.out)⟩⟩
      · replace c12 := Bool.eq_false_iff.mpr c12
        subst c12
        have H1 : (spec_Crop.j0 k l0 a1 a3 a4 y123 true) = some r := by rw [if_neg (show ¬ (false = true) by decide)] at H; exact H
        clear H
        have H := H1
        clear H1
        have H' := Aside0.mk H
        clear H
        go_wp2_with (first | ((with_reducible refine gate_callee (f := 15) rfl ?_); refine goesL_ (some 18) rfl rfl Try.func15 (by kernel_rfl) rfl #[.slice A0 l0.length c0, .int .i64 a1, .int .i64 a2] rfl (by (try simp only [List.map_toArray, List.map_cons, List.map_nil]); first | done | rfl | (simp only [List.length_drop, List.length_take]; rfl)) ?_; (with_reducible refine (spec_PlaneOk.calls k _ _ l0 a1 a2 true _ ?side1 ?side2 A9.out).mono ?_); (case side1 => repeat (first | exact (Kd.C_below HR0.out HB.out) | (with_reducible refine Kd.C_alloc ?_ _) | (with_reducible refine Kd.C_drewN ?_ _) | (with_reducible refine Kd.C_drew ?_))); (case side2 => exact HC0.out); rintro e w' ⟨rfl, ⟨nd, rfl⟩⟩; refine ⟨_, rfl, ?_⟩) | (go_at_call 42; (with_reducible refine (spec_l01Between.calls a3 1 a1 false _ A11.out).mono ?_); rintro e w' ⟨rfl, ⟨nd, rfl⟩⟩))
        go_meet
        case rel => exact ⟨_, (true), (by first | rfl | (simp; done) | (simp [*]; done)), H', ⟨by first | omega | exact Nat.le_refl _⟩, ⟨by (with_reducible repeat (first | apply Kd.R_alloc | apply Kd.R_drewN | apply Kd.R_drew)); exact HO125.out⟩, ⟨by repeat (first | (with_reducible first | exact HB.out | apply below_alloc | apply pw_below_drewN | apply below_drew1) | exact HB.out)⟩⟩
    · replace c10 := Bool.eq_false_iff.mpr c10
      subst c10
      have H1 : (spec_Crop.j0 k l0 a1 a3 a4 y123 true) = some r := by rw [if_neg (show ¬ (false = true) by decide)] at H; exact H
      clear H
      have H := H1
      clear H1
      have H' := Aside0.mk H
      clear H
      go_wp2_with (first | ((with_reducible refine gate_callee (f := 15) rfl ?_); refine goesL_ (some 18) rfl rfl Try.func15 (by kernel_rfl) rfl #[.slice A0 l0.length c0, .int .i64 a1, .int .i64 a2] rfl (by (try simp only [List.map_toArray, List.map_cons, List.map_nil]); first | done | rfl | (simp only [List.length_drop, List.length_take]; rfl)) ?_; (with_reducible refine (spec_PlaneOk.calls k _ _ l0 a1 a2 false _ ?side1 ?side2 A9.out).mono ?_); (case side1 => repeat (first | exact (Kd.C_below HR0.out HB.out) | (with_reducible refine Kd.C_alloc ?_ _) | (with_reducible refine Kd.C_drewN ?_ _) | (with_reducible refine Kd.C_drew ?_))); (case side2 => exact HC0.out); rintro e w' ⟨rfl, ⟨nd, rfl⟩⟩; refine ⟨_, rfl, ?_⟩))
      go_meet
      case rel => exact ⟨_, (true), (by first | rfl | (simp; done) | (simp [*]; done)), H', ⟨by first | omega | exact Nat.le_refl _⟩, ⟨by (with_reducible repeat (first | apply Kd.R_alloc | apply Kd.R_drewN | apply Kd.R_drew)); exact HO125.out⟩, ⟨by repeat (first | (with_reducible first | exact HB.out | apply below_alloc | apply pw_below_drewN | apply below_drew1) | exact HB.out)⟩⟩
  case rest =>
    clear HC6
    try clear c1
    try clear p2
    try clear c10
    try clear c12
    obtain ⟨kq, x31_5, rfl, HA, HJ5, HO_11, HB⟩ := hcut
    cases kq with
    | zero => exact absurd HA.out (by simp [spec_Crop.j0])
    | succ kj5 =>
      have H := HA.out
      clear HA
      simp only [spec_Crop.j0] at H
      by_cases c14 : x31_5 = true
      · subst c14
        have H1 : (some y123) = some r := by rw [if_pos rfl] at H; exact H
        clear H
        have H := H1
        clear H1
        obtain rfl := Option.some.inj H
        go_wp2
        go_ret
        exact ⟨_, by first | rfl | (simp [errW_none, errW_some] <;> rfl) | (simp [*, errW_none, errW_some] <;> rfl), by (with_reducible repeat (first | apply Kd.R_alloc | apply Kd.R_drewN | apply Kd.R_drew)); exact HO_11.out, by repeat (first | (with_reducible first | exact HB.out | apply below_alloc | apply pw_below_drewN | apply below_drew1) | exact HB.out)⟩
      · replace c14 := Bool.eq_false_iff.mpr c14
        subst c14
        have H1 : (spec_Crop.l0 kj5 l0 a1 a3 a4 y123 0) = some r := by rw [if_neg (show ¬ (false = true) by decide)] at H; exact H
        clear H
        have H := H1
        clear H1
        have H' := Aside0.mk H
        clear H
        go_wp2
        go_loopg [11, 12] kj5 (fun kq v11 v12 w' => ∃ (x11_2 : List Int) (x12_2 : Int), v12 = .int .i64 x12_2 ∧ Aside0 (spec_Crop.l0 kq l0 a1 a3 a4 x11_2 x12_2 = some r) ∧ Aside0 (kq ≤ kj5) ∧ Aside0 (Kd.R (Kd.int .i64) 3 w' w.heap.size (fun _ => True) v11 x11_2) ∧ Aside0 (Below w.heap.size w w'))
        case atStart => exact ⟨(y123), (0), (by first | rfl | (simp; done) | (simp [*]; done)), H', ⟨Nat.le_refl _⟩, ⟨by (with_reducible repeat (first | apply Kd.R_alloc | apply Kd.R_drewN | apply Kd.R_drew)); exact HO_11.out⟩, ⟨by repeat (first | (with_reducible first | exact HB.out | apply below_alloc | apply pw_below_drewN | apply below_drew1) | exact HB.out)⟩⟩
        case round =>
          clear H'
          try clear c1
          try clear p2
          try clear c10
          try clear c12
          try clear c14
          try clear p2
          obtain ⟨x11_2, x12_2, rfl, HA, HK2, HO_11, HB⟩ := hrel
          cases gk with
          | zero => exact absurd HA.out (by simp [spec_Crop.l0])
          | succ k2 =>
            have H := HA.out
            clear HA
            simp only [spec_Crop.l0] at H
            by_cases c15 : x12_2 < a4
            · rw [if_pos c15] at H
              have c15b0 : decide (x12_2 < a4) = true := decide_eq_true c15
              clear c15
              have H' := Aside0.mk H
              clear H
              go_wp2
              go_loopg [11, 13] k2 (fun kq v11 v13 w' => ∃ (x11_3 : List Int) (x13_3 : Int), v13 = .int .i64 x13_3 ∧ Aside0 (spec_Crop.l1 kq l0 a1 a3 a4 x11_3 x12_2 x13_3 = some r) ∧ Aside0 (kq ≤ k2) ∧ Aside0 (Kd.R (Kd.int .i64) 3 w' w.heap.size (fun _ => True) v11 x11_3) ∧ Aside0 (Below w.heap.size w w'))
              case atStart => exact ⟨(x11_2), (0), (by first | rfl | (simp; done) | (simp [*]; done)), H', ⟨Nat.le_refl _⟩, ⟨by (with_reducible repeat (first | apply Kd.R_alloc | apply Kd.R_drewN | apply Kd.R_drew)); exact HO_11.out⟩, ⟨by repeat (first | (with_reducible first | exact HB.out | apply below_alloc | apply pw_below_drewN | apply below_drew1) | exact HB.out)⟩⟩
              case round =>
                clear H'
                try clear c1
                try clear p2
                try clear c10
                try clear c12
                try clear c14
                try clear c15
                try clear c15b0
                try clear p2
                obtain ⟨x11_3, x13_3, rfl, HA, HK3, HO_11, HB⟩ := hrel
                cases gk with
                | zero => exact absurd HA.out (by simp [spec_Crop.l1])
                | succ k3 =>
                  have H := HA.out
                  clear HA
                  simp only [spec_Crop.l1] at H
                  by_cases c16 : x13_3 < a3
                  · rw [if_pos c16] at H
                    have c16b0 : decide (x13_3 < a3) = true := decide_eq_true c16
                    clear c16
                    obtain ⟨ji17, hji17⟩ : ∃ j_ : Int, (wrap64 ((wrap64 (x12_2 * a1)) + x13_3)) = j_ := ⟨_, rfl⟩
                    replace H : (if 0 ≤ (ji17) then (if (ji17) < (l0.length : Int) then (if x11_3.length < 17592186044416 then (spec_Crop.l1 k3 l0 a1 a3 a4 (x11_3 ++ [rd l0 (ji17)]) x12_2 (wrap64 (x13_3 + 1))) else (none)) else (none)) else (none)) = some r := by first | (rw [hji17] at H; exact H) | (simp only [hji17] at H ⊢; exact H)
                    have hji17w : (IntKind.i64.wrap ((wrap64 (x12_2 * a1)) + x13_3)) = ji17 := (i64_w _).trans hji17
                    by_cases c18 : 0 ≤ (ji17)
                    · rw [if_pos c18] at H
                      have c18b0 : decide (0 ≤ (ji17)) = true := decide_eq_true c18
                      clear c18
                      by_cases c19 : (ji17) < (l0.length : Int)
                      · rw [if_pos c19] at H
                        have c19b0 : decide ((ji17) < (l0.length : Int)) = true := decide_eq_true c19
                        clear c19
                        by_cases c20 : x11_3.length < 17592186044416
                        · rw [if_pos c20] at H
                          have LMc20 := Aside0.mk c20
                          clear c20
                          obtain ⟨y130, hy130⟩ : ∃ y_ : List Int, y_ = (x11_3 ++ [rd l0 (ji17)]) := ⟨_, rfl⟩
                          replace H : (spec_Crop.l1 k3 l0 a1 a3 a4 y130 x12_2 (wrap64 (x13_3 + 1))) = some r := by first | (rw [hy130]; with_reducible exact H) | (have H2_ := (Option.bind_some _ _).symm.trans H; rw [hy130]; with_reducible exact H2_) | (have H2_ := (Option.bind_some _ _).symm.trans H; with_reducible exact H2_) | with_reducible exact H | (rw [hy130]; exact H) | exact H
                          have Ny130 := Aside0.mk hy130
                          clear hy130
                          have H' := Aside0.mk H
                          clear H
                          have p129 : 0 ≤ ((ji17) : Int) := of_decide_eq_true (by first | (with_reducible assumption) | assumption)
                          have q129 : (ji17) < (l0.length : Int) := of_decide_eq_true (by first | (with_reducible assumption) | assumption)
                          obtain ⟨ad129, e129, hx129_0⟩ := Kd.at_int HR0.out (ji17) p129 q129
                          cases e129
                          replace hx129_0 := (HB.out.cell (World.block_lt_of_cell? w _ hx129_0)).trans hx129_0
                          replace p129 := eq_true p129
                          replace q129 := eq_true q129
                          go_wp2_with (first | ((with_reducible refine gate_builtin (b := .append) (xs := #[.tmp 43, .tmp 52]) rfl ?_); at_builtin; refine Kd.R_append (Kd.int .i64) (w0 := w) w.heap.size rfl (.tmp 43) (.tmp 52) 28 3 (.int .i64 0) 8 rfl Try.underlying28 info3 rfl (by decide) (by omega) u11 x11_3 (rd l0 (ji17)) [.int .i64 (rd l0 (ji17))] (fun _ => True) (fun _ => False) rfl rfl ?aP (fun _ hk => hk.elim) ?aF ?aO ?aB ?aS ?aL ?_; (case aP => exact rfl); (case aB => exact (by repeat (first | (with_reducible first | exact HB.out | apply below_alloc | apply pw_below_drewN | apply below_drew1) | exact HB.out))); (case aF => exact (fun _ _ => trivial)); (case aO => exact (by (with_reducible repeat (first | apply Kd.R_alloc | apply Kd.R_drewN | apply Kd.R_drew)); exact HO_11.out)); (case aS => exact (below_size (by repeat (first | (with_reducible first | exact HB.out | apply below_alloc | apply pw_below_drewN | apply below_drew1) | exact HB.out)))); (case aL => have := LMc20.out; omega); intro v131 w21 ho hb hg hat; rw [← Ny130.out] at ho; have n0_ := Aside0.mk (hb); have n1_ := Aside0.mk (ho); clear HB; clear HO_11; have HB := n0_; have HO132 := n1_; clear n0_ n1_; clear ho hb hg hat))
                          go_roundg k3
                          case measure => have := HJ5.out; have := HK2.out; have := HK3.out; omega
                          case rel => exact ⟨(y130), (wrap64 (x13_3 + 1)), (by first | rfl | (simp; done) | (simp [*]; done)), H', ⟨by have := HJ5.out; have := HK2.out; have := HK3.out; omega⟩, ⟨by (with_reducible repeat (first | apply Kd.R_alloc | apply Kd.R_drewN | apply Kd.R_drew)); exact HO132.out⟩, ⟨by repeat (first | (with_reducible first | exact HB.out | apply below_alloc | apply pw_below_drewN | apply below_drew1) | exact HB.out)⟩⟩
                        · rw [if_neg c20] at H
                          exact absurd H (by simp)
                      · rw [if_neg c19] at H
                        exact absurd H (by simp)
                    · rw [if_neg c18] at H
                      exact absurd H (by simp)
                  · rw [if_neg c16] at H
                    have c16b0 : decide (x13_3 < a3) = false := decide_eq_false c16
                    clear c16
                    have H' := Aside0.mk H
                    clear H
                    go_wp2
                    go_roundg k3
                    case measure => have := HJ5.out; have := HK2.out; have := HK3.out; omega
                    case rel => exact ⟨(x11_3), (wrap64 (x12_2 + 1)), (by first | rfl | (simp; done) | (simp [*]; done)), H', ⟨by have := HJ5.out; have := HK2.out; have := HK3.out; omega⟩, ⟨by (with_reducible repeat (first | apply Kd.R_alloc | apply Kd.R_drewN | apply Kd.R_drew)); exact HO_11.out⟩, ⟨by repeat (first | (with_reducible first | exact HB.out | apply below_alloc | apply pw_below_drewN | apply below_drew1) | exact HB.out)⟩⟩
            · rw [if_neg c15] at H
              have c15b0 : decide (x12_2 < a4) = false := decide_eq_false c15
              clear c15
              obtain rfl := Option.some.inj H
              go_wp2
              go_ret
              exact ⟨_, by first | rfl | (simp [errW_none, errW_some] <;> rfl) | (simp [*, errW_none, errW_some] <;> rfl), by (with_reducible repeat (first | apply Kd.R_alloc | apply Kd.R_drewN | apply Kd.R_drew)); exact HO_11.out, by repeat (first | (with_reducible first | exact HB.out | apply below_alloc | apply pw_below_drewN | apply below_drew1) | exact HB.out)⟩

theorem sCrop_l1 (l : List Int) (b1 b2 b3 b4 y : Nat) (out : List Int) (r : List Int) (k1 : b1 ≤ 4096) (k3 : b3 ≤ b1) (k4 : b4 ≤ 4096) (hy : y < b4) (kl : b4 * b1 ≤ l.length) (ho : out.length ≤ 16777216)
    (hc : Ev (fun k => spec_Crop.l0 k l b1 b3 b4 (out ++ rowL (fun y x => rd l (y * b1 + x)) b3 y) ((y + 1 : Nat) : Int)) r) :
    ∀ (d x : Nat), x + d = b3 → Ev (fun k => spec_Crop.l1 k l b1 b3 b4 (out ++ rowL (fun y x => rd l (y * b1 + x)) x y) y x) r := by
  intro d
  induction d with
  | zero =>
    intro x hx
    obtain rfl : x = b3 := by omega
    refine Ev.step (fun k => by rw [spec_Crop.l1]) (evNeg (by omega) ?_)
    rw [w64 (by omega) (by omega)]
    exact hc
  | succ d ih =>
    intro x hx
    have hm : y * b1 ≤ 4096 * 4096 := Nat.mul_le_mul (by omega) k1
    have hm2 : (y : Int) * b1 = ((y * b1 : Nat) : Int) := by push_cast; rfl
    have h2 : (y + 1) * b1 ≤ b4 * b1 := Nat.mul_le_mul_right _ (by omega)
    rw [Nat.succ_mul] at h2
    refine Ev.step (fun k => by rw [spec_Crop.l1]) (evPos (by omega) ?_)
    rw [w64 (x := (y : Int) * b1) (by omega) (by omega), w64 (x := (y : Int) * b1 + x) (by omega) (by omega), w64 (by omega) (by omega)]
    refine evPos (by omega) (evPos (by omega) (evPos (by rw [List.length_append, rowL_length]; omega) ?_))
    have := ih (x + 1) (by omega)
    rw [rowL_succ, ← List.append_assoc] at this
    exact this
theorem sCrop_l0 (l : List Int) (b1 b2 b3 b4 : Nat) (k1 : b1 ≤ 4096) (k3 : b3 ≤ b1) (k4 : b4 ≤ 4096) (kl : b4 * b1 ≤ l.length) :
    ∀ (d y : Nat), y + d = b4 → Ev (fun k => spec_Crop.l0 k l b1 b3 b4 (planeL (fun y x => rd l (y * b1 + x)) b3 y) y) (planeL (fun y x => rd l (y * b1 + x)) b3 b4) := by
  intro d
  induction d with
  | zero =>
    intro y hy
    obtain rfl : y = b4 := by omega
    exact Ev.step (fun k => by rw [spec_Crop.l0]) (evNeg (by omega) (Ev.now _))
  | succ d ih =>
    intro y hy
    refine Ev.step (fun k => by rw [spec_Crop.l0]) (evPos (by omega) ?_)
    have hl : (planeL (fun y x => rd l (y * b1 + x)) b3 y).length ≤ 16777216 := by
      rw [planeL_length]
      have : y * b3 ≤ 4096 * 4096 := Nat.mul_le_mul (by omega) (by omega)
      omega
    have := sCrop_l1 l b1 b2 b3 b4 y _ _ k1 k3 k4 (by omega) kl hl (by rw [← planeL_succ]; exact ih (y + 1) (by omega)) b3 0 (by omega)
    simpa [rowL] using this
theorem crop_guard {l : List Int} {a1 a2 a3 a4 : Int} (hp : planeB l a1 a2 = true) : (sidesB a3 a4 = true ∧ a3 ≤ a1 ∧ a4 ≤ a2) ↔ (inR a3 1 a1 = true ∧ inR a4 1 a2 = true) := by
  obtain ⟨m1, m2, m3, m4, ml⟩ := plane_bounds hp
  simp only [inR_iff]
  constructor
  · rintro ⟨hs, h3, h4⟩
    obtain ⟨n1, n2, n3, n4, _⟩ := sides_bounds hs
    exact ⟨⟨n1, h3⟩, n3, h4⟩
  · rintro ⟨⟨h1, h2⟩, h3, h4⟩
    refine ⟨?_, h2, h4⟩
    have hs : sidesB a1 a2 = true := by
      simp only [planeB, Bool.and_eq_true] at hp
      exact hp.1
    obtain ⟨_, _, _, _, h8⟩ := sides_bounds hs
    have h5 : a3 * a4 ≤ a1 * a2 := Int.mul_le_mul h2 h4 (by omega) (by omega)
    have h6 : 0 ≤ a3 * a4 := Int.mul_nonneg (by omega) (by omega)
    simp only [sidesB, Bool.and_eq_true, inR_iff, decide_eq_true_eq]
    rw [w64 (by omega) (by omega)]
    omega
theorem sCrop_f (l : List Int) (a1 a2 a3 a4 : Int) (hl : l.length ≤ maxLen) : Ev (fun k => spec_Crop.f k l a1 a2 a3 a4) (cropI l a1 a2 a3 a4) := by
  unfold spec_Crop.f
  refine evBind (Ev.now _) (evBind (sPlaneOk_f l a1 a2 hl) ?_)
  by_cases hp : planeB l a1 a2 = true
  · have hg := crop_guard (a3 := a3) (a4 := a4) hp
    refine evPos hp ?_
    rw [between_f]
    simp only [Option.bind_some]
    by_cases h3 : inR a3 1 a1 = true
    · refine evPos h3 ?_
      rw [between_f]
      simp only [Option.bind_some]
      refine Ev.step (fun k => by rw [spec_Crop.j0]) ?_
      by_cases h4 : inR a4 1 a2 = true
      · have hc := hg.2 ⟨h3, h4⟩
        refine evNeg (by simp [h4]) ?_
        unfold cropI
        rw [if_pos ⟨hp, hc⟩]
        obtain ⟨m1, m2, m3, m4, ml⟩ := plane_bounds hp
        rw [inR_iff] at h3 h4
        obtain ⟨b1, rfl⟩ := Int.eq_ofNat_of_zero_le (show 0 ≤ a1 by omega)
        obtain ⟨b2, rfl⟩ := Int.eq_ofNat_of_zero_le (show 0 ≤ a2 by omega)
        obtain ⟨b3, rfl⟩ := Int.eq_ofNat_of_zero_le (show 0 ≤ a3 by omega)
        obtain ⟨b4, rfl⟩ := Int.eq_ofNat_of_zero_le (show 0 ≤ a4 by omega)
        have e2 : l.length = b1 * b2 := by exact_mod_cast ml
        have e3 : b4 * b1 ≤ b2 * b1 := Nat.mul_le_mul_right _ (by omega)
        rw [Nat.mul_comm b2 b1] at e3
        have := sCrop_l0 l b1 b2 b3 b4 (by omega) (by omega) (by omega) (by omega) b4 0 (by omega)
        simpa [planeL] using this
      · refine evPos (by simp [h4]) ?_
        unfold cropI
        rw [if_neg (fun h => h4 (hg.1 h.2).2)]
        exact Ev.now _
    · refine evNeg h3 (Ev.step (fun k => by rw [spec_Crop.j0]) (evPos rfl ?_))
      unfold cropI
      rw [if_neg (fun h => h3 (hg.1 h.2).1)]
      exact Ev.now _
  · refine evNeg hp (Ev.step (fun k => by rw [spec_Crop.j0]) (evPos rfl ?_))
    unfold cropI
    rw [if_neg (fun h => hp h.1)]
    exact Ev.now _

/-! ### impl_up: function 56 -/
def impl_up.f (a0 : Int) (a1 : Int) : Option (Int) := if a1 = 0 then (none) else (some (wrap64 (Int.tdiv (wrap64 ((wrap64 (a0 + a1)) - 1)) a1)))
set_option maxHeartbeats 8000000 in
set_option maxRecDepth 100000 in
theorem impl_up.calls (a0 : Int) (a1 : Int) (r : Int) (w : World) (h : impl_up.f a0 a1 = some r) :
    Calls Try.prog 56 #[.int .i64 a0, .int .i64 a1] w fun e w' => e = .returned (.int .i64 r) ∧ Drawn0 w w' := by
  have H : (if a1 = 0 then (none) else (some (wrap64 (Int.tdiv (wrap64 ((wrap64 (a0 + a1)) - 1)) a1)))) = some r := h
  clear h
  by_cases c3 : a1 = 0
  · rw [if_pos c3] at H
    exact absurd H (by simp)
  · rw [if_neg c3] at H
    have c3b0 : (a1 == 0) = false := beq_eq_false_iff_ne.mpr c3
    have c3b1 : (a1 != 0) = true := bne_iff_ne.mpr c3
    obtain rfl := Option.some.inj H
    go_enter Try.func56, Try.ntmps56
    go_wp2
    go_ret
    exact ⟨by first | rfl | (simp; done) | (simp [*]; done), by repeat (first | exact Drawn0.refl _ | apply Drawn0.step)⟩

theorem up_f {n d : Nat} (hd : 0 < d) (hd2 : d ≤ 281474976710656) (h1 : n ≤ 281474976710656) : impl_up.f n d = some (((n + d - 1) / d : Nat) : Int) := by
  have hq : (n + d - 1) / d ≤ n + d - 1 := Nat.div_le_self _ _
  unfold impl_up.f
  rw [if_neg (by omega), w64 (x := (n : Int) + d) (by omega) (by omega), w64 (x := (n : Int) + d - 1) (by omega) (by omega), show (n : Int) + d - 1 = ((n + d - 1 : Nat) : Int) from by omega, Int.tdiv_eq_ediv_of_nonneg (by omega), ← Int.natCast_ediv, w64n (by omega)]

/-! ### impl_below: function 67 -/
def impl_below.f (a0 : Int) (a1 : Int) : Option (Int) := if a0 < 0 then (if a1 = 0 then (none) else (some (wrap64 (-(wrap64 (Int.tdiv (wrap64 ((wrap64 ((wrap64 (-a0)) + a1)) - 1)) a1)))))) else (if a1 = 0 then (none) else (some (wrap64 (Int.tdiv a0 a1))))
set_option maxHeartbeats 8000000 in
set_option maxRecDepth 100000 in
theorem impl_below.calls (a0 : Int) (a1 : Int) (r : Int) (w : World) (h : impl_below.f a0 a1 = some r) :
    Calls Try.prog 67 #[.int .i64 a0, .int .i64 a1] w fun e w' => e = .returned (.int .i64 r) ∧ Drawn0 w w' := by
  have H : (if a0 < 0 then (if a1 = 0 then (none) else (some (wrap64 (-(wrap64 (Int.tdiv (wrap64 ((wrap64 ((wrap64 (-a0)) + a1)) - 1)) a1)))))) else (if a1 = 0 then (none) else (some (wrap64 (Int.tdiv a0 a1))))) = some r := h
  clear h
  by_cases c3 : a0 < 0
  · rw [if_pos c3] at H
    have c3b0 : decide (a0 < 0) = true := decide_eq_true c3
    clear c3
    by_cases c4 : a1 = 0
    · rw [if_pos c4] at H
      exact absurd H (by simp)
    · rw [if_neg c4] at H
      have c4b0 : (a1 == 0) = false := beq_eq_false_iff_ne.mpr c4
      have c4b1 : (a1 != 0) = true := bne_iff_ne.mpr c4
      obtain rfl := Option.some.inj H
      go_enter Try.func67, Try.ntmps67
      go_wp2
      go_ret
      exact ⟨by first | rfl | (simp; done) | (simp [*]; done), by repeat (first | exact Drawn0.refl _ | apply Drawn0.step)⟩
  · rw [if_neg c3] at H
    have c3b0 : decide (a0 < 0) = false := decide_eq_false c3
    clear c3
    by_cases c5 : a1 = 0
    · rw [if_pos c5] at H
      exact absurd H (by simp)
    · rw [if_neg c5] at H
      have c5b0 : (a1 == 0) = false := beq_eq_false_iff_ne.mpr c5
      have c5b1 : (a1 != 0) = true := bne_iff_ne.mpr c5
      obtain rfl := Option.some.inj H
      go_enter Try.func67, Try.ntmps67
      go_wp2
      go_ret
      exact ⟨by first | rfl | (simp; done) | (simp [*]; done), by repeat (first | exact Drawn0.refl _ | apply Drawn0.step)⟩

theorem neg_ediv {n d : Int} (hd : 0 < d) : -((-n + d - 1) / d) = n / d := by
  have h1 := Int.emod_add_mul_ediv n d
  have h2 := Int.emod_nonneg n (show d ≠ 0 by omega)
  have h3 := Int.emod_lt_of_pos n hd
  have h4 : -n + d - 1 = (d - 1 - n % d) + d * (-(n / d)) := by rw [Int.mul_neg]; omega
  rw [h4, Int.add_mul_ediv_left _ _ (by omega), Int.ediv_eq_zero_of_lt (by omega) (by omega)]
  omega
theorem ediv_le_abs {n d : Int} (hd : 0 < d) (b : Int) (h0 : -b ≤ n) (h1 : n ≤ b) (hb : 0 ≤ b) : -b ≤ n / d ∧ n / d ≤ b := by
  constructor
  · exact (Int.le_ediv_iff_mul_le hd).2 (by have : -b * d ≤ -b * 1 := Int.mul_le_mul_of_nonpos_left (by omega) (by omega); omega)
  · exact Int.le_trans (Int.ediv_le_ediv hd h1) (Int.ediv_le_self d hb)
theorem below_f {n d : Int} (hd : 0 < d) (hd2 : d ≤ 1152921504606846976) (h0 : -1152921504606846976 ≤ n) (h1 : n ≤ 1152921504606846976) : impl_below.f n d = some (n / d) := by
  obtain ⟨q0, q1⟩ := ediv_le_abs hd 1152921504606846976 h0 h1 (by omega)
  unfold impl_below.f
  by_cases h : n < 0
  · obtain ⟨p0, p1⟩ := ediv_le_abs (n := -n + d - 1) hd 2305843009213693952 (by omega) (by omega) (by omega)
    rw [if_pos h, if_neg (by omega), w64 (x := -n) (by omega) (by omega), w64 (x := -n + d) (by omega) (by omega), w64 (x := -n + d - 1) (by omega) (by omega), Int.tdiv_eq_ediv_of_nonneg (by omega), w64 (x := (-n + d - 1) / d) (by omega) (by omega), neg_ediv hd, w64 (by omega) (by omega)]
  · rw [if_neg h, if_neg (by omega), Int.tdiv_eq_ediv_of_nonneg (by omega), w64 (by omega) (by omega)]

/-! ### impl_rounded: function 57 -/
def impl_rounded.f (a0 : Int) (a1 : Int) : Option (Int) := (impl_below.f (wrap64 ((wrap64 (2 * a0)) + a1)) (wrap64 (2 * a1))).bind fun t133 => (some t133)
set_option maxHeartbeats 8000000 in
set_option maxRecDepth 100000 in
theorem impl_rounded.calls (a0 : Int) (a1 : Int) (r : Int) (w : World) (h : impl_rounded.f a0 a1 = some r) :
    Calls Try.prog 57 #[.int .i64 a0, .int .i64 a1] w fun e w' => e = .returned (.int .i64 r) ∧ Drawn0 w w' := by
  have H : ((impl_below.f (wrap64 ((wrap64 (2 * a0)) + a1)) (wrap64 (2 * a1))).bind fun t133 => (some t133)) = some r := h
  clear h
  replace H := Option.bind_eq_some_iff.mp H
  obtain ⟨t133, A30, H⟩ := H
  replace H : (some t133) = some r := H
  have A3 := Aside0.mk A30
  clear A30
  obtain rfl := Option.some.inj H
  go_enter Try.func57, Try.ntmps57
  go_wp2_with (first | ((with_reducible refine gate_callee (f := 67) rfl ?_); refine goesL_ (some 11) rfl rfl Try.func67 (by kernel_rfl) rfl #[.int .i64 (wrap64 ((wrap64 (2 * a0)) + a1)), .int .i64 (wrap64 (2 * a1))] rfl (by (try simp only [List.map_toArray, List.map_cons, List.map_nil]); first | done | rfl | (simp only [List.length_drop, List.length_take]; rfl)) ?_; (with_reducible refine (impl_below.calls (wrap64 ((wrap64 (2 * a0)) + a1)) (wrap64 (2 * a1)) t133 _ A3.out).mono ?_); rintro e w' ⟨rfl, ⟨nd, rfl⟩⟩; refine ⟨_, rfl, ?_⟩))
  go_ret
  exact ⟨by first | rfl | (simp; done) | (simp [*]; done), by repeat (first | exact Drawn0.refl _ | apply Drawn0.step)⟩

/-- A quotient, to the nearest whole number, halves up. -/
def rnd (n d : Int) : Int := (2 * n + d) / (2 * d)
theorem rounded_f {n d : Int} (hd : 0 < d) (hd2 : d ≤ 281474976710656) (h0 : -281474976710656 ≤ n) (h1 : n ≤ 281474976710656) : impl_rounded.f n d = some (rnd n d) := by
  unfold impl_rounded.f rnd
  rw [w64 (x := 2 * n) (by omega) (by omega), w64 (x := 2 * n + d) (by omega) (by omega), w64 (x := 2 * d) (by omega) (by omega), below_f (by omega) (by omega) (by omega) (by omega)]
  rfl

/-! ### impl_Shrink_1: function 55 (by hand) -/
/-- The sum of n samples of a row; of n samples of each of m rows. -/
def rowSum (l : List Int) (wd r c : Nat) : Nat → Int
  | 0 => 0
  | n + 1 => rowSum l wd r c n + rd l ((r * wd + (c + n) : Nat) : Int)
def rectSum (l : List Int) (wd r c n : Nat) : Nat → Int
  | 0 => 0
  | m + 1 => rectSum l wd r c n m + rowSum l wd (r + m) c n
theorem rd_range {l : List Int} (h : ∀ x ∈ l, 0 ≤ x ∧ x ≤ 4095) (i : Nat) : 0 ≤ rd l (i : Int) ∧ rd l (i : Int) ≤ 4095 := by
  rcases Nat.lt_or_ge i l.length with h1 | h1
  · rw [rd_nat h1]; exact h _ (List.getElem_mem h1)
  · rw [rd_ge h1]; omega
theorem rowSum_range {l : List Int} (h : ∀ x ∈ l, 0 ≤ x ∧ x ≤ 4095) (wd r c : Nat) : ∀ n, 0 ≤ rowSum l wd r c n ∧ rowSum l wd r c n ≤ 4095 * n
  | 0 => by simp [rowSum]
  | n + 1 => by
    have h1 := rowSum_range h wd r c n
    have h2 := rd_range h (r * wd + (c + n))
    unfold rowSum
    omega
theorem rectSum_range {l : List Int} (h : ∀ x ∈ l, 0 ≤ x ∧ x ≤ 4095) (wd r c n : Nat) : ∀ m, 0 ≤ rectSum l wd r c n m ∧ rectSum l wd r c n m ≤ 4095 * (m * n : Nat)
  | 0 => by simp [rectSum]
  | m + 1 => by
    have h1 := rectSum_range h wd r c n m
    have h2 := rowSum_range h wd (r + m) c n
    unfold rectSum
    rw [Nat.succ_mul]
    push_cast at h1 ⊢
    omega
/-- Where the rows (columns) of a sample of a smaller plane begin and end. -/
def lo_ (y h nh : Nat) : Nat := y * h / nh
def hi_ (y h nh : Nat) : Nat := ((y + 1) * h + nh - 1) / nh
theorem lo_hi {y h nh : Nat} (hy : y < nh) (hh : 1 ≤ h) : lo_ y h nh < hi_ y h nh ∧ hi_ y h nh ≤ h := by
  have h3 : 0 < nh := by omega
  constructor
  · unfold lo_ hi_
    rw [Nat.div_lt_iff_lt_mul h3]
    have h4 : (y + 1) * h + nh - 1 < ((y + 1) * h + nh - 1) / nh * nh + nh := by
      have := Nat.div_add_mod ((y + 1) * h + nh - 1) nh
      have h5 := Nat.mod_lt ((y + 1) * h + nh - 1) h3
      rw [Nat.mul_comm] at this
      omega
    rw [Nat.succ_mul] at h4 ⊢
    omega
  · unfold hi_
    have h4 : (y + 1) * h ≤ nh * h := Nat.mul_le_mul_right _ (by omega)
    have h5 : (y + 1) * h + nh - 1 < (h + 1) * nh := by rw [Nat.succ_mul h nh, Nat.mul_comm h nh]; omega
    have := (Nat.div_lt_iff_lt_mul h3).2 h5
    omega
/-- How far the sum and the count have come: rows up to r, of row r the columns up to k. -/
def sumA (l : List Int) (wn R0 C0 C1 r k : Nat) : Int := rectSum l wn R0 C0 (C1 - C0) (r - R0) + rowSum l wn r C0 (k - C0)
def manyA (R0 C0 C1 r k : Nat) : Int := (((r - R0) * (C1 - C0) + (k - C0) : Nat) : Int)
theorem sumA_next (l : List Int) (wn R0 C0 C1 r k : Nat) (hk : C0 ≤ k) : sumA l wn R0 C0 C1 r k + rd l ((r * wn + k : Nat) : Int) = sumA l wn R0 C0 C1 r (k + 1) := by
  unfold sumA
  rw [show k + 1 - C0 = (k - C0) + 1 from by omega, rowSum, show C0 + (k - C0) = k from by omega]
  omega
theorem manyA_next (R0 C0 C1 r k : Nat) (hk : C0 ≤ k) : manyA R0 C0 C1 r k + 1 = manyA R0 C0 C1 r (k + 1) := by
  unfold manyA
  omega
theorem sumA_row (l : List Int) (wn R0 C0 C1 r : Nat) (hr : R0 ≤ r) : sumA l wn R0 C0 C1 r C1 = sumA l wn R0 C0 C1 (r + 1) C0 := by
  unfold sumA
  rw [show r + 1 - R0 = (r - R0) + 1 from by omega, rectSum, Nat.sub_self, show R0 + (r - R0) = r from by omega]
  simp [rowSum]
theorem manyA_row (R0 C0 C1 r : Nat) (hr : R0 ≤ r) : manyA R0 C0 C1 r C1 = manyA R0 C0 C1 (r + 1) C0 := by
  unfold manyA
  rw [show r + 1 - R0 = (r - R0) + 1 from by omega, Nat.succ_mul, Nat.sub_self]
  omega
theorem sumA_range {l : List Int} (h : ∀ x ∈ l, 0 ≤ x ∧ x ≤ 4095) {wn R0 C0 C1 r k : Nat} (hr : r ≤ 4096) (h1 : C1 ≤ 4096) (hk : k ≤ 4096) : 0 ≤ sumA l wn R0 C0 C1 r k ∧ sumA l wn R0 C0 C1 r k ≤ 137438953472 := by
  unfold sumA
  have h2 := rectSum_range h wn R0 C0 (C1 - C0) (r - R0)
  have h3 := rowSum_range h wn r C0 (k - C0)
  have h4 : (r - R0) * (C1 - C0) ≤ 4096 * 4096 := Nat.mul_le_mul (by omega) (by omega)
  omega
theorem manyA_range {R0 C0 C1 r k : Nat} (hr : r ≤ 4096) (h1 : C1 ≤ 4096) (hk : k ≤ 4096) : 0 ≤ manyA R0 C0 C1 r k ∧ manyA R0 C0 C1 r k ≤ 33554432 := by
  unfold manyA
  have h4 : (r - R0) * (C1 - C0) ≤ 4096 * 4096 := Nat.mul_le_mul (by omega) (by omega)
  omega
set_option maxHeartbeats 8000000 in
set_option maxRecDepth 100000 in
theorem shrink1_walk (g0 g1 g2 g3 g4 : Nat) (A : Option Addr) (c : Nat) (l : List Int) (y x h nh wd nw yh xw y1 y1h x1 x1w : Int) (wn R0 R1 C0 C1 : Nat) (W : World)
    (h0 : W.cell? ⟨g0, 0, none⟩ = some (.int .i64 h)) (h1 : W.cell? ⟨g1, 0, none⟩ = some (.int .i64 nh)) (h2 : W.cell? ⟨g2, 0, none⟩ = some (.int .i64 wd)) (h3 : W.cell? ⟨g3, 0, none⟩ = some (.int .i64 nw)) (h4 : W.cell? ⟨g4, 0, none⟩ = some (.slice A l.length c))
    (hr : Kd.C (Kd.int .i64) W A l.length l) (z1 : ¬ nh = 0) (z2 : ¬ nw = 0)
    (r1 : wrap64 (y * h) = yh) (r2 : wrap64 (yh.tdiv nh) = (R0 : Int)) (r3 : wrap64 (y + 1) = y1) (r4 : wrap64 (y1 * h) = y1h) (u1 : ∀ w, Calls Try.prog 56 #[.int .i64 y1h, .int .i64 nh] w fun e w' => e = .returned (.int .i64 (R1 : Int)) ∧ Drawn0 w w')
    (r5 : wrap64 (x * wd) = xw) (r6 : wrap64 (xw.tdiv nw) = (C0 : Int)) (r7 : wrap64 (x + 1) = x1) (r8 : wrap64 (x1 * wd) = x1w) (u2 : ∀ w, Calls Try.prog 56 #[.int .i64 x1w, .int .i64 nw] w fun e w' => e = .returned (.int .i64 (C1 : Int)) ∧ Drawn0 w w')
    (hR : R0 < R1) (hC : C0 < C1) (bR : R1 ≤ 4096) (bC : C1 ≤ 4096) (bw : wn ≤ 4096) (hwd : wd = (wn : Int)) (hin : ∀ r k, r < R1 → k < C1 → r * wn + k < l.length) (hv : ∀ v ∈ l, 0 ≤ v ∧ v ≤ 4095)
    (u3 : ∀ w, Calls Try.prog 57 #[.int .i64 (sumA l wn R0 C0 C1 R1 C0), .int .i64 (manyA R0 C0 C1 R1 C0)] w fun e w' => e = .returned (.int .i64 (rnd (sumA l wn R0 C0 C1 R1 C0) (manyA R0 C0 C1 R1 C0))) ∧ Drawn0 w w') :
    Calls Try.prog 55 (#[.int .i64 y, .int .i64 x] ++ #[.pointer (some ⟨g0, 0, none⟩), .pointer (some ⟨g1, 0, none⟩), .pointer (some ⟨g2, 0, none⟩), .pointer (some ⟨g3, 0, none⟩), .pointer (some ⟨g4, 0, none⟩)]) W fun e w' => e = .returned (.int .i64 (rnd (sumA l wn R0 C0 C1 R1 C0) (manyA R0 C0 C1 R1 C0))) ∧ Drawn0 W w' := by
  have s1 : IntKind.i64.wrap (y * h) = yh := (i64_w _).trans r1
  have s2 : IntKind.i64.wrap (yh.tdiv nh) = (R0 : Int) := (i64_w _).trans r2
  have s3 : IntKind.i64.wrap (y + 1) = y1 := (i64_w _).trans r3
  have s4 : IntKind.i64.wrap (y1 * h) = y1h := (i64_w _).trans r4
  have s5 : IntKind.i64.wrap (x * wd) = xw := (i64_w _).trans r5
  have s6 : IntKind.i64.wrap (xw.tdiv nw) = (C0 : Int) := (i64_w _).trans r6
  have s7 : IntKind.i64.wrap (x + 1) = x1 := (i64_w _).trans r7
  have s8 : IntKind.i64.wrap (x1 * wd) = x1w := (i64_w _).trans r8
  have HR := Aside0.mk hr
  have HIN := Aside0.mk hin
  have HV := Aside0.mk hv
  have HWD := Aside0.mk hwd
  have U1 := Aside0.mk u1
  have U2 := Aside0.mk u2
  have U3 := Aside0.mk u3
  have RC := Aside0.mk (And.intro hR (And.intro hC (And.intro bR (And.intro bC bw))))
  clear hr hin hv hwd u1 u2 u3 hR hC bR bC bw
  go_enter Try.func55, Try.ntmps55
  go_wp2
  have Z1 := Aside0.mk (show (0 : Int) = sumA l wn R0 C0 C1 R0 C0 from by unfold sumA; rw [Nat.sub_self, Nat.sub_self]; rfl)
  have Z2 := Aside0.mk (show (0 : Int) = manyA R0 C0 C1 R0 C0 from by unfold manyA; rw [Nat.sub_self, Nat.sub_self, Nat.zero_mul]; rfl)
  go_loopg [10, 11, 12] (R1 - R0) (fun kq v10 v11 v12 w' => ∃ r : Nat, v12 = .int .i64 (r : Int) ∧ v10 = .int .i64 (sumA l wn R0 C0 C1 r C0) ∧ v11 = .int .i64 (manyA R0 C0 C1 r C0) ∧ Aside0 (r + kq = R1 ∧ R0 ≤ r) ∧ Drawn0 W w')
  case atStart =>
    have := RC.out
    exact ⟨R0, rfl, by rw [← Z1.out], by rw [← Z2.out], ⟨by omega⟩, by repeat (first | exact Drawn0.refl _ | apply Drawn0.step)⟩
  case round =>
    clear Z1 Z2
    obtain ⟨r, rfl, rfl, rfl, HK, ⟨nq, rfl⟩⟩ := hrel
    by_cases c1 : r < R1
    · have c1b : decide ((r : Int) < (R1 : Int)) = true := decide_eq_true (by omega)
      go_wp2_with (first | (go_at_call 56; (with_reducible refine (U1.out _).mono ?_); rintro e w' ⟨rfl, ⟨nd, rfl⟩⟩))
      go_loopg [10, 11, 13] (C1 - C0) (fun kq v10 v11 v13 w' => ∃ k : Nat, v13 = .int .i64 (k : Int) ∧ v10 = .int .i64 (sumA l wn R0 C0 C1 r k) ∧ v11 = .int .i64 (manyA R0 C0 C1 r k) ∧ Aside0 (k + kq = C1 ∧ C0 ≤ k) ∧ Drawn0 W w')
      case atStart =>
        have := RC.out
        exact ⟨C0, rfl, rfl, rfl, ⟨by omega⟩, by repeat (first | exact Drawn0.refl _ | apply Drawn0.step)⟩
      case round =>
        obtain ⟨k, rfl, rfl, rfl, HX, ⟨nq2, rfl⟩⟩ := hrel
        by_cases c2 : k < C1
        · have c2b : decide ((k : Int) < (C1 : Int)) = true := decide_eq_true (by omega)
          obtain ⟨b1, b2, b3, b4, b5⟩ := RC.out
          have bj : r * wn + k < l.length := HIN.out r k c1 c2
          have bm : r * wn ≤ 4096 * 4096 := Nat.mul_le_mul (by omega) b5
          have v0 := rd_range HV.out (r * wn + k)
          have m0 := sumA_range HV.out (wn := wn) (R0 := R0) (C0 := C0) (C1 := C1) (r := r) (k := k) (by omega) (by omega) (by omega)
          have m1 := manyA_range (R0 := R0) (C0 := C0) (C1 := C1) (r := r) (k := k) (by omega) (by omega) (by omega)
          obtain ⟨rm, hrm⟩ : ∃ rm : Int, rm = ((r * wn : Nat) : Int) := ⟨_, rfl⟩
          obtain ⟨j, hj⟩ : ∃ j : Nat, j = r * wn + k := ⟨_, rfl⟩
          have t1 : wrap64 ((r : Int) * wd) = rm := by rw [HWD.out, show (r : Int) * (wn : Int) = ((r * wn : Nat) : Int) from by push_cast; rfl, hrm]; exact w64n (by omega)
          have t2 : wrap64 (rm + (k : Int)) = (j : Int) := by rw [hrm, hj, show ((r * wn : Nat) : Int) + (k : Int) = ((r * wn + k : Nat) : Int) from by push_cast; rfl]; exact w64n (by omega)
          have t3 : wrap64 (sumA l wn R0 C0 C1 r k + rd l (j : Int)) = sumA l wn R0 C0 C1 r (k + 1) := by rw [hj, sumA_next l wn R0 C0 C1 r k HX.out.2]; have := sumA_range HV.out (wn := wn) (R0 := R0) (C0 := C0) (C1 := C1) (r := r) (k := k + 1) (by omega) (by omega) (by omega); exact w64 (by omega) (by omega)
          have t4 : wrap64 (manyA R0 C0 C1 r k + 1) = manyA R0 C0 C1 r (k + 1) := by rw [manyA_next R0 C0 C1 r k HX.out.2]; have := manyA_range (R0 := R0) (C0 := C0) (C1 := C1) (r := r) (k := k + 1) (by omega) (by omega) (by omega); exact w64 (by omega) (by omega)
          obtain ⟨ad, e1, hx1⟩ := Kd.at_int HR.out (j : Int) (by omega) (by omega)
          rw [Int.toNat_natCast] at hx1
          rw [← hj] at bj
          have j1 : (0 : Int) ≤ (j : Int) := by omega
          have j2 : (j : Int) < (l.length : Int) := by omega
          have k9 : k ≤ 4096 := by omega
          have t1' : IntKind.i64.wrap ((r : Int) * wd) = rm := (i64_w _).trans t1
          have t2' : IntKind.i64.wrap (rm + (k : Int)) = (j : Int) := (i64_w _).trans t2
          have t3' : IntKind.i64.wrap (sumA l wn R0 C0 C1 r k + rd l (j : Int)) = sumA l wn R0 C0 C1 r (k + 1) := (i64_w _).trans t3
          have t4' : IntKind.i64.wrap (manyA R0 C0 C1 r k + 1) = manyA R0 C0 C1 r (k + 1) := (i64_w _).trans t4
          clear hrm hj m0 m1 v0 bm b1 b2 b3 b4 b5
          cases e1
          go_wp2_with (first | (go_at_call 56; (with_reducible refine (U2.out _).mono ?_); rintro e w' ⟨rfl, ⟨nd2, rfl⟩⟩))
          go_roundg (C1 - (k + 1))
          case measure => have := HX.out; omega
          case rel =>
            have := HX.out
            exact ⟨k + 1, by simp, rfl, rfl, ⟨by omega⟩, by repeat (first | exact Drawn0.refl _ | apply Drawn0.step)⟩
        · have c2b : decide ((k : Int) < (C1 : Int)) = false := decide_eq_false (by omega)
          have r9 : r ≤ 4096 := by have := RC.out; omega
          go_wp2_with (first | (go_at_call 56; (with_reducible refine (U2.out _).mono ?_); rintro e w' ⟨rfl, ⟨nd2, rfl⟩⟩))
          go_roundg (R1 - (r + 1))
          case measure => have := HK.out; omega
          case rel =>
            have h1 := HX.out
            have h2 := HK.out
            obtain rfl : k = C1 := by omega
            exact ⟨r + 1, by simp, by rw [sumA_row l wn R0 C0 k r h2.2], by rw [manyA_row R0 C0 k r h2.2], ⟨by omega⟩, by repeat (first | exact Drawn0.refl _ | apply Drawn0.step)⟩
    · have c1b : decide ((r : Int) < (R1 : Int)) = false := decide_eq_false (by omega)
      obtain rfl : r = R1 := by have := HK.out; omega
      go_wp2_with (first | (go_at_call 56; (with_reducible refine (U1.out _).mono ?_); rintro e w' ⟨rfl, ⟨nd, rfl⟩⟩) | (go_at_call 57; (with_reducible refine (U3.out _).mono ?_); rintro e w' ⟨rfl, ⟨nd2, rfl⟩⟩))
      go_ret
      exact ⟨rfl, by repeat (first | exact Drawn0.refl _ | apply Drawn0.step)⟩
/-- The sample of a smaller plane. -/
def shrS (l : List Int) (b1 b2 b3 b4 : Int) (y x : Int) : Int :=
  rnd (sumA l b1.toNat (lo_ y.toNat b2.toNat b4.toNat) (lo_ x.toNat b1.toNat b3.toNat) (hi_ x.toNat b1.toNat b3.toNat) (hi_ y.toNat b2.toNat b4.toNat) (lo_ x.toNat b1.toNat b3.toNat)) (manyA (lo_ y.toNat b2.toNat b4.toNat) (lo_ x.toNat b1.toNat b3.toNat) (hi_ x.toNat b1.toNat b3.toNat) (hi_ y.toNat b2.toNat b4.toNat) (lo_ x.toNat b1.toNat b3.toNat))
theorem shrS_nat (l : List Int) (b1 b2 b3 b4 y x : Nat) : shrS l b1 b2 b3 b4 y x = rnd (sumA l b1 (lo_ y b2 b4) (lo_ x b1 b3) (hi_ x b1 b3) (hi_ y b2 b4) (lo_ x b1 b3)) (manyA (lo_ y b2 b4) (lo_ x b1 b3) (hi_ x b1 b3) (hi_ y b2 b4) (lo_ x b1 b3)) := by
  simp only [shrS, Int.toNat_natCast]
theorem manyA_pos {R0 R1 C0 C1 : Nat} (hR : R0 < R1) (hC : C0 < C1) : 0 < manyA R0 C0 C1 R1 C0 := by
  unfold manyA
  have : 0 < (R1 - R0) * (C1 - C0) := Nat.mul_pos (by omega) (by omega)
  omega
theorem up_calls {n d : Nat} (hd : 0 < d) (hd2 : d ≤ 281474976710656) (h1 : n ≤ 281474976710656) (w : World) : Calls Try.prog 56 #[.int .i64 n, .int .i64 d] w fun e w' => e = .returned (.int .i64 (((n + d - 1) / d : Nat) : Int)) ∧ Drawn0 w w' :=
  impl_up.calls n d _ w (up_f hd hd2 h1)
theorem hi_calls {y h nh : Nat} (h0 : 0 < nh) (k2 : nh ≤ 4096) (hb : (y + 1) * h ≤ 16777216) (w : World) : Calls Try.prog 56 #[.int .i64 (((y + 1) * h : Nat) : Int), .int .i64 nh] w fun e w' => e = .returned (.int .i64 (hi_ y h nh : Int)) ∧ Drawn0 w w' := by
  have e : ((y + 1) * h + nh - 1) / nh = hi_ y h nh := rfl
  rw [← e]
  exact up_calls h0 (by omega) (by omega) w
/-- The first and the last row (column), as the code reckons them. -/
theorem lo_vals {y h nh : Nat} (k1 : h ≤ 4096) (k2 : nh ≤ 4096) (hy : y < nh) :
    wrap64 ((y : Int) * h) = ((y * h : Nat) : Int) ∧ wrap64 (((y * h : Nat) : Int).tdiv nh) = (lo_ y h nh : Int) ∧ wrap64 ((y : Int) + 1) = ((y + 1 : Nat) : Int) ∧ wrap64 (((y + 1 : Nat) : Int) * h) = (((y + 1) * h : Nat) : Int) ∧ (y + 1) * h ≤ 16777216 := by
  have b1 : y * h ≤ 4096 * 4096 := Nat.mul_le_mul (by omega) k1
  have b2 : (y + 1) * h ≤ 4096 * 4096 := Nat.mul_le_mul (by omega) k1
  have b3 : y * h / nh ≤ y * h := Nat.div_le_self _ _
  refine ⟨?_, ?_, ?_, ?_, by omega⟩
  · rw [show (y : Int) * h = ((y * h : Nat) : Int) from by push_cast; rfl]; exact w64n (by omega)
  · rw [Int.tdiv_eq_ediv_of_nonneg (by omega), ← Int.natCast_ediv]; exact w64n (by omega)
  · rw [show (y : Int) + 1 = ((y + 1 : Nat) : Int) from by push_cast; rfl]; exact w64n (by omega)
  · rw [show ((y + 1 : Nat) : Int) * h = (((y + 1) * h : Nat) : Int) from by push_cast; rfl]; exact w64n (by omega)
theorem shrink1_any (g0 g1 g2 g3 g4 : Nat) (A : Option Addr) (c : Nat) (l : List Int) (h nh wd nw y x : Nat) (W : World) (h0 : W.cell? ⟨g0, 0, none⟩ = some (.int .i64 h)) (h1 : W.cell? ⟨g1, 0, none⟩ = some (.int .i64 nh)) (h2 : W.cell? ⟨g2, 0, none⟩ = some (.int .i64 wd)) (h3 : W.cell? ⟨g3, 0, none⟩ = some (.int .i64 nw)) (h4 : W.cell? ⟨g4, 0, none⟩ = some (.slice A l.length c))
    (hr : Kd.C (Kd.int .i64) W A l.length l) (k1 : h ≤ 4096) (k2 : nh ≤ 4096) (k3 : wd ≤ 4096) (k4 : nw ≤ 4096) (p1 : 1 ≤ h) (p3 : 1 ≤ wd) (hy : y < nh) (hx : x < nw) (hl : l.length = wd * h) (hv : ∀ v ∈ l, 0 ≤ v ∧ v ≤ 4095) :
    Calls Try.prog 55 (#[.int .i64 y, .int .i64 x] ++ #[.pointer (some ⟨g0, 0, none⟩), .pointer (some ⟨g1, 0, none⟩), .pointer (some ⟨g2, 0, none⟩), .pointer (some ⟨g3, 0, none⟩), .pointer (some ⟨g4, 0, none⟩)]) W fun e w' => e = .returned (.int .i64 (shrS l wd h nw nh y x)) ∧ Drawn0 W w' := by
  have a5 := (lo_vals k1 k2 hy).2.2.2.2
  have c5 := (lo_vals k3 k4 hx).2.2.2.2
  obtain ⟨d1, d2⟩ := lo_hi hy p1
  obtain ⟨e1, e2⟩ := lo_hi hx p3
  have hp := manyA_pos d1 e1
  have m0 := sumA_range hv (wn := wd) (R0 := lo_ y h nh) (C0 := lo_ x wd nw) (C1 := hi_ x wd nw) (r := hi_ y h nh) (k := lo_ x wd nw) (by omega) (by omega) (by omega)
  have m1 := manyA_range (R0 := lo_ y h nh) (C0 := lo_ x wd nw) (C1 := hi_ x wd nw) (r := hi_ y h nh) (k := lo_ x wd nw) (by omega) (by omega) (by omega)
  have hu1 := fun w => hi_calls (y := y) (h := h) (nh := nh) (by omega) k2 a5 w
  have hu2 := fun w => hi_calls (y := x) (h := wd) (nh := nw) (by omega) k4 c5 w
  have hin : ∀ r k, r < hi_ y h nh → k < hi_ x wd nw → r * wd + k < l.length := by
    intro r k hr hk
    have := grid_lt (a := r) (b := k) (w := wd) (h := h) (by omega) (by omega)
    rw [hl, Nat.mul_comm wd h]
    exact this
  have hz1 : ¬ ((nh : Int) = 0) := by omega
  have hz2 : ¬ ((nw : Int) = 0) := by omega
  have b1 : hi_ y h nh ≤ 4096 := by omega
  have b2 : hi_ x wd nw ≤ 4096 := by omega
  have hrd := fun w => impl_rounded.calls _ _ _ w (rounded_f (n := sumA l wd (lo_ y h nh) (lo_ x wd nw) (hi_ x wd nw) (hi_ y h nh) (lo_ x wd nw)) hp (by omega) (by omega) (by omega))
  obtain ⟨a1, a2, a3, a4, _⟩ := lo_vals k1 k2 hy
  obtain ⟨c1, c2, c3, c4, _⟩ := lo_vals k3 k4 hx
  rw [shrS_nat]
  exact shrink1_walk g0 g1 g2 g3 g4 A c l y x h nh wd nw _ _ _ _ _ _ wd (lo_ y h nh) (hi_ y h nh) (lo_ x wd nw) (hi_ x wd nw) W h0 h1 h2 h3 h4 hr hz1 hz2 a1 a2 a3 a4 hu1 c1 c2 c3 c4 hu2 d1 e1 b1 b2 k3 rfl hin hv hrd
theorem plane_vals {l : List Int} {w h : Int} (hb : planeB l w h = true) : ∀ v ∈ l, 0 ≤ v ∧ v ≤ 4095 := by
  simp only [planeB, Bool.and_eq_true, allR, List.all_eq_true] at hb
  intro v hv
  exact inR_iff.1 (hb.2.2 v hv)
theorem shrink_samples (w0 W0 : World) (A : Option Addr) (c : Nat) (l : List Int) (b1 b2 b3 b4 : Nat) (hr : Kd.C (Kd.int .i64) w0 A l.length l)
    (H : W0.cell? ⟨w0.heap.size, 0, none⟩ = some (.slice A l.length c) ∧ W0.cell? ⟨w0.heap.size + 1, 0, none⟩ = some (.int .i64 b1) ∧ W0.cell? ⟨w0.heap.size + 2, 0, none⟩ = some (.int .i64 b2) ∧ W0.cell? ⟨w0.heap.size + 3, 0, none⟩ = some (.int .i64 b3) ∧ W0.cell? ⟨w0.heap.size + 4, 0, none⟩ = some (.int .i64 b4) ∧ Below w0.heap.size w0 W0)
    (k1 : b1 ≤ 4096) (k2 : b2 ≤ 4096) (k3 : b3 ≤ 4096) (k4 : b4 ≤ 4096) (p1 : 1 ≤ b1) (p2 : 1 ≤ b2) (kl : l.length = b1 * b2) (hv : ∀ v ∈ l, 0 ≤ v ∧ v ≤ 4095) :
    Samples 55 #[.pointer (some ⟨w0.heap.size + 2, 0, none⟩), .pointer (some ⟨w0.heap.size + 4, 0, none⟩), .pointer (some ⟨w0.heap.size + 1, 0, none⟩), .pointer (some ⟨w0.heap.size + 3, 0, none⟩), .pointer (some ⟨w0.heap.size, 0, none⟩)] (shrS l b1 b2 b3 b4) b3 b4 W0 := by
  obtain ⟨h0, h1, h2, h3, h4, hb⟩ := H
  intro W' y x hy hx hb'
  exact shrink1_any _ _ _ _ _ A c l b2 b4 b1 b3 y x W' (cell_on hb' h2) (cell_on hb' h4) (cell_on hb' h1) (cell_on hb' h3) (cell_on hb' h0) (Kd.C_below hr (below_step hb hb')) k2 k4 k1 k3 p2 p1 hy hx kl hv

/-! ### impl_Shrink: function 28 (by hand) -/
def shrinkI (l0 : List Int) (a1 a2 a3 a4 : Int) : List Int :=
  if planeB l0 a1 a2 = true ∧ sidesB a3 a4 = true ∧ a3 ≤ a1 ∧ a4 ≤ a2 then planeL (shrS l0 a1 a2 a3 a4) a3.toNat a4.toNat else []
def impl_Shrink.f (l0 : List Int) (a1 a2 a3 a4 : Int) : Option (List Int) := some (shrinkI l0 a1 a2 a3 a4)
set_option maxHeartbeats 8000000 in
set_option maxRecDepth 100000 in
theorem impl_Shrink.calls (A0 : Option Addr) (c0 : Nat) (l0 : List Int) (a1 : Int) (a2 : Int) (a3 : Int) (a4 : Int) (r : List Int) (w : World) (hr0 : Kd.C (Kd.int .i64) w A0 l0.length l0) (hc0 : l0.length ≤ c0) (h : impl_Shrink.f l0 a1 a2 a3 a4 = some r) :
    Calls Try.prog 28 #[.slice A0 l0.length c0, .int .i64 a1, .int .i64 a2, .int .i64 a3, .int .i64 a4] w fun e w' => ∃ v0_ : Value, e = .returned (v0_) ∧ Kd.R (Kd.int .i64) 3 w' w.heap.size (fun _ => True) v0_ r ∧ Below w.heap.size w w' := by
  obtain rfl := Option.some.inj h
  clear h
  have HR := Aside0.mk hr0
  have HC := Aside0.mk hc0
  clear hr0 hc0
  by_cases hp : planeB l0 a1 a2 = true
  · by_cases hs : sidesB a3 a4 = true
    · by_cases h3 : a3 ≤ a1
      · by_cases h4 : a4 ≤ a2
        · have HE := Aside0.mk (show shrinkI l0 a1 a2 a3 a4 = planeL (shrS l0 a1 a2 a3 a4) a3.toNat a4.toNat from by unfold shrinkI; rw [if_pos ⟨hp, hs, h3, h4⟩])
          have HP := Aside0.mk hp
          have HS := Aside0.mk hs
          clear hp hs
          have d3 : decide (a1 < a3) = false := decide_eq_false (by omega)
          have d4 : decide (a2 < a4) = false := decide_eq_false (by omega)
          obtain ⟨m1, m2, m3, m4, ml⟩ := plane_bounds HP.out
          obtain ⟨n1, n2, n3, n4, _⟩ := sides_bounds HS.out
          obtain ⟨b1, rfl⟩ := Int.eq_ofNat_of_zero_le (show 0 ≤ a1 by omega)
          obtain ⟨b2, rfl⟩ := Int.eq_ofNat_of_zero_le (show 0 ≤ a2 by omega)
          obtain ⟨b3, rfl⟩ := Int.eq_ofNat_of_zero_le (show 0 ≤ a3 by omega)
          obtain ⟨b4, rfl⟩ := Int.eq_ofNat_of_zero_le (show 0 ≤ a4 by omega)
          have ML := Aside0.mk (show l0.length = b1 * b2 from by exact_mod_cast ml)
          clear ml
          rw [HE.out]
          clear HE
          go_enter Try.func28, Try.ntmps28
          have hmf : ∀ (fn : Fn) (first cap : Array Value) (w : World), (Instr.makeFunc fn first cap).run Try.prog w = .ok (.func fn first cap) w := fun _ _ _ _ => rfl
          go_wp2_with (first
            | (go_at_call 17; (with_reducible refine (boolCall (planeOk_calls A0 c0 l0 _ _ _ (by repeat (first | exact HR.out | (with_reducible refine Kd.C_alloc ?_ _) | (with_reducible refine Kd.C_drewN ?_ _) | (with_reducible refine Kd.C_drew ?_))) HC.out) HP.out).mono ?_); rintro e w' ⟨rfl, ⟨nd, rfl⟩⟩)
            | (go_at_call 45; (with_reducible refine (boolCall (areSides_calls _ _ _) HS.out).mono ?_); rintro e w' ⟨rfl, ⟨nd, rfl⟩⟩))
          go_at_call 47
          refine (impl_plane.calls 55 _ _ b3 b4 (by omega) (by omega) _ (enters_of Try.func55 (by kernel_rfl) rfl) (shrink_samples w _ A0 c0 l0 b1 b2 b3 b4 HR.out (five_boxes w _ _ _ _ _ 28 3 _) (by omega) (by omega) (by omega) (by omega) (by omega) (by omega) ML.out (plane_vals HP.out))).mono ?_
          · rintro e w1 ⟨v, rfl, ho, hb⟩
            have HO := Aside0.mk ho
            have HB := Aside0.mk hb
            clear ho hb
            go_wp2
            go_ret
            exact ⟨_, rfl, Kd.R_lower HO.out (below_size (five_boxes w _ _ _ _ _ 28 3 _).2.2.2.2.2), below_step (five_boxes w _ _ _ _ _ 28 3 _).2.2.2.2.2 HB.out⟩
        · have d3 : decide (a1 < a3) = false := decide_eq_false (by omega)
          have d4 : decide (a2 < a4) = true := decide_eq_true (by omega)
          have HE := Aside0.mk (show shrinkI l0 a1 a2 a3 a4 = [] from by unfold shrinkI; rw [if_neg (fun h => h4 h.2.2.2)])
          have HP := Aside0.mk hp
          have HS := Aside0.mk hs
          clear hp hs
          rw [HE.out]
          clear HE
          go_enter Try.func28, Try.ntmps28
          go_wp2_with (first
            | (go_at_call 17; (with_reducible refine (boolCall (planeOk_calls A0 c0 l0 _ _ _ (by repeat (first | exact HR.out | (with_reducible refine Kd.C_alloc ?_ _) | (with_reducible refine Kd.C_drewN ?_ _) | (with_reducible refine Kd.C_drew ?_))) HC.out) HP.out).mono ?_); rintro e w' ⟨rfl, ⟨nd, rfl⟩⟩)
            | (go_at_call 45; (with_reducible refine (boolCall (areSides_calls _ _ _) HS.out).mono ?_); rintro e w' ⟨rfl, ⟨nd, rfl⟩⟩))
          go_ret
          exact ⟨_, rfl, Kd.R_nil _ _ _ _ _, by repeat (first | exact Below.refl _ _ | apply below_alloc | apply pw_below_drewN | apply below_drew1)⟩
      · have d3 : decide (a1 < a3) = true := decide_eq_true (by omega)
        have HE := Aside0.mk (show shrinkI l0 a1 a2 a3 a4 = [] from by unfold shrinkI; rw [if_neg (fun h => h3 h.2.2.1)])
        have HP := Aside0.mk hp
        have HS := Aside0.mk hs
        clear hp hs
        rw [HE.out]
        clear HE
        go_enter Try.func28, Try.ntmps28
        go_wp2_with (first
          | (go_at_call 17; (with_reducible refine (boolCall (planeOk_calls A0 c0 l0 _ _ _ (by repeat (first | exact HR.out | (with_reducible refine Kd.C_alloc ?_ _) | (with_reducible refine Kd.C_drewN ?_ _) | (with_reducible refine Kd.C_drew ?_))) HC.out) HP.out).mono ?_); rintro e w' ⟨rfl, ⟨nd, rfl⟩⟩)
          | (go_at_call 45; (with_reducible refine (boolCall (areSides_calls _ _ _) HS.out).mono ?_); rintro e w' ⟨rfl, ⟨nd, rfl⟩⟩))
        go_ret
        exact ⟨_, rfl, Kd.R_nil _ _ _ _ _, by repeat (first | exact Below.refl _ _ | apply below_alloc | apply pw_below_drewN | apply below_drew1)⟩
    · have HE := Aside0.mk (show shrinkI l0 a1 a2 a3 a4 = [] from by unfold shrinkI; rw [if_neg (fun h => hs h.2.1)])
      have HP := Aside0.mk hp
      have HS := Aside0.mk (Bool.eq_false_iff.mpr hs)
      clear hp hs
      rw [HE.out]
      clear HE
      go_enter Try.func28, Try.ntmps28
      go_wp2_with (first
        | (go_at_call 17; (with_reducible refine (boolCall (planeOk_calls A0 c0 l0 _ _ _ (by repeat (first | exact HR.out | (with_reducible refine Kd.C_alloc ?_ _) | (with_reducible refine Kd.C_drewN ?_ _) | (with_reducible refine Kd.C_drew ?_))) HC.out) HP.out).mono ?_); rintro e w' ⟨rfl, ⟨nd, rfl⟩⟩)
        | (go_at_call 45; (with_reducible refine (boolCall (areSides_calls _ _ _) HS.out).mono ?_); rintro e w' ⟨rfl, ⟨nd, rfl⟩⟩))
      go_ret
      exact ⟨_, rfl, Kd.R_nil _ _ _ _ _, by repeat (first | exact Below.refl _ _ | apply below_alloc | apply pw_below_drewN | apply below_drew1)⟩
  · have HE := Aside0.mk (show shrinkI l0 a1 a2 a3 a4 = [] from by unfold shrinkI; rw [if_neg (fun h => hp h.1)])
    have HP := Aside0.mk (Bool.eq_false_iff.mpr hp)
    clear hp
    rw [HE.out]
    clear HE
    go_enter Try.func28, Try.ntmps28
    go_wp2_with (first
      | (go_at_call 17; (with_reducible refine (boolCall (planeOk_calls A0 c0 l0 _ _ _ (by repeat (first | exact HR.out | (with_reducible refine Kd.C_alloc ?_ _) | (with_reducible refine Kd.C_drewN ?_ _) | (with_reducible refine Kd.C_drew ?_))) HC.out) HP.out).mono ?_); rintro e w' ⟨rfl, ⟨nd, rfl⟩⟩))
    go_ret
    exact ⟨_, rfl, Kd.R_nil _ _ _ _ _, by repeat (first | exact Below.refl _ _ | apply below_alloc | apply pw_below_drewN | apply below_drew1)⟩

/-! ### spec_l04Up: function 53 -/
def spec_l04Up.f (a0 : Int) (a1 : Int) : Option (Int) := if a1 = 0 then (none) else (some (wrap64 (Int.tdiv (wrap64 ((wrap64 (a0 + a1)) - 1)) a1)))
set_option maxHeartbeats 8000000 in
set_option maxRecDepth 100000 in
theorem spec_l04Up.calls (a0 : Int) (a1 : Int) (r : Int) (w : World) (h : spec_l04Up.f a0 a1 = some r) :
    Calls Try.prog 53 #[.int .i64 a0, .int .i64 a1] w fun e w' => e = .returned (.int .i64 r) ∧ Drawn0 w w' := by
  have H : (if a1 = 0 then (none) else (some (wrap64 (Int.tdiv (wrap64 ((wrap64 (a0 + a1)) - 1)) a1)))) = some r := h
  clear h
  by_cases c3 : a1 = 0
  · rw [if_pos c3] at H
    exact absurd H (by simp)
  · rw [if_neg c3] at H
    have c3b0 : (a1 == 0) = false := beq_eq_false_iff_ne.mpr c3
    have c3b1 : (a1 != 0) = true := bne_iff_ne.mpr c3
    obtain rfl := Option.some.inj H
    go_enter Try.func53, Try.ntmps53
    go_wp2
    go_ret
    exact ⟨by first | rfl | (simp; done) | (simp [*]; done), by repeat (first | exact Drawn0.refl _ | apply Drawn0.step)⟩

theorem sup_f {n d : Nat} (hd : 0 < d) (hd2 : d ≤ 281474976710656) (h1 : n ≤ 281474976710656) : spec_l04Up.f n d = some (((n + d - 1) / d : Nat) : Int) := by
  have hq : (n + d - 1) / d ≤ n + d - 1 := Nat.div_le_self _ _
  unfold spec_l04Up.f
  rw [if_neg (by omega), w64 (x := (n : Int) + d) (by omega) (by omega), w64 (x := (n : Int) + d - 1) (by omega) (by omega), show (n : Int) + d - 1 = ((n + d - 1 : Nat) : Int) from by omega, Int.tdiv_eq_ediv_of_nonneg (by omega), ← Int.natCast_ediv, w64n (by omega)]

/-! ### spec_l05Floor: function 66 -/
def spec_l05Floor.f (a0 : Int) (a1 : Int) : Option (Int) := if a0 ≥ 0 then (if a1 = 0 then (none) else (some (wrap64 (Int.tdiv a0 a1)))) else (if a1 = 0 then (none) else (some (wrap64 (-(wrap64 (Int.tdiv (wrap64 ((wrap64 ((wrap64 (-a0)) + a1)) - 1)) a1))))))
set_option maxHeartbeats 8000000 in
set_option maxRecDepth 100000 in
theorem spec_l05Floor.calls (a0 : Int) (a1 : Int) (r : Int) (w : World) (h : spec_l05Floor.f a0 a1 = some r) :
    Calls Try.prog 66 #[.int .i64 a0, .int .i64 a1] w fun e w' => e = .returned (.int .i64 r) ∧ Drawn0 w w' := by
  have H : (if a0 ≥ 0 then (if a1 = 0 then (none) else (some (wrap64 (Int.tdiv a0 a1)))) else (if a1 = 0 then (none) else (some (wrap64 (-(wrap64 (Int.tdiv (wrap64 ((wrap64 ((wrap64 (-a0)) + a1)) - 1)) a1))))))) = some r := h
  clear h
  by_cases c3 : a0 ≥ 0
  · rw [if_pos c3] at H
    have c3b0 : decide (0 ≤ a0) = true := decide_eq_true c3
    clear c3
    by_cases c4 : a1 = 0
    · rw [if_pos c4] at H
      exact absurd H (by simp)
    · rw [if_neg c4] at H
      have c4b0 : (a1 == 0) = false := beq_eq_false_iff_ne.mpr c4
      have c4b1 : (a1 != 0) = true := bne_iff_ne.mpr c4
      obtain rfl := Option.some.inj H
      go_enter Try.func66, Try.ntmps66
      go_wp2
      go_ret
      exact ⟨by first | rfl | (simp; done) | (simp [*]; done), by repeat (first | exact Drawn0.refl _ | apply Drawn0.step)⟩
  · rw [if_neg c3] at H
    have c3b0 : decide (0 ≤ a0) = false := decide_eq_false c3
    clear c3
    by_cases c5 : a1 = 0
    · rw [if_pos c5] at H
      exact absurd H (by simp)
    · rw [if_neg c5] at H
      have c5b0 : (a1 == 0) = false := beq_eq_false_iff_ne.mpr c5
      have c5b1 : (a1 != 0) = true := bne_iff_ne.mpr c5
      obtain rfl := Option.some.inj H
      go_enter Try.func66, Try.ntmps66
      go_wp2
      go_ret
      exact ⟨by first | rfl | (simp; done) | (simp [*]; done), by repeat (first | exact Drawn0.refl _ | apply Drawn0.step)⟩

theorem floor_f {n d : Int} (hd : 0 < d) (hd2 : d ≤ 1152921504606846976) (h0 : -1152921504606846976 ≤ n) (h1 : n ≤ 1152921504606846976) : spec_l05Floor.f n d = some (n / d) := by
  obtain ⟨q0, q1⟩ := ediv_le_abs hd 1152921504606846976 h0 h1 (by omega)
  unfold spec_l05Floor.f
  by_cases h : n < 0
  · obtain ⟨p0, p1⟩ := ediv_le_abs (n := -n + d - 1) hd 2305843009213693952 (by omega) (by omega) (by omega)
    rw [if_neg (by omega), if_neg (by omega), w64 (x := -n) (by omega) (by omega), w64 (x := -n + d) (by omega) (by omega), w64 (x := -n + d - 1) (by omega) (by omega), Int.tdiv_eq_ediv_of_nonneg (by omega), w64 (x := (-n + d - 1) / d) (by omega) (by omega), neg_ediv hd, w64 (by omega) (by omega)]
  · rw [if_pos (by omega), if_neg (by omega), Int.tdiv_eq_ediv_of_nonneg (by omega), w64 (by omega) (by omega)]

end Go.Proofs.Ytdakegolcmcgmaa.CM
