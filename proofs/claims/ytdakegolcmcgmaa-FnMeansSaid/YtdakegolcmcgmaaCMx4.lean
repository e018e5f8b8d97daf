/- Functions that a law of this seat reaches: written by a program of this session (wip/xprint.py), and by hand. -/
import Derived.Test.YtdakegolcmcgmaaCMx0
import Derived.Test.YtdakegolcmcgmaaCMx1
import Derived.Test.YtdakegolcmcgmaaCMx2
import Derived.Test.YtdakegolcmcgmaaCMx3
namespace Go.Proofs.Ytdakegolcmcgmaa.CM
open Go.RowKit Go.Proofs.Ytdakegolcmcgmaa.B Go.Proofs.YtdakegolcmcgmaaW.PrintWords Go.Proofs.YtdakegolcmcgmaaW.PrintLast Go.Proofs.YtdakegolcmcgmaaW.PrintMore
attribute [local go_sem] max2_int min2_int max_two min_two max_three min_three max_four min_four   -- for this text's walks alone
set_option linter.unusedVariables false
set_option linter.unusedSimpArgs false

/-! ### spec_l05Round: function 54 -/
def spec_l05Round.f (a0 : Int) (a1 : Int) : Option (Int) := (spec_l05Floor.f (wrap64 ((wrap64 (2 * a0)) + a1)) (wrap64 (2 * a1))).bind fun t134 => (some t134)
set_option maxHeartbeats 8000000 in
set_option maxRecDepth 100000 in
theorem spec_l05Round.calls (a0 : Int) (a1 : Int) (r : Int) (w : World) (h : spec_l05Round.f a0 a1 = some r) :
    Calls Try.prog 54 #[.int .i64 a0, .int .i64 a1] w fun e w' => e = .returned (.int .i64 r) ∧ Drawn0 w w' := by
  have H : ((spec_l05Floor.f (wrap64 ((wrap64 (2 * a0)) + a1)) (wrap64 (2 * a1))).bind fun t134 => (some t134)) = some r := h
  clear h
  replace H := Option.bind_eq_some_iff.mp H
  obtain ⟨t134, A30, H⟩ := H
  replace H : (some t134) = some r := H
  have A3 := Aside0.mk A30
  clear A30
  obtain rfl := Option.some.inj H
  go_enter Try.func54, Try.ntmps54
  go_wp2_with (first | ((with_reducible refine gate_callee (f := 66) rfl ?_); refine goesL_ (some 11) rfl rfl Try.func66 (by kernel_rfl) rfl #[.int .i64 (wrap64 ((wrap64 (2 * a0)) + a1)), .int .i64 (wrap64 (2 * a1))] rfl (by (try simp only [List.map_toArray, List.map_cons, List.map_nil]); first | done | rfl | (simp only [List.length_drop, List.length_take]; rfl)) ?_; (with_reducible refine (spec_l05Floor.calls (wrap64 ((wrap64 (2 * a0)) + a1)) (wrap64 (2 * a1)) t134 _ A3.out).mono ?_); rintro e w' ⟨rfl, ⟨nd, rfl⟩⟩; refine ⟨_, rfl, ?_⟩))
  go_ret
  exact ⟨by first | rfl | (simp; done) | (simp [*]; done), by repeat (first | exact Drawn0.refl _ | apply Drawn0.step)⟩

theorem round_f {n d : Int} (hd : 0 < d) (hd2 : d ≤ 281474976710656) (h0 : -281474976710656 ≤ n) (h1 : n ≤ 281474976710656) : spec_l05Round.f n d = some (rnd n d) := by
  unfold spec_l05Round.f rnd
  rw [w64 (x := 2 * n) (by omega) (by omega), w64 (x := 2 * n + d) (by omega) (by omega), w64 (x := 2 * d) (by omega) (by omega), floor_f (by omega) (by omega) (by omega) (by omega)]
  rfl
theorem round_calls {n d : Int} (hd : 0 < d) (hd2 : d ≤ 281474976710656) (h0 : -281474976710656 ≤ n) (h1 : n ≤ 281474976710656) (w : World) :
    Calls Try.prog 54 #[.int .i64 n, .int .i64 d] w fun e w' => e = .returned (.int .i64 (rnd n d)) ∧ Drawn0 w w' := spec_l05Round.calls n d _ w (round_f hd hd2 h0 h1)

/-! ### spec_Shrink: function 27 -/
mutual
def spec_Shrink.j0 : Nat → List Int → Int → Int → Int → Int → List Int → Bool → Option (List Int)
  | 0, _, _, _, _, _, _, _ => none
  | k + 1, x0, x1, x2, x3, x4, x11, x35 => if x35 = true then (some x11) else (spec_Shrink.l0 k x0 x1 x2 x3 x4 x11 0)
def spec_Shrink.l0 : Nat → List Int → Int → Int → Int → Int → List Int → Int → Option (List Int)
  | 0, _, _, _, _, _, _, _ => none
  | k + 1, x0, x1, x2, x3, x4, x11, x12 => if x12 < x4 then (spec_Shrink.l1 k x0 x1 x2 x3 x4 x11 x12 0) else (some x11)
def spec_Shrink.l1 : Nat → List Int → Int → Int → Int → Int → List Int → Int → Int → Option (List Int)
  | 0, _, _, _, _, _, _, _, _ => none
  | k + 1, x0, x1, x2, x3, x4, x11, x12, x13 => if x13 < x3 then (if x4 = 0 then (none) else (spec_Shrink.l2 k x0 x1 x2 x3 x4 x11 x12 x13 0 0 (wrap64 (Int.tdiv (wrap64 (x12 * x2)) x4)))) else (spec_Shrink.l0 k x0 x1 x2 x3 x4 x11 (wrap64 (x12 + 1)))
def spec_Shrink.l2 : Nat → List Int → Int → Int → Int → Int → List Int → Int → Int → Int → Int → Int → Option (List Int)
  | 0, _, _, _, _, _, _, _, _, _, _, _ => none
  | k + 1, x0, x1, x2, x3, x4, x11, x12, x13, x14, x15, x16 => (spec_l04Up.f (wrap64 ((wrap64 (x12 + 1)) * x2)) x4).bind fun t141 => (if x16 < t141 then (if x3 = 0 then (none) else (spec_Shrink.l3 k x0 x1 x2 x3 x4 x11 x12 x13 x14 x15 x16 (wrap64 (Int.tdiv (wrap64 (x13 * x1)) x3)))) else ((spec_l05Round.f x14 x15).bind fun t142 => (if x11.length < 17592186044416 then (spec_Shrink.l1 k x0 x1 x2 x3 x4 (x11 ++ [t142]) x12 (wrap64 (x13 + 1))) else (none))))
def spec_Shrink.l3 : Nat → List Int → Int → Int → Int → Int → List Int → Int → Int → Int → Int → Int → Int → Option (List Int)
  | 0, _, _, _, _, _, _, _, _, _, _, _, _ => none
  | k + 1, x0, x1, x2, x3, x4, x11, x12, x13, x14, x15, x16, x17 => (spec_l04Up.f (wrap64 ((wrap64 (x13 + 1)) * x1)) x3).bind fun t146 => (if x17 < t146 then (if 0 ≤ (wrap64 ((wrap64 (x16 * x1)) + x17)) then (if (wrap64 ((wrap64 (x16 * x1)) + x17)) < (x0.length : Int) then (spec_Shrink.l3 k x0 x1 x2 x3 x4 x11 x12 x13 (wrap64 (x14 + (rd x0 (wrap64 ((wrap64 (x16 * x1)) + x17))))) (wrap64 (x15 + 1)) x16 (wrap64 (x17 + 1))) else (none)) else (none)) else (spec_Shrink.l2 k x0 x1 x2 x3 x4 x11 x12 x13 x14 x15 (wrap64 (x16 + 1))))
end
def spec_Shrink.f (k : Nat) (l0 : List Int) (a1 : Int) (a2 : Int) (a3 : Int) (a4 : Int) : Option (List Int) := (some (([] : List Int) : List Int)).bind fun y135 => ((spec_PlaneOk.f k l0 a1 a2).bind fun t138 => (if t138 = true then ((spec_l01Between.f a3 1 a1).bind fun t139 => (if t139 = true then ((spec_l01Between.f a4 1 a2).bind fun t140 => (spec_Shrink.j0 k l0 a1 a2 a3 a4 y135 (!t140))) else (spec_Shrink.j0 k l0 a1 a2 a3 a4 y135 true))) else (spec_Shrink.j0 k l0 a1 a2 a3 a4 y135 true)))
theorem spec_Shrink.mono_l : ∀ k, (∀ y0 y1 y2 y3 y4 y5 y6, LeO (spec_Shrink.j0 k y0 y1 y2 y3 y4 y5 y6) (spec_Shrink.j0 (k + 1) y0 y1 y2 y3 y4 y5 y6)) ∧ (∀ y0 y1 y2 y3 y4 y5 y6, LeO (spec_Shrink.l0 k y0 y1 y2 y3 y4 y5 y6) (spec_Shrink.l0 (k + 1) y0 y1 y2 y3 y4 y5 y6)) ∧ (∀ y0 y1 y2 y3 y4 y5 y6 y7, LeO (spec_Shrink.l1 k y0 y1 y2 y3 y4 y5 y6 y7) (spec_Shrink.l1 (k + 1) y0 y1 y2 y3 y4 y5 y6 y7)) ∧ (∀ y0 y1 y2 y3 y4 y5 y6 y7 y8 y9 y10, LeO (spec_Shrink.l2 k y0 y1 y2 y3 y4 y5 y6 y7 y8 y9 y10) (spec_Shrink.l2 (k + 1) y0 y1 y2 y3 y4 y5 y6 y7 y8 y9 y10)) ∧ (∀ y0 y1 y2 y3 y4 y5 y6 y7 y8 y9 y10 y11, LeO (spec_Shrink.l3 k y0 y1 y2 y3 y4 y5 y6 y7 y8 y9 y10 y11) (spec_Shrink.l3 (k + 1) y0 y1 y2 y3 y4 y5 y6 y7 y8 y9 y10 y11))
  | 0 => ⟨fun _ _ _ _ _ _ _ r h => by simp [spec_Shrink.j0] at h, fun _ _ _ _ _ _ _ r h => by simp [spec_Shrink.l0] at h, fun _ _ _ _ _ _ _ _ r h => by simp [spec_Shrink.l1] at h, fun _ _ _ _ _ _ _ _ _ _ _ r h => by simp [spec_Shrink.l2] at h, fun _ _ _ _ _ _ _ _ _ _ _ _ r h => by simp [spec_Shrink.l3] at h⟩
  | k + 1 => by
    obtain ⟨ih0, ih1, ih2, ih3, ih4⟩ := spec_Shrink.mono_l k
    refine ⟨?_, ?_, ?_, ?_, ?_⟩
    · intro y0 y1 y2 y3 y4 y5 y6
      unfold spec_Shrink.j0
      repeat' first
      | (with_reducible exact ih0 _ _ _ _ _ _ _)
      | (with_reducible exact ih1 _ _ _ _ _ _ _)
      | (with_reducible exact ih2 _ _ _ _ _ _ _ _)
      | (with_reducible exact ih3 _ _ _ _ _ _ _ _ _ _ _)
      | (with_reducible exact ih4 _ _ _ _ _ _ _ _ _ _ _ _)
      | (with_reducible exact spec_PlaneOk.mono _ _ _ _)
      | (with_reducible exact LeO.refl _)
      | (with_reducible exact LeO.none _)
      | (with_reducible refine LeO.ite ?_ ?_)
      | (with_reducible refine LeO.bind ?_ (fun _ => ?_))
      | exact ih0 _ _ _ _ _ _ _
      | exact ih1 _ _ _ _ _ _ _
      | exact ih2 _ _ _ _ _ _ _ _
      | exact ih3 _ _ _ _ _ _ _ _ _ _ _
      | exact ih4 _ _ _ _ _ _ _ _ _ _ _ _
      | exact spec_PlaneOk.mono _ _ _ _
      | exact LeO.none _
      | refine LeO.ite ?_ ?_
      | refine LeO.bind ?_ (fun _ => ?_)
    · intro y0 y1 y2 y3 y4 y5 y6
      unfold spec_Shrink.l0
      repeat' first
      | (with_reducible exact ih0 _ _ _ _ _ _ _)
      | (with_reducible exact ih1 _ _ _ _ _ _ _)
      | (with_reducible exact ih2 _ _ _ _ _ _ _ _)
      | (with_reducible exact ih3 _ _ _ _ _ _ _ _ _ _ _)
      | (with_reducible exact ih4 _ _ _ _ _ _ _ _ _ _ _ _)
      | (with_reducible exact spec_PlaneOk.mono _ _ _ _)
      | (with_reducible exact LeO.refl _)
      | (with_reducible exact LeO.none _)
      | (with_reducible refine LeO.ite ?_ ?_)
      | (with_reducible refine LeO.bind ?_ (fun _ => ?_))
      | exact ih0 _ _ _ _ _ _ _
      | exact ih1 _ _ _ _ _ _ _
      | exact ih2 _ _ _ _ _ _ _ _
      | exact ih3 _ _ _ _ _ _ _ _ _ _ _
      | exact ih4 _ _ _ _ _ _ _ _ _ _ _ _
      | exact spec_PlaneOk.mono _ _ _ _
      | exact LeO.none _
      | refine LeO.ite ?_ ?_
      | refine LeO.bind ?_ (fun _ => ?_)
    · intro y0 y1 y2 y3 y4 y5 y6 y7
      unfold spec_Shrink.l1
      repeat' first
      | (with_reducible exact ih0 _ _ _ _ _ _ _)
      | (with_reducible exact ih1 _ _ _ _ _ _ _)
      | (with_reducible exact ih2 _ _ _ _ _ _ _ _)
      | (with_reducible exact ih3 _ _ _ _ _ _ _ _ _ _ _)
      | (with_reducible exact ih4 _ _ _ _ _ _ _ _ _ _ _ _)
      | (with_reducible exact spec_PlaneOk.mono _ _ _ _)
      | (with_reducible exact LeO.refl _)
      | (with_reducible exact LeO.none _)
      | (with_reducible refine LeO.ite ?_ ?_)
      | (with_reducible refine LeO.bind ?_ (fun _ => ?_))
      | exact ih0 _ _ _ _ _ _ _
      | exact ih1 _ _ _ _ _ _ _
      | exact ih2 _ _ _ _ _ _ _ _
      | exact ih3 _ _ _ _ _ _ _ _ _ _ _
      | exact ih4 _ _ _ _ _ _ _ _ _ _ _ _
      | exact spec_PlaneOk.mono _ _ _ _
      | exact LeO.none _
      | refine LeO.ite ?_ ?_
      | refine LeO.bind ?_ (fun _ => ?_)
    · intro y0 y1 y2 y3 y4 y5 y6 y7 y8 y9 y10
      unfold spec_Shrink.l2
      repeat' first
      | (with_reducible exact ih0 _ _ _ _ _ _ _)
      | (with_reducible exact ih1 _ _ _ _ _ _ _)
      | (with_reducible exact ih2 _ _ _ _ _ _ _ _)
      | (with_reducible exact ih3 _ _ _ _ _ _ _ _ _ _ _)
      | (with_reducible exact ih4 _ _ _ _ _ _ _ _ _ _ _ _)
      | (with_reducible exact spec_PlaneOk.mono _ _ _ _)
      | (with_reducible exact LeO.refl _)
      | (with_reducible exact LeO.none _)
      | (with_reducible refine LeO.ite ?_ ?_)
      | (with_reducible refine LeO.bind ?_ (fun _ => ?_))
      | exact ih0 _ _ _ _ _ _ _
      | exact ih1 _ _ _ _ _ _ _
      | exact ih2 _ _ _ _ _ _ _ _
      | exact ih3 _ _ _ _ _ _ _ _ _ _ _
      | exact ih4 _ _ _ _ _ _ _ _ _ _ _ _
      | exact spec_PlaneOk.mono _ _ _ _
      | exact LeO.none _
      | refine LeO.ite ?_ ?_
      | refine LeO.bind ?_ (fun _ => ?_)
    · intro y0 y1 y2 y3 y4 y5 y6 y7 y8 y9 y10 y11
      unfold spec_Shrink.l3
      repeat' first
      | (with_reducible exact ih0 _ _ _ _ _ _ _)
      | (with_reducible exact ih1 _ _ _ _ _ _ _)
      | (with_reducible exact ih2 _ _ _ _ _ _ _ _)
      | (with_reducible exact ih3 _ _ _ _ _ _ _ _ _ _ _)
      | (with_reducible exact ih4 _ _ _ _ _ _ _ _ _ _ _ _)
      | (with_reducible exact spec_PlaneOk.mono _ _ _ _)
      | (with_reducible exact LeO.refl _)
      | (with_reducible exact LeO.none _)
      | (with_reducible refine LeO.ite ?_ ?_)
      | (with_reducible refine LeO.bind ?_ (fun _ => ?_))
      | exact ih0 _ _ _ _ _ _ _
      | exact ih1 _ _ _ _ _ _ _
      | exact ih2 _ _ _ _ _ _ _ _
      | exact ih3 _ _ _ _ _ _ _ _ _ _ _
      | exact ih4 _ _ _ _ _ _ _ _ _ _ _ _
      | exact spec_PlaneOk.mono _ _ _ _
      | exact LeO.none _
      | refine LeO.ite ?_ ?_
      | refine LeO.bind ?_ (fun _ => ?_)
theorem spec_Shrink.mono : ∀ a0 a1 a2 a3 a4 k, LeO (spec_Shrink.f k a0 a1 a2 a3 a4) (spec_Shrink.f (k + 1) a0 a1 a2 a3 a4) := by
  intro a0 a1 a2 a3 a4 k
  obtain ⟨ih0, ih1, ih2, ih3, ih4⟩ := spec_Shrink.mono_l k
  unfold spec_Shrink.f
  repeat' first
      | (with_reducible exact ih0 _ _ _ _ _ _ _)
      | (with_reducible exact ih1 _ _ _ _ _ _ _)
      | (with_reducible exact ih2 _ _ _ _ _ _ _ _)
      | (with_reducible exact ih3 _ _ _ _ _ _ _ _ _ _ _)
      | (with_reducible exact ih4 _ _ _ _ _ _ _ _ _ _ _ _)
      | (with_reducible exact spec_PlaneOk.mono _ _ _ _)
      | (with_reducible exact LeO.refl _)
      | (with_reducible exact LeO.none _)
      | (with_reducible refine LeO.ite ?_ ?_)
      | (with_reducible refine LeO.bind ?_ (fun _ => ?_))
      | exact ih0 _ _ _ _ _ _ _
      | exact ih1 _ _ _ _ _ _ _
      | exact ih2 _ _ _ _ _ _ _ _
      | exact ih3 _ _ _ _ _ _ _ _ _ _ _
      | exact ih4 _ _ _ _ _ _ _ _ _ _ _ _
      | exact spec_PlaneOk.mono _ _ _ _
      | exact LeO.none _
      | refine LeO.ite ?_ ?_
      | refine LeO.bind ?_ (fun _ => ?_)
set_option maxHeartbeats 8000000 in
set_option maxRecDepth 100000 in
theorem spec_Shrink.calls (k : Nat) (A0 : Option Addr) (c0 : Nat) (l0 : List Int) (a1 : Int) (a2 : Int) (a3 : Int) (a4 : Int) (r : List Int) (w : World) (hr0 : Kd.C (Kd.int .i64) w A0 l0.length l0) (hc0 : l0.length ≤ c0) (h : spec_Shrink.f k l0 a1 a2 a3 a4 = some r) :
    Calls Try.prog 27 #[.slice A0 l0.length c0, .int .i64 a1, .int .i64 a2, .int .i64 a3, .int .i64 a4] w fun e w' => ∃ v0_ : Value, e = .returned (v0_) ∧ Kd.R (Kd.int .i64) 3 w' w.heap.size (fun _ => True) v0_ r ∧ Below w.heap.size w w' := by
  have HR0 := Aside0.mk hr0
  have HC0 := Aside0.mk hc0
  clear hr0 hc0
  have HB := Aside0.mk (Below.refl w.heap.size w)
  have H : ((some (([] : List Int) : List Int)).bind fun y135 => ((spec_PlaneOk.f k l0 a1 a2).bind fun t138 => (if t138 = true then ((spec_l01Between.f a3 1 a1).bind fun t139 => (if t139 = true then ((spec_l01Between.f a4 1 a2).bind fun t140 => (spec_Shrink.j0 k l0 a1 a2 a3 a4 y135 (!t140))) else (spec_Shrink.j0 k l0 a1 a2 a3 a4 y135 true))) else (spec_Shrink.j0 k l0 a1 a2 a3 a4 y135 true)))) = some r := h
  clear h
  obtain ⟨y135, hy135⟩ : ∃ y_ : List Int, y_ = (([] : List Int)) := ⟨_, rfl⟩
  replace H : ((spec_PlaneOk.f k l0 a1 a2).bind fun t138 => (if t138 = true then ((spec_l01Between.f a3 1 a1).bind fun t139 => (if t139 = true then ((spec_l01Between.f a4 1 a2).bind fun t140 => (spec_Shrink.j0 k l0 a1 a2 a3 a4 y135 (!t140))) else (spec_Shrink.j0 k l0 a1 a2 a3 a4 y135 true))) else (spec_Shrink.j0 k l0 a1 a2 a3 a4 y135 true))) = some r := by first | (rw [hy135]; with_reducible exact H) | (have H2_ := (Option.bind_some _ _).symm.trans H; rw [hy135]; with_reducible exact H2_) | (have H2_ := (Option.bind_some _ _).symm.trans H; with_reducible exact H2_) | with_reducible exact H | (rw [hy135]; exact H) | exact H
  have Ny135 := Aside0.mk hy135
  clear hy135
  have HC6 := Aside0.mk H
  clear H
  go_enter Try.func27, Try.ntmps27
  go_upto_region 2 with (first | ((with_reducible refine gate_dst (N := 18) rfl ?_); refine Kd.R_lit (Kd.int .i64) _ 3 ?hg (N := 18) ?hd (xs := ([] : List Int)) (inner := []) (ok := fun _ => True) (okp := fun _ => True) ?hr ?hp (fun _ hk => hk) trivial (Below.refl _ _) (Nat.le_refl _) (by simp) ?_; (case hd => rfl); (case hg => rfl); (case hr => first | (go_simp; done) | (go_simp; rfl)); (case hp => exact (Reps.none _ _)); intro v136 w7 ho8 hb hg_ hnew_; clear hg_ hnew_; (first | rw [← Ny135.out] at ho8 | (simp only [Int.reduceToNat] at ho8; rw [← Ny135.out] at ho8)); have n0_ := Aside0.mk (Kd.R_lower ho8 (below_size (by repeat (first | (with_reducible first | exact HB.out | apply below_alloc | apply pw_below_drewN | apply below_drew1) | exact HB.out)))); have n1_ := Aside0.mk (below_step (by repeat (first | (with_reducible first | exact HB.out | apply below_alloc | apply pw_below_drewN | apply below_drew1) | exact HB.out)) hb); clear HB; have HO137 := n0_; have HB := n1_; clear n0_ n1_; clear hb ho8))
  (try simp only [Act.put, List.setIfInBounds_toArray, List.set_cons_zero, List.set_cons_succ])
  go_cut [35] (fun v35 wc => ∃ (kq : Nat) (x35_5 : Bool), v35 = .bool x35_5 ∧ Aside0 (spec_Shrink.j0 kq l0 a1 a2 a3 a4 y135 x35_5 = some r) ∧ Aside0 (kq ≤ k) ∧ Aside0 (Kd.R (Kd.int .i64) 3 wc w.heap.size (fun _ => True) v136 y135) ∧ Aside0 (Below w.heap.size w wc))
  case first =>
    have H := HC6.out
    clear HC6
    replace H := Option.bind_eq_some_iff.mp H
    obtain ⟨t138, A90, H⟩ := H
    replace H : (if t138 = true then ((spec_l01Between.f a3 1 a1).bind fun t139 => (if t139 = true then ((spec_l01Between.f a4 1 a2).bind fun t140 => (spec_Shrink.j0 k l0 a1 a2 a3 a4 y135 (!t140))) else (spec_Shrink.j0 k l0 a1 a2 a3 a4 y135 true))) else (spec_Shrink.j0 k l0 a1 a2 a3 a4 y135 true)) = some r := H
    have A9 := Aside0.mk A90
    clear A90
    by_cases c10 : t138 = true
    · subst c10
      have H1 : ((spec_l01Between.f a3 1 a1).bind fun t139 => (if t139 = true then ((spec_l01Between.f a4 1 a2).bind fun t140 => (spec_Shrink.j0 k l0 a1 a2 a3 a4 y135 (!t140))) else (spec_Shrink.j0 k l0 a1 a2 a3 a4 y135 true))) = some r := by rw [if_pos rfl] at H; exact H
      clear H
      have H := H1
      clear H1
      replace H := Option.bind_eq_some_iff.mp H
      obtain ⟨t139, A110, H⟩ := H
      replace H : (if t139 = true then ((spec_l01Between.f a4 1 a2).bind fun t140 => (spec_Shrink.j0 k l0 a1 a2 a3 a4 y135 (!t140))) else (spec_Shrink.j0 k l0 a1 a2 a3 a4 y135 true)) = some r := H
      have A11 := Aside0.mk A110
      clear A110
      by_cases c12 : t139 = true
      · subst c12
        have H1 : ((spec_l01Between.f a4 1 a2).bind fun t140 => (spec_Shrink.j0 k l0 a1 a2 a3 a4 y135 (!t140))) = some r := by rw [if_pos rfl] at H; exact H
        clear H
        have H := H1
        clear H1
        replace H := Option.bind_eq_some_iff.mp H
        obtain ⟨t140, A130, H⟩ := H
        replace H : (spec_Shrink.j0 k l0 a1 a2 a3 a4 y135 (!t140)) = some r := H
        have A13 := Aside0.mk A130
        clear A130
        have H' := Aside0.mk H
        clear H
        go_wp2_with (first | ((with_reducible refine gate_callee (f := 15) rfl ?_); refine goesL_ (some 22) rfl rfl Try.func15 (by kernel_rfl) rfl #[.slice A0 l0.length c0, .int .i64 a1, .int .i64 a2] rfl (by (try simp only [List.map_toArray, List.map_cons, List.map_nil]); first | done | rfl | (simp only [List.length_drop, List.length_take]; rfl)) ?_; (with_reducible refine (spec_PlaneOk.calls k _ _ l0 a1 a2 true _ ?side1 ?side2 A9.out).mono ?_); (case side1 => repeat (first | exact (Kd.C_below HR0.out HB.out) | (with_reducible refine Kd.C_alloc ?_ _) | (with_reducible refine Kd.C_drewN ?_ _) | (with_reducible refine Kd.C_drew ?_))); (case side2 => exact HC0.out); rintro e w' ⟨rfl, ⟨nd, rfl⟩⟩; refine ⟨_, rfl, ?_⟩) | (go_at_call 42; (with_reducible refine (spec_l01Between.calls a3 1 a1 true _ A11.out).mono ?_); rintro e w' ⟨rfl, ⟨nd, rfl⟩⟩) | (go_at_call 42; (with_reducible refine (spec_l01Between.calls a4 1 a2 t140 _ A13.out).mono ?_); rintro e w' ⟨rfl, ⟨nd, rfl⟩⟩))
        go_meet
        case rel => exact ⟨_, (!t140), (by first | rfl | (simp; done) | (simp [*]; done)), H', ⟨by first | omega | exact Nat.le_refl _⟩, ⟨by (with_reducible repeat (first | apply Kd.R_alloc | apply Kd.R_drewN | apply Kd.R_drew)); exact HO137.out⟩, ⟨by repeat (first | (with_reducible first | exact HB.out | apply below_alloc | apply pw_below_drewN | apply below_drew1) | exact HB.out)⟩⟩
      · replace c12 := Bool.eq_false_iff.mpr c12
        subst c12
        have H1 : (spec_Shrink.j0 k l0 a1 a2 a3 a4 y135 true) = some r := by rw [if_neg (show ¬ (false = true) by decide)] at H; exact H
        clear H
        have H := H1
        clear H1
        have H' := Aside0.mk H
        clear H
        go_wp2_with (first | ((with_reducible refine gate_callee (f := 15) rfl ?_); refine goesL_ (some 22) rfl rfl Try.func15 (by kernel_rfl) rfl #[.slice A0 l0.length c0, .int .i64 a1, .int .i64 a2] rfl (by (try simp only [List.map_toArray, List.map_cons, List.map_nil]); first | done | rfl | (simp only [List.length_drop, List.length_take]; rfl)) ?_; (with_reducible refine (spec_PlaneOk.calls k _ _ l0 a1 a2 true _ ?side1 ?side2 A9.out).mono ?_); (case side1 => repeat (first | exact (Kd.C_below HR0.out HB.out) | (with_reducible refine Kd.C_alloc ?_ _) | (with_reducible refine Kd.C_drewN ?_ _) | (with_reducible refine Kd.C_drew ?_))); (case side2 => exact HC0.out); rintro e w' ⟨rfl, ⟨nd, rfl⟩⟩; refine ⟨_, rfl, ?_⟩) | (go_at_call 42; (with_reducible refine (spec_l01Between.calls a3 1 a1 false _ A11.out).mono ?_); rintro e w' ⟨rfl, ⟨nd, rfl⟩⟩))
        go_meet
        case rel => exact ⟨_, (true), (by first | rfl | (simp; done) | (simp [*]; done)), H', ⟨by first | omega | exact Nat.le_refl _⟩, ⟨by (with_reducible repeat (first | apply Kd.R_alloc | apply Kd.R_drewN | apply Kd.R_drew)); exact HO137.out⟩, ⟨by repeat (first | (with_reducible first | exact HB.out | apply below_alloc | apply pw_below_drewN | apply below_drew1) | exact HB.out)⟩⟩
    · replace c10 := Bool.eq_false_iff.mpr c10
      subst c10
      have H1 : (spec_Shrink.j0 k l0 a1 a2 a3 a4 y135 true) = some r := by rw [if_neg (show ¬ (false = true) by decide)] at H; exact H
      clear H
      have H := H1
      clear H1
      have H' := Aside0.mk H
      clear H
      go_wp2_with (first | ((with_reducible refine gate_callee (f := 15) rfl ?_); refine goesL_ (some 22) rfl rfl Try.func15 (by kernel_rfl) rfl #[.slice A0 l0.length c0, .int .i64 a1, .int .i64 a2] rfl (by (try simp only [List.map_toArray, List.map_cons, List.map_nil]); first | done | rfl | (simp only [List.length_drop, List.length_take]; rfl)) ?_; (with_reducible refine (spec_PlaneOk.calls k _ _ l0 a1 a2 false _ ?side1 ?side2 A9.out).mono ?_); (case side1 => repeat (first | exact (Kd.C_below HR0.out HB.out) | (with_reducible refine Kd.C_alloc ?_ _) | (with_reducible refine Kd.C_drewN ?_ _) | (with_reducible refine Kd.C_drew ?_))); (case side2 => exact HC0.out); rintro e w' ⟨rfl, ⟨nd, rfl⟩⟩; refine ⟨_, rfl, ?_⟩))
      go_meet
      case rel => exact ⟨_, (true), (by first | rfl | (simp; done) | (simp [*]; done)), H', ⟨by first | omega | exact Nat.le_refl _⟩, ⟨by (with_reducible repeat (first | apply Kd.R_alloc | apply Kd.R_drewN | apply Kd.R_drew)); exact HO137.out⟩, ⟨by repeat (first | (with_reducible first | exact HB.out | apply below_alloc | apply pw_below_drewN | apply below_drew1) | exact HB.out)⟩⟩
  case rest =>
    clear HC6
    try clear c1
    try clear c2
    try clear p2
    try clear c10
    try clear c12
    obtain ⟨kq, x35_5, rfl, HA, HJ5, HO_11, HB⟩ := hcut
    cases kq with
    | zero => exact absurd HA.out (by simp [spec_Shrink.j0])
    | succ kj5 =>
      have H := HA.out
      clear HA
      simp only [spec_Shrink.j0] at H
      by_cases c14 : x35_5 = true
      · subst c14
        have H1 : (some y135) = some r := by rw [if_pos rfl] at H; exact H
        clear H
        have H := H1
        clear H1
        obtain rfl := Option.some.inj H
        go_wp2
        go_ret
        exact ⟨_, by first | rfl | (simp [errW_none, errW_some] <;> rfl) | (simp [*, errW_none, errW_some] <;> rfl), by (with_reducible repeat (first | apply Kd.R_alloc | apply Kd.R_drewN | apply Kd.R_drew)); exact HO_11.out, by repeat (first | (with_reducible first | exact HB.out | apply below_alloc | apply pw_below_drewN | apply below_drew1) | exact HB.out)⟩
      · replace c14 := Bool.eq_false_iff.mpr c14
        subst c14
        have H1 : (spec_Shrink.l0 kj5 l0 a1 a2 a3 a4 y135 0) = some r := by rw [if_neg (show ¬ (false = true) by decide)] at H; exact H
        clear H
        have H := H1
        clear H1
        have H' := Aside0.mk H
        clear H
        go_wp2
        go_loopg [11, 12] kj5 (fun kq v11 v12 w' => ∃ (x11_2 : List Int) (x12_2 : Int), v12 = .int .i64 x12_2 ∧ Aside0 (spec_Shrink.l0 kq l0 a1 a2 a3 a4 x11_2 x12_2 = some r) ∧ Aside0 (kq ≤ kj5) ∧ Aside0 (Kd.R (Kd.int .i64) 3 w' w.heap.size (fun _ => True) v11 x11_2) ∧ Aside0 (Below w.heap.size w w'))
        case atStart => exact ⟨(y135), (0), (by first | rfl | (simp; done) | (simp [*]; done)), H', ⟨Nat.le_refl _⟩, ⟨by (with_reducible repeat (first | apply Kd.R_alloc | apply Kd.R_drewN | apply Kd.R_drew)); exact HO_11.out⟩, ⟨by repeat (first | (with_reducible first | exact HB.out | apply below_alloc | apply pw_below_drewN | apply below_drew1) | exact HB.out)⟩⟩
        case round =>
          clear H'
          try clear c1
          try clear c2
          try clear p2
          try clear c10
          try clear c12
          try clear c14
          try clear p2
          obtain ⟨x11_2, x12_2, rfl, HA, HK2, HO_11, HB⟩ := hrel
          cases gk with
          | zero => exact absurd HA.out (by simp [spec_Shrink.l0])
          | succ k2 =>
            have H := HA.out
            clear HA
            simp only [spec_Shrink.l0] at H
            by_cases c15 : x12_2 < a4
            · rw [if_pos c15] at H
              have c15b0 : decide (x12_2 < a4) = true := decide_eq_true c15
              clear c15
              have H' := Aside0.mk H
              clear H
              go_wp2
              go_loopg [11, 13] k2 (fun kq v11 v13 w' => ∃ (x11_3 : List Int) (x13_3 : Int), v13 = .int .i64 x13_3 ∧ Aside0 (spec_Shrink.l1 kq l0 a1 a2 a3 a4 x11_3 x12_2 x13_3 = some r) ∧ Aside0 (kq ≤ k2) ∧ Aside0 (Kd.R (Kd.int .i64) 3 w' w.heap.size (fun _ => True) v11 x11_3) ∧ Aside0 (Below w.heap.size w w'))
              case atStart => exact ⟨(x11_2), (0), (by first | rfl | (simp; done) | (simp [*]; done)), H', ⟨Nat.le_refl _⟩, ⟨by (with_reducible repeat (first | apply Kd.R_alloc | apply Kd.R_drewN | apply Kd.R_drew)); exact HO_11.out⟩, ⟨by repeat (first | (with_reducible first | exact HB.out | apply below_alloc | apply pw_below_drewN | apply below_drew1) | exact HB.out)⟩⟩
              case round =>
                clear H'
                try clear c1
                try clear c2
                try clear p2
                try clear c10
                try clear c12
                try clear c14
                try clear c15
                try clear c15b0
                try clear p2
                obtain ⟨x11_3, x13_3, rfl, HA, HK3, HO_11, HB⟩ := hrel
                cases gk with
                | zero => exact absurd HA.out (by simp [spec_Shrink.l1])
                | succ k3 =>
                  have H := HA.out
                  clear HA
                  simp only [spec_Shrink.l1] at H
                  by_cases c16 : x13_3 < a3
                  · rw [if_pos c16] at H
                    have c16b0 : decide (x13_3 < a3) = true := decide_eq_true c16
                    clear c16
                    by_cases c17 : a4 = 0
                    · rw [if_pos c17] at H
                      exact absurd H (by simp)
                    · rw [if_neg c17] at H
                      have c17b0 : (a4 == 0) = false := beq_eq_false_iff_ne.mpr c17
                      have c17b1 : (a4 != 0) = true := bne_iff_ne.mpr c17
                      have H' := Aside0.mk H
                      clear H
                      go_wp2
                      go_loopg [14, 15, 16] k3 (fun kq v14 v15 v16 w' => ∃ (x14_4 : Int) (x15_4 : Int) (x16_4 : Int), v14 = .int .i64 x14_4 ∧ v15 = .int .i64 x15_4 ∧ v16 = .int .i64 x16_4 ∧ Aside0 (spec_Shrink.l2 kq l0 a1 a2 a3 a4 x11_3 x12_2 x13_3 x14_4 x15_4 x16_4 = some r) ∧ Aside0 (kq ≤ k3) ∧ Aside0 (Kd.R (Kd.int .i64) 3 w' w.heap.size (fun _ => True) u11 x11_3) ∧ Aside0 (Below w.heap.size w w'))
                      case atStart => exact ⟨(0), (0), (wrap64 (Int.tdiv (wrap64 (x12_2 * a2)) a4)), (by first | rfl | (simp; done) | (simp [*]; done)), (by first | rfl | (simp; done) | (simp [*]; done)), (by first | rfl | (simp; done) | (simp [*]; done)), H', ⟨Nat.le_refl _⟩, ⟨by (with_reducible repeat (first | apply Kd.R_alloc | apply Kd.R_drewN | apply Kd.R_drew)); exact HO_11.out⟩, ⟨by repeat (first | (with_reducible first | exact HB.out | apply below_alloc | apply pw_below_drewN | apply below_drew1) | exact HB.out)⟩⟩
                      case round =>
                        clear H'
                        try clear c1
                        try clear c2
                        try clear p2
                        try clear p6
                        try clear c10
                        try clear c12
                        try clear c14
                        try clear c15
                        try clear c15b0
                        try clear c16
                        try clear c16b0
                        try clear c17
                        try clear c17b0
                        try clear c17b1
                        try clear p2
                        obtain ⟨x14_4, x15_4, x16_4, rfl, rfl, rfl, HA, HK4, HO_11, HB⟩ := hrel
                        cases gk with
                        | zero => exact absurd HA.out (by simp [spec_Shrink.l2])
                        | succ k4 =>
                          have H := HA.out
                          clear HA
                          simp only [spec_Shrink.l2] at H
                          replace H := Option.bind_eq_some_iff.mp H
                          obtain ⟨t141, A180, H⟩ := H
                          replace H : (if x16_4 < t141 then (if a3 = 0 then (none) else (spec_Shrink.l3 k4 l0 a1 a2 a3 a4 x11_3 x12_2 x13_3 x14_4 x15_4 x16_4 (wrap64 (Int.tdiv (wrap64 (x13_3 * a1)) a3)))) else ((spec_l05Round.f x14_4 x15_4).bind fun t142 => (if x11_3.length < 17592186044416 then (spec_Shrink.l1 k4 l0 a1 a2 a3 a4 (x11_3 ++ [t142]) x12_2 (wrap64 (x13_3 + 1))) else (none)))) = some r := H
                          have A18 := Aside0.mk A180
                          clear A180
                          by_cases c19 : x16_4 < t141
                          · rw [if_pos c19] at H
                            have c19b0 : decide (x16_4 < t141) = true := decide_eq_true c19
                            clear c19
                            by_cases c20 : a3 = 0
                            · rw [if_pos c20] at H
                              exact absurd H (by simp)
                            · rw [if_neg c20] at H
                              have c20b0 : (a3 == 0) = false := beq_eq_false_iff_ne.mpr c20
                              have c20b1 : (a3 != 0) = true := bne_iff_ne.mpr c20
                              have H' := Aside0.mk H
                              clear H
                              go_wp2_with (first | ((with_reducible refine gate_callee (f := 53) rfl ?_); refine goesL_ (some 58) rfl rfl Try.func53 (by kernel_rfl) rfl #[.int .i64 (wrap64 ((wrap64 (x12_2 + 1)) * a2)), .int .i64 a4] rfl (by (try simp only [List.map_toArray, List.map_cons, List.map_nil]); first | done | rfl | (simp only [List.length_drop, List.length_take]; rfl)) ?_; (with_reducible refine (spec_l04Up.calls (wrap64 ((wrap64 (x12_2 + 1)) * a2)) a4 t141 _ A18.out).mono ?_); rintro e w' ⟨rfl, ⟨nd, rfl⟩⟩; refine ⟨_, rfl, ?_⟩))
                              go_loopg [14, 15, 17] k4 (fun kq v14 v15 v17 w' => ∃ (x14_5 : Int) (x15_5 : Int) (x17_5 : Int), v14 = .int .i64 x14_5 ∧ v15 = .int .i64 x15_5 ∧ v17 = .int .i64 x17_5 ∧ Aside0 (spec_Shrink.l3 kq l0 a1 a2 a3 a4 x11_3 x12_2 x13_3 x14_5 x15_5 x16_4 x17_5 = some r) ∧ Aside0 (kq ≤ k4) ∧ Aside0 (Kd.R (Kd.int .i64) 3 w' w.heap.size (fun _ => True) u11 x11_3) ∧ Aside0 (Below w.heap.size w w'))
                              case atStart => exact ⟨(x14_4), (x15_4), (wrap64 (Int.tdiv (wrap64 (x13_3 * a1)) a3)), (by first | rfl | (simp; done) | (simp [*]; done)), (by first | rfl | (simp; done) | (simp [*]; done)), (by first | rfl | (simp; done) | (simp [*]; done)), H', ⟨Nat.le_refl _⟩, ⟨by (with_reducible repeat (first | apply Kd.R_alloc | apply Kd.R_drewN | apply Kd.R_drew)); exact HO_11.out⟩, ⟨by repeat (first | (with_reducible first | exact HB.out | apply below_alloc | apply pw_below_drewN | apply below_drew1) | exact HB.out)⟩⟩
                              case round =>
                                clear H'
                                try clear c1
                                try clear c2
                                try clear p2
                                try clear c5
                                try clear p6
                                try clear c10
                                try clear c12
                                try clear c14
                                try clear c15
                                try clear c15b0
                                try clear c16
                                try clear c16b0
                                try clear c17
                                try clear c17b0
                                try clear c17b1
                                try clear c19
                                try clear c19b0
                                try clear c20
                                try clear c20b0
                                try clear c20b1
                                try clear p2
                                try clear p6
                                obtain ⟨x14_5, x15_5, x17_5, rfl, rfl, rfl, HA, HK5, HO_11, HB⟩ := hrel
                                cases gk with
                                | zero => exact absurd HA.out (by simp [spec_Shrink.l3])
                                | succ k5 =>
                                  have H := HA.out
                                  clear HA
                                  simp only [spec_Shrink.l3] at H
                                  replace H := Option.bind_eq_some_iff.mp H
                                  obtain ⟨t146, A210, H⟩ := H
                                  replace H : (if x17_5 < t146 then (if 0 ≤ (wrap64 ((wrap64 (x16_4 * a1)) + x17_5)) then (if (wrap64 ((wrap64 (x16_4 * a1)) + x17_5)) < (l0.length : Int) then (spec_Shrink.l3 k5 l0 a1 a2 a3 a4 x11_3 x12_2 x13_3 (wrap64 (x14_5 + (rd l0 (wrap64 ((wrap64 (x16_4 * a1)) + x17_5))))) (wrap64 (x15_5 + 1)) x16_4 (wrap64 (x17_5 + 1))) else (none)) else (none)) else (spec_Shrink.l2 k5 l0 a1 a2 a3 a4 x11_3 x12_2 x13_3 x14_5 x15_5 (wrap64 (x16_4 + 1)))) = some r := H
                                  have A21 := Aside0.mk A210
                                  clear A210
                                  by_cases c22 : x17_5 < t146
                                  · rw [if_pos c22] at H
                                    have c22b0 : decide (x17_5 < t146) = true := decide_eq_true c22
                                    clear c22
                                    obtain ⟨ji23, hji23⟩ : ∃ j_ : Int, (wrap64 ((wrap64 (x16_4 * a1)) + x17_5)) = j_ := ⟨_, rfl⟩
                                    replace H : (if 0 ≤ (ji23) then (if (ji23) < (l0.length : Int) then (spec_Shrink.l3 k5 l0 a1 a2 a3 a4 x11_3 x12_2 x13_3 (wrap64 (x14_5 + (rd l0 (ji23)))) (wrap64 (x15_5 + 1)) x16_4 (wrap64 (x17_5 + 1))) else (none)) else (none)) = some r := by first | (rw [hji23] at H; exact H) | (simp only [hji23] at H ⊢; exact H)
                                    (try rw [hji23] at A21)
                                    have hji23w : (IntKind.i64.wrap ((wrap64 (x16_4 * a1)) + x17_5)) = ji23 := (i64_w _).trans hji23
                                    by_cases c24 : 0 ≤ (ji23)
                                    · rw [if_pos c24] at H
                                      have c24b0 : decide (0 ≤ (ji23)) = true := decide_eq_true c24
                                      clear c24
                                      by_cases c25 : (ji23) < (l0.length : Int)
                                      · rw [if_pos c25] at H
                                        have c25b0 : decide ((ji23) < (l0.length : Int)) = true := decide_eq_true c25
                                        clear c25
                                        have H' := Aside0.mk H
                                        clear H
                                        go_wp2_with (first | ((with_reducible refine gate_callee (f := 53) rfl ?_); refine goesL_ (some 73) rfl rfl Try.func53 (by kernel_rfl) rfl #[.int .i64 (wrap64 ((wrap64 (x13_3 + 1)) * a1)), .int .i64 a3] rfl (by (try simp only [List.map_toArray, List.map_cons, List.map_nil]); first | done | rfl | (simp only [List.length_drop, List.length_take]; rfl)) ?_; (with_reducible refine (spec_l04Up.calls (wrap64 ((wrap64 (x13_3 + 1)) * a1)) a3 t146 _ A21.out).mono ?_); rintro e w' ⟨rfl, ⟨nd, rfl⟩⟩; refine ⟨_, rfl, ?_⟩; have p147 : 0 ≤ ((ji23) : Int) := of_decide_eq_true (by first | (with_reducible assumption) | assumption); have q147 : (ji23) < (l0.length : Int) := of_decide_eq_true (by first | (with_reducible assumption) | assumption); obtain ⟨ad147, e147, hx147_0⟩ := Kd.at_int HR0.out (ji23) p147 q147; cases e147; replace hx147_0 := (HB.out.cell (World.block_lt_of_cell? w _ hx147_0)).trans hx147_0; replace p147 := eq_true p147; replace q147 := eq_true q147))
                                        go_roundg k5
                                        case measure => have := HJ5.out; have := HK2.out; have := HK3.out; have := HK4.out; have := HK5.out; omega
                                        case rel => exact ⟨(wrap64 (x14_5 + (rd l0 (ji23)))), (wrap64 (x15_5 + 1)), (wrap64 (x17_5 + 1)), (by first | rfl | (simp; done) | (simp only [← hji23] <;> (first | rfl | simp)) | (simp [*]; done)), (by first | rfl | (simp; done) | (simp [*]; done)), (by first | rfl | (simp; done) | (simp [*]; done)), H', ⟨by have := HJ5.out; have := HK2.out; have := HK3.out; have := HK4.out; have := HK5.out; omega⟩, ⟨by (with_reducible repeat (first | apply Kd.R_alloc | apply Kd.R_drewN | apply Kd.R_drew)); exact HO_11.out⟩, ⟨by repeat (first | (with_reducible first | exact HB.out | apply below_alloc | apply pw_below_drewN | apply below_drew1) | exact HB.out)⟩⟩
                                      · rw [if_neg c25] at H
                                        exact absurd H (by simp)
                                    · rw [if_neg c24] at H
                                      exact absurd H (by simp)
                                  · rw [if_neg c22] at H
                                    have c22b0 : decide (x17_5 < t146) = false := decide_eq_false c22
                                    clear c22
                                    have H' := Aside0.mk H
                                    clear H
                                    go_wp2_with (first | ((with_reducible refine gate_callee (f := 53) rfl ?_); refine goesL_ (some 73) rfl rfl Try.func53 (by kernel_rfl) rfl #[.int .i64 (wrap64 ((wrap64 (x13_3 + 1)) * a1)), .int .i64 a3] rfl (by (try simp only [List.map_toArray, List.map_cons, List.map_nil]); first | done | rfl | (simp only [List.length_drop, List.length_take]; rfl)) ?_; (with_reducible refine (spec_l04Up.calls (wrap64 ((wrap64 (x13_3 + 1)) * a1)) a3 t146 _ A21.out).mono ?_); rintro e w' ⟨rfl, ⟨nd, rfl⟩⟩; refine ⟨_, rfl, ?_⟩))
                                    go_roundg k5
                                    case measure => have := HJ5.out; have := HK2.out; have := HK3.out; have := HK4.out; have := HK5.out; omega
                                    case rel => exact ⟨(x14_5), (x15_5), (wrap64 (x16_4 + 1)), (by first | rfl | (simp; done) | (simp [*]; done)), (by first | rfl | (simp; done) | (simp [*]; done)), (by first | rfl | (simp; done) | (simp [*]; done)), H', ⟨by have := HJ5.out; have := HK2.out; have := HK3.out; have := HK4.out; have := HK5.out; omega⟩, ⟨by (with_reducible repeat (first | apply Kd.R_alloc | apply Kd.R_drewN | apply Kd.R_drew)); exact HO_11.out⟩, ⟨by repeat (first | (with_reducible first | exact HB.out | apply below_alloc | apply pw_below_drewN | apply below_drew1) | exact HB.out)⟩⟩
                          · rw [if_neg c19] at H
                            have c19b0 : decide (x16_4 < t141) = false := decide_eq_false c19
                            clear c19
                            replace H := Option.bind_eq_some_iff.mp H
                            obtain ⟨t142, A260, H⟩ := H
                            replace H : (if x11_3.length < 17592186044416 then (spec_Shrink.l1 k4 l0 a1 a2 a3 a4 (x11_3 ++ [t142]) x12_2 (wrap64 (x13_3 + 1))) else (none)) = some r := H
                            have A26 := Aside0.mk A260
                            clear A260
                            by_cases c27 : x11_3.length < 17592186044416
                            · rw [if_pos c27] at H
                              have LMc27 := Aside0.mk c27
                              clear c27
                              obtain ⟨y143, hy143⟩ : ∃ y_ : List Int, y_ = (x11_3 ++ [t142]) := ⟨_, rfl⟩
                              replace H : (spec_Shrink.l1 k4 l0 a1 a2 a3 a4 y143 x12_2 (wrap64 (x13_3 + 1))) = some r := by first | (rw [hy143]; with_reducible exact H) | (have H2_ := (Option.bind_some _ _).symm.trans H; rw [hy143]; with_reducible exact H2_) | (have H2_ := (Option.bind_some _ _).symm.trans H; with_reducible exact H2_) | with_reducible exact H | (rw [hy143]; exact H) | exact H
                              have Ny143 := Aside0.mk hy143
                              clear hy143
                              have H' := Aside0.mk H
                              clear H
                              go_wp2_with (first | ((with_reducible refine gate_callee (f := 53) rfl ?_); refine goesL_ (some 58) rfl rfl Try.func53 (by kernel_rfl) rfl #[.int .i64 (wrap64 ((wrap64 (x12_2 + 1)) * a2)), .int .i64 a4] rfl (by (try simp only [List.map_toArray, List.map_cons, List.map_nil]); first | done | rfl | (simp only [List.length_drop, List.length_take]; rfl)) ?_; (with_reducible refine (spec_l04Up.calls (wrap64 ((wrap64 (x12_2 + 1)) * a2)) a4 t141 _ A18.out).mono ?_); rintro e w' ⟨rfl, ⟨nd, rfl⟩⟩; refine ⟨_, rfl, ?_⟩) | ((with_reducible refine gate_callee (f := 54) rfl ?_); refine goesL_ (some 92) rfl rfl Try.func54 (by kernel_rfl) rfl #[.int .i64 x14_4, .int .i64 x15_4] rfl (by (try simp only [List.map_toArray, List.map_cons, List.map_nil]); first | done | rfl | (simp only [List.length_drop, List.length_take]; rfl)) ?_; (with_reducible refine (spec_l05Round.calls x14_4 x15_4 t142 _ A26.out).mono ?_); rintro e w' ⟨rfl, ⟨nd, rfl⟩⟩; refine ⟨_, rfl, ?_⟩) | ((with_reducible refine gate_builtin (b := .append) (xs := #[.tmp 89, .tmp 93]) rfl ?_); at_builtin; refine Kd.R_append (Kd.int .i64) (w0 := w) w.heap.size rfl (.tmp 89) (.tmp 93) 28 3 (.int .i64 0) 8 rfl Try.underlying28 info3 rfl (by decide) (by omega) u11 x11_3 t142 [.int .i64 t142] (fun _ => True) (fun _ => False) rfl rfl ?aP (fun _ hk => hk.elim) ?aF ?aO ?aB ?aS ?aL ?_; (case aP => exact rfl); (case aB => exact (by repeat (first | (with_reducible first | exact HB.out | apply below_alloc | apply pw_below_drewN | apply below_drew1) | exact HB.out))); (case aF => exact (fun _ _ => trivial)); (case aO => exact (by (with_reducible repeat (first | apply Kd.R_alloc | apply Kd.R_drewN | apply Kd.R_drew)); exact HO_11.out)); (case aS => exact (below_size (by repeat (first | (with_reducible first | exact HB.out | apply below_alloc | apply pw_below_drewN | apply below_drew1) | exact HB.out)))); (case aL => have := LMc27.out; omega); intro v144 w28 ho hb hg hat; rw [← Ny143.out] at ho; have n0_ := Aside0.mk (hb); have n1_ := Aside0.mk (ho); clear HB; clear HO_11; have HB := n0_; have HO145 := n1_; clear n0_ n1_; clear ho hb hg hat))
                              go_roundg k4
                              case measure => have := HJ5.out; have := HK2.out; have := HK3.out; have := HK4.out; omega
                              case rel => exact ⟨(y143), (wrap64 (x13_3 + 1)), (by first | rfl | (simp; done) | (simp [*]; done)), H', ⟨by have := HJ5.out; have := HK2.out; have := HK3.out; have := HK4.out; omega⟩, ⟨by (with_reducible repeat (first | apply Kd.R_alloc | apply Kd.R_drewN | apply Kd.R_drew)); exact HO145.out⟩, ⟨by repeat (first | (with_reducible first | exact HB.out | apply below_alloc | apply pw_below_drewN | apply below_drew1) | exact HB.out)⟩⟩
                            · rw [if_neg c27] at H
                              exact absurd H (by simp)
                  · rw [if_neg c16] at H
                    have c16b0 : decide (x13_3 < a3) = false := decide_eq_false c16
                    clear c16
                    have H' := Aside0.mk H
                    clear H
                    go_wp2
                    go_roundg k3
                    case measure => have := HJ5.out; have := HK2.out; have := HK3.out; omega
                    case rel => exact ⟨(x11_3), (wrap64 (x12_2 + 1)), (by first | rfl | (simp; done) | (simp [*]; done)), H', ⟨by have := HJ5.out; have := HK2.out; have := HK3.out; omega⟩, ⟨by (with_reducible repeat (first | apply Kd.R_alloc | apply Kd.R_drewN | apply Kd.R_drew)); exact HO_11.out⟩, ⟨by repeat (first | (with_reducible first | exact HB.out | apply below_alloc | apply pw_below_drewN | apply below_drew1) | exact HB.out)⟩⟩
            · rw [if_neg c15] at H
              have c15b0 : decide (x12_2 < a4) = false := decide_eq_false c15
              clear c15
              obtain rfl := Option.some.inj H
              go_wp2
              go_ret
              exact ⟨_, by first | rfl | (simp [errW_none, errW_some] <;> rfl) | (simp [*, errW_none, errW_some] <;> rfl), by (with_reducible repeat (first | apply Kd.R_alloc | apply Kd.R_drewN | apply Kd.R_drew)); exact HO_11.out, by repeat (first | (with_reducible first | exact HB.out | apply below_alloc | apply pw_below_drewN | apply below_drew1) | exact HB.out)⟩

theorem sShrink_l0 (l : List Int) (b1 b2 b3 b4 : Nat) (k1 : b1 ≤ 4096) (k2 : b2 ≤ 4096) (k3 : b3 ≤ 4096) (k4 : b4 ≤ 4096) (p1 : 1 ≤ b1) (p2 : 1 ≤ b2) (kl : l.length = b1 * b2) (hv : ∀ v ∈ l, 0 ≤ v ∧ v ≤ 4095) :
    Ev (fun k => spec_Shrink.l0 k l b1 b2 b3 b4 [] 0) (planeL (shrS l b1 b2 b3 b4) b3 b4) := by
  refine evPlane (fun k out y => spec_Shrink.l0 k l b1 b2 b3 b4 out y) (fun k out y x => spec_Shrink.l1 k l b1 b2 b3 b4 out y x) (shrS l b1 b2 b3 b4) b3 b4 k3 k4 ?_ ?_ ?_ ?_
  · intro out y x r hy hx ho h
    have a5 := (lo_vals k2 k4 hy).2.2.2.2
    have c5 := (lo_vals k1 k3 hx).2.2.2.2
    have AA := Aside0.mk (lo_vals k2 k4 hy)
    have CC := Aside0.mk (lo_vals k1 k3 hx)
    obtain ⟨d1, d2⟩ := lo_hi hy p2
    obtain ⟨e1, e2⟩ := lo_hi hx p1
    rw [shrS_nat] at h
    have hi1 : ((y + 1) * b2 + b4 - 1) / b4 = hi_ y b2 b4 := rfl
    have hi2 : ((x + 1) * b1 + b3 - 1) / b3 = hi_ x b1 b3 := rfl
    have hup := sup_f (n := (y + 1) * b2) (d := b4) (by omega) (by omega) (by omega)
    have hup2 := sup_f (n := (x + 1) * b1) (d := b3) (by omega) (by omega) (by omega)
    rw [hi1] at hup
    rw [hi2] at hup2
    clear hi1 hi2
    have hp := manyA_pos d1 e1
    have m0 := sumA_range hv (wn := b1) (R0 := lo_ y b2 b4) (C0 := lo_ x b1 b3) (C1 := hi_ x b1 b3) (r := hi_ y b2 b4) (k := lo_ x b1 b3) (by omega) (by omega) (by omega)
    have m1 := manyA_range (R0 := lo_ y b2 b4) (C0 := lo_ x b1 b3) (C1 := hi_ x b1 b3) (r := hi_ y b2 b4) (k := lo_ x b1 b3) (by omega) (by omega) (by omega)
    have hrd := round_f (n := sumA l b1 (lo_ y b2 b4) (lo_ x b1 b3) (hi_ x b1 b3) (hi_ y b2 b4) (lo_ x b1 b3)) (d := manyA (lo_ y b2 b4) (lo_ x b1 b3) (hi_ x b1 b3) (hi_ y b2 b4) (lo_ x b1 b3)) hp (by omega) (by omega) (by omega)
    generalize hR0 : lo_ y b2 b4 = R0 at *
    generalize hR1 : hi_ y b2 b4 = R1 at *
    generalize hC0 : lo_ x b1 b3 = C0 at *
    generalize hC1 : hi_ x b1 b3 = C1 at *
    have inner : ∀ (q : Nat), R0 ≤ q → q < R1 → Ev (fun k => spec_Shrink.l2 k l b1 b2 b3 b4 out y x (sumA l b1 R0 C0 C1 (q + 1) C0) (manyA R0 C0 C1 (q + 1) C0) ((q + 1 : Nat) : Int)) r →
        ∀ (d c : Nat), c + d = C1 → C0 ≤ c → Ev (fun k => spec_Shrink.l3 k l b1 b2 b3 b4 out y x (sumA l b1 R0 C0 C1 q c) (manyA R0 C0 C1 q c) q c) r := by
      intro q hq0 hq1 hc d
      induction d with
      | zero =>
        intro c hcd hc0
        obtain rfl : c = C1 := by omega
        refine Ev.step (fun k => by rw [spec_Shrink.l3]) ?_
        rw [CC.out.2.2.1, CC.out.2.2.2.1]
        refine evBind (evConst hup2) (evNeg (by omega) ?_)
        rw [sumA_row l b1 R0 C0 c q hq0, manyA_row R0 C0 c q hq0, show (q : Int) + 1 = ((q + 1 : Nat) : Int) from by push_cast; rfl, w64n (by omega)]
        exact hc
      | succ d ih =>
        intro c hcd hc0
        have bj := grid_lt (a := q) (b := c) (w := b1) (h := b2) (by omega) (by omega)
        rw [Nat.mul_comm b2 b1, ← kl] at bj
        have bm : q * b1 ≤ 4096 * 4096 := Nat.mul_le_mul (by omega) k1
        have n0 := sumA_range hv (wn := b1) (R0 := R0) (C0 := C0) (C1 := C1) (r := q) (k := c + 1) (by omega) (by omega) (by omega)
        have n1 := manyA_range (R0 := R0) (C0 := C0) (C1 := C1) (r := q) (k := c + 1) (by omega) (by omega) (by omega)
        refine Ev.step (fun k => by rw [spec_Shrink.l3]) ?_
        rw [CC.out.2.2.1, CC.out.2.2.2.1]
        refine evBind (evConst hup2) (evPos (by omega) ?_)
        rw [show (q : Int) * b1 = ((q * b1 : Nat) : Int) from by push_cast; rfl, w64n (n := q * b1) (by omega), show ((q * b1 : Nat) : Int) + c = ((q * b1 + c : Nat) : Int) from by push_cast; rfl, w64n (n := q * b1 + c) (by omega)]
        refine evPos (Int.natCast_nonneg _) (evPos (Int.ofNat_lt.mpr bj) ?_)
        rw [sumA_next l b1 R0 C0 C1 q c hc0, manyA_next R0 C0 C1 q c hc0, w64 (x := sumA l b1 R0 C0 C1 q (c + 1)) (by omega) (by omega), w64 (x := manyA R0 C0 C1 q (c + 1)) (by omega) (by omega), show (c : Int) + 1 = ((c + 1 : Nat) : Int) from by push_cast; rfl, w64n (n := c + 1) (by omega)]
        exact ih (c + 1) (by omega) (by omega)
    have outer : ∀ (d q : Nat), q + d = R1 → R0 ≤ q → Ev (fun k => spec_Shrink.l2 k l b1 b2 b3 b4 out y x (sumA l b1 R0 C0 C1 q C0) (manyA R0 C0 C1 q C0) q) r := by
      intro d
      induction d with
      | zero =>
        intro q hq hq0
        obtain rfl : q = R1 := by omega
        refine Ev.step (fun k => by rw [spec_Shrink.l2]) ?_
        rw [AA.out.2.2.1, AA.out.2.2.2.1]
        refine evBind (evConst hup) (evNeg (by omega) ?_)
        refine evBind (evConst hrd) (evPos (by omega) ?_)
        rw [CC.out.2.2.1]
        exact h
      | succ d ih =>
        intro q hq hq0
        refine Ev.step (fun k => by rw [spec_Shrink.l2]) ?_
        rw [AA.out.2.2.1, AA.out.2.2.2.1]
        refine evBind (evConst hup) (evPos (by omega) (evNeg (by omega) ?_))
        rw [CC.out.1, CC.out.2.1]
        exact inner q hq0 (by omega) (ih (q + 1) (by omega) (by omega)) (C1 - C0) C0 (by omega) (by omega)
    refine Ev.step (fun k => by rw [spec_Shrink.l1]) (evPos (Int.ofNat_lt.mpr hx) (evNeg (by omega) ?_))
    rw [AA.out.1, AA.out.2.1]
    have := outer (R1 - R0) R0 (by omega) (by omega)
    rw [show sumA l b1 R0 C0 C1 R0 C0 = 0 from by unfold sumA; rw [Nat.sub_self, Nat.sub_self]; rfl, show manyA R0 C0 C1 R0 C0 = 0 from by unfold manyA; rw [Nat.sub_self, Nat.sub_self, Nat.zero_mul]; rfl] at this
    exact this
  · intro out y r hy h
    refine Ev.step (fun k => by rw [spec_Shrink.l1]) (evNeg (by omega) ?_)
    rw [show (y : Int) + 1 = ((y + 1 : Nat) : Int) from by push_cast; rfl, w64n (by omega)]
    exact h
  · intro out y r hy h
    exact Ev.step (fun k => by rw [spec_Shrink.l0]) (evPos (by omega) h)
  · intro out
    exact Ev.step (fun k => by rw [spec_Shrink.l0]) (evNeg (by omega) (Ev.now _))
theorem sShrink_f (l : List Int) (a1 a2 a3 a4 : Int) (hl : l.length ≤ maxLen) : Ev (fun k => spec_Shrink.f k l a1 a2 a3 a4) (shrinkI l a1 a2 a3 a4) := by
  unfold spec_Shrink.f
  refine evBind (Ev.now _) (evBind (sPlaneOk_f l a1 a2 hl) ?_)
  by_cases hp : planeB l a1 a2 = true
  · have hg := crop_guard (a3 := a3) (a4 := a4) hp
    refine evPos hp ?_
    rw [between_f]
    simp only [Option.bind_some]
    by_cases h3 : inR a3 1 a1 = true
    · refine evPos h3 ?_
      rw [between_f]
      simp only [Option.bind_some]
      refine Ev.step (fun k => by rw [spec_Shrink.j0]) ?_
      by_cases h4 : inR a4 1 a2 = true
      · have hc := hg.2 ⟨h3, h4⟩
        refine evNeg (by simp [h4]) ?_
        unfold shrinkI
        rw [if_pos ⟨hp, hc⟩]
        obtain ⟨m1, m2, m3, m4, ml⟩ := plane_bounds hp
        rw [inR_iff] at h3 h4
        obtain ⟨b1, rfl⟩ := Int.eq_ofNat_of_zero_le (show 0 ≤ a1 by omega)
        obtain ⟨b2, rfl⟩ := Int.eq_ofNat_of_zero_le (show 0 ≤ a2 by omega)
        obtain ⟨b3, rfl⟩ := Int.eq_ofNat_of_zero_le (show 0 ≤ a3 by omega)
        obtain ⟨b4, rfl⟩ := Int.eq_ofNat_of_zero_le (show 0 ≤ a4 by omega)
        have e2 : l.length = b1 * b2 := by exact_mod_cast ml
        have := sShrink_l0 l b1 b2 b3 b4 (by omega) (by omega) (by omega) (by omega) (by omega) (by omega) e2 (plane_vals hp)
        exact this
      · refine evPos (by simp [h4]) ?_
        unfold shrinkI
        rw [if_neg (fun h => h4 (hg.1 h.2).2)]
        exact Ev.now _
    · refine evNeg h3 (Ev.step (fun k => by rw [spec_Shrink.j0]) (evPos rfl ?_))
      unfold shrinkI
      rw [if_neg (fun h => h3 (hg.1 h.2).1)]
      exact Ev.now _
  · refine evNeg hp (Ev.step (fun k => by rw [spec_Shrink.j0]) (evPos rfl ?_))
    unfold shrinkI
    rw [if_neg (fun h => hp h.1)]
    exact Ev.now _

/-! ### laws_big: function 38 -/
def laws_big.f (l0 : List Int) : Option (Bool) := some (decide ((l0.length : Int) > 1048576))
set_option maxHeartbeats 8000000 in
set_option maxRecDepth 100000 in
theorem laws_big.calls (A0 : Option Addr) (c0 : Nat) (l0 : List Int) (r : Bool) (w : World) (hr0 : Kd.C (Kd.int .u8) w A0 l0.length l0) (hc0 : l0.length ≤ c0) (h : laws_big.f l0 = some r) :
    Calls Try.prog 38 #[.slice A0 l0.length c0] w fun e w' => e = .returned (.bool r) ∧ Drawn0 w w' := by
  have HR0 := Aside0.mk hr0
  have HC0 := Aside0.mk hc0
  clear hr0 hc0
  have H : (some (decide ((l0.length : Int) > 1048576))) = some r := h
  clear h
  obtain rfl := Option.some.inj H
  go_enter Try.func38, Try.ntmps38
  go_wp2
  go_ret
  exact ⟨by first | rfl | (simp; done) | (simp [*]; done), by repeat (first | exact Drawn0.refl _ | apply Drawn0.step)⟩

theorem big_f (l : List Int) : laws_big.f l = some (decide ((l.length : Int) > 1048576)) := rfl

/-- A state of type 58 at block g of W; what its slices lead to came in by w0. -/
def IsS58 (w0 W : World) (g : Nat) (f0 : List Int) (f1 : Int) (f2 : Int) : Prop := ∃ A0 c0, W.heap[g]? = some (.cells #[.slice A0 f0.length c0, .int .i64 f1, .int .i64 f2] 58 (0, 0)) ∧ w0.heap.size ≤ g ∧ Kd.C (Kd.int .u8) w0 A0 f0.length f0
theorem IsS58.grown {w0 W : World} {g : Nat} {f0 : List Int} {f1 : Int} {f2 : Int} {W1 : World} {row : Option Nat} (h : IsS58 w0 W g f0 f1 f2) (hw : W.grownBy W1 row) (hne : some g ≠ row) : IsS58 w0 W1 g f0 f1 f2 := by
  obtain ⟨A0, c0, hb, hg, hr0⟩ := h
  exact ⟨A0, c0, blk_grown hb hw hne, hg, hr0⟩
theorem IsS58.own_neN {w0 W : World} {g : Nat} {f0 : List Int} {f1 : Int} {f2 : Int} {α : Type} {d : Kd α} {e : Nat} {base : Nat} {ok : Nat → Prop} {v : Value} {xs : List α} (h : IsS58 w0 W g f0 f1 f2) (ho : Kd.N d e W base ok v xs) (ht : e ≠ 58) : some g ≠ v.ownBlock := by
  obtain ⟨A0, c0, hb, hg, hr0⟩ := h
  exact Kd.N_ne ho hb ht
theorem IsS58.fresh {w0 W : World} {g : Nat} {f0 : List Int} {f1 : Int} {f2 : Int} (h : IsS58 w0 W g f0 f1 f2) : ∀ k, W.heap.size ≤ k → k ≠ g := by
  obtain ⟨A0, c0, hb, hg, hr0⟩ := h
  exact Kd.freshB hb
theorem IsS58.kept {w0 W : World} {g : Nat} {f0 : List Int} {f1 : Int} {f2 : Int} {W1 : World} {S : Nat → Prop} (h : IsS58 w0 W g f0 f1 f2) (hk : Kept W W1 S) (hne : ¬ S g) : IsS58 w0 W1 g f0 f1 f2 := by
  obtain ⟨A0, c0, hb, hg, hr0⟩ := h
  exact ⟨A0, c0, blk_kept hb hk hne, hg, hr0⟩
theorem IsS58.below {w0 W : World} {g : Nat} {f0 : List Int} {f1 : Int} {f2 : Int} {W1 : World} (h : IsS58 w0 W g f0 f1 f2) (hw : Below W.heap.size W W1) : IsS58 w0 W1 g f0 f1 f2 := h.grown (grown_of_below hw none) (by simp)
theorem IsS58.alloc {w0 W : World} {g : Nat} {f0 : List Int} {f1 : Int} {f2 : Int} (h : IsS58 w0 W g f0 f1 f2) (o : Obj) : IsS58 w0 (W.alloc o) g f0 f1 f2 := h.below (below_alloc (Below.refl _ _) o)
theorem IsS58.drewN {w0 W : World} {g : Nat} {f0 : List Int} {f1 : Int} {f2 : Int} (h : IsS58 w0 W g f0 f1 f2) (m : Nat) : IsS58 w0 (W.drewN m) g f0 f1 f2 := h
theorem IsS58.drew {w0 W : World} {g : Nat} {f0 : List Int} {f1 : Int} {f2 : Int} (h : IsS58 w0 W g f0 f1 f2) : IsS58 w0 W.drew g f0 f1 f2 := h
theorem IsS58.at_ {w0 W : World} {g : Nat} {f0 : List Int} {f1 : Int} {f2 : Int} {w' : World} {m : Nat} (hq : W.drewN m = w') (h : IsS58 w0 W g f0 f1 f2) : IsS58 w0 w' g f0 f1 f2 := by subst hq; exact IsS58.drewN h m
theorem IsS58.apart {w0 W : World} {g : Nat} {f0 : List Int} {f1 : Int} {f2 : Int} {α : Type} {d : Kd α} {e : Nat} {base : Nat} {ok : Nat → Prop} {v : Value} {xs : List α} (h : IsS58 w0 W g f0 f1 f2) (ho : d.R e W base ok v xs) (ht : ∀ q, q ∈ e :: d.E → q ≠ 58) : d.R e W base (fun k => ok k ∧ k ≠ g) v xs := by
  obtain ⟨A0, c0, hb, hg, hr0⟩ := h
  exact Kd.R_types ho hb ht
theorem IsS58.own_ne {w0 W : World} {g : Nat} {f0 : List Int} {f1 : Int} {f2 : Int} {α : Type} {d : Kd α} {e : Nat} {base : Nat} {ok : Nat → Prop} {v : Value} {xs : List α} (h : IsS58 w0 W g f0 f1 f2) (ho : d.R e W base ok v xs) (ht : e ≠ 58) : some g ≠ v.ownBlock := by
  obtain ⟨A0, c0, hb, hg, hr0⟩ := h
  exact Kd.R_ne ho hb ht
theorem IsS58.apartQ {w0 W : World} {g : Nat} {f0 : List Int} {f1 : Int} {f2 : Int} {α : Type} {d : Kd α} {e : Nat} {base : Nat} {ok : Nat → Prop} {v : Value} {xs : List α} (h : IsS58 w0 W g f0 f1 f2) (ho : d.Q e W base ok v xs) (ht : ∀ q, q ∈ e :: d.E → q ≠ 58) : d.Q e W base (fun k => ok k ∧ k ≠ g) v xs := by
  obtain ⟨A0, c0, hb, hg, hr0⟩ := h
  exact Kd.Q_types ho hb ht
theorem IsS58.own_neQ {w0 W : World} {g : Nat} {f0 : List Int} {f1 : Int} {f2 : Int} {α : Type} {d : Kd α} {e : Nat} {base : Nat} {ok : Nat → Prop} {v : Value} {xs : List α} (h : IsS58 w0 W g f0 f1 f2) (ho : d.Q e W base ok v xs) (ht : e ≠ 58) : some g ≠ v.ownBlock := by
  obtain ⟨A0, c0, hb, hg, hr0⟩ := h
  exact Kd.Q_ne ho hb ht
theorem IsS58.apartS {w0 W : World} {g : Nat} {f0 : List Int} {f1 : Int} {f2 : Int} {α : Type} {d : Kd α} {e : Nat} {base : Nat} {ok : Nat → Prop} {v : Value} {xs : List α} (h : IsS58 w0 W g f0 f1 f2) (ho : d.S e W base ok v xs) (ht : ∀ q, q ∈ e :: d.E → q ≠ 58) : d.S e W base (fun k => ok k ∧ k ≠ g) v xs := by
  obtain ⟨A0, c0, hb, hg, hr0⟩ := h
  exact Kd.S_types ho hb ht
theorem IsS58.own_neS {w0 W : World} {g : Nat} {f0 : List Int} {f1 : Int} {f2 : Int} {α : Type} {d : Kd α} {e : Nat} {base : Nat} {ok : Nat → Prop} {v : Value} {xs : List α} (h : IsS58 w0 W g f0 f1 f2) (ho : d.S e W base ok v xs) (ht : e ≠ 58) : some g ≠ v.ownBlock := by
  obtain ⟨A0, c0, hb, hg, hr0⟩ := h
  exact Kd.S_ne ho hb ht
theorem IsS58.lt {w0 W : World} {g : Nat} {f0 : List Int} {f1 : Int} {f2 : Int} (h : IsS58 w0 W g f0 f1 f2) : g < W.heap.size := by
  obtain ⟨A0, c0, hb, hg, hr0⟩ := h
  exact blk_lt hb
theorem IsS58.ge {w0 W : World} {g : Nat} {f0 : List Int} {f1 : Int} {f2 : Int} (h : IsS58 w0 W g f0 f1 f2) : w0.heap.size ≤ g := by
  obtain ⟨A0, c0, hb, hg, hr0⟩ := h
  exact hg
theorem IsS58.ne_blk {w0 W : World} {g : Nat} {f0 : List Int} {f1 : Int} {f2 : Int} {a : Nat} {cs : Array Value} {t : TypeId} {fr : Nat × Nat} (h : IsS58 w0 W g f0 f1 f2) (hb2 : W.heap[a]? = some (.cells cs t fr)) (ht : t ≠ 58) : g ≠ a := by
  obtain ⟨A0, c0, hb, hg, hr0⟩ := h
  rintro rfl
  rw [hb] at hb2
  injection hb2 with hb2
  injection hb2 with _ ht2
  exact ht ht2.symm
theorem IsS58.far {w0 W : World} {g : Nat} {f0 : List Int} {f1 : Int} {f2 : Int} {p : Addr} (h : IsS58 w0 W g f0 f1 f2) (hne : g ≠ p.block) (u : Value) : IsS58 w0 (W.setCell p u) g f0 f1 f2 := by
  obtain ⟨A0, c0, hb, hg, hr0⟩ := h
  exact ⟨A0, c0, blk_far hb hne u, hg, hr0⟩
theorem cellS58_0 {W : World} {g : Nat} {A0 : Option Addr} {c0 : Nat} {f0 : List Int} {f1 : Int} {f2 : Int} (h : W.heap[g]? = some (.cells #[.slice A0 f0.length c0, .int .i64 f1, .int .i64 f2] 58 (0, 0))) : W.cell? ⟨g, 0, none⟩ = some (.slice A0 f0.length c0) := (blk_cell h 0).trans rfl
theorem cellS58_1 {W : World} {g : Nat} {A0 : Option Addr} {c0 : Nat} {f0 : List Int} {f1 : Int} {f2 : Int} (h : W.heap[g]? = some (.cells #[.slice A0 f0.length c0, .int .i64 f1, .int .i64 f2] 58 (0, 0))) : W.cell? ⟨g, 1, none⟩ = some (.int .i64 f1) := (blk_cell h 1).trans rfl
theorem IsS58.set_1 {w0 W : World} {g : Nat} {f0 : List Int} {f1 : Int} {f2 : Int} (h : IsS58 w0 W g f0 f1 f2) (x : Int) : IsS58 w0 (W.setCell ⟨g, 1, none⟩ (.int .i64 x)) g f0 x f2 := by
  obtain ⟨A0, c0, hb, hg, hr0⟩ := h
  exact ⟨A0, c0, by simpa using blk_set hb 1 (.int .i64 x), hg, hr0⟩
theorem cellS58_2 {W : World} {g : Nat} {A0 : Option Addr} {c0 : Nat} {f0 : List Int} {f1 : Int} {f2 : Int} (h : W.heap[g]? = some (.cells #[.slice A0 f0.length c0, .int .i64 f1, .int .i64 f2] 58 (0, 0))) : W.cell? ⟨g, 2, none⟩ = some (.int .i64 f2) := (blk_cell h 2).trans rfl
theorem IsS58.set_2 {w0 W : World} {g : Nat} {f0 : List Int} {f1 : Int} {f2 : Int} (h : IsS58 w0 W g f0 f1 f2) (x : Int) : IsS58 w0 (W.setCell ⟨g, 2, none⟩ (.int .i64 x)) g f0 f1 x := by
  obtain ⟨A0, c0, hb, hg, hr0⟩ := h
  exact ⟨A0, c0, by simpa using blk_set hb 2 (.int .i64 x), hg, hr0⟩
theorem IsS58.new (w0 W : World) (A0 : Option Addr) (c0 : Nat) (f0 : List Int) (f1 : Int) (f2 : Int) (hB : Below w0.heap.size w0 W) (hr0 : Kd.C (Kd.int .u8) w0 A0 f0.length f0) : IsS58 w0 (W.alloc (.cells #[.slice A0 f0.length c0, .int .i64 f1, .int .i64 f2] 58)) W.heap.size f0 f1 f2 := ⟨A0, c0, by simpa using heap_alloc_new W _, hB.size, hr0⟩

/-! ### spec_l01Open: function 64 -/
def spec_l01Open.f (l0 : List Int) : Option (List Int × Int × Int) := some (l0, 0, 13 + ((l0.length : Int) % 1000))
set_option maxHeartbeats 8000000 in
set_option maxRecDepth 100000 in
theorem spec_l01Open.calls (A0 : Option Addr) (c0 : Nat) (l0 : List Int) (r1 : List Int) (r2 : Int) (r3 : Int) (w0 w : World) (hB : Below w0.heap.size w0 w) (hr0 : Kd.C (Kd.int .u8) w0 A0 l0.length l0) (hc0 : l0.length ≤ c0) (h : spec_l01Open.f l0 = some (r1, r2, r3)) :
    Calls Try.prog 64 #[.slice A0 l0.length c0] w fun e w' => ∃ g_ : Nat, e = .returned (.pointer (some ⟨g_, 0, none⟩)) ∧ IsS58 w0 w' g_ r1 r2 r3 ∧ Below w0.heap.size w0 w' ∧ Below w.heap.size w w' := by
  have hu58 := Try.underlying58
  have HR0 := Aside0.mk hr0
  have HC0 := Aside0.mk hc0
  clear hr0 hc0
  have HBW := Aside0.mk (Below.refl w.heap.size w)
  have HW0 := Aside0.mk hB.size
  have HB := Aside0.mk hB
  clear hB
  have H : (some (l0, 0, 13 + ((l0.length : Int) % 1000))) = some (r1, r2, r3) := h
  clear h
  simp only [Option.some.injEq, Prod.mk.injEq] at H
  obtain ⟨rfl, rfl, rfl⟩ := H
  go_enter Try.func64, Try.ntmps64
  go_wp2_with (first | ((with_reducible refine gate_dst (N := 9) rfl ?_); refine box_event ?hg (N := 9) ?hd (cs := #[.slice A0 l0.length c0, .int .i64 0, .int .i64 (13 + ((l0.length : Int) % 1000))]) (t := 58) ?hr ?_; (case hd => rfl); (case hg => rfl); (case hr => first | (go_simp; done) | (go_simp; rfl)); intro gb148 hg w2 hbox hb; have n0_ := Aside0.mk (below_step HBW.out hb); have n1_ := Aside0.mk (below_step (by repeat (first | (with_reducible first | exact HB.out | apply below_alloc | apply pw_below_drewN | apply below_drew1) | exact HB.out)) hb); have n2_ := Aside0.mk (hbox); have n3_ := Aside0.mk ((by rw [hg]; exact (below_size (by repeat (first | (with_reducible first | exact HBW.out | apply below_alloc | apply pw_below_drewN | apply below_drew1) | exact HBW.out))) : w.heap.size ≤ gb148)); have n4_ := Aside0.mk ((Nat.le_trans HW0.out (by rw [hg]; exact (below_size (by repeat (first | (with_reducible first | exact HBW.out | apply below_alloc | apply pw_below_drewN | apply below_drew1) | exact HBW.out))) : w.heap.size ≤ gb148) : w0.heap.size ≤ gb148)); clear HBW; clear HB; have HBW := n0_; have HB := n1_; have BK148 := n2_; have GW148 := n3_; have GE148 := n4_; clear n0_ n1_ n2_ n3_ n4_; clear hb hbox hg))
  go_ret
  exact ⟨_, rfl, (show IsS58 w0 _ gb148 l0 0 (13 + ((l0.length : Int) % 1000)) from ⟨_, _, by (with_reducible repeat (first | refine blk_drewN ?_ _ | refine blk_drew ?_ | refine blk_alloc ?_ _)); exact BK148.out, GE148.out, HR0.out⟩), by repeat (first | (with_reducible first | exact HB.out | apply below_alloc | apply pw_below_drewN | apply below_drew1 | refine below_set ?_ GE148.out) | exact HB.out), by repeat (first | (with_reducible first | exact HBW.out | apply below_alloc | apply pw_below_drewN | apply below_drew1 | refine below_set ?_ GW148.out) | exact HBW.out)⟩

theorem open_f (code : List Int) (hc : CodeOk code) : EvP (fun _ => spec_l01Open.f code) (fun r => r.1 = code ∧ CurOk 0 r.2.1 r.2.2) := by
  unfold spec_l01Open.f
  exact evpNow rfl ⟨rfl, ⟨by simp, by simp, by simp only []; omega, by simp only []; omega⟩⟩

end Go.Proofs.Ytdakegolcmcgmaa.CM
