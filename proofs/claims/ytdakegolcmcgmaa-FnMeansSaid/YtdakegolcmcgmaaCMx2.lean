/- Functions that a law of this seat reaches: written by a program of this session (wip/xprint.py), and by hand. -/
import Derived.Test.YtdakegolcmcgmaaCMx0
import Derived.Test.YtdakegolcmcgmaaCMx1
namespace Go.Proofs.Ytdakegolcmcgmaa.CM
open Go.RowKit Go.Proofs.Ytdakegolcmcgmaa.B Go.Proofs.YtdakegolcmcgmaaW.PrintWords Go.Proofs.YtdakegolcmcgmaaW.PrintLast Go.Proofs.YtdakegolcmcgmaaW.PrintMore
attribute [local go_sem] max2_int min2_int max_two min_two max_three min_three max_four min_four   -- for this text's walks alone
set_option linter.unusedVariables false
set_option linter.unusedSimpArgs false

/-! ### impl_Grow_1: function 50 (by hand) -/
set_option maxHeartbeats 8000000 in
set_option maxRecDepth 100000 in
theorem grow1_walk (g0 g1 g2 g3 g4 : Nat) (ad : Addr) (len c : Nat) (y x h nh wd nw m1 m2 m3 m4 m5 v : Int) (j : Nat) (W : World) (h0 : W.cell? ⟨g0, 0, none⟩ = some (.slice (some ad) len c)) (h1 : W.cell? ⟨g1, 0, none⟩ = some (.int .i64 h)) (h2 : W.cell? ⟨g2, 0, none⟩ = some (.int .i64 nh)) (h3 : W.cell? ⟨g3, 0, none⟩ = some (.int .i64 wd)) (h4 : W.cell? ⟨g4, 0, none⟩ = some (.int .i64 nw))
    (hx1 : W.cell? (ad.add j) = some (.int .i64 v)) (hj : j < len) (z1 : ¬ nh = 0) (z2 : ¬ nw = 0)
    (r1 : wrap64 (y * h) = m1) (r2 : wrap64 (m1.tdiv nh) = m2) (r3 : wrap64 (m2 * wd) = m3) (r4 : wrap64 (x * wd) = m4) (r5 : wrap64 (m4.tdiv nw) = m5) (r6 : wrap64 (m3 + m5) = (j : Int)) :
    Calls Try.prog 50 (#[.int .i64 y, .int .i64 x] ++ #[.pointer (some ⟨g0, 0, none⟩), .pointer (some ⟨g1, 0, none⟩), .pointer (some ⟨g2, 0, none⟩), .pointer (some ⟨g3, 0, none⟩), .pointer (some ⟨g4, 0, none⟩)]) W fun e w' => e = .returned (.int .i64 v) ∧ Drawn0 W w' := by
  have s1 : IntKind.i64.wrap (y * h) = m1 := (i64_w _).trans r1
  have s2 : IntKind.i64.wrap (m1.tdiv nh) = m2 := (i64_w _).trans r2
  have s3 : IntKind.i64.wrap (m2 * wd) = m3 := (i64_w _).trans r3
  have s4 : IntKind.i64.wrap (x * wd) = m4 := (i64_w _).trans r4
  have s5 : IntKind.i64.wrap (m4.tdiv nw) = m5 := (i64_w _).trans r5
  have s6 : IntKind.i64.wrap (m3 + m5) = (j : Int) := (i64_w _).trans r6
  have j1 : (0 : Int) ≤ (j : Int) := by omega
  have j2 : (j : Int) < (len : Int) := by omega
  go_enter Try.func50, Try.ntmps50
  go_wp2
  go_quiet (fail)
  go_wp2
  go_ret
  exact ⟨rfl, by repeat (first | exact Drawn0.refl _ | apply Drawn0.step)⟩
theorem mulDiv_lt {y h n : Nat} (hy : y < n) (hh : 1 ≤ h) : y * h / n < h := by
  rw [Nat.div_lt_iff_lt_mul (by omega)]
  have : y * h < n * h := Nat.mul_lt_mul_of_pos_right hy (by omega)
  rw [Nat.mul_comm h n]
  exact this
theorem grid_lt {a b w h : Nat} (ha : a < h) (hb : b < w) : a * w + b < h * w := by
  have h2 : (a + 1) * w ≤ h * w := Nat.mul_le_mul_right _ (by omega)
  rw [Nat.succ_mul] at h2
  omega
/-- The place of a sample of a greater plane, as the code reckons it. -/
theorem grow_vals {h nh wd nw y x : Nat} (k1 : h ≤ 4096) (k2 : nh ≤ 4096) (k3 : wd ≤ 4096) (k4 : nw ≤ 4096) (p1 : 1 ≤ h) (p3 : 1 ≤ wd) (hy : y < nh) (hx : x < nw) :
    wrap64 ((y : Int) * h) = ((y * h : Nat) : Int) ∧ wrap64 (((y * h : Nat) : Int).tdiv nh) = ((y * h / nh : Nat) : Int) ∧ wrap64 (((y * h / nh : Nat) : Int) * wd) = ((y * h / nh * wd : Nat) : Int) ∧
    wrap64 ((x : Int) * wd) = ((x * wd : Nat) : Int) ∧ wrap64 (((x * wd : Nat) : Int).tdiv nw) = ((x * wd / nw : Nat) : Int) ∧
    wrap64 (((y * h / nh * wd : Nat) : Int) + ((x * wd / nw : Nat) : Int)) = ((y * h / nh * wd + x * wd / nw : Nat) : Int) ∧ y * h / nh * wd + x * wd / nw < h * wd := by
  have a1 := mulDiv_lt hy p1
  have a2 := mulDiv_lt hx p3
  have b1 : y * h ≤ 4096 * 4096 := Nat.mul_le_mul (by omega) k1
  have b2 : x * wd ≤ 4096 * 4096 := Nat.mul_le_mul (by omega) k3
  have b3 : y * h / nh * wd ≤ 4096 * 4096 := Nat.mul_le_mul (by omega) k3
  have c1 : (y : Int) * h = ((y * h : Nat) : Int) := by push_cast; rfl
  have c2 : (x : Int) * wd = ((x * wd : Nat) : Int) := by push_cast; rfl
  have c3 : ((y * h / nh : Nat) : Int) * wd = ((y * h / nh * wd : Nat) : Int) := by push_cast; rfl
  have d1 : (((y * h : Nat) : Int).tdiv nh) = ((y * h / nh : Nat) : Int) := by rw [Int.tdiv_eq_ediv_of_nonneg (by omega)]; push_cast; rfl
  have d2 : (((x * wd : Nat) : Int).tdiv nw) = ((x * wd / nw : Nat) : Int) := by rw [Int.tdiv_eq_ediv_of_nonneg (by omega)]; push_cast; rfl
  refine ⟨?_, ?_, ?_, ?_, ?_, ?_, grid_lt a1 a2⟩
  · rw [c1]; clear c1 c2 c3 d1 d2; exact w64n (by omega)
  · rw [d1]; clear c1 c2 c3 d1 d2; exact w64n (by omega)
  · rw [c3]; clear c1 c2 c3 d1 d2; exact w64n (by omega)
  · rw [c2]; clear c1 c2 c3 d1 d2; exact w64n (by omega)
  · rw [d2]; clear c1 c2 c3 d1 d2; exact w64n (by omega)
  · rw [show ((y * h / nh * wd : Nat) : Int) + ((x * wd / nw : Nat) : Int) = ((y * h / nh * wd + x * wd / nw : Nat) : Int) from by push_cast; rfl]
    clear c1 c2 c3 d1 d2; exact w64n (by omega)
/-- The sample of a greater plane. -/
def growS (l : List Int) (b1 b2 b3 b4 : Int) (y x : Int) : Int := rd l (((y.toNat * b2.toNat / b4.toNat * b1.toNat + x.toNat * b1.toNat / b3.toNat : Nat) : Int))
theorem grow1_any (g0 g1 g2 g3 g4 : Nat) (A : Option Addr) (c : Nat) (l : List Int) (h nh wd nw y x : Nat) (W : World) (h0 : W.cell? ⟨g0, 0, none⟩ = some (.slice A l.length c)) (h1 : W.cell? ⟨g1, 0, none⟩ = some (.int .i64 h)) (h2 : W.cell? ⟨g2, 0, none⟩ = some (.int .i64 nh)) (h3 : W.cell? ⟨g3, 0, none⟩ = some (.int .i64 wd)) (h4 : W.cell? ⟨g4, 0, none⟩ = some (.int .i64 nw))
    (hr : Kd.C (Kd.int .i64) W A l.length l) (k1 : h ≤ 4096) (k2 : nh ≤ 4096) (k3 : wd ≤ 4096) (k4 : nw ≤ 4096) (p1 : 1 ≤ h) (p3 : 1 ≤ wd) (hy : y < nh) (hx : x < nw) (hl : l.length = wd * h) :
    Calls Try.prog 50 (#[.int .i64 y, .int .i64 x] ++ #[.pointer (some ⟨g0, 0, none⟩), .pointer (some ⟨g1, 0, none⟩), .pointer (some ⟨g2, 0, none⟩), .pointer (some ⟨g3, 0, none⟩), .pointer (some ⟨g4, 0, none⟩)]) W fun e w' => e = .returned (.int .i64 (growS l wd h nw nh y x)) ∧ Drawn0 W w' := by
  obtain ⟨r1, r2, r3, r4, r5, r6, hj⟩ := grow_vals k1 k2 k3 k4 p1 p3 hy hx
  rw [Nat.mul_comm h wd, ← hl] at hj
  obtain ⟨ad, e2, hx1⟩ := Kd.at_int hr ((y * h / nh * wd + x * wd / nw : Nat) : Int) (Int.natCast_nonneg _) (Int.ofNat_lt.mpr hj)
  cases e2
  rw [Int.toNat_natCast] at hx1
  exact grow1_walk g0 g1 g2 g3 g4 ad l.length c y x h nh wd nw _ _ _ _ _ _ _ W h0 h1 h2 h3 h4 hx1 hj (by omega) (by omega) r1 r2 r3 r4 r5 r6
theorem five_boxes (w : World) (v0 v1 v2 v3 v4 : Value) (t0 t1 n : Nat) :
    let W := (((((w.alloc (.cells #[v0] t0)).alloc (.cells #[v1] t1)).alloc (.cells #[v2] t1)).alloc (.cells #[v3] t1)).alloc (.cells #[v4] t1)).drewN n
    W.cell? ⟨w.heap.size, 0, none⟩ = some v0 ∧ W.cell? ⟨w.heap.size + 1, 0, none⟩ = some v1 ∧ W.cell? ⟨w.heap.size + 2, 0, none⟩ = some v2 ∧ W.cell? ⟨w.heap.size + 3, 0, none⟩ = some v3 ∧ W.cell? ⟨w.heap.size + 4, 0, none⟩ = some v4 ∧ Below w.heap.size w W := by
  refine ⟨by go_simp, by go_simp, by go_simp, by go_simp, by go_simp, ?_⟩
  repeat (first | exact Below.refl _ _ | apply below_alloc | apply pw_below_drewN | apply below_drew1)
theorem grow_samples (w0 W0 : World) (A : Option Addr) (c : Nat) (l : List Int) (b1 b2 b3 b4 : Nat) (hr : Kd.C (Kd.int .i64) w0 A l.length l)
    (H : W0.cell? ⟨w0.heap.size, 0, none⟩ = some (.slice A l.length c) ∧ W0.cell? ⟨w0.heap.size + 1, 0, none⟩ = some (.int .i64 b1) ∧ W0.cell? ⟨w0.heap.size + 2, 0, none⟩ = some (.int .i64 b2) ∧ W0.cell? ⟨w0.heap.size + 3, 0, none⟩ = some (.int .i64 b3) ∧ W0.cell? ⟨w0.heap.size + 4, 0, none⟩ = some (.int .i64 b4) ∧ Below w0.heap.size w0 W0)
    (k1 : b1 ≤ 4096) (k2 : b2 ≤ 4096) (k3 : b3 ≤ 4096) (k4 : b4 ≤ 4096) (p1 : 1 ≤ b1) (p2 : 1 ≤ b2) (kl : l.length = b1 * b2) :
    Samples 50 #[.pointer (some ⟨w0.heap.size, 0, none⟩), .pointer (some ⟨w0.heap.size + 2, 0, none⟩), .pointer (some ⟨w0.heap.size + 4, 0, none⟩), .pointer (some ⟨w0.heap.size + 1, 0, none⟩), .pointer (some ⟨w0.heap.size + 3, 0, none⟩)] (growS l b1 b2 b3 b4) b3 b4 W0 := by
  obtain ⟨h0, h1, h2, h3, h4, hb⟩ := H
  intro W' y x hy hx hb'
  exact grow1_any _ _ _ _ _ A c l b2 b4 b1 b3 y x W' (cell_on hb' h0) (cell_on hb' h2) (cell_on hb' h4) (cell_on hb' h1) (cell_on hb' h3) (Kd.C_below hr (below_step hb hb')) k2 k4 k1 k3 p2 p1 hy hx kl

/-! ### impl_Grow: function 24 (by hand) -/
def growI (l0 : List Int) (a1 a2 a3 a4 : Int) : List Int :=
  if greaterB l0 a1 a2 a3 a4 = true then planeL (growS l0 a1 a2 a3 a4) a3.toNat a4.toNat else []
def impl_Grow.f (l0 : List Int) (a1 a2 a3 a4 : Int) : Option (List Int) := some (growI l0 a1 a2 a3 a4)
set_option maxHeartbeats 8000000 in
set_option maxRecDepth 100000 in
theorem impl_Grow.calls (A0 : Option Addr) (c0 : Nat) (l0 : List Int) (a1 : Int) (a2 : Int) (a3 : Int) (a4 : Int) (r : List Int) (w : World) (hr0 : Kd.C (Kd.int .i64) w A0 l0.length l0) (hc0 : l0.length ≤ c0) (h : impl_Grow.f l0 a1 a2 a3 a4 = some r) :
    Calls Try.prog 24 #[.slice A0 l0.length c0, .int .i64 a1, .int .i64 a2, .int .i64 a3, .int .i64 a4] w fun e w' => ∃ v0_ : Value, e = .returned (v0_) ∧ Kd.R (Kd.int .i64) 3 w' w.heap.size (fun _ => True) v0_ r ∧ Below w.heap.size w w' := by
  obtain rfl := Option.some.inj h
  clear h
  have HR := Aside0.mk hr0
  have HC := Aside0.mk hc0
  clear hr0 hc0
  by_cases hp : greaterB l0 a1 a2 a3 a4 = true
  · have HE := Aside0.mk (show growI l0 a1 a2 a3 a4 = planeL (growS l0 a1 a2 a3 a4) a3.toNat a4.toNat from by unfold growI; rw [if_pos hp])
    have HP := Aside0.mk hp
    clear hp
    obtain ⟨⟨m1, m2, m3, m4, ml⟩, n1, n2, n3, n4⟩ := greater_bounds HP.out
    obtain ⟨b1, rfl⟩ := Int.eq_ofNat_of_zero_le (show 0 ≤ a1 by omega)
    obtain ⟨b2, rfl⟩ := Int.eq_ofNat_of_zero_le (show 0 ≤ a2 by omega)
    obtain ⟨b3, rfl⟩ := Int.eq_ofNat_of_zero_le (show 0 ≤ a3 by omega)
    obtain ⟨b4, rfl⟩ := Int.eq_ofNat_of_zero_le (show 0 ≤ a4 by omega)
    have ML := Aside0.mk (show l0.length = b1 * b2 from by exact_mod_cast ml)
    clear ml
    rw [HE.out]
    clear HE
    go_enter Try.func24, Try.ntmps24
    have hmf : ∀ (fn : Fn) (first cap : Array Value) (w : World), (Instr.makeFunc fn first cap).run Try.prog w = .ok (.func fn first cap) w := fun _ _ _ _ => rfl
    go_wp2_with (first
      | (go_at_call 49; (with_reducible refine (boolCall (isGreater_calls A0 c0 l0 _ _ _ _ _ (by repeat (first | exact HR.out | (with_reducible refine Kd.C_alloc ?_ _) | (with_reducible refine Kd.C_drewN ?_ _) | (with_reducible refine Kd.C_drew ?_))) HC.out) HP.out).mono ?_); rintro e w' ⟨rfl, ⟨nd, rfl⟩⟩))
    go_at_call 47
    refine (impl_plane.calls 50 _ _ b3 b4 (by omega) (by omega) _ (enters_of Try.func50 (by kernel_rfl) rfl) (grow_samples w _ A0 c0 l0 b1 b2 b3 b4 HR.out (five_boxes w _ _ _ _ _ 28 3 _) (by omega) (by omega) (by omega) (by omega) (by omega) (by omega) ML.out)).mono ?_
    rintro e w1 ⟨v, rfl, ho, hb⟩
    have HO := Aside0.mk ho
    have HB := Aside0.mk hb
    clear ho hb
    go_wp2
    go_ret
    exact ⟨_, rfl, Kd.R_lower HO.out (below_size (five_boxes w _ _ _ _ _ 28 3 _).2.2.2.2.2), below_step (five_boxes w _ _ _ _ _ 28 3 _).2.2.2.2.2 HB.out⟩
  · have HE := Aside0.mk (show growI l0 a1 a2 a3 a4 = [] from by unfold growI; rw [if_neg hp])
    have HP := Aside0.mk (Bool.eq_false_iff.mpr hp)
    clear hp
    rw [HE.out]
    clear HE
    go_enter Try.func24, Try.ntmps24
    go_wp2_with (first
      | (go_at_call 49; (with_reducible refine (boolCall (isGreater_calls A0 c0 l0 _ _ _ _ _ (by repeat (first | exact HR.out | (with_reducible refine Kd.C_alloc ?_ _) | (with_reducible refine Kd.C_drewN ?_ _) | (with_reducible refine Kd.C_drew ?_))) HC.out) HP.out).mono ?_); rintro e w' ⟨rfl, ⟨nd, rfl⟩⟩))
    go_ret
    exact ⟨_, rfl, Kd.R_nil _ _ _ _ _, by repeat (first | exact Below.refl _ _ | apply below_alloc | apply pw_below_drewN | apply below_drew1)⟩

/-! ### spec_Grow: function 23 -/
mutual
def spec_Grow.j0 : Nat → List Int → Int → Int → Int → Int → List Int → Bool → Option (List Int)
  | 0, _, _, _, _, _, _, _ => none
  | k + 1, x0, x1, x2, x3, x4, x11, x35 => if x35 = true then (some x11) else (spec_Grow.l0 k x0 x1 x2 x3 x4 x11 0)
def spec_Grow.l0 : Nat → List Int → Int → Int → Int → Int → List Int → Int → Option (List Int)
  | 0, _, _, _, _, _, _, _ => none
  | k + 1, x0, x1, x2, x3, x4, x11, x12 => if x12 < x4 then (spec_Grow.l1 k x0 x1 x2 x3 x4 x11 x12 0) else (some x11)
def spec_Grow.l1 : Nat → List Int → Int → Int → Int → Int → List Int → Int → Int → Option (List Int)
  | 0, _, _, _, _, _, _, _, _ => none
  | k + 1, x0, x1, x2, x3, x4, x11, x12, x13 => if x13 < x3 then (if x4 = 0 then (none) else (if x3 = 0 then (none) else (if 0 ≤ (wrap64 ((wrap64 ((wrap64 (Int.tdiv (wrap64 (x12 * x2)) x4)) * x1)) + (wrap64 (Int.tdiv (wrap64 (x13 * x1)) x3)))) then (if (wrap64 ((wrap64 ((wrap64 (Int.tdiv (wrap64 (x12 * x2)) x4)) * x1)) + (wrap64 (Int.tdiv (wrap64 (x13 * x1)) x3)))) < (x0.length : Int) then (if x11.length < 17592186044416 then (spec_Grow.l1 k x0 x1 x2 x3 x4 (x11 ++ [rd x0 (wrap64 ((wrap64 ((wrap64 (Int.tdiv (wrap64 (x12 * x2)) x4)) * x1)) + (wrap64 (Int.tdiv (wrap64 (x13 * x1)) x3))))]) x12 (wrap64 (x13 + 1))) else (none)) else (none)) else (none)))) else (spec_Grow.l0 k x0 x1 x2 x3 x4 x11 (wrap64 (x12 + 1)))
end
def spec_Grow.f (k : Nat) (l0 : List Int) (a1 : Int) (a2 : Int) (a3 : Int) (a4 : Int) : Option (List Int) := (some (([] : List Int) : List Int)).bind fun y114 => ((spec_PlaneOk.f k l0 a1 a2).bind fun t117 => (if t117 = true then ((spec_l16Sides.f a3 a4).bind fun t118 => (if t118 = true then (if a3 < a1 then (spec_Grow.j0 k l0 a1 a2 a3 a4 y114 true) else (spec_Grow.j0 k l0 a1 a2 a3 a4 y114 (decide (a4 < a2)))) else (spec_Grow.j0 k l0 a1 a2 a3 a4 y114 true))) else (spec_Grow.j0 k l0 a1 a2 a3 a4 y114 true)))
theorem spec_Grow.mono_l : ∀ k, (∀ y0 y1 y2 y3 y4 y5 y6, LeO (spec_Grow.j0 k y0 y1 y2 y3 y4 y5 y6) (spec_Grow.j0 (k + 1) y0 y1 y2 y3 y4 y5 y6)) ∧ (∀ y0 y1 y2 y3 y4 y5 y6, LeO (spec_Grow.l0 k y0 y1 y2 y3 y4 y5 y6) (spec_Grow.l0 (k + 1) y0 y1 y2 y3 y4 y5 y6)) ∧ (∀ y0 y1 y2 y3 y4 y5 y6 y7, LeO (spec_Grow.l1 k y0 y1 y2 y3 y4 y5 y6 y7) (spec_Grow.l1 (k + 1) y0 y1 y2 y3 y4 y5 y6 y7))
  | 0 => ⟨fun _ _ _ _ _ _ _ r h => by simp [spec_Grow.j0] at h, fun _ _ _ _ _ _ _ r h => by simp [spec_Grow.l0] at h, fun _ _ _ _ _ _ _ _ r h => by simp [spec_Grow.l1] at h⟩
  | k + 1 => by
    obtain ⟨ih0, ih1, ih2⟩ := spec_Grow.mono_l k
    refine ⟨?_, ?_, ?_⟩
    · intro y0 y1 y2 y3 y4 y5 y6
      unfold spec_Grow.j0
      repeat' first
      | (with_reducible exact ih0 _ _ _ _ _ _ _)
      | (with_reducible exact ih1 _ _ _ _ _ _ _)
      | (with_reducible exact ih2 _ _ _ _ _ _ _ _)
      | (with_reducible exact spec_PlaneOk.mono _ _ _ _)
      | (with_reducible exact LeO.refl _)
      | (with_reducible exact LeO.none _)
      | (with_reducible refine LeO.ite ?_ ?_)
      | (with_reducible refine LeO.bind ?_ (fun _ => ?_))
      | exact ih0 _ _ _ _ _ _ _
      | exact ih1 _ _ _ _ _ _ _
      | exact ih2 _ _ _ _ _ _ _ _
      | exact spec_PlaneOk.mono _ _ _ _
      | exact LeO.none _
      | refine LeO.ite ?_ ?_
      | refine LeO.bind ?_ (fun _ => ?_)
    · intro y0 y1 y2 y3 y4 y5 y6
      unfold spec_Grow.l0
      repeat' first
      | (with_reducible exact ih0 _ _ _ _ _ _ _)
      | (with_reducible exact ih1 _ _ _ _ _ _ _)
      | (with_reducible exact ih2 _ _ _ _ _ _ _ _)
      | (with_reducible exact spec_PlaneOk.mono _ _ _ _)
      | (with_reducible exact LeO.refl _)
      | (with_reducible exact LeO.none _)
      | (with_reducible refine LeO.ite ?_ ?_)
      | (with_reducible refine LeO.bind ?_ (fun _ => ?_))
      | exact ih0 _ _ _ _ _ _ _
      | exact ih1 _ _ _ _ _ _ _
      | exact ih2 _ _ _ _ _ _ _ _
      | exact spec_PlaneOk.mono _ _ _ _
      | exact LeO.none _
      | refine LeO.ite ?_ ?_
      | refine LeO.bind ?_ (fun _ => ?_)
    · intro y0 y1 y2 y3 y4 y5 y6 y7
      unfold spec_Grow.l1
      repeat' first
      | (with_reducible exact ih0 _ _ _ _ _ _ _)
      | (with_reducible exact ih1 _ _ _ _ _ _ _)
      | (with_reducible exact ih2 _ _ _ _ _ _ _ _)
      | (with_reducible exact spec_PlaneOk.mono _ _ _ _)
      | (with_reducible exact LeO.refl _)
      | (with_reducible exact LeO.none _)
      | (with_reducible refine LeO.ite ?_ ?_)
      | (with_reducible refine LeO.bind ?_ (fun _ => ?_))
      | exact ih0 _ _ _ _ _ _ _
      | exact ih1 _ _ _ _ _ _ _
      | exact ih2 _ _ _ _ _ _ _ _
      | exact spec_PlaneOk.mono _ _ _ _
      | exact LeO.none _
      | refine LeO.ite ?_ ?_
      | refine LeO.bind ?_ (fun _ => ?_)
theorem spec_Grow.mono : ∀ a0 a1 a2 a3 a4 k, LeO (spec_Grow.f k a0 a1 a2 a3 a4) (spec_Grow.f (k + 1) a0 a1 a2 a3 a4) := by
  intro a0 a1 a2 a3 a4 k
  obtain ⟨ih0, ih1, ih2⟩ := spec_Grow.mono_l k
  unfold spec_Grow.f
  repeat' first
      | (with_reducible exact ih0 _ _ _ _ _ _ _)
      | (with_reducible exact ih1 _ _ _ _ _ _ _)
      | (with_reducible exact ih2 _ _ _ _ _ _ _ _)
      | (with_reducible exact spec_PlaneOk.mono _ _ _ _)
      | (with_reducible exact LeO.refl _)
      | (with_reducible exact LeO.none _)
      | (with_reducible refine LeO.ite ?_ ?_)
      | (with_reducible refine LeO.bind ?_ (fun _ => ?_))
      | exact ih0 _ _ _ _ _ _ _
      | exact ih1 _ _ _ _ _ _ _
      | exact ih2 _ _ _ _ _ _ _ _
      | exact spec_PlaneOk.mono _ _ _ _
      | exact LeO.none _
      | refine LeO.ite ?_ ?_
      | refine LeO.bind ?_ (fun _ => ?_)
def spec_Grow.T10 : Bool × List (List Nat × List Nat) := (true, [([], []), ([], []), ([], []), ([], []), ([2, 3], [2, 3]), ([], []), ([4, 5], [4, 5]), ([], []), ([6, 7], [6, 7]), ([], []), ([], []), ([9, 10], [9, 10]), ([], []), ([11, 12], [11, 12]), ([8, 13], [8, 13]), ([1, 14], [1, 14]), ([15], [15]), ([16], [16]), ([0, 17], [0, 17]), ([18, 18, 0, 1, 2, 3, 4, 5, 6, 7, 8, 9, 10, 11, 12, 13, 14, 15, 16, 17, 18], [0, 18])])
def spec_Grow.B10 : List Nat := [0, 0, 0, 0, 12, 0, 60, 0, 252, 0, 0, 1536, 0, 7680, 16380, 32766, 65534, 131070, 262143, 524287]
theorem spec_Grow.tab10 : rtab .any (opsOf Try.f23 10) = spec_Grow.T10 := by kernel_rfl
theorem spec_Grow.bits10 : waitsOk spec_Grow.T10.2 spec_Grow.B10 = true := by kernel_rfl
set_option maxHeartbeats 8000000 in
set_option maxRecDepth 100000 in
theorem spec_Grow.calls (k : Nat) (A0 : Option Addr) (c0 : Nat) (l0 : List Int) (a1 : Int) (a2 : Int) (a3 : Int) (a4 : Int) (r : List Int) (w : World) (hr0 : Kd.C (Kd.int .i64) w A0 l0.length l0) (hc0 : l0.length ≤ c0) (h : spec_Grow.f k l0 a1 a2 a3 a4 = some r) :
    Calls Try.prog 23 #[.slice A0 l0.length c0, .int .i64 a1, .int .i64 a2, .int .i64 a3, .int .i64 a4] w fun e w' => ∃ v0_ : Value, e = .returned (v0_) ∧ Kd.R (Kd.int .i64) 3 w' w.heap.size (fun _ => True) v0_ r ∧ Below w.heap.size w w' := by
  have HR0 := Aside0.mk hr0
  have HC0 := Aside0.mk hc0
  clear hr0 hc0
  have HB := Aside0.mk (Below.refl w.heap.size w)
  have H : ((some (([] : List Int) : List Int)).bind fun y114 => ((spec_PlaneOk.f k l0 a1 a2).bind fun t117 => (if t117 = true then ((spec_l16Sides.f a3 a4).bind fun t118 => (if t118 = true then (if a3 < a1 then (spec_Grow.j0 k l0 a1 a2 a3 a4 y114 true) else (spec_Grow.j0 k l0 a1 a2 a3 a4 y114 (decide (a4 < a2)))) else (spec_Grow.j0 k l0 a1 a2 a3 a4 y114 true))) else (spec_Grow.j0 k l0 a1 a2 a3 a4 y114 true)))) = some r := h
  clear h
  obtain ⟨y114, hy114⟩ : ∃ y_ : List Int, y_ = (([] : List Int)) := ⟨_, rfl⟩
  replace H : ((spec_PlaneOk.f k l0 a1 a2).bind fun t117 => (if t117 = true then ((spec_l16Sides.f a3 a4).bind fun t118 => (if t118 = true then (if a3 < a1 then (spec_Grow.j0 k l0 a1 a2 a3 a4 y114 true) else (spec_Grow.j0 k l0 a1 a2 a3 a4 y114 (decide (a4 < a2)))) else (spec_Grow.j0 k l0 a1 a2 a3 a4 y114 true))) else (spec_Grow.j0 k l0 a1 a2 a3 a4 y114 true))) = some r := by first | (rw [hy114]; with_reducible exact H) | (have H2_ := (Option.bind_some _ _).symm.trans H; rw [hy114]; with_reducible exact H2_) | (have H2_ := (Option.bind_some _ _).symm.trans H; with_reducible exact H2_) | with_reducible exact H | (rw [hy114]; exact H) | exact H
  have Ny114 := Aside0.mk hy114
  clear hy114
  have HC6 := Aside0.mk H
  clear H
  go_enter Try.func23, Try.ntmps23
  go_upto_region 2 with (first | ((with_reducible refine gate_dst (N := 14) rfl ?_); refine Kd.R_lit (Kd.int .i64) _ 3 ?hg (N := 14) ?hd (xs := ([] : List Int)) (inner := []) (ok := fun _ => True) (okp := fun _ => True) ?hr ?hp (fun _ hk => hk) trivial (Below.refl _ _) (Nat.le_refl _) (by simp) ?_; (case hd => rfl); (case hg => rfl); (case hr => first | (go_simp; done) | (go_simp; rfl)); (case hp => exact (Reps.none _ _)); intro v115 w7 ho8 hb hg_ hnew_; clear hg_ hnew_; (first | rw [← Ny114.out] at ho8 | (simp only [Int.reduceToNat] at ho8; rw [← Ny114.out] at ho8)); have n0_ := Aside0.mk (Kd.R_lower ho8 (below_size (by repeat (first | (with_reducible first | exact HB.out | apply below_alloc | apply pw_below_drewN | apply below_drew1) | exact HB.out)))); have n1_ := Aside0.mk (below_step (by repeat (first | (with_reducible first | exact HB.out | apply below_alloc | apply pw_below_drewN | apply below_drew1) | exact HB.out)) hb); clear HB; have HO116 := n0_; have HB := n1_; clear n0_ n1_; clear hb ho8))
  (try simp only [Act.put, List.setIfInBounds_toArray, List.set_cons_zero, List.set_cons_succ])
  go_cut [35] (fun v35 wc => ∃ (kq : Nat) (x35_5 : Bool), v35 = .bool x35_5 ∧ Aside0 (spec_Grow.j0 kq l0 a1 a2 a3 a4 y114 x35_5 = some r) ∧ Aside0 (kq ≤ k) ∧ Aside0 (Kd.R (Kd.int .i64) 3 wc w.heap.size (fun _ => True) v115 y114) ∧ Aside0 (Below w.heap.size w wc))
  case first =>
    have H := HC6.out
    clear HC6
    replace H := Option.bind_eq_some_iff.mp H
    obtain ⟨t117, A90, H⟩ := H
    replace H : (if t117 = true then ((spec_l16Sides.f a3 a4).bind fun t118 => (if t118 = true then (if a3 < a1 then (spec_Grow.j0 k l0 a1 a2 a3 a4 y114 true) else (spec_Grow.j0 k l0 a1 a2 a3 a4 y114 (decide (a4 < a2)))) else (spec_Grow.j0 k l0 a1 a2 a3 a4 y114 true))) else (spec_Grow.j0 k l0 a1 a2 a3 a4 y114 true)) = some r := H
    have A9 := Aside0.mk A90
    clear A90
    by_cases c10 : t117 = true
    · subst c10
      have H1 : ((spec_l16Sides.f a3 a4).bind fun t118 => (if t118 = true then (if a3 < a1 then (spec_Grow.j0 k l0 a1 a2 a3 a4 y114 true) else (spec_Grow.j0 k l0 a1 a2 a3 a4 y114 (decide (a4 < a2)))) else (spec_Grow.j0 k l0 a1 a2 a3 a4 y114 true))) = some r := by rw [if_pos rfl] at H; exact H
      clear H
      have H := H1
      clear H1
      replace H := Option.bind_eq_some_iff.mp H
      obtain ⟨t118, A110, H⟩ := H
      replace H : (if t118 = true then (if a3 < a1 then (spec_Grow.j0 k l0 a1 a2 a3 a4 y114 true) else (spec_Grow.j0 k l0 a1 a2 a3 a4 y114 (decide (a4 < a2)))) else (spec_Grow.j0 k l0 a1 a2 a3 a4 y114 true)) = some r := H
      have A11 := Aside0.mk A110
      clear A110
      by_cases c12 : t118 = true
      · subst c12
        have H1 : (if a3 < a1 then (spec_Grow.j0 k l0 a1 a2 a3 a4 y114 true) else (spec_Grow.j0 k l0 a1 a2 a3 a4 y114 (decide (a4 < a2)))) = some r := by rw [if_pos rfl] at H; exact H
        clear H
        have H := H1
        clear H1
        by_cases c13 : a3 < a1
        · rw [if_pos c13] at H
          have c13b0 : decide (a3 < a1) = true := decide_eq_true c13
          clear c13
          (first | rw [c13b0] | (simp only [i64_w, i32_w]; rw [c13b0]) | skip)
          have H' := Aside0.mk H
          clear H
          go_wp2_with (first | ((with_reducible refine gate_callee (f := 15) rfl ?_); refine goesL_ (some 18) rfl rfl Try.func15 (by kernel_rfl) rfl #[.slice A0 l0.length c0, .int .i64 a1, .int .i64 a2] rfl (by (try simp only [List.map_toArray, List.map_cons, List.map_nil]); first | done | rfl | (simp only [List.length_drop, List.length_take]; rfl)) ?_; (with_reducible refine (spec_PlaneOk.calls k _ _ l0 a1 a2 true _ ?side1 ?side2 A9.out).mono ?_); (case side1 => repeat (first | exact (Kd.C_below HR0.out HB.out) | (with_reducible refine Kd.C_alloc ?_ _) | (with_reducible refine Kd.C_drewN ?_ _) | (with_reducible refine Kd.C_drew ?_))); (case side2 => exact HC0.out); rintro e w' ⟨rfl, ⟨nd, rfl⟩⟩; refine ⟨_, rfl, ?_⟩) | (go_at_call 44; (with_reducible refine (spec_l16Sides.calls a3 a4 true _ A11.out).mono ?_); rintro e w' ⟨rfl, ⟨nd, rfl⟩⟩))
          go_meet
          case rel => exact ⟨_, (true), (by first | rfl | (simp; done) | (simp [*]; done)), H', ⟨by first | omega | exact Nat.le_refl _⟩, ⟨by (with_reducible repeat (first | apply Kd.R_alloc | apply Kd.R_drewN | apply Kd.R_drew)); exact HO116.out⟩, ⟨by repeat (first | (with_reducible first | exact HB.out | apply below_alloc | apply pw_below_drewN | apply below_drew1) | exact HB.out)⟩⟩
        · rw [if_neg c13] at H
          have c13b0 : decide (a3 < a1) = false := decide_eq_false c13
          clear c13
          (first | rw [c13b0] | (simp only [i64_w, i32_w]; rw [c13b0]) | skip)
          have H' := Aside0.mk H
          clear H
          go_wp2_with (first | ((with_reducible refine gate_callee (f := 15) rfl ?_); refine goesL_ (some 18) rfl rfl Try.func15 (by kernel_rfl) rfl #[.slice A0 l0.length c0, .int .i64 a1, .int .i64 a2] rfl (by (try simp only [List.map_toArray, List.map_cons, List.map_nil]); first | done | rfl | (simp only [List.length_drop, List.length_take]; rfl)) ?_; (with_reducible refine (spec_PlaneOk.calls k _ _ l0 a1 a2 true _ ?side1 ?side2 A9.out).mono ?_); (case side1 => repeat (first | exact (Kd.C_below HR0.out HB.out) | (with_reducible refine Kd.C_alloc ?_ _) | (with_reducible refine Kd.C_drewN ?_ _) | (with_reducible refine Kd.C_drew ?_))); (case side2 => exact HC0.out); rintro e w' ⟨rfl, ⟨nd, rfl⟩⟩; refine ⟨_, rfl, ?_⟩) | (go_at_call 44; (with_reducible refine (spec_l16Sides.calls a3 a4 true _ A11.out).mono ?_); rintro e w' ⟨rfl, ⟨nd, rfl⟩⟩))
          go_meet
          case rel => exact ⟨_, (decide (a4 < a2)), (by first | rfl | (simp; done) | (simp [*]; done)), H', ⟨by first | omega | exact Nat.le_refl _⟩, ⟨by (with_reducible repeat (first | apply Kd.R_alloc | apply Kd.R_drewN | apply Kd.R_drew)); exact HO116.out⟩, ⟨by repeat (first | (with_reducible first | exact HB.out | apply below_alloc | apply pw_below_drewN | apply below_drew1) | exact HB.out)⟩⟩
      · replace c12 := Bool.eq_false_iff.mpr c12
        subst c12
        have H1 : (spec_Grow.j0 k l0 a1 a2 a3 a4 y114 true) = some r := by rw [if_neg (show ¬ (false = true) by decide)] at H; exact H
        clear H
        have H := H1
        clear H1
        have H' := Aside0.mk H
        clear H
        go_wp2_with (first | ((with_reducible refine gate_callee (f := 15) rfl ?_); refine goesL_ (some 18) rfl rfl Try.func15 (by kernel_rfl) rfl #[.slice A0 l0.length c0, .int .i64 a1, .int .i64 a2] rfl (by (try simp only [List.map_toArray, List.map_cons, List.map_nil]); first | done | rfl | (simp only [List.length_drop, List.length_take]; rfl)) ?_; (with_reducible refine (spec_PlaneOk.calls k _ _ l0 a1 a2 true _ ?side1 ?side2 A9.out).mono ?_); (case side1 => repeat (first | exact (Kd.C_below HR0.out HB.out) | (with_reducible refine Kd.C_alloc ?_ _) | (with_reducible refine Kd.C_drewN ?_ _) | (with_reducible refine Kd.C_drew ?_))); (case side2 => exact HC0.out); rintro e w' ⟨rfl, ⟨nd, rfl⟩⟩; refine ⟨_, rfl, ?_⟩) | (go_at_call 44; (with_reducible refine (spec_l16Sides.calls a3 a4 false _ A11.out).mono ?_); rintro e w' ⟨rfl, ⟨nd, rfl⟩⟩))
        go_meet
        case rel => exact ⟨_, (true), (by first | rfl | (simp; done) | (simp [*]; done)), H', ⟨by first | omega | exact Nat.le_refl _⟩, ⟨by (with_reducible repeat (first | apply Kd.R_alloc | apply Kd.R_drewN | apply Kd.R_drew)); exact HO116.out⟩, ⟨by repeat (first | (with_reducible first | exact HB.out | apply below_alloc | apply pw_below_drewN | apply below_drew1) | exact HB.out)⟩⟩
    · replace c10 := Bool.eq_false_iff.mpr c10
      subst c10
      have H1 : (spec_Grow.j0 k l0 a1 a2 a3 a4 y114 true) = some r := by rw [if_neg (show ¬ (false = true) by decide)] at H; exact H
      clear H
      have H := H1
      clear H1
      have H' := Aside0.mk H
      clear H
      go_wp2_with (first | ((with_reducible refine gate_callee (f := 15) rfl ?_); refine goesL_ (some 18) rfl rfl Try.func15 (by kernel_rfl) rfl #[.slice A0 l0.length c0, .int .i64 a1, .int .i64 a2] rfl (by (try simp only [List.map_toArray, List.map_cons, List.map_nil]); first | done | rfl | (simp only [List.length_drop, List.length_take]; rfl)) ?_; (with_reducible refine (spec_PlaneOk.calls k _ _ l0 a1 a2 false _ ?side1 ?side2 A9.out).mono ?_); (case side1 => repeat (first | exact (Kd.C_below HR0.out HB.out) | (with_reducible refine Kd.C_alloc ?_ _) | (with_reducible refine Kd.C_drewN ?_ _) | (with_reducible refine Kd.C_drew ?_))); (case side2 => exact HC0.out); rintro e w' ⟨rfl, ⟨nd, rfl⟩⟩; refine ⟨_, rfl, ?_⟩))
      go_meet
      case rel => exact ⟨_, (true), (by first | rfl | (simp; done) | (simp [*]; done)), H', ⟨by first | omega | exact Nat.le_refl _⟩, ⟨by (with_reducible repeat (first | apply Kd.R_alloc | apply Kd.R_drewN | apply Kd.R_drew)); exact HO116.out⟩, ⟨by repeat (first | (with_reducible first | exact HB.out | apply below_alloc | apply pw_below_drewN | apply below_drew1) | exact HB.out)⟩⟩
  case rest =>
    clear HC6
    try clear c1
    try clear c2
    try clear p2
    try clear c10
    try clear c12
    try clear c13
    try clear c13b0
    obtain ⟨kq, x35_5, rfl, HA, HJ5, HO_11, HB⟩ := hcut
    cases kq with
    | zero => exact absurd HA.out (by simp [spec_Grow.j0])
    | succ kj5 =>
      have H := HA.out
      clear HA
      simp only [spec_Grow.j0] at H
      by_cases c14 : x35_5 = true
      · subst c14
        have H1 : (some y114) = some r := by rw [if_pos rfl] at H; exact H
        clear H
        have H := H1
        clear H1
        obtain rfl := Option.some.inj H
        go_wp2
        go_ret
        exact ⟨_, by first | rfl | (simp [errW_none, errW_some] <;> rfl) | (simp [*, errW_none, errW_some] <;> rfl), by (with_reducible repeat (first | apply Kd.R_alloc | apply Kd.R_drewN | apply Kd.R_drew)); exact HO_11.out, by repeat (first | (with_reducible first | exact HB.out | apply below_alloc | apply pw_below_drewN | apply below_drew1) | exact HB.out)⟩
      · replace c14 := Bool.eq_false_iff.mpr c14
        subst c14
        have H1 : (spec_Grow.l0 kj5 l0 a1 a2 a3 a4 y114 0) = some r := by rw [if_neg (show ¬ (false = true) by decide)] at H; exact H
        clear H
        have H := H1
        clear H1
        have H' := Aside0.mk H
        clear H
        go_wp2
        go_loopg [11, 12] kj5 (fun kq v11 v12 w' => ∃ (x11_2 : List Int) (x12_2 : Int), v12 = .int .i64 x12_2 ∧ Aside0 (spec_Grow.l0 kq l0 a1 a2 a3 a4 x11_2 x12_2 = some r) ∧ Aside0 (kq ≤ kj5) ∧ Aside0 (Kd.R (Kd.int .i64) 3 w' w.heap.size (fun _ => True) v11 x11_2) ∧ Aside0 (Below w.heap.size w w'))
        case atStart => exact ⟨(y114), (0), (by first | rfl | (simp; done) | (simp [*]; done)), H', ⟨Nat.le_refl _⟩, ⟨by (with_reducible repeat (first | apply Kd.R_alloc | apply Kd.R_drewN | apply Kd.R_drew)); exact HO_11.out⟩, ⟨by repeat (first | (with_reducible first | exact HB.out | apply below_alloc | apply pw_below_drewN | apply below_drew1) | exact HB.out)⟩⟩
        case round =>
          clear H'
          try clear c1
          try clear c2
          try clear p2
          try clear c10
          try clear c12
          try clear c13
          try clear c13b0
          try clear c14
          try clear p2
          obtain ⟨x11_2, x12_2, rfl, HA, HK2, HO_11, HB⟩ := hrel
          cases gk with
          | zero => exact absurd HA.out (by simp [spec_Grow.l0])
          | succ k2 =>
            have H := HA.out
            clear HA
            simp only [spec_Grow.l0] at H
            by_cases c15 : x12_2 < a4
            · rw [if_pos c15] at H
              have c15b0 : decide (x12_2 < a4) = true := decide_eq_true c15
              clear c15
              have H' := Aside0.mk H
              clear H
              go_wp2
              go_loopg [11, 13] k2 (fun kq v11 v13 w' => ∃ (x11_3 : List Int) (x13_3 : Int), v13 = .int .i64 x13_3 ∧ Aside0 (spec_Grow.l1 kq l0 a1 a2 a3 a4 x11_3 x12_2 x13_3 = some r) ∧ Aside0 (kq ≤ k2) ∧ Aside0 (Kd.R (Kd.int .i64) 3 w' w.heap.size (fun _ => True) v11 x11_3) ∧ Aside0 (Below w.heap.size w w'))
              case atStart => exact ⟨(x11_2), (0), (by first | rfl | (simp; done) | (simp [*]; done)), H', ⟨Nat.le_refl _⟩, ⟨by (with_reducible repeat (first | apply Kd.R_alloc | apply Kd.R_drewN | apply Kd.R_drew)); exact HO_11.out⟩, ⟨by repeat (first | (with_reducible first | exact HB.out | apply below_alloc | apply pw_below_drewN | apply below_drew1) | exact HB.out)⟩⟩
              case round =>
                clear H'
                try clear c1
                try clear c2
                try clear p2
                try clear c10
                try clear c12
                try clear c13
                try clear c13b0
                try clear c14
                try clear c15
                try clear c15b0
                try clear p2
                obtain ⟨x11_3, x13_3, rfl, HA, HK3, HO_11, HB⟩ := hrel
                cases gk with
                | zero => exact absurd HA.out (by simp [spec_Grow.l1])
                | succ k3 =>
                  have H := HA.out
                  clear HA
                  simp only [spec_Grow.l1] at H
                  by_cases c16 : x13_3 < a3
                  · rw [if_pos c16] at H
                    have c16b0 : decide (x13_3 < a3) = true := decide_eq_true c16
                    clear c16
                    by_cases c17 : a4 = 0
                    · rw [if_pos c17] at H
                      exact absurd H (by simp)
                    · rw [if_neg c17] at H
                      have c17b0 : (a4 == 0) = false := beq_eq_false_iff_ne.mpr c17
                      have c17b1 : (a4 != 0) = true := bne_iff_ne.mpr c17
                      by_cases c18 : a3 = 0
                      · rw [if_pos c18] at H
                        exact absurd H (by simp)
                      · rw [if_neg c18] at H
                        have c18b0 : (a3 == 0) = false := beq_eq_false_iff_ne.mpr c18
                        have c18b1 : (a3 != 0) = true := bne_iff_ne.mpr c18
                        obtain ⟨ji19, hji19⟩ : ∃ j_ : Int, (wrap64 ((wrap64 ((wrap64 (Int.tdiv (wrap64 (x12_2 * a2)) a4)) * a1)) + (wrap64 (Int.tdiv (wrap64 (x13_3 * a1)) a3)))) = j_ := ⟨_, rfl⟩
                        replace H : (if 0 ≤ (ji19) then (if (ji19) < (l0.length : Int) then (if x11_3.length < 17592186044416 then (spec_Grow.l1 k3 l0 a1 a2 a3 a4 (x11_3 ++ [rd l0 (ji19)]) x12_2 (wrap64 (x13_3 + 1))) else (none)) else (none)) else (none)) = some r := by first | (rw [hji19] at H; exact H) | (simp only [hji19] at H ⊢; exact H)
                        have hji19w : (IntKind.i64.wrap ((wrap64 ((wrap64 (Int.tdiv (wrap64 (x12_2 * a2)) a4)) * a1)) + (wrap64 (Int.tdiv (wrap64 (x13_3 * a1)) a3)))) = ji19 := (i64_w _).trans hji19
                        by_cases c20 : 0 ≤ (ji19)
                        · rw [if_pos c20] at H
                          have c20b0 : decide (0 ≤ (ji19)) = true := decide_eq_true c20
                          clear c20
                          by_cases c21 : (ji19) < (l0.length : Int)
                          · rw [if_pos c21] at H
                            have c21b0 : decide ((ji19) < (l0.length : Int)) = true := decide_eq_true c21
                            clear c21
                            by_cases c22 : x11_3.length < 17592186044416
                            · rw [if_pos c22] at H
                              have LMc22 := Aside0.mk c22
                              clear c22
                              obtain ⟨y120, hy120⟩ : ∃ y_ : List Int, y_ = (x11_3 ++ [rd l0 (ji19)]) := ⟨_, rfl⟩
                              replace H : (spec_Grow.l1 k3 l0 a1 a2 a3 a4 y120 x12_2 (wrap64 (x13_3 + 1))) = some r := by first | (rw [hy120]; with_reducible exact H) | (have H2_ := (Option.bind_some _ _).symm.trans H; rw [hy120]; with_reducible exact H2_) | (have H2_ := (Option.bind_some _ _).symm.trans H; with_reducible exact H2_) | with_reducible exact H | (rw [hy120]; exact H) | exact H
                              have Ny120 := Aside0.mk hy120
                              clear hy120
                              have H' := Aside0.mk H
                              clear H
                              try go_wp2
                              have n0_ := Aside0.mk (Kd.R_drew HO_11.out)
                              have n1_ := Aside0.mk (below_drew1 HB.out)
                              clear HO_11
                              clear HB
                              have HO_11 := n0_
                              have HB := n1_
                              clear n0_ n1_
                              have p119 : 0 ≤ ((ji19) : Int) := of_decide_eq_true (by first | (with_reducible assumption) | assumption)
                              have q119 : (ji19) < (l0.length : Int) := of_decide_eq_true (by first | (with_reducible assumption) | assumption)
                              obtain ⟨ad119, e119, hx119_0⟩ := Kd.at_int HR0.out (ji19) p119 q119
                              have hw119_0 := hx119_0
                              cases e119
                              replace hx119_0 := (HB.out.cell (World.block_lt_of_cell? w _ hx119_0)).trans hx119_0
                              replace p119 := eq_true p119
                              replace q119 := eq_true q119
                              refine start_ (n := 20) (S := fun w' => w'.cell? (ad119.add ((ji19)).toNat) = some (.int .i64 (rd l0 (ji19)))) (ds := []) #[false, false, false, false, false, false, false, false, false, false, false, false, false, false, false, false, false, false, false, false] (by kernel_rfl) rfl rfl (((HB.out.cell (World.block_lt_of_cell? w _ hw119_0)).trans hw119_0)) (fun hHeld => ?_); refine with_tabW spec_Grow.tab10 spec_Grow.bits10 (fun HT_ HW_ => ?_)
                              generalize wr.drew = w23 at HO_11 HB hx119_0 hHeld ⊢
                              refine pure_ (i := 0) (N := some 47) (v := ?_) (a' := ?_) #[true, false, false, false, false, false, false, false, false, false, false, false, false, false, false, false, false, false, false, false] rfl rfl (any_of HT_.out (by kernel_rfl)) (fun _ _ _ h => h) (Or.inl ⟨by rfl, ?_⟩) ?_ ?_
                              rotate_left
                              · intro w'
                                go_simp
                                with_reducible rfl
                              rotate_left
                              · simp only [Act.put, List.setIfInBounds_toArray, List.set_cons_zero, List.set_cons_succ, i64_w, i32_w]
                                rfl
                              refine pure_ (i := 1) (N := some 48) (v := ?_) (a' := ?_) #[true, true, false, false, false, false, false, false, false, false, false, false, false, false, false, false, false, false, false, false] rfl rfl (any_of HT_.out (by kernel_rfl)) (fun _ _ _ h => h) (Or.inl ⟨by rfl, ?_⟩) ?_ ?_
                              rotate_left
                              · intro w'
                                go_simp
                                with_reducible rfl
                              rotate_left
                              · simp only [Act.put, List.setIfInBounds_toArray, List.set_cons_zero, List.set_cons_succ, i64_w, i32_w]
                                rfl
                              refine pure_ (i := 2) (N := some 49) (v := ?_) (a' := ?_) #[true, true, true, false, false, false, false, false, false, false, false, false, false, false, false, false, false, false, false, false] rfl rfl (any_of HT_.out (by kernel_rfl)) (fun _ _ _ h => h) (Or.inl ⟨by rfl, ?_⟩) ?_ ?_
                              rotate_left
                              · intro w'
                                go_simp
                                with_reducible rfl
                              rotate_left
                              · simp only [Act.put, List.setIfInBounds_toArray, List.set_cons_zero, List.set_cons_succ, i64_w, i32_w]
                                rfl
                              refine pure_ (i := 3) (N := some 50) (v := ?_) (a' := ?_) #[true, true, true, true, false, false, false, false, false, false, false, false, false, false, false, false, false, false, false, false] rfl rfl (any_of HT_.out (by kernel_rfl)) (fun _ _ _ h => h) (Or.inl ⟨by rfl, ?_⟩) ?_ ?_
                              rotate_left
                              · intro w'
                                go_simp
                                with_reducible rfl
                              rotate_left
                              · simp only [Act.put, List.setIfInBounds_toArray, List.set_cons_zero, List.set_cons_succ, i64_w, i32_w]
                                rfl
                              refine pure_ (i := 4) (N := some 51) (v := ?_) (a' := ?_) #[true, true, true, true, true, false, false, false, false, false, false, false, false, false, false, false, false, false, false, false] rfl rfl (any_of HT_.out (by kernel_rfl)) (fun _ _ _ h => h) (Or.inl ⟨by rfl, ?_⟩) ?_ ?_
                              rotate_left
                              · intro w'
                                go_simp
                                with_reducible rfl
                              rotate_left
                              · simp only [Act.put, List.setIfInBounds_toArray, List.set_cons_zero, List.set_cons_succ, i64_w, i32_w]
                                rfl
                              refine pure_ (i := 5) (N := some 52) (v := ?_) (a' := ?_) #[true, true, true, true, true, true, false, false, false, false, false, false, false, false, false, false, false, false, false, false] rfl rfl (any_of HT_.out (by kernel_rfl)) (fun _ _ _ h => h) (Or.inl ⟨by rfl, ?_⟩) ?_ ?_
                              rotate_left
                              · intro w'
                                go_simp
                                with_reducible rfl
                              rotate_left
                              · simp only [Act.put, List.setIfInBounds_toArray, List.set_cons_zero, List.set_cons_succ, i64_w, i32_w]
                                rfl
                              refine pure_ (i := 6) (N := some 53) (v := ?_) (a' := ?_) #[true, true, true, true, true, true, true, false, false, false, false, false, false, false, false, false, false, false, false, false] rfl rfl (any_of HT_.out (by kernel_rfl)) (fun _ _ _ h => h) (Or.inl ⟨by rfl, ?_⟩) ?_ ?_
                              rotate_left
                              · intro w'
                                go_simp
                                with_reducible rfl
                              rotate_left
                              · simp only [Act.put, List.setIfInBounds_toArray, List.set_cons_zero, List.set_cons_succ, i64_w, i32_w]
                                rfl
                              refine pure_ (i := 7) (N := some 54) (v := ?_) (a' := ?_) #[true, true, true, true, true, true, true, true, false, false, false, false, false, false, false, false, false, false, false, false] rfl rfl (any_of HT_.out (by kernel_rfl)) (fun _ _ _ h => h) (Or.inl ⟨by rfl, ?_⟩) ?_ ?_
                              rotate_left
                              · intro w'
                                go_simp
                                with_reducible rfl
                              rotate_left
                              · simp only [Act.put, List.setIfInBounds_toArray, List.set_cons_zero, List.set_cons_succ, i64_w, i32_w]
                                rfl
                              refine pure_ (i := 8) (N := some 55) (v := ?_) (a' := ?_) #[true, true, true, true, true, true, true, true, true, false, false, false, false, false, false, false, false, false, false, false] rfl rfl (any_of HT_.out (by kernel_rfl)) (fun _ _ _ h => h) (Or.inl ⟨by rfl, ?_⟩) ?_ ?_
                              rotate_left
                              · intro w'
                                go_simp
                                with_reducible rfl
                              rotate_left
                              · simp only [Act.put, List.setIfInBounds_toArray, List.set_cons_zero, List.set_cons_succ, i64_w, i32_w]
                                rfl
                              refine pure_ (i := 9) (N := some 56) (v := ?_) (a' := ?_) #[true, true, true, true, true, true, true, true, true, true, false, false, false, false, false, false, false, false, false, false] rfl rfl (any_of HT_.out (by kernel_rfl)) (fun _ _ _ h => h) (Or.inl ⟨by rfl, ?_⟩) ?_ ?_
                              rotate_left
                              · intro w'
                                go_simp
                                with_reducible rfl
                              rotate_left
                              · simp only [Act.put, List.setIfInBounds_toArray, List.set_cons_zero, List.set_cons_succ, i64_w, i32_w]
                                rfl
                              refine pure_ (i := 10) (N := some 57) (v := ?_) (a' := ?_) #[true, true, true, true, true, true, true, true, true, true, true, false, false, false, false, false, false, false, false, false] rfl rfl (any_of HT_.out (by kernel_rfl)) (fun _ _ _ h => h) (Or.inl ⟨by rfl, ?_⟩) ?_ ?_
                              rotate_left
                              · intro w'
                                go_simp
                                with_reducible rfl
                              rotate_left
                              · simp only [Act.put, List.setIfInBounds_toArray, List.set_cons_zero, List.set_cons_succ, i64_w, i32_w]
                                rfl
                              refine pure_ (i := 11) (N := some 58) (v := ?_) (a' := ?_) #[true, true, true, true, true, true, true, true, true, true, true, true, false, false, false, false, false, false, false, false] rfl rfl (any_of HT_.out (by kernel_rfl)) (fun _ _ _ h => h) (Or.inl ⟨by rfl, ?_⟩) ?_ ?_
                              rotate_left
                              · intro w'
                                go_simp
                                with_reducible rfl
                              rotate_left
                              · simp only [Act.put, List.setIfInBounds_toArray, List.set_cons_zero, List.set_cons_succ, i64_w, i32_w]
                                rfl
                              refine pure_ (i := 12) (N := some 59) (v := ?_) (a' := ?_) #[true, true, true, true, true, true, true, true, true, true, true, true, true, false, false, false, false, false, false, false] rfl rfl (any_of HT_.out (by kernel_rfl)) (fun _ _ _ h => h) (Or.inl ⟨by rfl, ?_⟩) ?_ ?_
                              rotate_left
                              · intro w'
                                go_simp
                                with_reducible rfl
                              rotate_left
                              · simp only [Act.put, List.setIfInBounds_toArray, List.set_cons_zero, List.set_cons_succ, i64_w, i32_w]
                                rfl
                              refine pure_ (i := 13) (N := some 60) (v := ?_) (a' := ?_) #[true, true, true, true, true, true, true, true, true, true, true, true, true, true, false, false, false, false, false, false] rfl rfl (any_of HT_.out (by kernel_rfl)) (fun _ _ _ h => h) (Or.inl ⟨by rfl, ?_⟩) ?_ ?_
                              rotate_left
                              · intro w'
                                go_simp
                                with_reducible rfl
                              rotate_left
                              · simp only [Act.put, List.setIfInBounds_toArray, List.set_cons_zero, List.set_cons_succ, i64_w, i32_w]
                                rfl
                              refine pure_ (i := 14) (N := some 61) (v := ?_) (a' := ?_) #[true, true, true, true, true, true, true, true, true, true, true, true, true, true, true, false, false, false, false, false] rfl rfl (any_of HT_.out (by kernel_rfl)) (fun _ _ _ h => h) (Or.inl ⟨by rfl, ?_⟩) ?_ ?_
                              rotate_left
                              · intro w'
                                go_simp
                                with_reducible rfl
                              rotate_left
                              · simp only [Act.put, List.setIfInBounds_toArray, List.set_cons_zero, List.set_cons_succ, i64_w, i32_w]
                                rfl
                              refine pure_ (i := 15) (N := some 62) (v := ?_) (a' := ?_) #[true, true, true, true, true, true, true, true, true, true, true, true, true, true, true, true, false, false, false, false] rfl rfl (any_of HT_.out (by kernel_rfl)) (fun _ _ _ h => h) (Or.inl ⟨by rfl, ?_⟩) ?_ ?_
                              rotate_left
                              · intro w'
                                go_simp
                                with_reducible rfl
                              rotate_left
                              · simp only [Act.put, List.setIfInBounds_toArray, List.set_cons_zero, List.set_cons_succ, i64_w, i32_w]
                                rfl
                              refine take_ (i := 16) (N := some 63) (v := ?_) (a' := ?_) #[true, true, true, true, true, true, true, true, true, true, true, true, true, true, true, true, true, false, false, false] rfl rfl (take_ofW HT_.out HW_.out (by kernel_rfl)) (fun _ _ _ h => h) (Or.inl ⟨by rfl, ?_⟩) hHeld ?_ ?_
                              rotate_left
                              · intro w' s0
                                go_simp
                                with_reducible rfl
                              rotate_left
                              · simp only [Act.put, List.setIfInBounds_toArray, List.set_cons_zero, List.set_cons_succ, i64_w, i32_w]
                                rfl
                              refine one_ (i := 17) (N := some 64) #[true, true, true, true, true, true, true, true, true, true, true, true, true, true, true, true, true, true, false, false] rfl rfl (one_of HT_.out (by kernel_rfl)) (by decide) (fun K hK => ?_)
                              refine value_ (w1 := ?_) (v := ?_) (by rfl) rfl ?_ ?_
                              rotate_left 2
                              · go_simp
                                constructor
                                · rfl
                                · rfl
                              refine hK.out _ _ ((World.cell?_alloc_lt _ _ _ (World.block_lt_of_cell? _ _ (((HB.out.cell (World.block_lt_of_cell? w _ hw119_0)).trans hw119_0)))).trans (((HB.out.cell (World.block_lt_of_cell? w _ hw119_0)).trans hw119_0))) (fun hHeld => ?_)
                              clear hK K
                              refine norm_ (a' := ?_) ?_ ?_
                              rotate_left
                              · show Act.put _ (some 64) _ = _
                                simp only [Act.put, List.setIfInBounds_toArray, List.set_cons_zero, List.set_cons_succ, i64_w, i32_w]
                                rfl
                              refine one_ (i := 18) (N := some 65) #[true, true, true, true, true, true, true, true, true, true, true, true, true, true, true, true, true, true, true, false] rfl rfl (one_of HT_.out (by kernel_rfl)) (by decide) (fun K hK => ?_)
                              refine Kd.R_append_step (Kd.int .i64) (w0 := w) w.heap.size (by rfl) (.tmp 47) (.tmp 64) 28 3 (.int .i64 0) 8 rfl Try.underlying28 info3 rfl (by decide) (by omega) u11 x11_3 (rd l0 (ji19)) [.int .i64 (rd l0 (ji19))] (fun _ => True) (fun _ => False) rfl rfl ?aP (fun _ hk => hk.elim) ?aF ?aO ?aB ?aS ?aL ?_
                              (case aP => exact rfl)
                              (case aB => exact (by repeat (first | (with_reducible first | exact HB.out | apply below_alloc | apply pw_below_drewN | apply below_drew1) | exact HB.out)))
                              (case aF => exact (fun _ _ => trivial))
                              (case aO => exact (by (with_reducible repeat (first | apply Kd.R_alloc | apply Kd.R_drewN | apply Kd.R_drew)); exact HO_11.out))
                              (case aS => exact (below_size (by repeat (first | (with_reducible first | exact HB.out | apply below_alloc | apply pw_below_drewN | apply below_drew1) | exact HB.out))))
                              (case aL => have := LMc22.out; omega)
                              intro v121 w24 ho hb hg hat
                              rw [← Ny120.out] at ho
                              have n0_ := Aside0.mk (hb)
                              have n1_ := Aside0.mk (ho)
                              clear HB
                              clear HO_11
                              have HB := n0_
                              have HO122 := n1_
                              clear n0_ n1_
                              clear ho hb hg hat
                              refine hK.out _ _ (((HB.out.cell (World.block_lt_of_cell? w _ hw119_0)).trans hw119_0)) (fun hHeld => ?_)
                              clear hK K
                              refine norm_ (a' := ?_) ?_ ?_
                              rotate_left
                              · show Act.put _ (some 65) _ = _
                                simp only [Act.put, List.setIfInBounds_toArray, List.set_cons_zero, List.set_cons_succ, i64_w, i32_w]
                                rfl
                              refine pure_ (i := 19) (N := some 11) (v := ?_) (a' := ?_) #[true, true, true, true, true, true, true, true, true, true, true, true, true, true, true, true, true, true, true, true] rfl rfl (any_of HT_.out (by kernel_rfl)) (fun _ _ _ h => h) (Or.inl ⟨by rfl, ?_⟩) ?_ ?_
                              rotate_left
                              · intro w'
                                go_simp
                                with_reducible rfl
                              rotate_left
                              · simp only [Act.put, List.setIfInBounds_toArray, List.set_cons_zero, List.set_cons_succ, i64_w, i32_w]
                                rfl
                              refine done_ (done_of HT_.out (by kernel_rfl)) ?_
                              try go_wp2
                              go_roundg k3
                              case measure => have := HJ5.out; have := HK2.out; have := HK3.out; omega
                              case rel => exact ⟨(y120), (wrap64 (x13_3 + 1)), (by first | rfl | (simp; done) | (simp [*]; done)), H', ⟨by have := HJ5.out; have := HK2.out; have := HK3.out; omega⟩, ⟨by (with_reducible repeat (first | apply Kd.R_alloc | apply Kd.R_drewN | apply Kd.R_drew)); exact HO122.out⟩, ⟨by repeat (first | (with_reducible first | exact HB.out | apply below_alloc | apply pw_below_drewN | apply below_drew1) | exact HB.out)⟩⟩
                            · rw [if_neg c22] at H
                              exact absurd H (by simp)
                          · rw [if_neg c21] at H
                            exact absurd H (by simp)
                        · rw [if_neg c20] at H
                          exact absurd H (by simp)
                  · rw [if_neg c16] at H
                    have c16b0 : decide (x13_3 < a3) = false := decide_eq_false c16
                    clear c16
                    have H' := Aside0.mk H
                    clear H
                    go_wp2
                    go_roundg k3
                    case measure => have := HJ5.out; have := HK2.out; have := HK3.out; omega
                    case rel => exact ⟨(x11_3), (wrap64 (x12_2 + 1)), (by first | rfl | (simp; done) | (simp [*]; done)), H', ⟨by have := HJ5.out; have := HK2.out; have := HK3.out; omega⟩, ⟨by (with_reducible repeat (first | apply Kd.R_alloc | apply Kd.R_drewN | apply Kd.R_drew)); exact HO_11.out⟩, ⟨by repeat (first | (with_reducible first | exact HB.out | apply below_alloc | apply pw_below_drewN | apply below_drew1) | exact HB.out)⟩⟩
            · rw [if_neg c15] at H
              have c15b0 : decide (x12_2 < a4) = false := decide_eq_false c15
              clear c15
              obtain rfl := Option.some.inj H
              go_wp2
              go_ret
              exact ⟨_, by first | rfl | (simp [errW_none, errW_some] <;> rfl) | (simp [*, errW_none, errW_some] <;> rfl), by (with_reducible repeat (first | apply Kd.R_alloc | apply Kd.R_drewN | apply Kd.R_drew)); exact HO_11.out, by repeat (first | (with_reducible first | exact HB.out | apply below_alloc | apply pw_below_drewN | apply below_drew1) | exact HB.out)⟩

theorem sGrow_l0 (l : List Int) (b1 b2 b3 b4 : Nat) (k1 : b1 ≤ 4096) (k2 : b2 ≤ 4096) (k3 : b3 ≤ 4096) (k4 : b4 ≤ 4096) (p1 : 1 ≤ b1) (p2 : 1 ≤ b2) (kl : l.length = b1 * b2) :
    Ev (fun k => spec_Grow.l0 k l b1 b2 b3 b4 [] 0) (planeL (growS l b1 b2 b3 b4) b3 b4) := by
  refine evPlane (fun k out y => spec_Grow.l0 k l b1 b2 b3 b4 out y) (fun k out y x => spec_Grow.l1 k l b1 b2 b3 b4 out y x) (growS l b1 b2 b3 b4) b3 b4 k3 k4 ?_ ?_ ?_ ?_
  · intro out y x r hy hx ho h
    obtain ⟨r1, r2, r3, r4, r5, r6, hj⟩ := grow_vals k2 k4 k1 k3 p2 p1 hy hx
    rw [Nat.mul_comm b2 b1, ← kl] at hj
    refine Ev.step (fun k => by rw [spec_Grow.l1]) (evPos (by omega) (evNeg (by omega) (evNeg (by omega) ?_)))
    rw [r1, r2, r3, r4, r5, r6]
    rw [w64 (x := (x : Int) + 1) (by clear r1 r2 r3 r4 r5 r6; omega) (by clear r1 r2 r3 r4 r5 r6; omega)]
    exact evPos (Int.natCast_nonneg _) (evPos (Int.ofNat_lt.mpr hj) (evPos (by clear r1 r2 r3 r4 r5 r6; omega) h))
  · intro out y r hy h
    refine Ev.step (fun k => by rw [spec_Grow.l1]) (evNeg (by omega) ?_)
    rw [w64 (by omega) (by omega)]
    exact h
  · intro out y r hy h
    exact Ev.step (fun k => by rw [spec_Grow.l0]) (evPos (by omega) h)
  · intro out
    exact Ev.step (fun k => by rw [spec_Grow.l0]) (evNeg (by omega) (Ev.now _))
theorem sGrow_f (l : List Int) (a1 a2 a3 a4 : Int) (hl : l.length ≤ maxLen) : Ev (fun k => spec_Grow.f k l a1 a2 a3 a4) (growI l a1 a2 a3 a4) := by
  unfold spec_Grow.f
  refine evBind (Ev.now _) (evBind (sPlaneOk_f l a1 a2 hl) ?_)
  by_cases hg : greaterB l a1 a2 a3 a4 = true
  · obtain ⟨⟨m1, m2, m3, m4, ml⟩, n1, n2, n3, n4⟩ := greater_bounds hg
    have hp : planeB l a1 a2 = true := by simp only [greaterB, Bool.and_eq_true] at hg; exact hg.1
    have hs : sidesB a3 a4 = true := by simp only [greaterB, Bool.and_eq_true] at hg; exact hg.2.1
    refine evPos hp ?_
    rw [sides_f]
    simp only [Option.bind_some]
    refine evPos hs (evNeg (by omega) (Ev.step (fun k => by rw [spec_Grow.j0]) (evNeg (by simp; omega) ?_)))
    unfold growI
    rw [if_pos hg]
    obtain ⟨b1, rfl⟩ := Int.eq_ofNat_of_zero_le (show 0 ≤ a1 by omega)
    obtain ⟨b2, rfl⟩ := Int.eq_ofNat_of_zero_le (show 0 ≤ a2 by omega)
    obtain ⟨b3, rfl⟩ := Int.eq_ofNat_of_zero_le (show 0 ≤ a3 by omega)
    obtain ⟨b4, rfl⟩ := Int.eq_ofNat_of_zero_le (show 0 ≤ a4 by omega)
    exact sGrow_l0 l b1 b2 b3 b4 (by omega) (by omega) (by omega) (by omega) (by omega) (by omega) (by exact_mod_cast ml)
  · unfold growI
    rw [if_neg hg]
    have hd : ∀ {b : Bool}, b = true → Ev (fun k => spec_Grow.j0 k l a1 a2 a3 a4 [] b) [] := fun hb => Ev.step (fun k => by rw [spec_Grow.j0]) (evPos hb (Ev.now _))
    refine evIf (fun hp => ?_) (fun _ => hd rfl)
    rw [sides_f]
    simp only [Option.bind_some]
    refine evIf (fun hs => evIf (fun _ => hd rfl) (fun h3 => hd ?_)) (fun _ => hd rfl)
    simp only [greaterB, hp, hs, Bool.true_and, Bool.and_eq_true, decide_eq_true_eq] at hg
    rw [decide_eq_true_eq]
    omega

/-! ### impl_Crop_1: function 48 (by hand) -/
set_option maxHeartbeats 8000000 in
set_option maxRecDepth 100000 in
theorem crop1_any (g0 g1 : Nat) (A : Option Addr) (c : Nat) (l : List Int) (wd y x : Nat) (W : World) (h0 : W.cell? ⟨g0, 0, none⟩ = some (.slice A l.length c)) (h1 : W.cell? ⟨g1, 0, none⟩ = some (.int .i64 wd))
    (hr : Kd.C (Kd.int .i64) W A l.length l) (hw : wd ≤ 4096) (hy : y ≤ 4096) (hx : x ≤ 4096) (hi : y * wd + x < l.length) :
    Calls Try.prog 48 (#[.int .i64 y, .int .i64 x] ++ #[.pointer (some ⟨g0, 0, none⟩), .pointer (some ⟨g1, 0, none⟩)]) W fun e w' => e = .returned (.int .i64 (rd l ((y : Int) * wd + x))) ∧ Drawn0 W w' := by
  have hm : y * wd ≤ 4096 * 4096 := Nat.mul_le_mul hy hw
  have p1 : 0 ≤ ((y : Int) * wd + x) := by have : (0 : Int) ≤ (y : Int) * wd := Int.mul_nonneg (by omega) (by omega); omega
  have q1 : ((y : Int) * wd + x) < (l.length : Int) := by exact_mod_cast hi
  obtain ⟨ad, e1, hx1⟩ := Kd.at_int hr ((y : Int) * wd + x) p1 q1
  cases e1
  clear hr
  rw [show ((y : Int) * wd + x).toNat = y * wd + x from by have e : (y : Int) * wd + x = ((y * wd + x : Nat) : Int) := by push_cast; rfl
                                                           rw [e, Int.toNat_natCast]] at hx1
  have g1_ : decide ((0 : Int) ≤ (y : Int) * wd + x) = true := decide_eq_true p1
  have g2_ : decide ((y : Int) * wd + x < (l.length : Int)) = true := decide_eq_true q1
  go_enter Try.func48, Try.ntmps48
  go_wp2
  go_ret
  exact ⟨rfl, by repeat (first | exact Drawn0.refl _ | apply Drawn0.step)⟩
theorem crop_samples (w0 W0 : World) (A : Option Addr) (c : Nat) (l : List Int) (b1 b3 b4 : Nat) (hr : Kd.C (Kd.int .i64) w0 A l.length l)
    (H : W0.cell? ⟨w0.heap.size, 0, none⟩ = some (.slice A l.length c) ∧ W0.cell? ⟨w0.heap.size + 1, 0, none⟩ = some (.int .i64 b1) ∧ W0.heap.size = w0.heap.size + 2 ∧ Below w0.heap.size w0 W0)
    (k1 : b1 ≤ 4096) (k3 : b3 ≤ b1) (k4 : b4 ≤ 4096) (kl : b4 * b1 ≤ l.length) :
    Samples 48 #[.pointer (some ⟨w0.heap.size, 0, none⟩), .pointer (some ⟨w0.heap.size + 1, 0, none⟩)] (fun y x => rd l (y * b1 + x)) b3 b4 W0 := by
  obtain ⟨h0, h1, hz, hb⟩ := H
  intro W' y x hy hx hb'
  have hi : y * b1 + x < l.length := by
    have h2 : (y + 1) * b1 ≤ b4 * b1 := Nat.mul_le_mul_right _ (by omega)
    rw [Nat.succ_mul] at h2
    omega
  exact crop1_any _ _ A c l b1 y x W' (cell_on hb' h0) (cell_on hb' h1) (Kd.C_below hr (below_step hb hb')) k1 (by omega) (by omega) hi

/-! ### impl_Crop: function 20 (by hand) -/
def cropI (l0 : List Int) (a1 a2 a3 a4 : Int) : List Int :=
  if planeB l0 a1 a2 = true ∧ sidesB a3 a4 = true ∧ a3 ≤ a1 ∧ a4 ≤ a2 then planeL (fun y x => rd l0 (y * a1 + x)) a3.toNat a4.toNat else []
def impl_Crop.f (l0 : List Int) (a1 a2 a3 a4 : Int) : Option (List Int) := some (cropI l0 a1 a2 a3 a4)
set_option maxHeartbeats 8000000 in
set_option maxRecDepth 100000 in
theorem impl_Crop.calls (A0 : Option Addr) (c0 : Nat) (l0 : List Int) (a1 : Int) (a2 : Int) (a3 : Int) (a4 : Int) (r : List Int) (w : World) (hr0 : Kd.C (Kd.int .i64) w A0 l0.length l0) (hc0 : l0.length ≤ c0) (h : impl_Crop.f l0 a1 a2 a3 a4 = some r) :
    Calls Try.prog 20 #[.slice A0 l0.length c0, .int .i64 a1, .int .i64 a2, .int .i64 a3, .int .i64 a4] w fun e w' => ∃ v0_ : Value, e = .returned (v0_) ∧ Kd.R (Kd.int .i64) 3 w' w.heap.size (fun _ => True) v0_ r ∧ Below w.heap.size w w' := by
  obtain rfl := Option.some.inj h
  clear h
  have HR := Aside0.mk hr0
  have HC := Aside0.mk hc0
  clear hr0 hc0
  by_cases hp : planeB l0 a1 a2 = true
  · by_cases hs : sidesB a3 a4 = true
    · by_cases h3 : a3 ≤ a1
      · by_cases h4 : a4 ≤ a2
        · have HE := Aside0.mk (show cropI l0 a1 a2 a3 a4 = planeL (fun y x => rd l0 (y * a1 + x)) a3.toNat a4.toNat from by unfold cropI; rw [if_pos ⟨hp, hs, h3, h4⟩])
          have HP := Aside0.mk hp
          have HS := Aside0.mk hs
          clear hp hs
          have d3 : decide (a1 < a3) = false := decide_eq_false (by omega)
          have d4 : decide (a2 < a4) = false := decide_eq_false (by omega)
          obtain ⟨m1, m2, m3, m4, ml⟩ := plane_bounds HP.out
          obtain ⟨n1, n2, n3, n4, _⟩ := sides_bounds HS.out
          obtain ⟨b1, rfl⟩ := Int.eq_ofNat_of_zero_le (show 0 ≤ a1 by omega)
          obtain ⟨b2, rfl⟩ := Int.eq_ofNat_of_zero_le (show 0 ≤ a2 by omega)
          obtain ⟨b3, rfl⟩ := Int.eq_ofNat_of_zero_le (show 0 ≤ a3 by omega)
          obtain ⟨b4, rfl⟩ := Int.eq_ofNat_of_zero_le (show 0 ≤ a4 by omega)
          have ML := Aside0.mk ml
          clear ml
          rw [HE.out]
          clear HE
          go_enter Try.func20, Try.ntmps20
          have hmf : ∀ (fn : Fn) (first cap : Array Value) (w : World), (Instr.makeFunc fn first cap).run Try.prog w = .ok (.func fn first cap) w := fun _ _ _ _ => rfl
          go_wp2_with (first
            | (go_at_call 17; (with_reducible refine (boolCall (planeOk_calls A0 c0 l0 _ _ _ (by repeat (first | exact HR.out | (with_reducible refine Kd.C_alloc ?_ _) | (with_reducible refine Kd.C_drewN ?_ _) | (with_reducible refine Kd.C_drew ?_))) HC.out) HP.out).mono ?_); rintro e w' ⟨rfl, ⟨nd, rfl⟩⟩)
            | (go_at_call 45; (with_reducible refine (boolCall (areSides_calls _ _ _) HS.out).mono ?_); rintro e w' ⟨rfl, ⟨nd, rfl⟩⟩))
          go_at_call 47
          refine (impl_plane.calls 48 _ _ b3 b4 (by omega) (by omega) _ (enters_of Try.func48 (by kernel_rfl) rfl) (crop_samples w _ A0 c0 l0 b1 b3 b4 HR.out (two_boxes w _ _ 28 3 _) (by omega) (by omega) (by omega) ?_)).mono ?_
          · have e : (l0.length : Int) = ((b2 * b1 : Nat) : Int) := by rw [ML.out, Int.mul_comm]; push_cast; rfl
            have e2 : l0.length = b2 * b1 := by exact_mod_cast e
            have e3 : b4 * b1 ≤ b2 * b1 := Nat.mul_le_mul_right _ (by omega)
            omega
          · rintro e w1 ⟨v, rfl, ho, hb⟩
            have HO := Aside0.mk ho
            have HB := Aside0.mk hb
            clear ho hb
            go_wp2
            go_ret
            exact ⟨_, rfl, Kd.R_lower HO.out (below_size (two_boxes w _ _ 28 3 _).2.2.2), below_step (two_boxes w _ _ 28 3 _).2.2.2 HB.out⟩
        · have d3 : decide (a1 < a3) = false := decide_eq_false (by omega)
          have d4 : decide (a2 < a4) = true := decide_eq_true (by omega)
          have HE := Aside0.mk (show cropI l0 a1 a2 a3 a4 = [] from by unfold cropI; rw [if_neg (fun h => h4 h.2.2.2)])
          have HP := Aside0.mk hp
          have HS := Aside0.mk hs
          clear hp hs
          rw [HE.out]
          clear HE
          go_enter Try.func20, Try.ntmps20
          go_wp2_with (first
            | (go_at_call 17; (with_reducible refine (boolCall (planeOk_calls A0 c0 l0 _ _ _ (by repeat (first | exact HR.out | (with_reducible refine Kd.C_alloc ?_ _) | (with_reducible refine Kd.C_drewN ?_ _) | (with_reducible refine Kd.C_drew ?_))) HC.out) HP.out).mono ?_); rintro e w' ⟨rfl, ⟨nd, rfl⟩⟩)
            | (go_at_call 45; (with_reducible refine (boolCall (areSides_calls _ _ _) HS.out).mono ?_); rintro e w' ⟨rfl, ⟨nd, rfl⟩⟩))
          go_ret
          exact ⟨_, rfl, Kd.R_nil _ _ _ _ _, by repeat (first | exact Below.refl _ _ | apply below_alloc | apply pw_below_drewN | apply below_drew1)⟩
      · have d3 : decide (a1 < a3) = true := decide_eq_true (by omega)
        have HE := Aside0.mk (show cropI l0 a1 a2 a3 a4 = [] from by unfold cropI; rw [if_neg (fun h => h3 h.2.2.1)])
        have HP := Aside0.mk hp
        have HS := Aside0.mk hs
        clear hp hs
        rw [HE.out]
        clear HE
        go_enter Try.func20, Try.ntmps20
        go_wp2_with (first
          | (go_at_call 17; (with_reducible refine (boolCall (planeOk_calls A0 c0 l0 _ _ _ (by repeat (first | exact HR.out | (with_reducible refine Kd.C_alloc ?_ _) | (with_reducible refine Kd.C_drewN ?_ _) | (with_reducible refine Kd.C_drew ?_))) HC.out) HP.out).mono ?_); rintro e w' ⟨rfl, ⟨nd, rfl⟩⟩)
          | (go_at_call 45; (with_reducible refine (boolCall (areSides_calls _ _ _) HS.out).mono ?_); rintro e w' ⟨rfl, ⟨nd, rfl⟩⟩))
        go_ret
        exact ⟨_, rfl, Kd.R_nil _ _ _ _ _, by repeat (first | exact Below.refl _ _ | apply below_alloc | apply pw_below_drewN | apply below_drew1)⟩
    · have HE := Aside0.mk (show cropI l0 a1 a2 a3 a4 = [] from by unfold cropI; rw [if_neg (fun h => hs h.2.1)])
      have HP := Aside0.mk hp
      have HS := Aside0.mk (Bool.eq_false_iff.mpr hs)
      clear hp hs
      rw [HE.out]
      clear HE
      go_enter Try.func20, Try.ntmps20
      go_wp2_with (first
        | (go_at_call 17; (with_reducible refine (boolCall (planeOk_calls A0 c0 l0 _ _ _ (by repeat (first | exact HR.out | (with_reducible refine Kd.C_alloc ?_ _) | (with_reducible refine Kd.C_drewN ?_ _) | (with_reducible refine Kd.C_drew ?_))) HC.out) HP.out).mono ?_); rintro e w' ⟨rfl, ⟨nd, rfl⟩⟩)
        | (go_at_call 45; (with_reducible refine (boolCall (areSides_calls _ _ _) HS.out).mono ?_); rintro e w' ⟨rfl, ⟨nd, rfl⟩⟩))
      go_ret
      exact ⟨_, rfl, Kd.R_nil _ _ _ _ _, by repeat (first | exact Below.refl _ _ | apply below_alloc | apply pw_below_drewN | apply below_drew1)⟩
  · have HE := Aside0.mk (show cropI l0 a1 a2 a3 a4 = [] from by unfold cropI; rw [if_neg (fun h => hp h.1)])
    have HP := Aside0.mk (Bool.eq_false_iff.mpr hp)
    clear hp
    rw [HE.out]
    clear HE
    go_enter Try.func20, Try.ntmps20
    go_wp2_with (first
      | (go_at_call 17; (with_reducible refine (boolCall (planeOk_calls A0 c0 l0 _ _ _ (by repeat (first | exact HR.out | (with_reducible refine Kd.C_alloc ?_ _) | (with_reducible refine Kd.C_drewN ?_ _) | (with_reducible refine Kd.C_drew ?_))) HC.out) HP.out).mono ?_); rintro e w' ⟨rfl, ⟨nd, rfl⟩⟩))
    go_ret
    exact ⟨_, rfl, Kd.R_nil _ _ _ _ _, by repeat (first | exact Below.refl _ _ | apply below_alloc | apply pw_below_drewN | apply below_drew1)⟩

end Go.Proofs.Ytdakegolcmcgmaa.CM
