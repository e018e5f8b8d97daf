/- Functions that a law of this seat reaches: written by a program of this session (wip/xprint.py), and by hand. -/
import Derived.Test.YtdakegolcmcgmaaCBx0
import Derived.Test.YtdakegolcmcgmaaCBx1
namespace Go.Proofs.Ytdakegolcmcgmaa.CB
open Go.RowKit Go.Proofs.Ytdakegolcmcgmaa.B Go.Proofs.YtdakegolcmcgmaaW.PrintWords Go.Proofs.YtdakegolcmcgmaaW.PrintLast Go.Proofs.YtdakegolcmcgmaaW.PrintMore
attribute [local go_sem] max2_int min2_int max_two min_two max_three min_three max_four min_four   -- for this text's walks alone
set_option linter.unusedVariables false
set_option linter.unusedSimpArgs false

theorem allWithin_l0 (lo up : Int) (l : List Int) (hl : l.length ≤ maxLen) : ∀ (d i : Nat), i + d = l.length → Ev (fun k => impl_allWithin.l0 k lo up l (l.length : Int) i) (allR (l.drop i) lo up) := by
  unfold maxLen at hl
  intro d
  induction d with
  | zero =>
    intro i hi
    refine Ev.step (fun k => by rw [impl_allWithin.l0]) ?_
    rw [List.drop_eq_nil_of_le (by omega)]
    exact evNeg (by omega) (Ev.now true)
  | succ d ih =>
    intro i hi
    have h1 : i < l.length := by omega
    refine Ev.step (fun k => by rw [impl_allWithin.l0]) ?_
    refine evPos (by omega) (evPos (by omega) (evPos (by omega) ?_))
    rw [drop_get h1, rd_nat h1, within_f]
    simp only [Option.bind_some, allR, List.all_cons]
    cases inR l[i] lo up with
    | false => exact evNeg (by simp) (Ev.now false)
    | true =>
      refine evPos rfl ?_
      rw [w64 (by omega) (by omega)]
      exact ih (i + 1) (by omega)
theorem allWithin_f (l : List Int) (lo hi : Int) (hl : l.length ≤ maxLen) : Ev (fun k => impl_allWithin.f k l lo hi) (allR l lo hi) := by
  have := allWithin_l0 lo hi l hl l.length 0 (by omega)
  simpa [impl_allWithin.f] using this

/-! ### impl_PlaneOk: function 17 -/
def impl_PlaneOk.f (k : Nat) (l0 : List Int) (a1 : Int) (a2 : Int) : Option (Bool) := (impl_areSides.f a1 a2).bind fun t117 => (if t117 = true then (if (l0.length : Int) = (wrap64 (a1 * a2)) then ((impl_allWithin.f k l0 0 4095).bind fun t118 => (some t118)) else (some false)) else (some false))
theorem impl_PlaneOk.mono : ∀ a0 a1 a2 k, LeO (impl_PlaneOk.f k a0 a1 a2) (impl_PlaneOk.f (k + 1) a0 a1 a2) := by
  intro a0 a1 a2 k
  unfold impl_PlaneOk.f
  repeat' first
      | (with_reducible exact impl_allWithin.mono _ _ _ _)
      | (with_reducible exact LeO.refl _)
      | (with_reducible exact LeO.none _)
      | (with_reducible refine LeO.ite ?_ ?_)
      | (with_reducible refine LeO.bind ?_ (fun _ => ?_))
      | exact impl_allWithin.mono _ _ _ _
      | exact LeO.none _
      | refine LeO.ite ?_ ?_
      | refine LeO.bind ?_ (fun _ => ?_)
set_option maxHeartbeats 8000000 in
set_option maxRecDepth 100000 in
theorem impl_PlaneOk.calls (k : Nat) (A0 : Option Addr) (c0 : Nat) (l0 : List Int) (a1 : Int) (a2 : Int) (r : Bool) (w : World) (hr0 : Kd.C (Kd.int .i64) w A0 l0.length l0) (hc0 : l0.length ≤ c0) (h : impl_PlaneOk.f k l0 a1 a2 = some r) :
    Calls Try.prog 17 #[.slice A0 l0.length c0, .int .i64 a1, .int .i64 a2] w fun e w' => e = .returned (.bool r) ∧ Drawn0 w w' := by
  have HR0 := Aside0.mk hr0
  have HC0 := Aside0.mk hc0
  clear hr0 hc0
  have H : ((impl_areSides.f a1 a2).bind fun t117 => (if t117 = true then (if (l0.length : Int) = (wrap64 (a1 * a2)) then ((impl_allWithin.f k l0 0 4095).bind fun t118 => (some t118)) else (some false)) else (some false))) = some r := h
  clear h
  replace H := Option.bind_eq_some_iff.mp H
  obtain ⟨t117, A40, H⟩ := H
  replace H : (if t117 = true then (if (l0.length : Int) = (wrap64 (a1 * a2)) then ((impl_allWithin.f k l0 0 4095).bind fun t118 => (some t118)) else (some false)) else (some false)) = some r := H
  have A4 := Aside0.mk A40
  clear A40
  by_cases c5 : t117 = true
  · subst c5
    have H1 : (if (l0.length : Int) = (wrap64 (a1 * a2)) then ((impl_allWithin.f k l0 0 4095).bind fun t118 => (some t118)) else (some false)) = some r := by rw [if_pos rfl] at H; exact H
    clear H
    have H := H1
    clear H1
    by_cases c6 : (l0.length : Int) = (wrap64 (a1 * a2))
    · rw [if_pos c6] at H
      have c6b0 : ((l0.length : Int) == (wrap64 (a1 * a2))) = true := beq_iff_eq.mpr c6
      have c6b1 : ((l0.length : Int) != (wrap64 (a1 * a2))) = false := bne_eq_false_iff_eq.mpr c6
      clear c6
      replace H := Option.bind_eq_some_iff.mp H
      obtain ⟨t118, A70, H⟩ := H
      replace H : (some t118) = some r := H
      have A7 := Aside0.mk A70
      clear A70
      obtain rfl := Option.some.inj H
      go_enter Try.func17, Try.ntmps17
      go_wp2_with (first | ((with_reducible refine gate_callee (f := 45) rfl ?_); refine goesL_ (some 9) rfl rfl Try.func45 (by kernel_rfl) rfl #[.int .i64 a1, .int .i64 a2] rfl (by (try simp only [List.map_toArray, List.map_cons, List.map_nil]); first | done | rfl | (simp only [List.length_drop, List.length_take]; rfl)) ?_; (with_reducible refine (impl_areSides.calls a1 a2 true _ A4.out).mono ?_); rintro e w' ⟨rfl, ⟨nd, rfl⟩⟩; refine ⟨_, rfl, ?_⟩) | (go_at_call 46; (with_reducible refine (impl_allWithin.calls k _ _ l0 0 4095 t118 _ ?side1 ?side2 A7.out).mono ?_); (case side1 => repeat (first | exact HR0.out | (with_reducible refine Kd.C_alloc ?_ _) | (with_reducible refine Kd.C_drewN ?_ _) | (with_reducible refine Kd.C_drew ?_))); (case side2 => exact HC0.out); rintro e w' ⟨rfl, ⟨nd, rfl⟩⟩))
      go_ret
      exact ⟨by first | rfl | (simp; done) | (simp [*]; done), by repeat (first | exact Drawn0.refl _ | apply Drawn0.step)⟩
    · rw [if_neg c6] at H
      have c6b0 : ((l0.length : Int) == (wrap64 (a1 * a2))) = false := beq_eq_false_iff_ne.mpr c6
      have c6b1 : ((l0.length : Int) != (wrap64 (a1 * a2))) = true := bne_iff_ne.mpr c6
      obtain rfl := Option.some.inj H
      go_enter Try.func17, Try.ntmps17
      go_wp2_with (first | ((with_reducible refine gate_callee (f := 45) rfl ?_); refine goesL_ (some 9) rfl rfl Try.func45 (by kernel_rfl) rfl #[.int .i64 a1, .int .i64 a2] rfl (by (try simp only [List.map_toArray, List.map_cons, List.map_nil]); first | done | rfl | (simp only [List.length_drop, List.length_take]; rfl)) ?_; (with_reducible refine (impl_areSides.calls a1 a2 true _ A4.out).mono ?_); rintro e w' ⟨rfl, ⟨nd, rfl⟩⟩; refine ⟨_, rfl, ?_⟩))
      go_ret
      exact ⟨by first | rfl | (simp; done) | (simp [*]; done), by repeat (first | exact Drawn0.refl _ | apply Drawn0.step)⟩
  · replace c5 := Bool.eq_false_iff.mpr c5
    subst c5
    have H1 : (some false) = some r := by rw [if_neg (show ¬ (false = true) by decide)] at H; exact H
    clear H
    have H := H1
    clear H1
    obtain rfl := Option.some.inj H
    go_enter Try.func17, Try.ntmps17
    go_wp2_with (first | ((with_reducible refine gate_callee (f := 45) rfl ?_); refine goesL_ (some 9) rfl rfl Try.func45 (by kernel_rfl) rfl #[.int .i64 a1, .int .i64 a2] rfl (by (try simp only [List.map_toArray, List.map_cons, List.map_nil]); first | done | rfl | (simp only [List.length_drop, List.length_take]; rfl)) ?_; (with_reducible refine (impl_areSides.calls a1 a2 false _ A4.out).mono ?_); rintro e w' ⟨rfl, ⟨nd, rfl⟩⟩; refine ⟨_, rfl, ?_⟩))
    go_ret
    exact ⟨by first | rfl | (simp; done) | (simp [*]; done), by repeat (first | exact Drawn0.refl _ | apply Drawn0.step)⟩

theorem iPlaneOk_f (l : List Int) (w h : Int) (hl : l.length ≤ maxLen) : Ev (fun k => impl_PlaneOk.f k l w h) (planeB l w h) := by
  unfold impl_PlaneOk.f planeB
  rw [areSides_f]
  simp only [Option.bind_some]
  cases sidesB w h with
  | false => exact evNeg (by simp) (Ev.now false)
  | true =>
    refine evPos rfl (evIf (fun hc => ?_) (fun hc => ?_))
    · refine evBind (allWithin_f l 0 4095 hl) ?_
      simp only [hc, decide_true, Bool.true_and]
      exact Ev.now _
    · simp only [hc, decide_false, Bool.false_and, Bool.and_false]
      exact Ev.now _

/-! ### impl_plane: function 47 (by hand) -/
/-- A function value, called with two numbers, hands back a number and turns nothing. -/
abbrev Samples (cl : Nat) (lb : Array Value) (g : Int → Int → Int) (w h : Nat) (W : World) : Prop :=
  ∀ (W' : World) (y x : Nat), y < h → x < w → Below W.heap.size W W' → Calls Try.prog cl (#[.int .i64 y, .int .i64 x] ++ lb) W' fun e w' => e = .returned (.int .i64 (g y x)) ∧ Drawn0 W' w'
set_option maxHeartbeats 8000000 in
set_option maxRecDepth 100000 in
theorem impl_plane.calls (cl : Nat) (lb : Array Value) (g : Int → Int → Int) (w h : Nat) (hw : w ≤ 4096) (hh : h ≤ 4096) (W : World)
    (eg : ∀ args w, (callFunc cl args).run Try.prog w = .ok (.enter cl args) w) (hs : Samples cl lb g w h W) :
    Calls Try.prog 47 #[.int .i64 w, .int .i64 h, .func (.func cl) #[] lb] W fun e w' => ∃ v, e = .returned v ∧ Kd.R (Kd.int .i64) 3 w' W.heap.size (fun _ => True) v (planeL g w h) ∧ Below W.heap.size W w' := by
  have HS := Aside0.mk hs
  clear hs
  have HB := Aside0.mk (Below.refl W.heap.size W)
  go_enter Try.func47, Try.ntmps47
  go_wp2_with (first | ((with_reducible refine gate_dst (N := 10) rfl ?_); refine Kd.R_lit (Kd.int .i64) _ 3 ?hg (N := 10) ?hd (xs := ([] : List Int)) (inner := []) (ok := fun _ => True) (okp := fun _ => True) ?hr ?hp (fun _ hk => hk) trivial (Below.refl _ _) (Nat.le_refl _) (by simp) ?_; (case hd => rfl); (case hg => rfl); (case hr => first | (go_simp; done) | (go_simp; rfl)); (case hp => exact (Reps.none _ _)); intro v10 w7 ho8 hb hg_ hnew_; clear hg_ hnew_; have HO := Aside0.mk ho8; have HB2 := Aside0.mk (below_step HB.out hb); clear HB ho8 hb; have HB := HB2; clear HB2))
  have EZ := Aside0.mk (show (0 : Int) = ((0 : Nat) : Int) from rfl)
  go_loopg [7, 12] h (fun kq v7 v12 w' => ∃ (y : Nat), v12 = .int .i64 (y : Int) ∧ Aside0 (y + kq = h) ∧ Aside0 (Kd.R (Kd.int .i64) 3 w' W.heap.size (fun _ => True) v7 (planeL g w y)) ∧ Aside0 (Below W.heap.size W w'))
  case atStart =>
    exact ⟨0, rfl, ⟨by omega⟩, HO, HB⟩
  case round =>
    clear HO HB EZ
    obtain ⟨y, rfl, HK, HO, HB⟩ := hrel
    by_cases c1 : y < h
    · have c1b : decide ((y : Int) < (h : Int)) = true := decide_eq_true (by omega)
      go_wp2
      go_loopg [7, 16] w (fun kq v7 v16 w' => ∃ (x : Nat), v16 = .int .i64 (x : Int) ∧ Aside0 (x + kq = w) ∧ Aside0 (Kd.R (Kd.int .i64) 3 w' W.heap.size (fun _ => True) v7 (planeL g w y ++ rowL g x y)) ∧ Aside0 (Below W.heap.size W w'))
      case atStart =>
        exact ⟨0, rfl, ⟨by omega⟩, ⟨by rw [show rowL g 0 y = [] from rfl, List.append_nil]; exact HO.out⟩, HB⟩
      case round =>
        clear HO HB
        obtain ⟨x, rfl, HX, HO, HB⟩ := hrel
        by_cases c2 : x < w
        · have c2b : decide ((x : Int) < (w : Int)) = true := decide_eq_true (by omega)
          go_wp2_with (first
            | (go_at_fn cl; (with_reducible refine (HS.out _ y x c1 c2 (by repeat (first | (with_reducible first | exact HB.out | apply below_alloc | apply pw_below_drewN | apply below_drew1) | exact HB.out))).mono ?_); rintro e w' ⟨rfl, ⟨nd, rfl⟩⟩)
            | ((with_reducible refine gate_builtin (b := .append) (xs := #[.tmp 19, .tmp 24]) rfl ?_); at_builtin; refine Kd.R_append (Kd.int .i64) (w0 := W) W.heap.size rfl (.tmp 19) (.tmp 24) 28 3 (.int .i64 0) 8 rfl Try.underlying28 info3 rfl (by decide) (by omega) u7 (planeL g w y ++ rowL g x y) (g y x) [.int .i64 (g y x)] (fun _ => True) (fun _ => False) rfl rfl ?aP (fun _ hk => hk.elim) ?aF ?aO ?aB ?aS ?aL ?_; (case aP => exact rfl); (case aB => exact (by repeat (first | (with_reducible first | exact HB.out | apply below_alloc | apply pw_below_drewN | apply below_drew1) | exact HB.out))); (case aF => exact (fun _ _ => trivial)); (case aO => exact (by (with_reducible repeat (first | apply Kd.R_alloc | apply Kd.R_drewN | apply Kd.R_drew)); exact HO.out)); (case aS => exact (below_size (by repeat (first | (with_reducible first | exact HB.out | apply below_alloc | apply pw_below_drewN | apply below_drew1) | exact HB.out)))); (case aL => (rw [List.length_append, planeL_length, rowL_length]; have h1 : y * w ≤ 4096 * 4096 := Nat.mul_le_mul (by omega) hw; omega)); intro v1 w1 ho hb hg hat; have n0_ := Aside0.mk hb; have n1_ := Aside0.mk ho; clear HB; clear HO; have HB := n0_; have HO := n1_; clear n0_ n1_; clear ho hb hg hat))
          go_roundg (w - (x + 1))
          case measure => have := HX.out; omega
          case rel =>
            have e := HX.out
            exact ⟨x + 1, by simp, ⟨by omega⟩, ⟨by rw [rowL_succ, ← List.append_assoc]; exact HO.out⟩, HB⟩
        · have c2b : decide ((x : Int) < (w : Int)) = false := decide_eq_false (by omega)
          go_wp2
          go_roundg (h - (y + 1))
          case measure => have := HK.out; omega
          case rel =>
            have e := HX.out
            have e2 := HK.out
            obtain rfl : x = w := by omega
            exact ⟨y + 1, by simp, ⟨by omega⟩, ⟨by rw [planeL_succ]; exact HO.out⟩, HB⟩
    · have c1b : decide ((y : Int) < (h : Int)) = false := decide_eq_false (by omega)
      go_wp2
      go_ret
      have e2 := HK.out
      obtain rfl : y = h := by omega
      exact ⟨_, rfl, HO.out, HB.out⟩

theorem areSides_calls (a b : Int) (w : World) : Calls Try.prog 45 #[.int .i64 a, .int .i64 b] w fun e w' => e = .returned (.bool (sidesB a b)) ∧ Drawn0 w w' :=
  impl_areSides.calls a b _ w (areSides_f a b)
theorem planeOk_calls (A0 : Option Addr) (c0 : Nat) (l0 : List Int) (a b : Int) (w : World) (hr0 : Kd.C (Kd.int .i64) w A0 l0.length l0) (hc0 : l0.length ≤ c0) :
    Calls Try.prog 17 #[.slice A0 l0.length c0, .int .i64 a, .int .i64 b] w fun e w' => e = .returned (.bool (planeB l0 a b)) ∧ Drawn0 w w' := by
  obtain ⟨k, hk⟩ := (iPlaneOk_f l0 a b (by have := hr0.2.1; unfold maxLen; omega)).rounds
  exact impl_PlaneOk.calls k A0 c0 l0 a b _ w hr0 hc0 hk
theorem boolCall {P : Program} {f : Nat} {vs : Array Value} {w : World} {b c : Bool} (h : Calls P f vs w fun e w' => e = .returned (.bool b) ∧ Drawn0 w w') (e : b = c) : Calls P f vs w fun e w' => e = .returned (.bool c) ∧ Drawn0 w w' := e ▸ h
theorem two_boxes (w : World) (v0 v1 : Value) (t0 t1 n : Nat) :
    (((w.alloc (.cells #[v0] t0)).alloc (.cells #[v1] t1)).drewN n).cell? ⟨w.heap.size, 0, none⟩ = some v0 ∧
    (((w.alloc (.cells #[v0] t0)).alloc (.cells #[v1] t1)).drewN n).cell? ⟨w.heap.size + 1, 0, none⟩ = some v1 ∧
    (((w.alloc (.cells #[v0] t0)).alloc (.cells #[v1] t1)).drewN n).heap.size = w.heap.size + 2 ∧
    Below w.heap.size w (((w.alloc (.cells #[v0] t0)).alloc (.cells #[v1] t1)).drewN n) := by
  refine ⟨by go_simp, by go_simp, by go_simp, ?_⟩
  repeat (first | exact Below.refl _ _ | apply below_alloc | apply pw_below_drewN | apply below_drew1)
theorem cell_on {W W' : World} (h : Below W.heap.size W W') {g : Nat} {v : Value} (hc : W.cell? ⟨g, 0, none⟩ = some v) : W'.cell? ⟨g, 0, none⟩ = some v :=
  (h.cell (World.block_lt_of_cell? W _ hc)).trans hc

/-! ### impl_Crop_1: function 48 (by hand) -/
set_option maxHeartbeats 8000000 in
set_option maxRecDepth 100000 in
theorem crop1_any (g0 g1 : Nat) (A : Option Addr) (c : Nat) (l : List Int) (wd y x : Nat) (W : World) (h0 : W.cell? ⟨g0, 0, none⟩ = some (.slice A l.length c)) (h1 : W.cell? ⟨g1, 0, none⟩ = some (.int .i64 wd))
    (hr : Kd.C (Kd.int .i64) W A l.length l) (hw : wd ≤ 4096) (hy : y ≤ 4096) (hx : x ≤ 4096) (hi : y * wd + x < l.length) :
    Calls Try.prog 48 (#[.int .i64 y, .int .i64 x] ++ #[.pointer (some ⟨g0, 0, none⟩), .pointer (some ⟨g1, 0, none⟩)]) W fun e w' => e = .returned (.int .i64 (rd l ((y : Int) * wd + x))) ∧ Drawn0 W w' := by
  have hm : y * wd ≤ 4096 * 4096 := Nat.mul_le_mul hy hw
  have p1 : 0 ≤ ((y : Int) * wd + x) := by have : (0 : Int) ≤ (y : Int) * wd := Int.mul_nonneg (by omega) (by omega); omega
  have q1 : ((y : Int) * wd + x) < (l.length : Int) := by exact_mod_cast hi
  obtain ⟨ad, e1, hx1⟩ := Kd.at_int hr ((y : Int) * wd + x) p1 q1
  cases e1
  clear hr
  rw [show ((y : Int) * wd + x).toNat = y * wd + x from by have e : (y : Int) * wd + x = ((y * wd + x : Nat) : Int) := by push_cast; rfl
                                                           rw [e, Int.toNat_natCast]] at hx1
  have g1_ : decide ((0 : Int) ≤ (y : Int) * wd + x) = true := decide_eq_true p1
  have g2_ : decide ((y : Int) * wd + x < (l.length : Int)) = true := decide_eq_true q1
  go_enter Try.func48, Try.ntmps48
  go_wp2
  go_ret
  exact ⟨rfl, by repeat (first | exact Drawn0.refl _ | apply Drawn0.step)⟩
theorem crop_samples (w0 W0 : World) (A : Option Addr) (c : Nat) (l : List Int) (b1 b3 b4 : Nat) (hr : Kd.C (Kd.int .i64) w0 A l.length l)
    (H : W0.cell? ⟨w0.heap.size, 0, none⟩ = some (.slice A l.length c) ∧ W0.cell? ⟨w0.heap.size + 1, 0, none⟩ = some (.int .i64 b1) ∧ W0.heap.size = w0.heap.size + 2 ∧ Below w0.heap.size w0 W0)
    (k1 : b1 ≤ 4096) (k3 : b3 ≤ b1) (k4 : b4 ≤ 4096) (kl : b4 * b1 ≤ l.length) :
    Samples 48 #[.pointer (some ⟨w0.heap.size, 0, none⟩), .pointer (some ⟨w0.heap.size + 1, 0, none⟩)] (fun y x => rd l (y * b1 + x)) b3 b4 W0 := by
  obtain ⟨h0, h1, hz, hb⟩ := H
  intro W' y x hy hx hb'
  have hi : y * b1 + x < l.length := by
    have h2 : (y + 1) * b1 ≤ b4 * b1 := Nat.mul_le_mul_right _ (by omega)
    rw [Nat.succ_mul] at h2
    omega
  exact crop1_any _ _ A c l b1 y x W' (cell_on hb' h0) (cell_on hb' h1) (Kd.C_below hr (below_step hb hb')) k1 (by omega) (by omega) hi

/-! ### impl_Crop: function 20 (by hand) -/
def cropI (l0 : List Int) (a1 a2 a3 a4 : Int) : List Int :=
  if planeB l0 a1 a2 = true ∧ sidesB a3 a4 = true ∧ a3 ≤ a1 ∧ a4 ≤ a2 then planeL (fun y x => rd l0 (y * a1 + x)) a3.toNat a4.toNat else []
def impl_Crop.f (l0 : List Int) (a1 a2 a3 a4 : Int) : Option (List Int) := some (cropI l0 a1 a2 a3 a4)
set_option maxHeartbeats 8000000 in
set_option maxRecDepth 100000 in
theorem impl_Crop.calls (A0 : Option Addr) (c0 : Nat) (l0 : List Int) (a1 : Int) (a2 : Int) (a3 : Int) (a4 : Int) (r : List Int) (w : World) (hr0 : Kd.C (Kd.int .i64) w A0 l0.length l0) (hc0 : l0.length ≤ c0) (h : impl_Crop.f l0 a1 a2 a3 a4 = some r) :
    Calls Try.prog 20 #[.slice A0 l0.length c0, .int .i64 a1, .int .i64 a2, .int .i64 a3, .int .i64 a4] w fun e w' => ∃ v0_ : Value, e = .returned (v0_) ∧ Kd.R (Kd.int .i64) 3 w' w.heap.size (fun _ => True) v0_ r ∧ Below w.heap.size w w' := by
  obtain rfl := Option.some.inj h
  clear h
  have HR := Aside0.mk hr0
  have HC := Aside0.mk hc0
  clear hr0 hc0
  by_cases hp : planeB l0 a1 a2 = true
  · by_cases hs : sidesB a3 a4 = true
    · by_cases h3 : a3 ≤ a1
      · by_cases h4 : a4 ≤ a2
        · have HE := Aside0.mk (show cropI l0 a1 a2 a3 a4 = planeL (fun y x => rd l0 (y * a1 + x)) a3.toNat a4.toNat from by unfold cropI; rw [if_pos ⟨hp, hs, h3, h4⟩])
          have HP := Aside0.mk hp
          have HS := Aside0.mk hs
          clear hp hs
          have d3 : decide (a1 < a3) = false := decide_eq_false (by omega)
          have d4 : decide (a2 < a4) = false := decide_eq_false (by omega)
          obtain ⟨m1, m2, m3, m4, ml⟩ := plane_bounds HP.out
          obtain ⟨n1, n2, n3, n4, _⟩ := sides_bounds HS.out
          obtain ⟨b1, rfl⟩ := Int.eq_ofNat_of_zero_le (show 0 ≤ a1 by omega)
          obtain ⟨b2, rfl⟩ := Int.eq_ofNat_of_zero_le (show 0 ≤ a2 by omega)
          obtain ⟨b3, rfl⟩ := Int.eq_ofNat_of_zero_le (show 0 ≤ a3 by omega)
          obtain ⟨b4, rfl⟩ := Int.eq_ofNat_of_zero_le (show 0 ≤ a4 by omega)
          have ML := Aside0.mk ml
          clear ml
          rw [HE.out]
          clear HE
          go_enter Try.func20, Try.ntmps20
          have hmf : ∀ (fn : Fn) (first cap : Array Value) (w : World), (Instr.makeFunc fn first cap).run Try.prog w = .ok (.func fn first cap) w := fun _ _ _ _ => rfl
          go_wp2_with (first
            | (go_at_call 17; (with_reducible refine (boolCall (planeOk_calls A0 c0 l0 _ _ _ (by repeat (first | exact HR.out | (with_reducible refine Kd.C_alloc ?_ _) | (with_reducible refine Kd.C_drewN ?_ _) | (with_reducible refine Kd.C_drew ?_))) HC.out) HP.out).mono ?_); rintro e w' ⟨rfl, ⟨nd, rfl⟩⟩)
            | (go_at_call 45; (with_reducible refine (boolCall (areSides_calls _ _ _) HS.out).mono ?_); rintro e w' ⟨rfl, ⟨nd, rfl⟩⟩))
          go_at_call 47
          refine (impl_plane.calls 48 _ _ b3 b4 (by omega) (by omega) _ (enters_of Try.func48 (by kernel_rfl) rfl) (crop_samples w _ A0 c0 l0 b1 b3 b4 HR.out (two_boxes w _ _ 28 3 _) (by omega) (by omega) (by omega) ?_)).mono ?_
          · have e : (l0.length : Int) = ((b2 * b1 : Nat) : Int) := by rw [ML.out, Int.mul_comm]; push_cast; rfl
            have e2 : l0.length = b2 * b1 := by exact_mod_cast e
            have e3 : b4 * b1 ≤ b2 * b1 := Nat.mul_le_mul_right _ (by omega)
            omega
          · rintro e w1 ⟨v, rfl, ho, hb⟩
            have HO := Aside0.mk ho
            have HB := Aside0.mk hb
            clear ho hb
            go_wp2
            go_ret
            exact ⟨_, rfl, Kd.R_lower HO.out (below_size (two_boxes w _ _ 28 3 _).2.2.2), below_step (two_boxes w _ _ 28 3 _).2.2.2 HB.out⟩
        · have d3 : decide (a1 < a3) = false := decide_eq_false (by omega)
          have d4 : decide (a2 < a4) = true := decide_eq_true (by omega)
          have HE := Aside0.mk (show cropI l0 a1 a2 a3 a4 = [] from by unfold cropI; rw [if_neg (fun h => h4 h.2.2.2)])
          have HP := Aside0.mk hp
          have HS := Aside0.mk hs
          clear hp hs
          rw [HE.out]
          clear HE
          go_enter Try.func20, Try.ntmps20
          go_wp2_with (first
            | (go_at_call 17; (with_reducible refine (boolCall (planeOk_calls A0 c0 l0 _ _ _ (by repeat (first | exact HR.out | (with_reducible refine Kd.C_alloc ?_ _) | (with_reducible refine Kd.C_drewN ?_ _) | (with_reducible refine Kd.C_drew ?_))) HC.out) HP.out).mono ?_); rintro e w' ⟨rfl, ⟨nd, rfl⟩⟩)
            | (go_at_call 45; (with_reducible refine (boolCall (areSides_calls _ _ _) HS.out).mono ?_); rintro e w' ⟨rfl, ⟨nd, rfl⟩⟩))
          go_ret
          exact ⟨_, rfl, Kd.R_nil _ _ _ _ _, by repeat (first | exact Below.refl _ _ | apply below_alloc | apply pw_below_drewN | apply below_drew1)⟩
      · have d3 : decide (a1 < a3) = true := decide_eq_true (by omega)
        have HE := Aside0.mk (show cropI l0 a1 a2 a3 a4 = [] from by unfold cropI; rw [if_neg (fun h => h3 h.2.2.1)])
        have HP := Aside0.mk hp
        have HS := Aside0.mk hs
        clear hp hs
        rw [HE.out]
        clear HE
        go_enter Try.func20, Try.ntmps20
        go_wp2_with (first
          | (go_at_call 17; (with_reducible refine (boolCall (planeOk_calls A0 c0 l0 _ _ _ (by repeat (first | exact HR.out | (with_reducible refine Kd.C_alloc ?_ _) | (with_reducible refine Kd.C_drewN ?_ _) | (with_reducible refine Kd.C_drew ?_))) HC.out) HP.out).mono ?_); rintro e w' ⟨rfl, ⟨nd, rfl⟩⟩)
          | (go_at_call 45; (with_reducible refine (boolCall (areSides_calls _ _ _) HS.out).mono ?_); rintro e w' ⟨rfl, ⟨nd, rfl⟩⟩))
        go_ret
        exact ⟨_, rfl, Kd.R_nil _ _ _ _ _, by repeat (first | exact Below.refl _ _ | apply below_alloc | apply pw_below_drewN | apply below_drew1)⟩
    · have HE := Aside0.mk (show cropI l0 a1 a2 a3 a4 = [] from by unfold cropI; rw [if_neg (fun h => hs h.2.1)])
      have HP := Aside0.mk hp
      have HS := Aside0.mk (Bool.eq_false_iff.mpr hs)
      clear hp hs
      rw [HE.out]
      clear HE
      go_enter Try.func20, Try.ntmps20
      go_wp2_with (first
        | (go_at_call 17; (with_reducible refine (boolCall (planeOk_calls A0 c0 l0 _ _ _ (by repeat (first | exact HR.out | (with_reducible refine Kd.C_alloc ?_ _) | (with_reducible refine Kd.C_drewN ?_ _) | (with_reducible refine Kd.C_drew ?_))) HC.out) HP.out).mono ?_); rintro e w' ⟨rfl, ⟨nd, rfl⟩⟩)
        | (go_at_call 45; (with_reducible refine (boolCall (areSides_calls _ _ _) HS.out).mono ?_); rintro e w' ⟨rfl, ⟨nd, rfl⟩⟩))
      go_ret
      exact ⟨_, rfl, Kd.R_nil _ _ _ _ _, by repeat (first | exact Below.refl _ _ | apply below_alloc | apply pw_below_drewN | apply below_drew1)⟩
  · have HE := Aside0.mk (show cropI l0 a1 a2 a3 a4 = [] from by unfold cropI; rw [if_neg (fun h => hp h.1)])
    have HP := Aside0.mk (Bool.eq_false_iff.mpr hp)
    clear hp
    rw [HE.out]
    clear HE
    go_enter Try.func20, Try.ntmps20
    go_wp2_with (first
      | (go_at_call 17; (with_reducible refine (boolCall (planeOk_calls A0 c0 l0 _ _ _ (by repeat (first | exact HR.out | (with_reducible refine Kd.C_alloc ?_ _) | (with_reducible refine Kd.C_drewN ?_ _) | (with_reducible refine Kd.C_drew ?_))) HC.out) HP.out).mono ?_); rintro e w' ⟨rfl, ⟨nd, rfl⟩⟩))
    go_ret
    exact ⟨_, rfl, Kd.R_nil _ _ _ _ _, by repeat (first | exact Below.refl _ _ | apply below_alloc | apply pw_below_drewN | apply below_drew1)⟩

/-! ### spec_Crop: function 19 -/
mutual
def spec_Crop.j0 : Nat → List Int → Int → Int → Int → List Int → Bool → Option (List Int)
  | 0, _, _, _, _, _, _ => none
  | k + 1, x0, x1, x3, x4, x11, x31 => if x31 = true then (some x11) else (spec_Crop.l0 k x0 x1 x3 x4 x11 0)
def spec_Crop.l0 : Nat → List Int → Int → Int → Int → List Int → Int → Option (List Int)
  | 0, _, _, _, _, _, _ => none
  | k + 1, x0, x1, x3, x4, x11, x12 => if x12 < x4 then (spec_Crop.l1 k x0 x1 x3 x4 x11 x12 0) else (some x11)
def spec_Crop.l1 : Nat → List Int → Int → Int → Int → List Int → Int → Int → Option (List Int)
  | 0, _, _, _, _, _, _, _ => none
  | k + 1, x0, x1, x3, x4, x11, x12, x13 => if x13 < x3 then (if 0 ≤ (wrap64 ((wrap64 (x12 * x1)) + x13)) then (if (wrap64 ((wrap64 (x12 * x1)) + x13)) < (x0.length : Int) then (if x11.length < 17592186044416 then (spec_Crop.l1 k x0 x1 x3 x4 (x11 ++ [rd x0 (wrap64 ((wrap64 (x12 * x1)) + x13))]) x12 (wrap64 (x13 + 1))) else (none)) else (none)) else (none)) else (spec_Crop.l0 k x0 x1 x3 x4 x11 (wrap64 (x12 + 1)))
end
def spec_Crop.f (k : Nat) (l0 : List Int) (a1 : Int) (a2 : Int) (a3 : Int) (a4 : Int) : Option (List Int) := (some (([] : List Int) : List Int)).bind fun y119 => ((spec_PlaneOk.f k l0 a1 a2).bind fun t122 => (if t122 = true then ((spec_l01Between.f a3 1 a1).bind fun t123 => (if t123 = true then ((spec_l01Between.f a4 1 a2).bind fun t124 => (spec_Crop.j0 k l0 a1 a3 a4 y119 (!t124))) else (spec_Crop.j0 k l0 a1 a3 a4 y119 true))) else (spec_Crop.j0 k l0 a1 a3 a4 y119 true)))
theorem spec_Crop.mono_l : ∀ k, (∀ y0 y1 y2 y3 y4 y5, LeO (spec_Crop.j0 k y0 y1 y2 y3 y4 y5) (spec_Crop.j0 (k + 1) y0 y1 y2 y3 y4 y5)) ∧ (∀ y0 y1 y2 y3 y4 y5, LeO (spec_Crop.l0 k y0 y1 y2 y3 y4 y5) (spec_Crop.l0 (k + 1) y0 y1 y2 y3 y4 y5)) ∧ (∀ y0 y1 y2 y3 y4 y5 y6, LeO (spec_Crop.l1 k y0 y1 y2 y3 y4 y5 y6) (spec_Crop.l1 (k + 1) y0 y1 y2 y3 y4 y5 y6))
  | 0 => ⟨fun _ _ _ _ _ _ r h => by simp [spec_Crop.j0] at h, fun _ _ _ _ _ _ r h => by simp [spec_Crop.l0] at h, fun _ _ _ _ _ _ _ r h => by simp [spec_Crop.l1] at h⟩
  | k + 1 => by
    obtain ⟨ih0, ih1, ih2⟩ := spec_Crop.mono_l k
    refine ⟨?_, ?_, ?_⟩
    · intro y0 y1 y2 y3 y4 y5
      unfold spec_Crop.j0
      repeat' first
      | (with_reducible exact ih0 _ _ _ _ _ _)
      | (with_reducible exact ih1 _ _ _ _ _ _)
      | (with_reducible exact ih2 _ _ _ _ _ _ _)
      | (with_reducible exact spec_PlaneOk.mono _ _ _ _)
      | (with_reducible exact LeO.refl _)
      | (with_reducible exact LeO.none _)
      | (with_reducible refine LeO.ite ?_ ?_)
      | (with_reducible refine LeO.bind ?_ (fun _ => ?_))
      | exact ih0 _ _ _ _ _ _
      | exact ih1 _ _ _ _ _ _
      | exact ih2 _ _ _ _ _ _ _
      | exact spec_PlaneOk.mono _ _ _ _
      | exact LeO.none _
      | refine LeO.ite ?_ ?_
      | refine LeO.bind ?_ (fun _ => ?_)
    · intro y0 y1 y2 y3 y4 y5
      unfold spec_Crop.l0
      repeat' first
      | (with_reducible exact ih0 _ _ _ _ _ _)
      | (with_reducible exact ih1 _ _ _ _ _ _)
      | (with_reducible exact ih2 _ _ _ _ _ _ _)
      | (with_reducible exact spec_PlaneOk.mono _ _ _ _)
      | (with_reducible exact LeO.refl _)
      | (with_reducible exact LeO.none _)
      | (with_reducible refine LeO.ite ?_ ?_)
      | (with_reducible refine LeO.bind ?_ (fun _ => ?_))
      | exact ih0 _ _ _ _ _ _
      | exact ih1 _ _ _ _ _ _
      | exact ih2 _ _ _ _ _ _ _
      | exact spec_PlaneOk.mono _ _ _ _
      | exact LeO.none _
      | refine LeO.ite ?_ ?_
      | refine LeO.bind ?_ (fun _ => ?_)
    · intro y0 y1 y2 y3 y4 y5 y6
      unfold spec_Crop.l1
      repeat' first
      | (with_reducible exact ih0 _ _ _ _ _ _)
      | (with_reducible exact ih1 _ _ _ _ _ _)
      | (with_reducible exact ih2 _ _ _ _ _ _ _)
      | (with_reducible exact spec_PlaneOk.mono _ _ _ _)
      | (with_reducible exact LeO.refl _)
      | (with_reducible exact LeO.none _)
      | (with_reducible refine LeO.ite ?_ ?_)
      | (with_reducible refine LeO.bind ?_ (fun _ => ?_))
      | exact ih0 _ _ _ _ _ _
      | exact ih1 _ _ _ _ _ _
      | exact ih2 _ _ _ _ _ _ _
      | exact spec_PlaneOk.mono _ _ _ _
      | exact LeO.none _
      | refine LeO.ite ?_ ?_
      | refine LeO.bind ?_ (fun _ => ?_)
theorem spec_Crop.mono : ∀ a0 a1 a2 a3 a4 k, LeO (spec_Crop.f k a0 a1 a2 a3 a4) (spec_Crop.f (k + 1) a0 a1 a2 a3 a4) := by
  intro a0 a1 a2 a3 a4 k
  obtain ⟨ih0, ih1, ih2⟩ := spec_Crop.mono_l k
  unfold spec_Crop.f
  repeat' first
      | (with_reducible exact ih0 _ _ _ _ _ _)
      | (with_reducible exact ih1 _ _ _ _ _ _)
      | (with_reducible exact ih2 _ _ _ _ _ _ _)
      | (with_reducible exact spec_PlaneOk.mono _ _ _ _)
      | (with_reducible exact LeO.refl _)
      | (with_reducible exact LeO.none _)
      | (with_reducible refine LeO.ite ?_ ?_)
      | (with_reducible refine LeO.bind ?_ (fun _ => ?_))
      | exact ih0 _ _ _ _ _ _
      | exact ih1 _ _ _ _ _ _
      | exact ih2 _ _ _ _ _ _ _
      | exact spec_PlaneOk.mono _ _ _ _
      | exact LeO.none _
      | refine LeO.ite ?_ ?_
      | refine LeO.bind ?_ (fun _ => ?_)
set_option maxHeartbeats 8000000 in
set_option maxRecDepth 100000 in
theorem spec_Crop.calls (k : Nat) (A0 : Option Addr) (c0 : Nat) (l0 : List Int) (a1 : Int) (a2 : Int) (a3 : Int) (a4 : Int) (r : List Int) (w : World) (hr0 : Kd.C (Kd.int .i64) w A0 l0.length l0) (hc0 : l0.length ≤ c0) (h : spec_Crop.f k l0 a1 a2 a3 a4 = some r) :
    Calls Try.prog 19 #[.slice A0 l0.length c0, .int .i64 a1, .int .i64 a2, .int .i64 a3, .int .i64 a4] w fun e w' => ∃ v0_ : Value, e = .returned (v0_) ∧ Kd.R (Kd.int .i64) 3 w' w.heap.size (fun _ => True) v0_ r ∧ Below w.heap.size w w' := by
  have HR0 := Aside0.mk hr0
  have HC0 := Aside0.mk hc0
  clear hr0 hc0
  have HB := Aside0.mk (Below.refl w.heap.size w)
  have H : ((some (([] : List Int) : List Int)).bind fun y119 => ((spec_PlaneOk.f k l0 a1 a2).bind fun t122 => (if t122 = true then ((spec_l01Between.f a3 1 a1).bind fun t123 => (if t123 = true then ((spec_l01Between.f a4 1 a2).bind fun t124 => (spec_Crop.j0 k l0 a1 a3 a4 y119 (!t124))) else (spec_Crop.j0 k l0 a1 a3 a4 y119 true))) else (spec_Crop.j0 k l0 a1 a3 a4 y119 true)))) = some r := h
  clear h
  obtain ⟨y119, hy119⟩ : ∃ y_ : List Int, y_ = (([] : List Int)) := ⟨_, rfl⟩
  replace H : ((spec_PlaneOk.f k l0 a1 a2).bind fun t122 => (if t122 = true then ((spec_l01Between.f a3 1 a1).bind fun t123 => (if t123 = true then ((spec_l01Between.f a4 1 a2).bind fun t124 => (spec_Crop.j0 k l0 a1 a3 a4 y119 (!t124))) else (spec_Crop.j0 k l0 a1 a3 a4 y119 true))) else (spec_Crop.j0 k l0 a1 a3 a4 y119 true))) = some r := by first | (rw [hy119]; with_reducible exact H) | (have H2_ := (Option.bind_some _ _).symm.trans H; rw [hy119]; with_reducible exact H2_) | (have H2_ := (Option.bind_some _ _).symm.trans H; with_reducible exact H2_) | with_reducible exact H | (rw [hy119]; exact H) | exact H
  have Ny119 := Aside0.mk hy119
  clear hy119
  have HC6 := Aside0.mk H
  clear H
  go_enter Try.func19, Try.ntmps19
  go_upto_region 2 with (first | ((with_reducible refine gate_dst (N := 14) rfl ?_); refine Kd.R_lit (Kd.int .i64) _ 3 ?hg (N := 14) ?hd (xs := ([] : List Int)) (inner := []) (ok := fun _ => True) (okp := fun _ => True) ?hr ?hp (fun _ hk => hk) trivial (Below.refl _ _) (Nat.le_refl _) (by simp) ?_; (case hd => rfl); (case hg => rfl); (case hr => first | (go_simp; done) | (go_simp; rfl)); (case hp => exact (Reps.none _ _)); intro v120 w7 ho8 hb hg_ hnew_; clear hg_ hnew_; (first | rw [← Ny119.out] at ho8 | (simp only [Int.reduceToNat] at ho8; rw [← Ny119.out] at ho8)); have n0_ := Aside0.mk (Kd.R_lower ho8 (below_size (by repeat (first | (with_reducible first | exact HB.out | apply below_alloc | apply pw_below_drewN | apply below_drew1) | exact HB.out)))); have n1_ := Aside0.mk (below_step (by repeat (first | (with_reducible first | exact HB.out | apply below_alloc | apply pw_below_drewN | apply below_drew1) | exact HB.out)) hb); clear HB; have HO121 := n0_; have HB := n1_; clear n0_ n1_; clear hb ho8))
  (try simp only [Act.put, List.setIfInBounds_toArray, List.set_cons_zero, List.set_cons_succ])
  go_cut [31] (fun v31 wc => ∃ (kq : Nat) (x31_5 : Bool), v31 = .bool x31_5 ∧ Aside0 (spec_Crop.j0 kq l0 a1 a3 a4 y119 x31_5 = some r) ∧ Aside0 (kq ≤ k) ∧ Aside0 (Kd.R (Kd.int .i64) 3 wc w.heap.size (fun _ => True) v120 y119) ∧ Aside0 (Below w.heap.size w wc))
  case first =>
    have H := HC6.out
    clear HC6
    replace H := Option.bind_eq_some_iff.mp H
    obtain ⟨t122, A90, H⟩ := H
    replace H : (if t122 = true then ((spec_l01Between.f a3 1 a1).bind fun t123 => (if t123 = true then ((spec_l01Between.f a4 1 a2).bind fun t124 => (spec_Crop.j0 k l0 a1 a3 a4 y119 (!t124))) else (spec_Crop.j0 k l0 a1 a3 a4 y119 true))) else (spec_Crop.j0 k l0 a1 a3 a4 y119 true)) = some r := H
    have A9 := Aside0.mk A90
    clear A90
    by_cases c10 : t122 = true
    · subst c10
      have H1 : ((spec_l01Between.f a3 1 a1).bind fun t123 => (if t123 = true then ((spec_l01Between.f a4 1 a2).bind fun t124 => (spec_Crop.j0 k l0 a1 a3 a4 y119 (!t124))) else (spec_Crop.j0 k l0 a1 a3 a4 y119 true))) = some r := by rw [if_pos rfl] at H; exact H
      clear H
      have H := H1
      clear H1
      replace H := Option.bind_eq_some_iff.mp H
      obtain ⟨t123, A110, H⟩ := H
      replace H : (if t123 = true then ((spec_l01Between.f a4 1 a2).bind fun t124 => (spec_Crop.j0 k l0 a1 a3 a4 y119 (!t124))) else (spec_Crop.j0 k l0 a1 a3 a4 y119 true)) = some r := H
      have A11 := Aside0.mk A110
      clear A110
      by_cases c12 : t123 = true
      · subst c12
        have H1 : ((spec_l01Between.f a4 1 a2).bind fun t124 => (spec_Crop.j0 k l0 a1 a3 a4 y119 (!t124))) = some r := by rw [if_pos rfl] at H; exact H
        clear H
        have H := H1
        clear H1
        replace H := Option.bind_eq_some_iff.mp H
        obtain ⟨t124, A130, H⟩ := H
        replace H : (spec_Crop.j0 k l0 a1 a3 a4 y119 (!t124)) = some r := H
        have A13 := Aside0.mk A130
        clear A130
        have H' := Aside0.mk H
        clear H
        go_wp2_with (first | ((with_reducible refine gate_callee (f := 15) rfl ?_); refine goesL_ (some 18) rfl rfl Try.func15 (by kernel_rfl) rfl #[.slice A0 l0.length c0, .int .i64 a1, .int .i64 a2] rfl (by (try simp only [List.map_toArray, List.map_cons, List.map_nil]); first | done | rfl | (simp only [List.length_drop, List.length_take]; rfl)) ?_; (with_reducible refine (spec_PlaneOk.calls k _ _ l0 a1 a2 true _ ?side1 ?side2 A9.out).mono ?_); (case side1 => repeat (first | exact (Kd.C_below HR0.out HB.out) | (with_reducible refine Kd.C_alloc ?_ _) | (with_reducible refine Kd.C_drewN ?_ _) | (with_reducible refine Kd.C_drew ?_))); (case side2 => exact HC0.out); rintro e w' ⟨rfl, ⟨nd, rfl⟩⟩; refine ⟨_, rfl, ?_⟩) | (go_at_call 42; (with_reducible refine (spec_l01Between.calls a3 1 a1 true _ A11.out).mono ?_); rintro e w' ⟨rfl, ⟨nd, rfl⟩⟩) | (go_at_call 42; (with_reducible refine (spec_l01Between.calls a4 1 a2 t124 _ A13.out).mono ?_); rintro e w' ⟨rfl, ⟨nd, rfl⟩⟩))
        go_meet
        case rel => exact ⟨_, (!t124), (by first | rfl | (simp; done) | (simp [*]; done)), H', ⟨by first | omega | exact Nat.le_refl _⟩, ⟨by (with_reducible repeat (first | apply Kd.R_alloc | apply Kd.R_drewN | apply Kd.R_drew)); exact HO121.out⟩, ⟨by repeat (first | (with_reducible first | exact HB.out | apply below_alloc | apply pw_below_drewN | apply below_drew1) | exact HB.out)⟩⟩
      · replace c12 := Bool.eq_false_iff.mpr c12
        subst c12
        have H1 : (spec_Crop.j0 k l0 a1 a3 a4 y119 true) = some r := by rw [if_neg (show ¬ (false = true) by decide)] at H; exact H
        clear H
        have H := H1
        clear H1
        have H' := Aside0.mk H
        clear H
        go_wp2_with (first | ((with_reducible refine gate_callee (f := 15) rfl ?_); refine goesL_ (some 18) rfl rfl Try.func15 (by kernel_rfl) rfl #[.slice A0 l0.length c0, .int .i64 a1, .int .i64 a2] rfl (by (try simp only [List.map_toArray, List.map_cons, List.map_nil]); first | done | rfl | (simp only [List.length_drop, List.length_take]; rfl)) ?_; (with_reducible refine (spec_PlaneOk.calls k _ _ l0 a1 a2 true _ ?side1 ?side2 A9.out).mono ?_); (case side1 => repeat (first | exact (Kd.C_below HR0.out HB.out) | (with_reducible refine Kd.C_alloc ?_ _) | (with_reducible refine Kd.C_drewN ?_ _) | (with_reducible refine Kd.C_drew ?_))); (case side2 => exact HC0.out); rintro e w' ⟨rfl, ⟨nd, rfl⟩⟩; refine ⟨_, rfl, ?_⟩) | (go_at_call 42; (with_reducible refine (spec_l01Between.calls a3 1 a1 false _ A11.out).mono ?_); rintro e w' ⟨rfl, ⟨nd, rfl⟩⟩))
        go_meet
        case rel => exact ⟨_, (true), (by first | rfl | (simp; done) | (simp [*]; done)), H', ⟨by first | omega | exact Nat.le_refl _⟩, ⟨by (with_reducible repeat (first | apply Kd.R_alloc | apply Kd.R_drewN | apply Kd.R_drew)); exact HO121.out⟩, ⟨by repeat (first | (with_reducible first | exact HB.out | apply below_alloc | apply pw_below_drewN | apply below_drew1) | exact HB.out)⟩⟩
    · replace c10 := Bool.eq_false_iff.mpr c10
      subst c10
      have H1 : (spec_Crop.j0 k l0 a1 a3 a4 y119 true) = some r := by rw [if_neg (show ¬ (false = true) by decide)] at H; exact H
      clear H
      have H := H1
      clear H1
      have H' := Aside0.mk H
      clear H
      go_wp2_with (first | ((with_reducible refine gate_callee (f := 15) rfl ?_); refine goesL_ (some 18) rfl rfl Try.func15 (by kernel_rfl) rfl #[.slice A0 l0.length c0, .int .i64 a1, .int .i64 a2] rfl (by (try simp only [List.map_toArray, List.map_cons, List.map_nil]); first | done | rfl | (simp only [List.length_drop, List.length_take]; rfl)) ?_; (with_reducible refine (spec_PlaneOk.calls k _ _ l0 a1 a2 false _ ?side1 ?side2 A9.out).mono ?_); (case side1 => repeat (first | exact (Kd.C_below HR0.out HB.out) | (with_reducible refine Kd.C_alloc ?_ _) | (with_reducible refine Kd.C_drewN ?_ _) | (with_reducible refine Kd.C_drew ?_))); (case side2 => exact HC0.out); rintro e w' ⟨rfl, ⟨nd, rfl⟩⟩; refine ⟨_, rfl, ?_⟩))
      go_meet
      case rel => exact ⟨_, (true), (by first | rfl | (simp; done) | (simp [*]; done)), H', ⟨by first | omega | exact Nat.le_refl _⟩, ⟨by (with_reducible repeat (first | apply Kd.R_alloc | apply Kd.R_drewN | apply Kd.R_drew)); exact HO121.out⟩, ⟨by repeat (first | (with_reducible first | exact HB.out | apply below_alloc | apply pw_below_drewN | apply below_drew1) | exact HB.out)⟩⟩
  case rest =>
    clear HC6
    try clear c1
    try clear p2
    try clear c10
    try clear c12
    obtain ⟨kq, x31_5, rfl, HA, HJ5, HO_11, HB⟩ := hcut
    cases kq with
    | zero => exact absurd HA.out (by simp [spec_Crop.j0])
    | succ kj5 =>
      have H := HA.out
      clear HA
      simp only [spec_Crop.j0] at H
      by_cases c14 : x31_5 = true
      · subst c14
        have H1 : (some y119) = some r := by rw [if_pos rfl] at H; exact H
        clear H
        have H := H1
        clear H1
        obtain rfl := Option.some.inj H
        go_wp2
        go_ret
        exact ⟨_, by first | rfl | (simp [errW_none, errW_some] <;> rfl) | (simp [*, errW_none, errW_some] <;> rfl), by (with_reducible repeat (first | apply Kd.R_alloc | apply Kd.R_drewN | apply Kd.R_drew)); exact HO_11.out, by repeat (first | (with_reducible first | exact HB.out | apply below_alloc | apply pw_below_drewN | apply below_drew1) | exact HB.out)⟩
      · replace c14 := Bool.eq_false_iff.mpr c14
        subst c14
        have H1 : (spec_Crop.l0 kj5 l0 a1 a3 a4 y119 0) = some r := by rw [if_neg (show ¬ (false = true) by decide)] at H; exact H
        clear H
        have H := H1
        clear H1
        have H' := Aside0.mk H
        clear H
        go_wp2
        go_loopg [11, 12] kj5 (fun kq v11 v12 w' => ∃ (x11_2 : List Int) (x12_2 : Int), v12 = .int .i64 x12_2 ∧ Aside0 (spec_Crop.l0 kq l0 a1 a3 a4 x11_2 x12_2 = some r) ∧ Aside0 (kq ≤ kj5) ∧ Aside0 (Kd.R (Kd.int .i64) 3 w' w.heap.size (fun _ => True) v11 x11_2) ∧ Aside0 (Below w.heap.size w w'))
        case atStart => exact ⟨(y119), (0), (by first | rfl | (simp; done) | (simp [*]; done)), H', ⟨Nat.le_refl _⟩, ⟨by (with_reducible repeat (first | apply Kd.R_alloc | apply Kd.R_drewN | apply Kd.R_drew)); exact HO_11.out⟩, ⟨by repeat (first | (with_reducible first | exact HB.out | apply below_alloc | apply pw_below_drewN | apply below_drew1) | exact HB.out)⟩⟩
        case round =>
          clear H'
          try clear c1
          try clear p2
          try clear c10
          try clear c12
          try clear c14
          try clear p2
          obtain ⟨x11_2, x12_2, rfl, HA, HK2, HO_11, HB⟩ := hrel
          cases gk with
          | zero => exact absurd HA.out (by simp [spec_Crop.l0])
          | succ k2 =>
            have H := HA.out
            clear HA
            simp only [spec_Crop.l0] at H
            by_cases c15 : x12_2 < a4
            · rw [if_pos c15] at H
              have c15b0 : decide (x12_2 < a4) = true := decide_eq_true c15
              clear c15
              have H' := Aside0.mk H
              clear H
              go_wp2
              go_loopg [11, 13] k2 (fun kq v11 v13 w' => ∃ (x11_3 : List Int) (x13_3 : Int), v13 = .int .i64 x13_3 ∧ Aside0 (spec_Crop.l1 kq l0 a1 a3 a4 x11_3 x12_2 x13_3 = some r) ∧ Aside0 (kq ≤ k2) ∧ Aside0 (Kd.R (Kd.int .i64) 3 w' w.heap.size (fun _ => True) v11 x11_3) ∧ Aside0 (Below w.heap.size w w'))
              case atStart => exact ⟨(x11_2), (0), (by first | rfl | (simp; done) | (simp [*]; done)), H', ⟨Nat.le_refl _⟩, ⟨by (with_reducible repeat (first | apply Kd.R_alloc | apply Kd.R_drewN | apply Kd.R_drew)); exact HO_11.out⟩, ⟨by repeat (first | (with_reducible first | exact HB.out | apply below_alloc | apply pw_below_drewN | apply below_drew1) | exact HB.out)⟩⟩
              case round =>
                clear H'
                try clear c1
                try clear p2
                try clear c10
                try clear c12
                try clear c14
                try clear c15
                try clear c15b0
                try clear p2
                obtain ⟨x11_3, x13_3, rfl, HA, HK3, HO_11, HB⟩ := hrel
                cases gk with
                | zero => exact absurd HA.out (by simp [spec_Crop.l1])
                | succ k3 =>
                  have H := HA.out
                  clear HA
                  simp only [spec_Crop.l1] at H
                  by_cases c16 : x13_3 < a3
                  · rw [if_pos c16] at H
                    have c16b0 : decide (x13_3 < a3) = true := decide_eq_true c16
                    clear c16
                    obtain ⟨ji17, hji17⟩ : ∃ j_ : Int, (wrap64 ((wrap64 (x12_2 * a1)) + x13_3)) = j_ := ⟨_, rfl⟩
                    replace H : (if 0 ≤ (ji17) then (if (ji17) < (l0.length : Int) then (if x11_3.length < 17592186044416 then (spec_Crop.l1 k3 l0 a1 a3 a4 (x11_3 ++ [rd l0 (ji17)]) x12_2 (wrap64 (x13_3 + 1))) else (none)) else (none)) else (none)) = some r := by first | (rw [hji17] at H; exact H) | (simp only [hji17] at H ⊢; exact H)
                    have hji17w : (IntKind.i64.wrap ((wrap64 (x12_2 * a1)) + x13_3)) = ji17 := (i64_w _).trans hji17
                    by_cases c18 : 0 ≤ (ji17)
                    · rw [if_pos c18] at H
                      have c18b0 : decide (0 ≤ (ji17)) = true := decide_eq_true c18
                      clear c18
                      by_cases c19 : (ji17) < (l0.length : Int)
                      · rw [if_pos c19] at H
                        have c19b0 : decide ((ji17) < (l0.length : Int)) = true := decide_eq_true c19
                        clear c19
                        by_cases c20 : x11_3.length < 17592186044416
                        · rw [if_pos c20] at H
                          have LMc20 := Aside0.mk c20
                          clear c20
                          obtain ⟨y126, hy126⟩ : ∃ y_ : List Int, y_ = (x11_3 ++ [rd l0 (ji17)]) := ⟨_, rfl⟩
                          replace H : (spec_Crop.l1 k3 l0 a1 a3 a4 y126 x12_2 (wrap64 (x13_3 + 1))) = some r := by first | (rw [hy126]; with_reducible exact H) | (have H2_ := (Option.bind_some _ _).symm.trans H; rw [hy126]; with_reducible exact H2_) | (have H2_ := (Option.bind_some _ _).symm.trans H; with_reducible exact H2_) | with_reducible exact H | (rw [hy126]; exact H) | exact H
                          have Ny126 := Aside0.mk hy126
                          clear hy126
                          have H' := Aside0.mk H
                          clear H
                          have p125 : 0 ≤ ((ji17) : Int) := of_decide_eq_true (by first | (with_reducible assumption) | assumption)
                          have q125 : (ji17) < (l0.length : Int) := of_decide_eq_true (by first | (with_reducible assumption) | assumption)
                          obtain ⟨ad125, e125, hx125_0⟩ := Kd.at_int HR0.out (ji17) p125 q125
                          cases e125
                          replace hx125_0 := (HB.out.cell (World.block_lt_of_cell? w _ hx125_0)).trans hx125_0
                          replace p125 := eq_true p125
                          replace q125 := eq_true q125
                          go_wp2_with (first | ((with_reducible refine gate_builtin (b := .append) (xs := #[.tmp 43, .tmp 52]) rfl ?_); at_builtin; refine Kd.R_append (Kd.int .i64) (w0 := w) w.heap.size rfl (.tmp 43) (.tmp 52) 28 3 (.int .i64 0) 8 rfl Try.underlying28 info3 rfl (by decide) (by omega) u11 x11_3 (rd l0 (ji17)) [.int .i64 (rd l0 (ji17))] (fun _ => True) (fun _ => False) rfl rfl ?aP (fun _ hk => hk.elim) ?aF ?aO ?aB ?aS ?aL ?_; (case aP => exact rfl); (case aB => exact (by repeat (first | (with_reducible first | exact HB.out | apply below_alloc | apply pw_below_drewN | apply below_drew1) | exact HB.out))); (case aF => exact (fun _ _ => trivial)); (case aO => exact (by (with_reducible repeat (first | apply Kd.R_alloc | apply Kd.R_drewN | apply Kd.R_drew)); exact HO_11.out)); (case aS => exact (below_size (by repeat (first | (with_reducible first | exact HB.out | apply below_alloc | apply pw_below_drewN | apply below_drew1) | exact HB.out)))); (case aL => have := LMc20.out; omega); intro v127 w21 ho hb hg hat; rw [← Ny126.out] at ho; have n0_ := Aside0.mk (hb); have n1_ := Aside0.mk (ho); clear HB; clear HO_11; have HB := n0_; have HO128 := n1_; clear n0_ n1_; clear ho hb hg hat))
                          go_roundg k3
                          case measure => have := HJ5.out; have := HK2.out; have := HK3.out; omega
                          case rel => exact ⟨(y126), (wrap64 (x13_3 + 1)), (by first | rfl | (simp; done) | (simp [*]; done)), H', ⟨by have := HJ5.out; have := HK2.out; have := HK3.out; omega⟩, ⟨by (with_reducible repeat (first | apply Kd.R_alloc | apply Kd.R_drewN | apply Kd.R_drew)); exact HO128.out⟩, ⟨by repeat (first | (with_reducible first | exact HB.out | apply below_alloc | apply pw_below_drewN | apply below_drew1) | exact HB.out)⟩⟩
                        · rw [if_neg c20] at H
                          exact absurd H (by simp)
                      · rw [if_neg c19] at H
                        exact absurd H (by simp)
                    · rw [if_neg c18] at H
                      exact absurd H (by simp)
                  · rw [if_neg c16] at H
                    have c16b0 : decide (x13_3 < a3) = false := decide_eq_false c16
                    clear c16
                    have H' := Aside0.mk H
                    clear H
                    go_wp2
                    go_roundg k3
                    case measure => have := HJ5.out; have := HK2.out; have := HK3.out; omega
                    case rel => exact ⟨(x11_3), (wrap64 (x12_2 + 1)), (by first | rfl | (simp; done) | (simp [*]; done)), H', ⟨by have := HJ5.out; have := HK2.out; have := HK3.out; omega⟩, ⟨by (with_reducible repeat (first | apply Kd.R_alloc | apply Kd.R_drewN | apply Kd.R_drew)); exact HO_11.out⟩, ⟨by repeat (first | (with_reducible first | exact HB.out | apply below_alloc | apply pw_below_drewN | apply below_drew1) | exact HB.out)⟩⟩
            · rw [if_neg c15] at H
              have c15b0 : decide (x12_2 < a4) = false := decide_eq_false c15
              clear c15
              obtain rfl := Option.some.inj H
              go_wp2
              go_ret
              exact ⟨_, by first | rfl | (simp [errW_none, errW_some] <;> rfl) | (simp [*, errW_none, errW_some] <;> rfl), by (with_reducible repeat (first | apply Kd.R_alloc | apply Kd.R_drewN | apply Kd.R_drew)); exact HO_11.out, by repeat (first | (with_reducible first | exact HB.out | apply below_alloc | apply pw_below_drewN | apply below_drew1) | exact HB.out)⟩

theorem sCrop_l1 (l : List Int) (b1 b2 b3 b4 y : Nat) (out : List Int) (r : List Int) (k1 : b1 ≤ 4096) (k3 : b3 ≤ b1) (k4 : b4 ≤ 4096) (hy : y < b4) (kl : b4 * b1 ≤ l.length) (ho : out.length ≤ 16777216)
    (hc : Ev (fun k => spec_Crop.l0 k l b1 b3 b4 (out ++ rowL (fun y x => rd l (y * b1 + x)) b3 y) ((y + 1 : Nat) : Int)) r) :
    ∀ (d x : Nat), x + d = b3 → Ev (fun k => spec_Crop.l1 k l b1 b3 b4 (out ++ rowL (fun y x => rd l (y * b1 + x)) x y) y x) r := by
  intro d
  induction d with
  | zero =>
    intro x hx
    obtain rfl : x = b3 := by omega
    refine Ev.step (fun k => by rw [spec_Crop.l1]) (evNeg (by omega) ?_)
    rw [w64 (by omega) (by omega)]
    exact hc
  | succ d ih =>
    intro x hx
    have hm : y * b1 ≤ 4096 * 4096 := Nat.mul_le_mul (by omega) k1
    have hm2 : (y : Int) * b1 = ((y * b1 : Nat) : Int) := by push_cast; rfl
    have h2 : (y + 1) * b1 ≤ b4 * b1 := Nat.mul_le_mul_right _ (by omega)
    rw [Nat.succ_mul] at h2
    refine Ev.step (fun k => by rw [spec_Crop.l1]) (evPos (by omega) ?_)
    rw [w64 (x := (y : Int) * b1) (by omega) (by omega), w64 (x := (y : Int) * b1 + x) (by omega) (by omega), w64 (by omega) (by omega)]
    refine evPos (by omega) (evPos (by omega) (evPos (by rw [List.length_append, rowL_length]; omega) ?_))
    have := ih (x + 1) (by omega)
    rw [rowL_succ, ← List.append_assoc] at this
    exact this
theorem sCrop_l0 (l : List Int) (b1 b2 b3 b4 : Nat) (k1 : b1 ≤ 4096) (k3 : b3 ≤ b1) (k4 : b4 ≤ 4096) (kl : b4 * b1 ≤ l.length) :
    ∀ (d y : Nat), y + d = b4 → Ev (fun k => spec_Crop.l0 k l b1 b3 b4 (planeL (fun y x => rd l (y * b1 + x)) b3 y) y) (planeL (fun y x => rd l (y * b1 + x)) b3 b4) := by
  intro d
  induction d with
  | zero =>
    intro y hy
    obtain rfl : y = b4 := by omega
    exact Ev.step (fun k => by rw [spec_Crop.l0]) (evNeg (by omega) (Ev.now _))
  | succ d ih =>
    intro y hy
    refine Ev.step (fun k => by rw [spec_Crop.l0]) (evPos (by omega) ?_)
    have hl : (planeL (fun y x => rd l (y * b1 + x)) b3 y).length ≤ 16777216 := by
      rw [planeL_length]
      have : y * b3 ≤ 4096 * 4096 := Nat.mul_le_mul (by omega) (by omega)
      omega
    have := sCrop_l1 l b1 b2 b3 b4 y _ _ k1 k3 k4 (by omega) kl hl (by rw [← planeL_succ]; exact ih (y + 1) (by omega)) b3 0 (by omega)
    simpa [rowL] using this
theorem crop_guard {l : List Int} {a1 a2 a3 a4 : Int} (hp : planeB l a1 a2 = true) : (sidesB a3 a4 = true ∧ a3 ≤ a1 ∧ a4 ≤ a2) ↔ (inR a3 1 a1 = true ∧ inR a4 1 a2 = true) := by
  obtain ⟨m1, m2, m3, m4, ml⟩ := plane_bounds hp
  simp only [inR_iff]
  constructor
  · rintro ⟨hs, h3, h4⟩
    obtain ⟨n1, n2, n3, n4, _⟩ := sides_bounds hs
    exact ⟨⟨n1, h3⟩, n3, h4⟩
  · rintro ⟨⟨h1, h2⟩, h3, h4⟩
    refine ⟨?_, h2, h4⟩
    have hs : sidesB a1 a2 = true := by
      simp only [planeB, Bool.and_eq_true] at hp
      exact hp.1
    obtain ⟨_, _, _, _, h8⟩ := sides_bounds hs
    have h5 : a3 * a4 ≤ a1 * a2 := Int.mul_le_mul h2 h4 (by omega) (by omega)
    have h6 : 0 ≤ a3 * a4 := Int.mul_nonneg (by omega) (by omega)
    simp only [sidesB, Bool.and_eq_true, inR_iff, decide_eq_true_eq]
    rw [w64 (by omega) (by omega)]
    omega
theorem sCrop_f (l : List Int) (a1 a2 a3 a4 : Int) (hl : l.length ≤ maxLen) : Ev (fun k => spec_Crop.f k l a1 a2 a3 a4) (cropI l a1 a2 a3 a4) := by
  unfold spec_Crop.f
  refine evBind (Ev.now _) (evBind (sPlaneOk_f l a1 a2 hl) ?_)
  by_cases hp : planeB l a1 a2 = true
  · have hg := crop_guard (a3 := a3) (a4 := a4) hp
    refine evPos hp ?_
    rw [between_f]
    simp only [Option.bind_some]
    by_cases h3 : inR a3 1 a1 = true
    · refine evPos h3 ?_
      rw [between_f]
      simp only [Option.bind_some]
      refine Ev.step (fun k => by rw [spec_Crop.j0]) ?_
      by_cases h4 : inR a4 1 a2 = true
      · have hc := hg.2 ⟨h3, h4⟩
        refine evNeg (by simp [h4]) ?_
        unfold cropI
        rw [if_pos ⟨hp, hc⟩]
        obtain ⟨m1, m2, m3, m4, ml⟩ := plane_bounds hp
        rw [inR_iff] at h3 h4
        obtain ⟨b1, rfl⟩ := Int.eq_ofNat_of_zero_le (show 0 ≤ a1 by omega)
        obtain ⟨b2, rfl⟩ := Int.eq_ofNat_of_zero_le (show 0 ≤ a2 by omega)
        obtain ⟨b3, rfl⟩ := Int.eq_ofNat_of_zero_le (show 0 ≤ a3 by omega)
        obtain ⟨b4, rfl⟩ := Int.eq_ofNat_of_zero_le (show 0 ≤ a4 by omega)
        have e2 : l.length = b1 * b2 := by exact_mod_cast ml
        have e3 : b4 * b1 ≤ b2 * b1 := Nat.mul_le_mul_right _ (by omega)
        rw [Nat.mul_comm b2 b1] at e3
        have := sCrop_l0 l b1 b2 b3 b4 (by omega) (by omega) (by omega) (by omega) b4 0 (by omega)
        simpa [planeL] using this
      · refine evPos (by simp [h4]) ?_
        unfold cropI
        rw [if_neg (fun h => h4 (hg.1 h.2).2)]
        exact Ev.now _
    · refine evNeg h3 (Ev.step (fun k => by rw [spec_Crop.j0]) (evPos rfl ?_))
      unfold cropI
      rw [if_neg (fun h => h3 (hg.1 h.2).1)]
      exact Ev.now _
  · refine evNeg hp (Ev.step (fun k => by rw [spec_Crop.j0]) (evPos rfl ?_))
    unfold cropI
    rw [if_neg (fun h => hp h.1)]
    exact Ev.now _

/-! ### laws_markIntS: function 21 -/
def laws_markIntS.l0 : Nat → List Int → Int → Int → Option (Int × List Int)
  | 0, _, _, _ => none
  | k + 1, x0, x1, x5 => if x5 < (x0.length : Int) then (if 0 ≤ x5 then (laws_markIntS.l0 k (x0.set (x5 : Int).toNat x1) (wrap64 (x1 + 1)) (wrap64 (x5 + 1))) else (none)) else (some (x1, x0))
def laws_markIntS.f (k : Nat) (l0 : List Int) (a1 : Int) : Option (Int × List Int) := laws_markIntS.l0 k l0 a1 0
theorem laws_markIntS.mono_l : ∀ k, (∀ y0 y1 y2, LeO (laws_markIntS.l0 k y0 y1 y2) (laws_markIntS.l0 (k + 1) y0 y1 y2))
  | 0 => fun _ _ _ r h => by simp [laws_markIntS.l0] at h
  | k + 1 => by
    have ih0 := laws_markIntS.mono_l k
    · intro y0 y1 y2
      unfold laws_markIntS.l0
      repeat' first
      | (with_reducible exact ih0 _ _ _)
      | (with_reducible exact LeO.refl _)
      | (with_reducible exact LeO.none _)
      | (with_reducible refine LeO.ite ?_ ?_)
      | (with_reducible refine LeO.bind ?_ (fun _ => ?_))
      | exact ih0 _ _ _
      | exact LeO.none _
      | refine LeO.ite ?_ ?_
      | refine LeO.bind ?_ (fun _ => ?_)
theorem laws_markIntS.mono : ∀ a0 a1 k, LeO (laws_markIntS.f k a0 a1) (laws_markIntS.f (k + 1) a0 a1) := by
  intro a0 a1 k
  have ih0 := laws_markIntS.mono_l k
  unfold laws_markIntS.f
  repeat' first
      | (with_reducible exact ih0 _ _ _)
      | (with_reducible exact LeO.refl _)
      | (with_reducible exact LeO.none _)
      | (with_reducible refine LeO.ite ?_ ?_)
      | (with_reducible refine LeO.bind ?_ (fun _ => ?_))
      | exact ih0 _ _ _
      | exact LeO.none _
      | refine LeO.ite ?_ ?_
      | refine LeO.bind ?_ (fun _ => ?_)
set_option maxHeartbeats 8000000 in
set_option maxRecDepth 100000 in
theorem laws_markIntS.calls (k : Nat) (P0_ : Nat → Prop) (u9000_ : Value) (l0 : List Int) (a1 : Int) (r1 : Int) (r2 : List Int) (w0 w : World) (hB : Below w0.heap.size w0 w) (ho0 : Kd.R (Kd.int .i64) 3 w w0.heap.size P0_ u9000_ l0) (h : laws_markIntS.f k l0 a1 = some (r1, r2)) :
    Calls Try.prog 21 #[u9000_, .int .i64 a1] w fun e w' => e = .returned (.int .i64 r1) ∧ Kd.R (Kd.int .i64) 3 w' w0.heap.size (fun k_ => (P0_ k_ ∨ w.heap.size ≤ k_)) u9000_ r2 ∧ Below w0.heap.size w0 w' ∧ Kept w w' (fun k_ => P0_ k_) := by
  have HO0 := Aside0.mk (show Kd.R (Kd.int .i64) 3 w w0.heap.size (fun k_ => (P0_ k_ ∨ w.heap.size ≤ k_)) u9000_ l0 from Kd.R_mono ho0 (fun k_ hk => (.inl hk)))
  have HK := Aside0.mk (Kept.refl w (fun k_ => P0_ k_))
  have HW0 := Aside0.mk hB.size
  have HB := Aside0.mk hB
  clear hB
  have H : (laws_markIntS.l0 k l0 a1 0) = some (r1, r2) := h
  clear h
  have H' := Aside0.mk H
  clear H
  go_enter Try.func21, Try.ntmps21
  go_wp2
  go_loopg [1, 5] k (fun kq v1 v5 w' => ∃ (x0_1 : List Int) (x1_1 : Int) (x5_1 : Int), v1 = .int .i64 x1_1 ∧ v5 = .int .i64 x5_1 ∧ Aside0 (laws_markIntS.l0 kq x0_1 x1_1 x5_1 = some (r1, r2)) ∧ Aside0 (kq ≤ k) ∧ Aside0 (Kd.R (Kd.int .i64) 3 w' w0.heap.size (fun k_ => (P0_ k_ ∨ w.heap.size ≤ k_)) u9000_ x0_1) ∧ Aside0 (Kept w w' (fun k_ => P0_ k_)) ∧ Aside0 (Below w0.heap.size w0 w'))
  case atStart => exact ⟨(l0), (a1), (0), (by first | rfl | (simp; done) | (simp [*]; done)), (by first | rfl | (simp; done) | (simp [*]; done)), H', ⟨Nat.le_refl _⟩, ⟨by (with_reducible repeat (first | apply Kd.R_alloc | apply Kd.R_drewN | apply Kd.R_drew)); exact HO0.out⟩, ⟨by repeat (first | (with_reducible first | exact HK.out | apply Kept.alloc | apply Kept.drewN | apply Kept.drew) | exact HK.out)⟩, ⟨by repeat (first | (with_reducible first | exact HB.out | apply below_alloc | apply pw_below_drewN | apply below_drew1) | exact HB.out)⟩⟩
  case round =>
    clear H'
    try clear c2
    try clear p2
    obtain ⟨x0_1, x1_1, x5_1, rfl, rfl, HA, HK1, HO_0, HK, HB⟩ := hrel
    cases gk with
    | zero => exact absurd HA.out (by simp [laws_markIntS.l0])
    | succ k1 =>
      have H := HA.out
      clear HA
      simp only [laws_markIntS.l0] at H
      by_cases c3 : x5_1 < (x0_1.length : Int)
      · rw [if_pos c3] at H
        have c3b0 : decide (x5_1 < (x0_1.length : Int)) = true := decide_eq_true c3
        clear c3
        by_cases c4 : 0 ≤ x5_1
        · rw [if_pos c4] at H
          have c4b0 : decide (0 ≤ x5_1) = true := decide_eq_true c4
          clear c4
          obtain ⟨y129, hy129⟩ : ∃ y_ : List Int, y_ = (x0_1.set (x5_1 : Int).toNat x1_1) := ⟨_, rfl⟩
          replace H : (laws_markIntS.l0 k1 y129 (wrap64 (x1_1 + 1)) (wrap64 (x5_1 + 1))) = some (r1, r2) := by first | (rw [hy129]; with_reducible exact H) | (have H2_ := (Option.bind_some _ _).symm.trans H; rw [hy129]; with_reducible exact H2_) | (have H2_ := (Option.bind_some _ _).symm.trans H; with_reducible exact H2_) | with_reducible exact H | (rw [hy129]; exact H) | exact H
          have Ny129 := Aside0.mk hy129
          clear hy129
          have H' := Aside0.mk H
          clear H
          obtain ⟨Ao6, co6, eo6⟩ := Kd.R_slice HO_0.out
          subst eo6
          have p5 : 0 ≤ (x5_1 : Int) := of_decide_eq_true (by first | (with_reducible assumption) | assumption)
          have q5 : (x5_1 : Int) < ((x0_1.length : Int) : Int) := of_decide_eq_true (by first | (with_reducible assumption) | assumption)
          obtain ⟨go5, co5, eo5, gb5, gl5, cl5, HG5⟩ := Kd.R_form HO_0.out (by omega)
          (first | cases eo5 | (injection eo5 with ea_ en_ ec_; (first | subst ea_ | (injection ea_ with ea_; subst ea_)); subst ec_; clear en_))
          have GB5 := Aside0.mk gb5
          have GG5 := Aside0.mk HG5
          clear gb5 gl5 HG5
          have HMgo5 := Aside0.mk (show (P0_ go5 ∨ w.heap.size ≤ go5) from (HO_0.out.1 _ rfl))
          obtain ⟨hx5_0, hf5_0⟩ := Kd.R_celln 0 HO_0.out (x5_1 : Int) p5 q5
          replace p5 := eq_true p5
          replace q5 := eq_true q5
          have HP7 := Kd.R_putg HO_0.out (x5_1 : Int) x1_1
          go_wp2_with (first | ((with_reducible refine gate_store (t := 3) (p := 15) rfl ?_); refine store_event (t := 3) (p := 15) (v := ?vo_w8) (w1 := (wr.setCell ⟨go5, (x5_1 : Int).toNat, none⟩ (.int .i64 x1_1))) ?hg ?ho ?hn ?hr ?_; (case ho => rfl); (case hg => rfl); (case hn => rfl); (case hr => first | (go_simp; done) | (go_simp; rfl)); intro w8 hw; have hg : wr.grownBy w8 (some go5) := (by rw [hw]; exact HP7.2); have hp_ : Kd.R (Kd.int .i64) 3 w8 w0.heap.size (fun k_ => (P0_ k_ ∨ w.heap.size ≤ k_)) (.slice (some ⟨go5, 0, none⟩) x0_1.length co6) y129 := (by rw [hw, Ny129.out]; exact HP7.1); clear HP7; have n0_ := Aside0.mk (hp_); have n1_ := Aside0.mk ((by rw [hw]; exact below_set (HB.out) GB5.out : Below w0.heap.size w0 w8)); have n2_ := Aside0.mk (Kept.of_grown (S := (fun k_ => P0_ k_)) hg (by repeat (first | (with_reducible first | exact HK.out | apply Kept.alloc | apply Kept.drewN | apply Kept.drew) | exact HK.out)) (fun k_ e_ => (HO_0.out.1 k_ e_))); clear HO_0; clear HB; clear HK; have HO_0 := n0_; have HB := n1_; have HK := n2_; clear n0_ n1_ n2_; clear hg hw hp_))
          go_roundg k1
          case measure => have := HK1.out; omega
          case rel => exact ⟨(y129), (wrap64 (x1_1 + 1)), (wrap64 (x5_1 + 1)), (by first | rfl | (simp; done) | (simp [*]; done)), (by first | rfl | (simp; done) | (simp [*]; done)), H', ⟨by have := HK1.out; omega⟩, ⟨by (with_reducible repeat (first | apply Kd.R_alloc | apply Kd.R_drewN | apply Kd.R_drew)); exact HO_0.out⟩, ⟨by repeat (first | (with_reducible first | exact HK.out | apply Kept.alloc | apply Kept.drewN | apply Kept.drew) | exact HK.out)⟩, ⟨by repeat (first | (with_reducible first | exact HB.out | apply below_alloc | apply pw_below_drewN | apply below_drew1) | exact HB.out)⟩⟩
        · rw [if_neg c4] at H
          exact absurd H (by simp)
      · rw [if_neg c3] at H
        have c3b0 : decide (x5_1 < (x0_1.length : Int)) = false := decide_eq_false c3
        clear c3
        simp only [Option.some.injEq, Prod.mk.injEq] at H
        obtain ⟨rfl, rfl⟩ := H
        obtain ⟨Ao9, co9, eo9⟩ := Kd.R_slice HO_0.out
        subst eo9
        go_wp2
        go_ret
        exact ⟨by first | rfl | (simp [errW_none, errW_some] <;> rfl) | (simp [*, errW_none, errW_some] <;> rfl), by (with_reducible repeat (first | apply Kd.R_alloc | apply Kd.R_drewN | apply Kd.R_drew)); exact HO_0.out, by repeat (first | (with_reducible first | exact HB.out | apply below_alloc | apply pw_below_drewN | apply below_drew1) | exact HB.out), by repeat (first | (with_reducible first | exact HK.out | apply Kept.alloc | apply Kept.drewN | apply Kept.drew) | exact HK.out)⟩

theorem markIntS_l0 (l : List Int) (a : Int) (h0 : 0 ≤ a) (h1 : a + l.length ≤ 4611686018427387904) : ∀ (d i : Nat), i + d = l.length → Ev (fun k => laws_markIntS.l0 k (countL a i ++ l.drop i) (a + i) i) (a + l.length, countL a l.length) := by
  intro d
  induction d with
  | zero =>
    intro i hi
    obtain rfl : i = l.length := by omega
    refine Ev.step (fun k => by rw [laws_markIntS.l0]) ?_
    rw [List.drop_length, List.append_nil]
    exact evNeg (by rw [countL_length]; omega) (Ev.now _)
  | succ d ih =>
    intro i hi
    have hlt : i < l.length := by omega
    refine Ev.step (fun k => by rw [laws_markIntS.l0]) ?_
    refine evPos (by rw [List.length_append, countL_length, List.length_drop]; omega) (evPos (by omega) ?_)
    rw [w64 (by omega) (by omega), w64 (by omega) (by omega), Int.toNat_natCast, List.set_append_right _ _ (by rw [countL_length]; exact Nat.le_refl _), countL_length, Nat.sub_self, drop_get hlt, List.set_cons_zero]
    have := ih (i + 1) (by omega)
    rw [countL_succ, List.append_assoc] at this
    rw [show a + (i : Int) + 1 = a + ((i + 1 : Nat) : Int) from by omega, show (i : Int) + 1 = ((i + 1 : Nat) : Int) from by omega]
    exact this
theorem markIntS_f (l : List Int) (a : Int) (h0 : 0 ≤ a) (h1 : a + l.length ≤ 4611686018427387904) : Ev (fun k => laws_markIntS.f k l a) (a + l.length, countL a l.length) := by
  have := markIntS_l0 l a h0 h1 l.length 0 (by omega)
  simpa [laws_markIntS.f, countL] using this

end Go.Proofs.Ytdakegolcmcgmaa.CB
