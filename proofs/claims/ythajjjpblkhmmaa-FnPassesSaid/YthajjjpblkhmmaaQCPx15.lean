/- Functions that a law of this seat reaches: written by a program of this session (wip/xprint.py), and by hand. -/
import Derived.Test.YthajjjpblkhmmaaQMac
import Derived.Test.YthajjjpblkhmmaaQCPx0
import Derived.Test.YthajjjpblkhmmaaQCPx1
namespace Go.Proofs.Ythajjjpblkhmmaa.CP
open Go.RowKit Go.Proofs.Ythajjjpblkhmmaa.B Go.Proofs.YthajjjpblkhmmaaW.PrintWords Go.Proofs.YthajjjpblkhmmaaW.PrintLast Go.Proofs.YthajjjpblkhmmaaW.PrintMore
attribute [local go_sem] max2_int min2_int max_two min_two max_three min_three max_four min_four   -- for this text's walks alone
set_option linter.unusedVariables false
set_option linter.unusedSimpArgs false

/-! ### spec_FrameOk: function 85 -/
mutual
def spec_FrameOk.j0 : Nat → Bool → Int → Int → Int → Int → List (S42) → Option (Bool)
  | 0, _, _, _, _, _, _ => none
  | k + 1, x47, x481000, x481001, x481002, x481003, x481004 => if x47 = true then (some false) else (spec_FrameOk.l0 k 0 0 x481000 x481001 x481002 x481003 x481004)
def spec_FrameOk.l0 : Nat → Int → Int → Int → Int → Int → Int → List (S42) → Option (Bool)
  | 0, _, _, _, _, _, _, _ => none
  | k + 1, x3, x4, x481000, x481001, x481002, x481003, x481004 => if x4 < (x481004.length : Int) then (if 0 ≤ x4 then ((spec_l01Between.f ((rd_T42 x481004 x4).f0) 0 255).bind fun t491 => (if t491 = true then ((spec_l01Between.f ((rd_T42 x481004 x4).f1) 1 4).bind fun t492 => (if t492 = true then ((spec_l01Between.f ((rd_T42 x481004 x4).f2) 1 4).bind fun t493 => (if t493 = true then ((spec_l01Between.f ((rd_T42 x481004 x4).f3) 0 3).bind fun t494 => (spec_FrameOk.j2 k x3 x4 (!t494) x481000 x481001 x481002 x481003 x481004 ((rd_T42 x481004 x4).f0) ((rd_T42 x481004 x4).f1) ((rd_T42 x481004 x4).f2) ((rd_T42 x481004 x4).f3))) else (spec_FrameOk.j2 k x3 x4 true x481000 x481001 x481002 x481003 x481004 ((rd_T42 x481004 x4).f0) ((rd_T42 x481004 x4).f1) ((rd_T42 x481004 x4).f2) ((rd_T42 x481004 x4).f3)))) else (spec_FrameOk.j2 k x3 x4 true x481000 x481001 x481002 x481003 x481004 ((rd_T42 x481004 x4).f0) ((rd_T42 x481004 x4).f1) ((rd_T42 x481004 x4).f2) ((rd_T42 x481004 x4).f3)))) else (spec_FrameOk.j2 k x3 x4 true x481000 x481001 x481002 x481003 x481004 ((rd_T42 x481004 x4).f0) ((rd_T42 x481004 x4).f1) ((rd_T42 x481004 x4).f2) ((rd_T42 x481004 x4).f3)))) else (none)) else (some (decide (x3 ≤ 10)))
def spec_FrameOk.j2 : Nat → Int → Int → Bool → Int → Int → Int → Int → List (S42) → Int → Int → Int → Int → Option (Bool)
  | 0, _, _, _, _, _, _, _, _, _, _, _, _ => none
  | k + 1, x3, x4, x81, x481000, x481001, x481002, x481003, x481004, x491000, x491001, x491002, x491003 => if x81 = true then (some false) else (spec_FrameOk.l1 k x3 x4 0 x481000 x481001 x481002 x481003 x481004 x491000 x491001 x491002 x491003)
def spec_FrameOk.l1 : Nat → Int → Int → Int → Int → Int → Int → Int → List (S42) → Int → Int → Int → Int → Option (Bool)
  | 0, _, _, _, _, _, _, _, _, _, _, _, _ => none
  | k + 1, x3, x4, x6, x481000, x481001, x481002, x481003, x481004, x491000, x491001, x491002, x491003 => if x6 < x4 then (if 0 ≤ x6 then (if x6 < (x481004.length : Int) then (if ((rd_T42 x481004 x6).f0) = x491000 then (some false) else (spec_FrameOk.l1 k x3 x4 (wrap64 (x6 + 1)) x481000 x481001 x481002 x481003 x481004 x491000 x491001 x491002 x491003)) else (none)) else (none)) else (spec_FrameOk.l0 k (wrap64 (x3 + (wrap64 (x491001 * x491002)))) (wrap64 (x4 + 1)) x481000 x481001 x481002 x481003 x481004)
end
def spec_FrameOk.f (k : Nat) (a0_0 : Int) (a0_1 : Int) (a0_2 : Int) (a0_3 : Int) (l0_4 : List (S42)) : Option (Bool) := if a0_0 = 8 then ((spec_l01Between.f a0_1 1 256).bind fun t481 => (if t481 = true then ((spec_l01Between.f a0_2 1 256).bind fun t482 => (if t482 = true then (if (wrap64 (a0_1 * a0_2)) > 16384 then (spec_FrameOk.j0 k true a0_0 a0_1 a0_2 a0_3 l0_4) else ((spec_l01Between.f a0_3 0 255).bind fun t483 => (if t483 = true then ((spec_l01Between.f (l0_4.length : Int) 1 4).bind fun t484 => (spec_FrameOk.j0 k (!t484) a0_0 a0_1 a0_2 a0_3 l0_4)) else (spec_FrameOk.j0 k true a0_0 a0_1 a0_2 a0_3 l0_4)))) else (spec_FrameOk.j0 k true a0_0 a0_1 a0_2 a0_3 l0_4))) else (spec_FrameOk.j0 k true a0_0 a0_1 a0_2 a0_3 l0_4))) else (if a0_0 = 12 then ((spec_l01Between.f a0_1 1 256).bind fun t485 => (if t485 = true then ((spec_l01Between.f a0_2 1 256).bind fun t486 => (if t486 = true then (if (wrap64 (a0_1 * a0_2)) > 16384 then (spec_FrameOk.j0 k true a0_0 a0_1 a0_2 a0_3 l0_4) else ((spec_l01Between.f a0_3 0 255).bind fun t487 => (if t487 = true then ((spec_l01Between.f (l0_4.length : Int) 1 4).bind fun t488 => (spec_FrameOk.j0 k (!t488) a0_0 a0_1 a0_2 a0_3 l0_4)) else (spec_FrameOk.j0 k true a0_0 a0_1 a0_2 a0_3 l0_4)))) else (spec_FrameOk.j0 k true a0_0 a0_1 a0_2 a0_3 l0_4))) else (spec_FrameOk.j0 k true a0_0 a0_1 a0_2 a0_3 l0_4))) else (spec_FrameOk.j0 k true a0_0 a0_1 a0_2 a0_3 l0_4))
theorem spec_FrameOk.mono_l : ∀ k, (∀ y0 y1 y2 y3 y4 y5, LeO (spec_FrameOk.j0 k y0 y1 y2 y3 y4 y5) (spec_FrameOk.j0 (k + 1) y0 y1 y2 y3 y4 y5)) ∧ (∀ y0 y1 y2 y3 y4 y5 y6, LeO (spec_FrameOk.l0 k y0 y1 y2 y3 y4 y5 y6) (spec_FrameOk.l0 (k + 1) y0 y1 y2 y3 y4 y5 y6)) ∧ (∀ y0 y1 y2 y3 y4 y5 y6 y7 y8 y9 y10 y11, LeO (spec_FrameOk.j2 k y0 y1 y2 y3 y4 y5 y6 y7 y8 y9 y10 y11) (spec_FrameOk.j2 (k + 1) y0 y1 y2 y3 y4 y5 y6 y7 y8 y9 y10 y11)) ∧ (∀ y0 y1 y2 y3 y4 y5 y6 y7 y8 y9 y10 y11, LeO (spec_FrameOk.l1 k y0 y1 y2 y3 y4 y5 y6 y7 y8 y9 y10 y11) (spec_FrameOk.l1 (k + 1) y0 y1 y2 y3 y4 y5 y6 y7 y8 y9 y10 y11))
 | 0 => ⟨fun _ _ _ _ _ _ r h => by simp [spec_FrameOk.j0] at h, fun _ _ _ _ _ _ _ r h => by simp [spec_FrameOk.l0] at h, fun _ _ _ _ _ _ _ _ _ _ _ _ r h => by simp [spec_FrameOk.j2] at h, fun _ _ _ _ _ _ _ _ _ _ _ _ r h => by simp [spec_FrameOk.l1] at h⟩
 | k + 1 => by
  obtain ⟨ih0, ih1, ih2, ih3⟩ := spec_FrameOk.mono_l k
  refine ⟨?_, ?_, ?_, ?_⟩
  ·intro y0 y1 y2 y3 y4 y5
   unfold spec_FrameOk.j0
   repeat' first
   | (with_reducible exact ih0 _ _ _ _ _ _)
   | (with_reducible exact ih1 _ _ _ _ _ _ _)
   | (with_reducible exact ih2 _ _ _ _ _ _ _ _ _ _ _ _)
   | (with_reducible exact ih3 _ _ _ _ _ _ _ _ _ _ _ _)
   | (with_reducible exact LeO.refl _)
   | (with_reducible exact LeO.none _)
   | (with_reducible refine LeO.ite ?_ ?_)
   | (with_reducible refine LeO.bind ?_ (fun _ => ?_))
   | exact ih0 _ _ _ _ _ _
   | exact ih1 _ _ _ _ _ _ _
   | exact ih2 _ _ _ _ _ _ _ _ _ _ _ _
   | exact ih3 _ _ _ _ _ _ _ _ _ _ _ _
   | exact LeO.none _
   | refine LeO.ite ?_ ?_
   | refine LeO.bind ?_ (fun _ => ?_)
  ·intro y0 y1 y2 y3 y4 y5 y6
   unfold spec_FrameOk.l0
   repeat' first
   | (with_reducible exact ih0 _ _ _ _ _ _)
   | (with_reducible exact ih1 _ _ _ _ _ _ _)
   | (with_reducible exact ih2 _ _ _ _ _ _ _ _ _ _ _ _)
   | (with_reducible exact ih3 _ _ _ _ _ _ _ _ _ _ _ _)
   | (with_reducible exact LeO.refl _)
   | (with_reducible exact LeO.none _)
   | (with_reducible refine LeO.ite ?_ ?_)
   | (with_reducible refine LeO.bind ?_ (fun _ => ?_))
   | exact ih0 _ _ _ _ _ _
   | exact ih1 _ _ _ _ _ _ _
   | exact ih2 _ _ _ _ _ _ _ _ _ _ _ _
   | exact ih3 _ _ _ _ _ _ _ _ _ _ _ _
   | exact LeO.none _
   | refine LeO.ite ?_ ?_
   | refine LeO.bind ?_ (fun _ => ?_)
  ·intro y0 y1 y2 y3 y4 y5 y6 y7 y8 y9 y10 y11
   unfold spec_FrameOk.j2
   repeat' first
   | (with_reducible exact ih0 _ _ _ _ _ _)
   | (with_reducible exact ih1 _ _ _ _ _ _ _)
   | (with_reducible exact ih2 _ _ _ _ _ _ _ _ _ _ _ _)
   | (with_reducible exact ih3 _ _ _ _ _ _ _ _ _ _ _ _)
   | (with_reducible exact LeO.refl _)
   | (with_reducible exact LeO.none _)
   | (with_reducible refine LeO.ite ?_ ?_)
   | (with_reducible refine LeO.bind ?_ (fun _ => ?_))
   | exact ih0 _ _ _ _ _ _
   | exact ih1 _ _ _ _ _ _ _
   | exact ih2 _ _ _ _ _ _ _ _ _ _ _ _
   | exact ih3 _ _ _ _ _ _ _ _ _ _ _ _
   | exact LeO.none _
   | refine LeO.ite ?_ ?_
   | refine LeO.bind ?_ (fun _ => ?_)
  ·intro y0 y1 y2 y3 y4 y5 y6 y7 y8 y9 y10 y11
   unfold spec_FrameOk.l1
   repeat' first
   | (with_reducible exact ih0 _ _ _ _ _ _)
   | (with_reducible exact ih1 _ _ _ _ _ _ _)
   | (with_reducible exact ih2 _ _ _ _ _ _ _ _ _ _ _ _)
   | (with_reducible exact ih3 _ _ _ _ _ _ _ _ _ _ _ _)
   | (with_reducible exact LeO.refl _)
   | (with_reducible exact LeO.none _)
   | (with_reducible refine LeO.ite ?_ ?_)
   | (with_reducible refine LeO.bind ?_ (fun _ => ?_))
   | exact ih0 _ _ _ _ _ _
   | exact ih1 _ _ _ _ _ _ _
   | exact ih2 _ _ _ _ _ _ _ _ _ _ _ _
   | exact ih3 _ _ _ _ _ _ _ _ _ _ _ _
   | exact LeO.none _
   | refine LeO.ite ?_ ?_
   | refine LeO.bind ?_ (fun _ => ?_)
theorem spec_FrameOk.mono : ∀ a0 a1 a2 a3 a4 k, LeO (spec_FrameOk.f k a0 a1 a2 a3 a4) (spec_FrameOk.f (k + 1) a0 a1 a2 a3 a4) := by
 intro a0 a1 a2 a3 a4 k
 obtain ⟨ih0, ih1, ih2, ih3⟩ := spec_FrameOk.mono_l k
 unfold spec_FrameOk.f
 repeat' first
   | (with_reducible exact ih0 _ _ _ _ _ _)
   | (with_reducible exact ih1 _ _ _ _ _ _ _)
   | (with_reducible exact ih2 _ _ _ _ _ _ _ _ _ _ _ _)
   | (with_reducible exact ih3 _ _ _ _ _ _ _ _ _ _ _ _)
   | (with_reducible exact LeO.refl _)
   | (with_reducible exact LeO.none _)
   | (with_reducible refine LeO.ite ?_ ?_)
   | (with_reducible refine LeO.bind ?_ (fun _ => ?_))
   | exact ih0 _ _ _ _ _ _
   | exact ih1 _ _ _ _ _ _ _
   | exact ih2 _ _ _ _ _ _ _ _ _ _ _ _
   | exact ih3 _ _ _ _ _ _ _ _ _ _ _ _
   | exact LeO.none _
   | refine LeO.ite ?_ ?_
   | refine LeO.bind ?_ (fun _ => ?_)
set_option maxHeartbeats 8000000 in
set_option maxRecDepth 100000 in
theorem spec_FrameOk.calls (k : Nat) (a0_0 : Int) (a0_1 : Int) (a0_2 : Int) (a0_3 : Int) (A0_4 : Option Addr) (c0_4 : Nat) (l0_4 : List (S42)) (r : Bool) (w : World) (hr0_4 : Kd.C k42 w A0_4 l0_4.length l0_4) (hc0_4 : l0_4.length ≤ c0_4) (h : spec_FrameOk.f k a0_0 a0_1 a0_2 a0_3 l0_4 = some r) :
  Calls Try.prog 85 #[.agg #[.int .i64 a0_0, .int .i64 a0_1, .int .i64 a0_2, .int .i64 a0_3, .slice A0_4 l0_4.length c0_4]] w fun e w' => e = .returned (.bool r) ∧ Below w.heap.size w w' := by
 have hu45 := Try.underlying45
 have hu42 := Try.underlying42
 have HR0_4 := aM hr0_4
 have HC0_4 := aM hc0_4
 clear hr0_4 hc0_4
 have HB := aM (Below.refl w.heap.size w)
 have H : (if a0_0 = 8 then ((spec_l01Between.f a0_1 1 256).bind fun t481 => (if t481 = true then ((spec_l01Between.f a0_2 1 256).bind fun t482 => (if t482 = true then (if (wrap64 (a0_1 * a0_2)) > 16384 then (spec_FrameOk.j0 k true a0_0 a0_1 a0_2 a0_3 l0_4) else ((spec_l01Between.f a0_3 0 255).bind fun t483 => (if t483 = true then ((spec_l01Between.f (l0_4.length : Int) 1 4).bind fun t484 => (spec_FrameOk.j0 k (!t484) a0_0 a0_1 a0_2 a0_3 l0_4)) else (spec_FrameOk.j0 k true a0_0 a0_1 a0_2 a0_3 l0_4)))) else (spec_FrameOk.j0 k true a0_0 a0_1 a0_2 a0_3 l0_4))) else (spec_FrameOk.j0 k true a0_0 a0_1 a0_2 a0_3 l0_4))) else (if a0_0 = 12 then ((spec_l01Between.f a0_1 1 256).bind fun t485 => (if t485 = true then ((spec_l01Between.f a0_2 1 256).bind fun t486 => (if t486 = true then (if (wrap64 (a0_1 * a0_2)) > 16384 then (spec_FrameOk.j0 k true a0_0 a0_1 a0_2 a0_3 l0_4) else ((spec_l01Between.f a0_3 0 255).bind fun t487 => (if t487 = true then ((spec_l01Between.f (l0_4.length : Int) 1 4).bind fun t488 => (spec_FrameOk.j0 k (!t488) a0_0 a0_1 a0_2 a0_3 l0_4)) else (spec_FrameOk.j0 k true a0_0 a0_1 a0_2 a0_3 l0_4)))) else (spec_FrameOk.j0 k true a0_0 a0_1 a0_2 a0_3 l0_4))) else (spec_FrameOk.j0 k true a0_0 a0_1 a0_2 a0_3 l0_4))) else (spec_FrameOk.j0 k true a0_0 a0_1 a0_2 a0_3 l0_4))) = some r := h
 clear h
 have HC2 := aM H
 clear H
 go_enter Try.func85, Try.ntmps85
 go_upto_region 1 with (first | ((with_reducible refine gate_dst (N := 1) rfl ?_); (try (refine gate_guard (by rfl) ?_; dsimp only)); refine box_event ?hg (N := 1) ?hd (cs := #[.int .i64 a0_0, .int .i64 a0_1, .int .i64 a0_2, .int .i64 a0_3, .slice A0_4 l0_4.length c0_4]) (t := 45) ?hr ?_; (case hd => rfl); (case hg => rfl); (case hr => first | (go_simp; done) | (go_simp; rfl)); intro gb480 hg w3 hbox hb; have BK480 := aM hbox; have GW480 := aM (zG hg : w.heap.size ≤ gb480); have GE480 := aM (zG hg : w.heap.size ≤ gb480); replace HB := cH HB hb; clear hb hbox hg))
 repeat (go_quiet (fail); go_upto_region 1 with (first | ((with_reducible refine gate_dst (N := 1) rfl ?_); (try (refine gate_guard (by rfl) ?_; dsimp only)); refine box_event ?hg (N := 1) ?hd (cs := #[.int .i64 a0_0, .int .i64 a0_1, .int .i64 a0_2, .int .i64 a0_3, .slice A0_4 l0_4.length c0_4]) (t := 45) ?hr ?_; (case hd => rfl); (case hg => rfl); (case hr => first | (go_simp; done) | (go_simp; rfl)); intro gb480 hg w3 hbox hb; have BK480 := aM hbox; have GW480 := aM (zG hg : w.heap.size ≤ gb480); have GE480 := aM (zG hg : w.heap.size ≤ gb480); replace HB := cH HB hb; clear hb hbox hg)))
 (try simp only [Act.put, List.setIfInBounds_toArray, List.set_cons_zero, List.set_cons_succ])
 go_cut [47] (fun v47 wc => ∃ (kq : Nat) (x47_1 : Bool), v47 = .bool x47_1 ∧ Aside0 (spec_FrameOk.j0 kq x47_1 a0_0 a0_1 a0_2 a0_3 l0_4 = some r) ∧ Aside0 (kq ≤ k) ∧ Aside0 (wc.heap[gb480]? = some (.cells #[.int .i64 a0_0, .int .i64 a0_1, .int .i64 a0_2, .int .i64 a0_3, (.slice A0_4 l0_4.length c0_4)] 45 (0, 0))) ∧ Aside0 (Below w.heap.size w wc))
 case first =>
  have H := HC2.out
  clear HC2
  by_cases c4 : a0_0 = 8
  ·rw [if_pos c4] at H
   have c4b0 : (a0_0 == 8) = true := beq_iff_eq.mpr c4
   have c4b1 : (a0_0 != 8) = false := bne_eq_false_iff_eq.mpr c4
   clear c4
   (first | rw [c4b0] | (simp only [i64_w, i32_w]; rw [c4b0]) | skip)
   obtain ⟨t481, A5, H⟩ := oH H
   by_cases c6 : t481 = true
   ·subst c6
    replace H := iT H
    obtain ⟨t482, A7, H⟩ := oH H
    by_cases c8 : t482 = true
    ·subst c8
     replace H := iT H
     by_cases c9 : (wrap64 (a0_1 * a0_2)) > 16384
     ·rw [if_pos c9] at H
      have c9b0 : decide (16384 < (wrap64 (a0_1 * a0_2))) = true := decide_eq_true c9
      clear c9
      have H' := aM H
      clear H
      obtain ⟨hcz10_0, hcz10_1, hcz10_2, hcz10_3, hcz10_4⟩ := kk5 BK480
      obtain ⟨hfz10_0, hfz10_1, hfz10_2, hfz10_3, hfz10_4⟩ := kg5 BK480
      repeat (go_wp2_with (first | (go_at_call 76; (with_reducible refine (spec_l01Between.calls a0_1 1 256 true _ A5.out).mono ?_); rintro e w' ⟨rfl, ⟨nd, rfl⟩⟩; (try exact zD)) | (go_at_call 76; (with_reducible refine (spec_l01Between.calls a0_2 1 256 true _ A7.out).mono ?_); rintro e w' ⟨rfl, ⟨nd, rfl⟩⟩; (try exact zD))); go_quiet (first | (go_at_call 76; (with_reducible refine (spec_l01Between.calls a0_1 1 256 true _ A5.out).mono ?_); rintro e w' ⟨rfl, ⟨nd, rfl⟩⟩; (try exact zD)) | (go_at_call 76; (with_reducible refine (spec_l01Between.calls a0_2 1 256 true _ A7.out).mono ?_); rintro e w' ⟨rfl, ⟨nd, rfl⟩⟩; (try exact zD))))
      try go_wp2_with (first | (go_at_call 76; (with_reducible refine (spec_l01Between.calls a0_1 1 256 true _ A5.out).mono ?_); rintro e w' ⟨rfl, ⟨nd, rfl⟩⟩; (try exact zD)) | (go_at_call 76; (with_reducible refine (spec_l01Between.calls a0_2 1 256 true _ A7.out).mono ?_); rintro e w' ⟨rfl, ⟨nd, rfl⟩⟩; (try exact zD)))
      go_meet
      case rel => exact ⟨_, (true), zS, H', zO, ⟨zK BK480⟩, ⟨zH⟩⟩
     ·rw [if_neg c9] at H
      have c9b0 : decide (16384 < (wrap64 (a0_1 * a0_2))) = false := decide_eq_false c9
      clear c9
      obtain ⟨t483, A11, H⟩ := oH H
      by_cases c12 : t483 = true
      ·subst c12
       replace H := iT H
       obtain ⟨t484, A13, H⟩ := oH H
       have H' := aM H
       clear H
       obtain ⟨hcz14_0, hcz14_1, hcz14_2, hcz14_3, hcz14_4⟩ := kk5 BK480
       obtain ⟨hfz14_0, hfz14_1, hfz14_2, hfz14_3, hfz14_4⟩ := kg5 BK480
       repeat (go_wp2_with (first | (go_at_call 76; (with_reducible refine (spec_l01Between.calls a0_1 1 256 true _ A5.out).mono ?_); rintro e w' ⟨rfl, ⟨nd, rfl⟩⟩; (try exact zD)) | (go_at_call 76; (with_reducible refine (spec_l01Between.calls a0_2 1 256 true _ A7.out).mono ?_); rintro e w' ⟨rfl, ⟨nd, rfl⟩⟩; (try exact zD)) | (go_at_call 76; (with_reducible refine (spec_l01Between.calls a0_3 0 255 true _ A11.out).mono ?_); rintro e w' ⟨rfl, ⟨nd, rfl⟩⟩; (try exact zD)) | (go_at_call 76; (with_reducible refine (spec_l01Between.calls (l0_4.length : Int) 1 4 t484 _ A13.out).mono ?_); rintro e w' ⟨rfl, ⟨nd, rfl⟩⟩; (try exact zD))); go_quiet (first | (go_at_call 76; (with_reducible refine (spec_l01Between.calls a0_1 1 256 true _ A5.out).mono ?_); rintro e w' ⟨rfl, ⟨nd, rfl⟩⟩; (try exact zD)) | (go_at_call 76; (with_reducible refine (spec_l01Between.calls a0_2 1 256 true _ A7.out).mono ?_); rintro e w' ⟨rfl, ⟨nd, rfl⟩⟩; (try exact zD)) | (go_at_call 76; (with_reducible refine (spec_l01Between.calls a0_3 0 255 true _ A11.out).mono ?_); rintro e w' ⟨rfl, ⟨nd, rfl⟩⟩; (try exact zD)) | (go_at_call 76; (with_reducible refine (spec_l01Between.calls (l0_4.length : Int) 1 4 t484 _ A13.out).mono ?_); rintro e w' ⟨rfl, ⟨nd, rfl⟩⟩; (try exact zD))))
       try go_wp2_with (first | (go_at_call 76; (with_reducible refine (spec_l01Between.calls a0_1 1 256 true _ A5.out).mono ?_); rintro e w' ⟨rfl, ⟨nd, rfl⟩⟩; (try exact zD)) | (go_at_call 76; (with_reducible refine (spec_l01Between.calls a0_2 1 256 true _ A7.out).mono ?_); rintro e w' ⟨rfl, ⟨nd, rfl⟩⟩; (try exact zD)) | (go_at_call 76; (with_reducible refine (spec_l01Between.calls a0_3 0 255 true _ A11.out).mono ?_); rintro e w' ⟨rfl, ⟨nd, rfl⟩⟩; (try exact zD)) | (go_at_call 76; (with_reducible refine (spec_l01Between.calls (l0_4.length : Int) 1 4 t484 _ A13.out).mono ?_); rintro e w' ⟨rfl, ⟨nd, rfl⟩⟩; (try exact zD)))
       go_meet
       case rel => exact ⟨_, (!t484), zS, H', zO, ⟨zK BK480⟩, ⟨zH⟩⟩
      ·replace c12 := Bool.eq_false_iff.mpr c12
       subst c12
       replace H := iF H
       have H' := aM H
       clear H
       obtain ⟨hcz15_0, hcz15_1, hcz15_2, hcz15_3, hcz15_4⟩ := kk5 BK480
       obtain ⟨hfz15_0, hfz15_1, hfz15_2, hfz15_3, hfz15_4⟩ := kg5 BK480
       repeat (go_wp2_with (first | (go_at_call 76; (with_reducible refine (spec_l01Between.calls a0_1 1 256 true _ A5.out).mono ?_); rintro e w' ⟨rfl, ⟨nd, rfl⟩⟩; (try exact zD)) | (go_at_call 76; (with_reducible refine (spec_l01Between.calls a0_2 1 256 true _ A7.out).mono ?_); rintro e w' ⟨rfl, ⟨nd, rfl⟩⟩; (try exact zD)) | (go_at_call 76; (with_reducible refine (spec_l01Between.calls a0_3 0 255 false _ A11.out).mono ?_); rintro e w' ⟨rfl, ⟨nd, rfl⟩⟩; (try exact zD))); go_quiet (first | (go_at_call 76; (with_reducible refine (spec_l01Between.calls a0_1 1 256 true _ A5.out).mono ?_); rintro e w' ⟨rfl, ⟨nd, rfl⟩⟩; (try exact zD)) | (go_at_call 76; (with_reducible refine (spec_l01Between.calls a0_2 1 256 true _ A7.out).mono ?_); rintro e w' ⟨rfl, ⟨nd, rfl⟩⟩; (try exact zD)) | (go_at_call 76; (with_reducible refine (spec_l01Between.calls a0_3 0 255 false _ A11.out).mono ?_); rintro e w' ⟨rfl, ⟨nd, rfl⟩⟩; (try exact zD))))
       try go_wp2_with (first | (go_at_call 76; (with_reducible refine (spec_l01Between.calls a0_1 1 256 true _ A5.out).mono ?_); rintro e w' ⟨rfl, ⟨nd, rfl⟩⟩; (try exact zD)) | (go_at_call 76; (with_reducible refine (spec_l01Between.calls a0_2 1 256 true _ A7.out).mono ?_); rintro e w' ⟨rfl, ⟨nd, rfl⟩⟩; (try exact zD)) | (go_at_call 76; (with_reducible refine (spec_l01Between.calls a0_3 0 255 false _ A11.out).mono ?_); rintro e w' ⟨rfl, ⟨nd, rfl⟩⟩; (try exact zD)))
       go_meet
       case rel => exact ⟨_, (true), zS, H', zO, ⟨zK BK480⟩, ⟨zH⟩⟩
    ·replace c8 := Bool.eq_false_iff.mpr c8
     subst c8
     replace H := iF H
     have H' := aM H
     clear H
     obtain ⟨hcz16_0, hcz16_1, hcz16_2, hcz16_3, hcz16_4⟩ := kk5 BK480
     obtain ⟨hfz16_0, hfz16_1, hfz16_2, hfz16_3, hfz16_4⟩ := kg5 BK480
     repeat (go_wp2_with (first | (go_at_call 76; (with_reducible refine (spec_l01Between.calls a0_1 1 256 true _ A5.out).mono ?_); rintro e w' ⟨rfl, ⟨nd, rfl⟩⟩; (try exact zD)) | (go_at_call 76; (with_reducible refine (spec_l01Between.calls a0_2 1 256 false _ A7.out).mono ?_); rintro e w' ⟨rfl, ⟨nd, rfl⟩⟩; (try exact zD))); go_quiet (first | (go_at_call 76; (with_reducible refine (spec_l01Between.calls a0_1 1 256 true _ A5.out).mono ?_); rintro e w' ⟨rfl, ⟨nd, rfl⟩⟩; (try exact zD)) | (go_at_call 76; (with_reducible refine (spec_l01Between.calls a0_2 1 256 false _ A7.out).mono ?_); rintro e w' ⟨rfl, ⟨nd, rfl⟩⟩; (try exact zD))))
     try go_wp2_with (first | (go_at_call 76; (with_reducible refine (spec_l01Between.calls a0_1 1 256 true _ A5.out).mono ?_); rintro e w' ⟨rfl, ⟨nd, rfl⟩⟩; (try exact zD)) | (go_at_call 76; (with_reducible refine (spec_l01Between.calls a0_2 1 256 false _ A7.out).mono ?_); rintro e w' ⟨rfl, ⟨nd, rfl⟩⟩; (try exact zD)))
     go_meet
     case rel => exact ⟨_, (true), zS, H', zO, ⟨zK BK480⟩, ⟨zH⟩⟩
   ·replace c6 := Bool.eq_false_iff.mpr c6
    subst c6
    replace H := iF H
    have H' := aM H
    clear H
    obtain ⟨hcz17_0, hcz17_1, hcz17_2, hcz17_3, hcz17_4⟩ := kk5 BK480
    obtain ⟨hfz17_0, hfz17_1, hfz17_2, hfz17_3, hfz17_4⟩ := kg5 BK480
    repeat (go_wp2_with (first | (go_at_call 76; (with_reducible refine (spec_l01Between.calls a0_1 1 256 false _ A5.out).mono ?_); rintro e w' ⟨rfl, ⟨nd, rfl⟩⟩; (try exact zD))); go_quiet (first | (go_at_call 76; (with_reducible refine (spec_l01Between.calls a0_1 1 256 false _ A5.out).mono ?_); rintro e w' ⟨rfl, ⟨nd, rfl⟩⟩; (try exact zD))))
    try go_wp2_with (first | (go_at_call 76; (with_reducible refine (spec_l01Between.calls a0_1 1 256 false _ A5.out).mono ?_); rintro e w' ⟨rfl, ⟨nd, rfl⟩⟩; (try exact zD)))
    go_meet
    case rel => exact ⟨_, (true), zS, H', zO, ⟨zK BK480⟩, ⟨zH⟩⟩
  ·rw [if_neg c4] at H
   have c4b0 : (a0_0 == 8) = false := beq_eq_false_iff_ne.mpr c4
   have c4b1 : (a0_0 != 8) = true := bne_iff_ne.mpr c4
   (first | rw [c4b0] | (simp only [i64_w, i32_w]; rw [c4b0]) | skip)
   by_cases c18 : a0_0 = 12
   ·rw [if_pos c18] at H
    have c18b0 : (a0_0 == 12) = true := beq_iff_eq.mpr c18
    have c18b1 : (a0_0 != 12) = false := bne_eq_false_iff_eq.mpr c18
    clear c18
    obtain ⟨t485, A19, H⟩ := oH H
    by_cases c20 : t485 = true
    ·subst c20
     replace H := iT H
     obtain ⟨t486, A21, H⟩ := oH H
     by_cases c22 : t486 = true
     ·subst c22
      replace H := iT H
      by_cases c23 : (wrap64 (a0_1 * a0_2)) > 16384
      ·rw [if_pos c23] at H
       have c23b0 : decide (16384 < (wrap64 (a0_1 * a0_2))) = true := decide_eq_true c23
       clear c23
       have H' := aM H
       clear H
       obtain ⟨hcz24_0, hcz24_1, hcz24_2, hcz24_3, hcz24_4⟩ := kk5 BK480
       obtain ⟨hfz24_0, hfz24_1, hfz24_2, hfz24_3, hfz24_4⟩ := kg5 BK480
       repeat (go_wp2_with (first | (go_at_call 76; (with_reducible refine (spec_l01Between.calls a0_1 1 256 true _ A19.out).mono ?_); rintro e w' ⟨rfl, ⟨nd, rfl⟩⟩; (try exact zD)) | (go_at_call 76; (with_reducible refine (spec_l01Between.calls a0_2 1 256 true _ A21.out).mono ?_); rintro e w' ⟨rfl, ⟨nd, rfl⟩⟩; (try exact zD))); go_quiet (first | (go_at_call 76; (with_reducible refine (spec_l01Between.calls a0_1 1 256 true _ A19.out).mono ?_); rintro e w' ⟨rfl, ⟨nd, rfl⟩⟩; (try exact zD)) | (go_at_call 76; (with_reducible refine (spec_l01Between.calls a0_2 1 256 true _ A21.out).mono ?_); rintro e w' ⟨rfl, ⟨nd, rfl⟩⟩; (try exact zD))))
       try go_wp2_with (first | (go_at_call 76; (with_reducible refine (spec_l01Between.calls a0_1 1 256 true _ A19.out).mono ?_); rintro e w' ⟨rfl, ⟨nd, rfl⟩⟩; (try exact zD)) | (go_at_call 76; (with_reducible refine (spec_l01Between.calls a0_2 1 256 true _ A21.out).mono ?_); rintro e w' ⟨rfl, ⟨nd, rfl⟩⟩; (try exact zD)))
       go_meet
       case rel => exact ⟨_, (true), zS, H', zO, ⟨zK BK480⟩, ⟨zH⟩⟩
      ·rw [if_neg c23] at H
       have c23b0 : decide (16384 < (wrap64 (a0_1 * a0_2))) = false := decide_eq_false c23
       clear c23
       obtain ⟨t487, A25, H⟩ := oH H
       by_cases c26 : t487 = true
       ·subst c26
        replace H := iT H
        obtain ⟨t488, A27, H⟩ := oH H
        have H' := aM H
        clear H
        obtain ⟨hcz28_0, hcz28_1, hcz28_2, hcz28_3, hcz28_4⟩ := kk5 BK480
        obtain ⟨hfz28_0, hfz28_1, hfz28_2, hfz28_3, hfz28_4⟩ := kg5 BK480
        repeat (go_wp2_with (first | (go_at_call 76; (with_reducible refine (spec_l01Between.calls a0_1 1 256 true _ A19.out).mono ?_); rintro e w' ⟨rfl, ⟨nd, rfl⟩⟩; (try exact zD)) | (go_at_call 76; (with_reducible refine (spec_l01Between.calls a0_2 1 256 true _ A21.out).mono ?_); rintro e w' ⟨rfl, ⟨nd, rfl⟩⟩; (try exact zD)) | (go_at_call 76; (with_reducible refine (spec_l01Between.calls a0_3 0 255 true _ A25.out).mono ?_); rintro e w' ⟨rfl, ⟨nd, rfl⟩⟩; (try exact zD)) | (go_at_call 76; (with_reducible refine (spec_l01Between.calls (l0_4.length : Int) 1 4 t488 _ A27.out).mono ?_); rintro e w' ⟨rfl, ⟨nd, rfl⟩⟩; (try exact zD))); go_quiet (first | (go_at_call 76; (with_reducible refine (spec_l01Between.calls a0_1 1 256 true _ A19.out).mono ?_); rintro e w' ⟨rfl, ⟨nd, rfl⟩⟩; (try exact zD)) | (go_at_call 76; (with_reducible refine (spec_l01Between.calls a0_2 1 256 true _ A21.out).mono ?_); rintro e w' ⟨rfl, ⟨nd, rfl⟩⟩; (try exact zD)) | (go_at_call 76; (with_reducible refine (spec_l01Between.calls a0_3 0 255 true _ A25.out).mono ?_); rintro e w' ⟨rfl, ⟨nd, rfl⟩⟩; (try exact zD)) | (go_at_call 76; (with_reducible refine (spec_l01Between.calls (l0_4.length : Int) 1 4 t488 _ A27.out).mono ?_); rintro e w' ⟨rfl, ⟨nd, rfl⟩⟩; (try exact zD))))
        try go_wp2_with (first | (go_at_call 76; (with_reducible refine (spec_l01Between.calls a0_1 1 256 true _ A19.out).mono ?_); rintro e w' ⟨rfl, ⟨nd, rfl⟩⟩; (try exact zD)) | (go_at_call 76; (with_reducible refine (spec_l01Between.calls a0_2 1 256 true _ A21.out).mono ?_); rintro e w' ⟨rfl, ⟨nd, rfl⟩⟩; (try exact zD)) | (go_at_call 76; (with_reducible refine (spec_l01Between.calls a0_3 0 255 true _ A25.out).mono ?_); rintro e w' ⟨rfl, ⟨nd, rfl⟩⟩; (try exact zD)) | (go_at_call 76; (with_reducible refine (spec_l01Between.calls (l0_4.length : Int) 1 4 t488 _ A27.out).mono ?_); rintro e w' ⟨rfl, ⟨nd, rfl⟩⟩; (try exact zD)))
        go_meet
        case rel => exact ⟨_, (!t488), zS, H', zO, ⟨zK BK480⟩, ⟨zH⟩⟩
       ·replace c26 := Bool.eq_false_iff.mpr c26
        subst c26
        replace H := iF H
        have H' := aM H
        clear H
        obtain ⟨hcz29_0, hcz29_1, hcz29_2, hcz29_3, hcz29_4⟩ := kk5 BK480
        obtain ⟨hfz29_0, hfz29_1, hfz29_2, hfz29_3, hfz29_4⟩ := kg5 BK480
        repeat (go_wp2_with (first | (go_at_call 76; (with_reducible refine (spec_l01Between.calls a0_1 1 256 true _ A19.out).mono ?_); rintro e w' ⟨rfl, ⟨nd, rfl⟩⟩; (try exact zD)) | (go_at_call 76; (with_reducible refine (spec_l01Between.calls a0_2 1 256 true _ A21.out).mono ?_); rintro e w' ⟨rfl, ⟨nd, rfl⟩⟩; (try exact zD)) | (go_at_call 76; (with_reducible refine (spec_l01Between.calls a0_3 0 255 false _ A25.out).mono ?_); rintro e w' ⟨rfl, ⟨nd, rfl⟩⟩; (try exact zD))); go_quiet (first | (go_at_call 76; (with_reducible refine (spec_l01Between.calls a0_1 1 256 true _ A19.out).mono ?_); rintro e w' ⟨rfl, ⟨nd, rfl⟩⟩; (try exact zD)) | (go_at_call 76; (with_reducible refine (spec_l01Between.calls a0_2 1 256 true _ A21.out).mono ?_); rintro e w' ⟨rfl, ⟨nd, rfl⟩⟩; (try exact zD)) | (go_at_call 76; (with_reducible refine (spec_l01Between.calls a0_3 0 255 false _ A25.out).mono ?_); rintro e w' ⟨rfl, ⟨nd, rfl⟩⟩; (try exact zD))))
        try go_wp2_with (first | (go_at_call 76; (with_reducible refine (spec_l01Between.calls a0_1 1 256 true _ A19.out).mono ?_); rintro e w' ⟨rfl, ⟨nd, rfl⟩⟩; (try exact zD)) | (go_at_call 76; (with_reducible refine (spec_l01Between.calls a0_2 1 256 true _ A21.out).mono ?_); rintro e w' ⟨rfl, ⟨nd, rfl⟩⟩; (try exact zD)) | (go_at_call 76; (with_reducible refine (spec_l01Between.calls a0_3 0 255 false _ A25.out).mono ?_); rintro e w' ⟨rfl, ⟨nd, rfl⟩⟩; (try exact zD)))
        go_meet
        case rel => exact ⟨_, (true), zS, H', zO, ⟨zK BK480⟩, ⟨zH⟩⟩
     ·replace c22 := Bool.eq_false_iff.mpr c22
      subst c22
      replace H := iF H
      have H' := aM H
      clear H
      obtain ⟨hcz30_0, hcz30_1, hcz30_2, hcz30_3, hcz30_4⟩ := kk5 BK480
      obtain ⟨hfz30_0, hfz30_1, hfz30_2, hfz30_3, hfz30_4⟩ := kg5 BK480
      repeat (go_wp2_with (first | (go_at_call 76; (with_reducible refine (spec_l01Between.calls a0_1 1 256 true _ A19.out).mono ?_); rintro e w' ⟨rfl, ⟨nd, rfl⟩⟩; (try exact zD)) | (go_at_call 76; (with_reducible refine (spec_l01Between.calls a0_2 1 256 false _ A21.out).mono ?_); rintro e w' ⟨rfl, ⟨nd, rfl⟩⟩; (try exact zD))); go_quiet (first | (go_at_call 76; (with_reducible refine (spec_l01Between.calls a0_1 1 256 true _ A19.out).mono ?_); rintro e w' ⟨rfl, ⟨nd, rfl⟩⟩; (try exact zD)) | (go_at_call 76; (with_reducible refine (spec_l01Between.calls a0_2 1 256 false _ A21.out).mono ?_); rintro e w' ⟨rfl, ⟨nd, rfl⟩⟩; (try exact zD))))
      try go_wp2_with (first | (go_at_call 76; (with_reducible refine (spec_l01Between.calls a0_1 1 256 true _ A19.out).mono ?_); rintro e w' ⟨rfl, ⟨nd, rfl⟩⟩; (try exact zD)) | (go_at_call 76; (with_reducible refine (spec_l01Between.calls a0_2 1 256 false _ A21.out).mono ?_); rintro e w' ⟨rfl, ⟨nd, rfl⟩⟩; (try exact zD)))
      go_meet
      case rel => exact ⟨_, (true), zS, H', zO, ⟨zK BK480⟩, ⟨zH⟩⟩
    ·replace c20 := Bool.eq_false_iff.mpr c20
     subst c20
     replace H := iF H
     have H' := aM H
     clear H
     obtain ⟨hcz31_0, hcz31_1, hcz31_2, hcz31_3, hcz31_4⟩ := kk5 BK480
     obtain ⟨hfz31_0, hfz31_1, hfz31_2, hfz31_3, hfz31_4⟩ := kg5 BK480
     repeat (go_wp2_with (first | (go_at_call 76; (with_reducible refine (spec_l01Between.calls a0_1 1 256 false _ A19.out).mono ?_); rintro e w' ⟨rfl, ⟨nd, rfl⟩⟩; (try exact zD))); go_quiet (first | (go_at_call 76; (with_reducible refine (spec_l01Between.calls a0_1 1 256 false _ A19.out).mono ?_); rintro e w' ⟨rfl, ⟨nd, rfl⟩⟩; (try exact zD))))
     try go_wp2_with (first | (go_at_call 76; (with_reducible refine (spec_l01Between.calls a0_1 1 256 false _ A19.out).mono ?_); rintro e w' ⟨rfl, ⟨nd, rfl⟩⟩; (try exact zD)))
     go_meet
     case rel => exact ⟨_, (true), zS, H', zO, ⟨zK BK480⟩, ⟨zH⟩⟩
   ·rw [if_neg c18] at H
    have c18b0 : (a0_0 == 12) = false := beq_eq_false_iff_ne.mpr c18
    have c18b1 : (a0_0 != 12) = true := bne_iff_ne.mpr c18
    have H' := aM H
    clear H
    obtain ⟨hcz32_0, hcz32_1, hcz32_2, hcz32_3, hcz32_4⟩ := kk5 BK480
    obtain ⟨hfz32_0, hfz32_1, hfz32_2, hfz32_3, hfz32_4⟩ := kg5 BK480
    go_wp2
    repeat (go_quiet (fail); try go_wp2)
    go_meet
    case rel => exact ⟨_, (true), zS, H', zO, ⟨zK BK480⟩, ⟨zH⟩⟩
 case rest =>
  clear HC2
  obtain ⟨kq, x47_1, rfl, HA, HJ1, BK480, HB⟩ := hcut
  cases kq with
  | zero => exact absurd HA.out (by simp [spec_FrameOk.j0])
  | succ kj1 =>
   have H := HA.out
   clear HA
   simp only [spec_FrameOk.j0] at H
   by_cases c33 : x47_1 = true
   ·subst c33
    replace H := iT H
    obtain rfl := Option.some.inj H
    go_wp2
    repeat (go_quiet (fail); try go_wp2)
    go_ret
    exact ⟨zR, zH⟩
   ·replace c33 := Bool.eq_false_iff.mpr c33
    subst c33
    replace H := iF H
    have H' := aM H
    clear H
    go_wp2
    repeat (go_quiet (fail); try go_wp2)
    go_loopg [3, 4] kj1 (fun kq v3 v4 w' => ∃ (x3_2 : Int) (x4_2 : Int), v3 = .int .i64 x3_2 ∧ v4 = .int .i64 x4_2 ∧ Aside0 (spec_FrameOk.l0 kq x3_2 x4_2 a0_0 a0_1 a0_2 a0_3 l0_4 = some r) ∧ Aside0 (kq ≤ kj1) ∧ Aside0 (w'.heap[gb480]? = some (.cells #[.int .i64 a0_0, .int .i64 a0_1, .int .i64 a0_2, .int .i64 a0_3, (.slice A0_4 l0_4.length c0_4)] 45 (0, 0))) ∧ Aside0 (Below w.heap.size w w'))
    case atStart => exact ⟨(0), (0), zS, zS, H', ⟨Nat.le_refl _⟩, ⟨zK BK480⟩, ⟨zH⟩⟩
    case round =>
     clear H'
     try clear c33
     obtain ⟨x3_2, x4_2, rfl, rfl, HA, HK2, BK480, HB⟩ := hrel
     cases gk with
     | zero => exact absurd HA.out (by simp [spec_FrameOk.l0])
     | succ k2 =>
      have H := HA.out
      clear HA
      simp only [spec_FrameOk.l0] at H
      by_cases c34 : x4_2 < (l0_4.length : Int)
      ·rw [if_pos c34] at H
       have c34b0 : decide (x4_2 < (l0_4.length : Int)) = true := decide_eq_true c34
       clear c34
       by_cases c35 : 0 ≤ x4_2
       ·rw [if_pos c35] at H
        have c35b0 : decide (0 ≤ x4_2) = true := decide_eq_true c35
        clear c35
        have HC36 := aM H
        clear H
        obtain ⟨hcz37_0, hcz37_1, hcz37_2, hcz37_3, hcz37_4⟩ := kk5 BK480
        obtain ⟨hfz37_0, hfz37_1, hfz37_2, hfz37_3, hfz37_4⟩ := kg5 BK480
        have p489 : 0 ≤ (x4_2 : Int) := zA
        have q489 : x4_2 < (l0_4.length : Int) := zA
        obtain ⟨ad489, e489, hx489_0, hx489_1, hx489_2, hx489_3⟩ := at_T42 HR0_4.out x4_2 p489 q489
        cases e489
        replace hx489_0 := hX HB hx489_0
        replace hx489_1 := hX HB hx489_1
        replace hx489_2 := hX HB hx489_2
        replace hx489_3 := hX HB hx489_3
        replace p489 := eq_true p489
        replace q489 := eq_true q489
        go_upto_region 8 with (first | ((with_reducible refine gate_dst (N := 5) rfl ?_); (try (refine gate_guard (by rfl) ?_; dsimp only)); refine box_event ?hg (N := 5) ?hd (cs := #[.int .i64 0, .int .i64 0, .int .i64 0, .int .i64 0]) (t := 42) ?hr ?_; (case hd => rfl); (case hg => rfl); (case hr => first | (go_simp; done) | (go_simp; rfl)); intro gb490 hg w38 hbox hb; have BK490 := aM hbox; have GW490 := aM (zG hg : w.heap.size ≤ gb490); have GE490 := aM (zG hg : w.heap.size ≤ gb490); replace HB := cH HB hb; have NB480_490 := aM ((zL hg BK480)); have NB490_480 := aM ((zM hg BK480)); replace BK480 := cB BK480 hb; clear hb hbox hg; have hnb39 := NB490_480.out; have hnc39 := NB480_490.out; obtain ⟨hcz40_0, hcz40_1, hcz40_2, hcz40_3⟩ := kk4 BK490; obtain ⟨hfz40_0, hfz40_1, hfz40_2, hfz40_3⟩ := kg4 BK490))
        repeat (go_quiet (fail); go_upto_region 8 with (first | ((with_reducible refine gate_dst (N := 5) rfl ?_); (try (refine gate_guard (by rfl) ?_; dsimp only)); refine box_event ?hg (N := 5) ?hd (cs := #[.int .i64 0, .int .i64 0, .int .i64 0, .int .i64 0]) (t := 42) ?hr ?_; (case hd => rfl); (case hg => rfl); (case hr => first | (go_simp; done) | (go_simp; rfl)); intro gb490 hg w38 hbox hb; have BK490 := aM hbox; have GW490 := aM (zG hg : w.heap.size ≤ gb490); have GE490 := aM (zG hg : w.heap.size ≤ gb490); replace HB := cH HB hb; have NB480_490 := aM ((zL hg BK480)); have NB490_480 := aM ((zM hg BK480)); replace BK480 := cB BK480 hb; clear hb hbox hg; have hnb39 := NB490_480.out; have hnc39 := NB480_490.out; obtain ⟨hcz40_0, hcz40_1, hcz40_2, hcz40_3⟩ := kk4 BK490; obtain ⟨hfz40_0, hfz40_1, hfz40_2, hfz40_3⟩ := kg4 BK490)))
        (try simp only [Act.put, List.setIfInBounds_toArray, List.set_cons_zero, List.set_cons_succ])
        go_cut [81] (fun v81 wc => ∃ (kq : Nat) (x81_35 : Bool), v81 = .bool x81_35 ∧ Aside0 (spec_FrameOk.j2 kq x3_2 x4_2 x81_35 a0_0 a0_1 a0_2 a0_3 l0_4 ((rd_T42 l0_4 x4_2).f0) ((rd_T42 l0_4 x4_2).f1) ((rd_T42 l0_4 x4_2).f2) ((rd_T42 l0_4 x4_2).f3) = some r) ∧ Aside0 (kq ≤ k2) ∧ Aside0 (wc.heap[gb480]? = some (.cells #[.int .i64 a0_0, .int .i64 a0_1, .int .i64 a0_2, .int .i64 a0_3, (.slice (some ad489) l0_4.length c0_4)] 45 (0, 0))) ∧ Aside0 (wc.heap[gb490]? = some (.cells #[.int .i64 ((rd_T42 l0_4 x4_2).f0), .int .i64 ((rd_T42 l0_4 x4_2).f1), .int .i64 ((rd_T42 l0_4 x4_2).f2), .int .i64 ((rd_T42 l0_4 x4_2).f3)] 42 (0, 0))) ∧ Aside0 (Below w.heap.size w wc))
        case first =>
         have H := HC36.out
         clear HC36
         obtain ⟨t491, A41, H⟩ := oH H
         by_cases c42 : t491 = true
         ·subst c42
          replace H := iT H
          obtain ⟨t492, A43, H⟩ := oH H
          by_cases c44 : t492 = true
          ·subst c44
           replace H := iT H
           obtain ⟨t493, A45, H⟩ := oH H
           by_cases c46 : t493 = true
           ·subst c46
            replace H := iT H
            obtain ⟨t494, A47, H⟩ := oH H
            have H' := aM H
            clear H
            have hnb48 := NB490_480.out
            have hnc48 := NB480_490.out
            obtain ⟨hcz49_0, hcz49_1, hcz49_2, hcz49_3⟩ := kk4 BK490
            obtain ⟨hfz49_0, hfz49_1, hfz49_2, hfz49_3⟩ := kg4 BK490
            repeat (go_wp2_with (first | (go_at_call 76; (with_reducible refine (spec_l01Between.calls ((rd_T42 l0_4 x4_2).f0) 0 255 true _ A41.out).mono ?_); rintro e w' ⟨rfl, ⟨nd, rfl⟩⟩; (try exact zD)) | (go_at_call 76; (with_reducible refine (spec_l01Between.calls ((rd_T42 l0_4 x4_2).f1) 1 4 true _ A43.out).mono ?_); rintro e w' ⟨rfl, ⟨nd, rfl⟩⟩; (try exact zD)) | (go_at_call 76; (with_reducible refine (spec_l01Between.calls ((rd_T42 l0_4 x4_2).f2) 1 4 true _ A45.out).mono ?_); rintro e w' ⟨rfl, ⟨nd, rfl⟩⟩; (try exact zD)) | (go_at_call 76; (with_reducible refine (spec_l01Between.calls ((rd_T42 l0_4 x4_2).f3) 0 3 t494 _ A47.out).mono ?_); rintro e w' ⟨rfl, ⟨nd, rfl⟩⟩; (try exact zD))); go_quiet (first | (go_at_call 76; (with_reducible refine (spec_l01Between.calls ((rd_T42 l0_4 x4_2).f0) 0 255 true _ A41.out).mono ?_); rintro e w' ⟨rfl, ⟨nd, rfl⟩⟩; (try exact zD)) | (go_at_call 76; (with_reducible refine (spec_l01Between.calls ((rd_T42 l0_4 x4_2).f1) 1 4 true _ A43.out).mono ?_); rintro e w' ⟨rfl, ⟨nd, rfl⟩⟩; (try exact zD)) | (go_at_call 76; (with_reducible refine (spec_l01Between.calls ((rd_T42 l0_4 x4_2).f2) 1 4 true _ A45.out).mono ?_); rintro e w' ⟨rfl, ⟨nd, rfl⟩⟩; (try exact zD)) | (go_at_call 76; (with_reducible refine (spec_l01Between.calls ((rd_T42 l0_4 x4_2).f3) 0 3 t494 _ A47.out).mono ?_); rintro e w' ⟨rfl, ⟨nd, rfl⟩⟩; (try exact zD))))
            try go_wp2_with (first | (go_at_call 76; (with_reducible refine (spec_l01Between.calls ((rd_T42 l0_4 x4_2).f0) 0 255 true _ A41.out).mono ?_); rintro e w' ⟨rfl, ⟨nd, rfl⟩⟩; (try exact zD)) | (go_at_call 76; (with_reducible refine (spec_l01Between.calls ((rd_T42 l0_4 x4_2).f1) 1 4 true _ A43.out).mono ?_); rintro e w' ⟨rfl, ⟨nd, rfl⟩⟩; (try exact zD)) | (go_at_call 76; (with_reducible refine (spec_l01Between.calls ((rd_T42 l0_4 x4_2).f2) 1 4 true _ A45.out).mono ?_); rintro e w' ⟨rfl, ⟨nd, rfl⟩⟩; (try exact zD)) | (go_at_call 76; (with_reducible refine (spec_l01Between.calls ((rd_T42 l0_4 x4_2).f3) 0 3 t494 _ A47.out).mono ?_); rintro e w' ⟨rfl, ⟨nd, rfl⟩⟩; (try exact zD)))
            go_meet
            case rel => exact ⟨_, (!t494), zS, H', ⟨by have := HJ1.out; have := HK2.out; first | omega | exact Nat.le_refl _⟩, ⟨by (with_reducible repeat (first | apply kN | apply kD | apply kA)); refine blk_far ?_ NB480_490.out _; (with_reducible repeat (first | apply kN | apply kD | apply kA)); refine blk_far ?_ NB480_490.out _; (with_reducible repeat (first | apply kN | apply kD | apply kA)); refine blk_far ?_ NB480_490.out _; (with_reducible repeat (first | apply kN | apply kD | apply kA)); refine blk_far ?_ NB480_490.out _; (with_reducible repeat (first | apply kN | apply kD | apply kA)); exact BK480.out⟩, ⟨by (with_reducible repeat (first | apply kN | apply kD | apply kA)); refine blk_put (cs := #[.int .i64 ((rd_T42 l0_4 x4_2).f0), .int .i64 ((rd_T42 l0_4 x4_2).f1), .int .i64 ((rd_T42 l0_4 x4_2).f2), .int .i64 0]) ?_ 3 _ rfl; (with_reducible repeat (first | apply kN | apply kD | apply kA)); refine blk_put (cs := #[.int .i64 ((rd_T42 l0_4 x4_2).f0), .int .i64 ((rd_T42 l0_4 x4_2).f1), .int .i64 0, .int .i64 0]) ?_ 2 _ rfl; (with_reducible repeat (first | apply kN | apply kD | apply kA)); refine blk_put (cs := #[.int .i64 ((rd_T42 l0_4 x4_2).f0), .int .i64 0, .int .i64 0, .int .i64 0]) ?_ 1 _ rfl; (with_reducible repeat (first | apply kN | apply kD | apply kA)); refine blk_put (cs := #[.int .i64 0, .int .i64 0, .int .i64 0, .int .i64 0]) ?_ 0 _ rfl; (with_reducible repeat (first | apply kN | apply kD | apply kA)); exact BK490.out⟩, ⟨zH⟩⟩
           ·replace c46 := Bool.eq_false_iff.mpr c46
            subst c46
            replace H := iF H
            have H' := aM H
            clear H
            have hnb50 := NB490_480.out
            have hnc50 := NB480_490.out
            obtain ⟨hcz51_0, hcz51_1, hcz51_2, hcz51_3⟩ := kk4 BK490
            obtain ⟨hfz51_0, hfz51_1, hfz51_2, hfz51_3⟩ := kg4 BK490
            repeat (go_wp2_with (first | (go_at_call 76; (with_reducible refine (spec_l01Between.calls ((rd_T42 l0_4 x4_2).f0) 0 255 true _ A41.out).mono ?_); rintro e w' ⟨rfl, ⟨nd, rfl⟩⟩; (try exact zD)) | (go_at_call 76; (with_reducible refine (spec_l01Between.calls ((rd_T42 l0_4 x4_2).f1) 1 4 true _ A43.out).mono ?_); rintro e w' ⟨rfl, ⟨nd, rfl⟩⟩; (try exact zD)) | (go_at_call 76; (with_reducible refine (spec_l01Between.calls ((rd_T42 l0_4 x4_2).f2) 1 4 false _ A45.out).mono ?_); rintro e w' ⟨rfl, ⟨nd, rfl⟩⟩; (try exact zD))); go_quiet (first | (go_at_call 76; (with_reducible refine (spec_l01Between.calls ((rd_T42 l0_4 x4_2).f0) 0 255 true _ A41.out).mono ?_); rintro e w' ⟨rfl, ⟨nd, rfl⟩⟩; (try exact zD)) | (go_at_call 76; (with_reducible refine (spec_l01Between.calls ((rd_T42 l0_4 x4_2).f1) 1 4 true _ A43.out).mono ?_); rintro e w' ⟨rfl, ⟨nd, rfl⟩⟩; (try exact zD)) | (go_at_call 76; (with_reducible refine (spec_l01Between.calls ((rd_T42 l0_4 x4_2).f2) 1 4 false _ A45.out).mono ?_); rintro e w' ⟨rfl, ⟨nd, rfl⟩⟩; (try exact zD))))
            try go_wp2_with (first | (go_at_call 76; (with_reducible refine (spec_l01Between.calls ((rd_T42 l0_4 x4_2).f0) 0 255 true _ A41.out).mono ?_); rintro e w' ⟨rfl, ⟨nd, rfl⟩⟩; (try exact zD)) | (go_at_call 76; (with_reducible refine (spec_l01Between.calls ((rd_T42 l0_4 x4_2).f1) 1 4 true _ A43.out).mono ?_); rintro e w' ⟨rfl, ⟨nd, rfl⟩⟩; (try exact zD)) | (go_at_call 76; (with_reducible refine (spec_l01Between.calls ((rd_T42 l0_4 x4_2).f2) 1 4 false _ A45.out).mono ?_); rintro e w' ⟨rfl, ⟨nd, rfl⟩⟩; (try exact zD)))
            go_meet
            case rel => exact ⟨_, (true), zS, H', ⟨by have := HJ1.out; have := HK2.out; first | omega | exact Nat.le_refl _⟩, ⟨by (with_reducible repeat (first | apply kN | apply kD | apply kA)); refine blk_far ?_ NB480_490.out _; (with_reducible repeat (first | apply kN | apply kD | apply kA)); refine blk_far ?_ NB480_490.out _; (with_reducible repeat (first | apply kN | apply kD | apply kA)); refine blk_far ?_ NB480_490.out _; (with_reducible repeat (first | apply kN | apply kD | apply kA)); refine blk_far ?_ NB480_490.out _; (with_reducible repeat (first | apply kN | apply kD | apply kA)); exact BK480.out⟩, ⟨by (with_reducible repeat (first | apply kN | apply kD | apply kA)); refine blk_put (cs := #[.int .i64 ((rd_T42 l0_4 x4_2).f0), .int .i64 ((rd_T42 l0_4 x4_2).f1), .int .i64 ((rd_T42 l0_4 x4_2).f2), .int .i64 0]) ?_ 3 _ rfl; (with_reducible repeat (first | apply kN | apply kD | apply kA)); refine blk_put (cs := #[.int .i64 ((rd_T42 l0_4 x4_2).f0), .int .i64 ((rd_T42 l0_4 x4_2).f1), .int .i64 0, .int .i64 0]) ?_ 2 _ rfl; (with_reducible repeat (first | apply kN | apply kD | apply kA)); refine blk_put (cs := #[.int .i64 ((rd_T42 l0_4 x4_2).f0), .int .i64 0, .int .i64 0, .int .i64 0]) ?_ 1 _ rfl; (with_reducible repeat (first | apply kN | apply kD | apply kA)); refine blk_put (cs := #[.int .i64 0, .int .i64 0, .int .i64 0, .int .i64 0]) ?_ 0 _ rfl; (with_reducible repeat (first | apply kN | apply kD | apply kA)); exact BK490.out⟩, ⟨zH⟩⟩
          ·replace c44 := Bool.eq_false_iff.mpr c44
           subst c44
           replace H := iF H
           have H' := aM H
           clear H
           have hnb52 := NB490_480.out
           have hnc52 := NB480_490.out
           obtain ⟨hcz53_0, hcz53_1, hcz53_2, hcz53_3⟩ := kk4 BK490
           obtain ⟨hfz53_0, hfz53_1, hfz53_2, hfz53_3⟩ := kg4 BK490
           repeat (go_wp2_with (first | (go_at_call 76; (with_reducible refine (spec_l01Between.calls ((rd_T42 l0_4 x4_2).f0) 0 255 true _ A41.out).mono ?_); rintro e w' ⟨rfl, ⟨nd, rfl⟩⟩; (try exact zD)) | (go_at_call 76; (with_reducible refine (spec_l01Between.calls ((rd_T42 l0_4 x4_2).f1) 1 4 false _ A43.out).mono ?_); rintro e w' ⟨rfl, ⟨nd, rfl⟩⟩; (try exact zD))); go_quiet (first | (go_at_call 76; (with_reducible refine (spec_l01Between.calls ((rd_T42 l0_4 x4_2).f0) 0 255 true _ A41.out).mono ?_); rintro e w' ⟨rfl, ⟨nd, rfl⟩⟩; (try exact zD)) | (go_at_call 76; (with_reducible refine (spec_l01Between.calls ((rd_T42 l0_4 x4_2).f1) 1 4 false _ A43.out).mono ?_); rintro e w' ⟨rfl, ⟨nd, rfl⟩⟩; (try exact zD))))
           try go_wp2_with (first | (go_at_call 76; (with_reducible refine (spec_l01Between.calls ((rd_T42 l0_4 x4_2).f0) 0 255 true _ A41.out).mono ?_); rintro e w' ⟨rfl, ⟨nd, rfl⟩⟩; (try exact zD)) | (go_at_call 76; (with_reducible refine (spec_l01Between.calls ((rd_T42 l0_4 x4_2).f1) 1 4 false _ A43.out).mono ?_); rintro e w' ⟨rfl, ⟨nd, rfl⟩⟩; (try exact zD)))
           go_meet
           case rel => exact ⟨_, (true), zS, H', ⟨by have := HJ1.out; have := HK2.out; first | omega | exact Nat.le_refl _⟩, ⟨by (with_reducible repeat (first | apply kN | apply kD | apply kA)); refine blk_far ?_ NB480_490.out _; (with_reducible repeat (first | apply kN | apply kD | apply kA)); refine blk_far ?_ NB480_490.out _; (with_reducible repeat (first | apply kN | apply kD | apply kA)); refine blk_far ?_ NB480_490.out _; (with_reducible repeat (first | apply kN | apply kD | apply kA)); refine blk_far ?_ NB480_490.out _; (with_reducible repeat (first | apply kN | apply kD | apply kA)); exact BK480.out⟩, ⟨by (with_reducible repeat (first | apply kN | apply kD | apply kA)); refine blk_put (cs := #[.int .i64 ((rd_T42 l0_4 x4_2).f0), .int .i64 ((rd_T42 l0_4 x4_2).f1), .int .i64 ((rd_T42 l0_4 x4_2).f2), .int .i64 0]) ?_ 3 _ rfl; (with_reducible repeat (first | apply kN | apply kD | apply kA)); refine blk_put (cs := #[.int .i64 ((rd_T42 l0_4 x4_2).f0), .int .i64 ((rd_T42 l0_4 x4_2).f1), .int .i64 0, .int .i64 0]) ?_ 2 _ rfl; (with_reducible repeat (first | apply kN | apply kD | apply kA)); refine blk_put (cs := #[.int .i64 ((rd_T42 l0_4 x4_2).f0), .int .i64 0, .int .i64 0, .int .i64 0]) ?_ 1 _ rfl; (with_reducible repeat (first | apply kN | apply kD | apply kA)); refine blk_put (cs := #[.int .i64 0, .int .i64 0, .int .i64 0, .int .i64 0]) ?_ 0 _ rfl; (with_reducible repeat (first | apply kN | apply kD | apply kA)); exact BK490.out⟩, ⟨zH⟩⟩
         ·replace c42 := Bool.eq_false_iff.mpr c42
          subst c42
          replace H := iF H
          have H' := aM H
          clear H
          have hnb54 := NB490_480.out
          have hnc54 := NB480_490.out
          obtain ⟨hcz55_0, hcz55_1, hcz55_2, hcz55_3⟩ := kk4 BK490
          obtain ⟨hfz55_0, hfz55_1, hfz55_2, hfz55_3⟩ := kg4 BK490
          repeat (go_wp2_with (first | (go_at_call 76; (with_reducible refine (spec_l01Between.calls ((rd_T42 l0_4 x4_2).f0) 0 255 false _ A41.out).mono ?_); rintro e w' ⟨rfl, ⟨nd, rfl⟩⟩; (try exact zD))); go_quiet (first | (go_at_call 76; (with_reducible refine (spec_l01Between.calls ((rd_T42 l0_4 x4_2).f0) 0 255 false _ A41.out).mono ?_); rintro e w' ⟨rfl, ⟨nd, rfl⟩⟩; (try exact zD))))
          try go_wp2_with (first | (go_at_call 76; (with_reducible refine (spec_l01Between.calls ((rd_T42 l0_4 x4_2).f0) 0 255 false _ A41.out).mono ?_); rintro e w' ⟨rfl, ⟨nd, rfl⟩⟩; (try exact zD)))
          go_meet
          case rel => exact ⟨_, (true), zS, H', ⟨by have := HJ1.out; have := HK2.out; first | omega | exact Nat.le_refl _⟩, ⟨by (with_reducible repeat (first | apply kN | apply kD | apply kA)); refine blk_far ?_ NB480_490.out _; (with_reducible repeat (first | apply kN | apply kD | apply kA)); refine blk_far ?_ NB480_490.out _; (with_reducible repeat (first | apply kN | apply kD | apply kA)); refine blk_far ?_ NB480_490.out _; (with_reducible repeat (first | apply kN | apply kD | apply kA)); refine blk_far ?_ NB480_490.out _; (with_reducible repeat (first | apply kN | apply kD | apply kA)); exact BK480.out⟩, ⟨by (with_reducible repeat (first | apply kN | apply kD | apply kA)); refine blk_put (cs := #[.int .i64 ((rd_T42 l0_4 x4_2).f0), .int .i64 ((rd_T42 l0_4 x4_2).f1), .int .i64 ((rd_T42 l0_4 x4_2).f2), .int .i64 0]) ?_ 3 _ rfl; (with_reducible repeat (first | apply kN | apply kD | apply kA)); refine blk_put (cs := #[.int .i64 ((rd_T42 l0_4 x4_2).f0), .int .i64 ((rd_T42 l0_4 x4_2).f1), .int .i64 0, .int .i64 0]) ?_ 2 _ rfl; (with_reducible repeat (first | apply kN | apply kD | apply kA)); refine blk_put (cs := #[.int .i64 ((rd_T42 l0_4 x4_2).f0), .int .i64 0, .int .i64 0, .int .i64 0]) ?_ 1 _ rfl; (with_reducible repeat (first | apply kN | apply kD | apply kA)); refine blk_put (cs := #[.int .i64 0, .int .i64 0, .int .i64 0, .int .i64 0]) ?_ 0 _ rfl; (with_reducible repeat (first | apply kN | apply kD | apply kA)); exact BK490.out⟩, ⟨zH⟩⟩
        case rest =>
         clear HC36
         (try clear c34b0); (try clear c35b0); (try clear hcz37_0); (try clear hcz37_1); (try clear hcz37_2); (try clear hcz37_3); (try clear hcz37_4); (try clear hcz40_0); (try clear hcz40_1); (try clear hcz40_2); (try clear hcz40_3); (try clear hfz37_0); (try clear hfz37_1); (try clear hfz37_2); (try clear hfz37_3); (try clear hfz37_4); (try clear hfz40_0); (try clear hfz40_1); (try clear hfz40_2); (try clear hfz40_3); (try clear hx489_0); (try clear hx489_1); (try clear hx489_2); (try clear hx489_3); (try clear p489); (try clear q489)
         obtain ⟨kq, x81_35, rfl, HA, HJ35, BK480, BK490, HB⟩ := hcut
         cases kq with
         | zero => exact absurd HA.out (by simp [spec_FrameOk.j2])
         | succ kj35 =>
          have H := HA.out
          clear HA
          simp only [spec_FrameOk.j2] at H
          by_cases c56 : x81_35 = true
          ·subst c56
           replace H := iT H
           obtain rfl := Option.some.inj H
           go_wp2
           repeat (go_quiet (fail); try go_wp2)
           go_ret
           exact ⟨zR, zH⟩
          ·replace c56 := Bool.eq_false_iff.mpr c56
           subst c56
           replace H := iF H
           have H' := aM H
           clear H
           go_wp2
           repeat (go_quiet (fail); try go_wp2)
           go_loopg [6] kj35 (fun kq v6 w' => ∃ (x6_4 : Int), v6 = .int .i64 x6_4 ∧ Aside0 (spec_FrameOk.l1 kq x3_2 x4_2 x6_4 a0_0 a0_1 a0_2 a0_3 l0_4 ((rd_T42 l0_4 x4_2).f0) ((rd_T42 l0_4 x4_2).f1) ((rd_T42 l0_4 x4_2).f2) ((rd_T42 l0_4 x4_2).f3) = some r) ∧ Aside0 (kq ≤ kj35) ∧ Aside0 (w'.heap[gb480]? = some (.cells #[.int .i64 a0_0, .int .i64 a0_1, .int .i64 a0_2, .int .i64 a0_3, (.slice (some ad489) l0_4.length c0_4)] 45 (0, 0))) ∧ Aside0 (w'.heap[gb490]? = some (.cells #[.int .i64 ((rd_T42 l0_4 x4_2).f0), .int .i64 ((rd_T42 l0_4 x4_2).f1), .int .i64 ((rd_T42 l0_4 x4_2).f2), .int .i64 ((rd_T42 l0_4 x4_2).f3)] 42 (0, 0))) ∧ Aside0 (Below w.heap.size w w'))
           case atStart => exact ⟨(0), zS, H', ⟨Nat.le_refl _⟩, ⟨zK BK480⟩, ⟨zK BK490⟩, ⟨zH⟩⟩
           case round =>
            clear H'
            try clear c56
            obtain ⟨x6_4, rfl, HA, HK4, BK480, BK490, HB⟩ := hrel
            cases gk with
            | zero => exact absurd HA.out (by simp [spec_FrameOk.l1])
            | succ k4 =>
             have H := HA.out
             clear HA
             simp only [spec_FrameOk.l1] at H
             by_cases c57 : x6_4 < x4_2
             ·rw [if_pos c57] at H
              have c57b0 : decide (x6_4 < x4_2) = true := decide_eq_true c57
              clear c57
              by_cases c58 : 0 ≤ x6_4
              ·rw [if_pos c58] at H
               have c58b0 : decide (0 ≤ x6_4) = true := decide_eq_true c58
               clear c58
               by_cases c59 : x6_4 < (l0_4.length : Int)
               ·rw [if_pos c59] at H
                have c59b0 : decide (x6_4 < (l0_4.length : Int)) = true := decide_eq_true c59
                clear c59
                by_cases c60 : ((rd_T42 l0_4 x6_4).f0) = ((rd_T42 l0_4 x4_2).f0)
                ·rw [if_pos c60] at H
                 have c60b0 : (((rd_T42 l0_4 x6_4).f0) == ((rd_T42 l0_4 x4_2).f0)) = true := beq_iff_eq.mpr c60
                 have c60b1 : (((rd_T42 l0_4 x6_4).f0) != ((rd_T42 l0_4 x4_2).f0)) = false := bne_eq_false_iff_eq.mpr c60
                 clear c60
                 obtain rfl := Option.some.inj H
                 have hnb61 := NB480_490.out
                 have hnc61 := NB490_480.out
                 obtain ⟨hcz62_0, hcz62_1, hcz62_2, hcz62_3, hcz62_4⟩ := kk5 BK480
                 obtain ⟨hfz62_0, hfz62_1, hfz62_2, hfz62_3, hfz62_4⟩ := kg5 BK480
                 have p495 : 0 ≤ (x6_4 : Int) := zA
                 have q495 : x6_4 < (l0_4.length : Int) := zA
                 obtain ⟨ad495, e495, hx495_0, hx495_1, hx495_2, hx495_3⟩ := at_T42 HR0_4.out x6_4 p495 q495
                 obtain rfl : ad489 = ad495 := (by injection e495)
                 replace hx495_0 := hX HB hx495_0
                 replace hx495_1 := hX HB hx495_1
                 replace hx495_2 := hX HB hx495_2
                 replace hx495_3 := hX HB hx495_3
                 replace p495 := eq_true p495
                 replace q495 := eq_true q495
                 obtain ⟨hcz63_0, hcz63_1, hcz63_2, hcz63_3⟩ := kk4 BK490
                 obtain ⟨hfz63_0, hfz63_1, hfz63_2, hfz63_3⟩ := kg4 BK490
                 go_wp2
                 repeat (go_quiet (fail); try go_wp2)
                 go_ret
                 exact ⟨zR, zH⟩
                ·rw [if_neg c60] at H
                 have c60b0 : (((rd_T42 l0_4 x6_4).f0) == ((rd_T42 l0_4 x4_2).f0)) = false := beq_eq_false_iff_ne.mpr c60
                 have c60b1 : (((rd_T42 l0_4 x6_4).f0) != ((rd_T42 l0_4 x4_2).f0)) = true := bne_iff_ne.mpr c60
                 have H' := aM H
                 clear H
                 have hnb64 := NB480_490.out
                 have hnc64 := NB490_480.out
                 obtain ⟨hcz65_0, hcz65_1, hcz65_2, hcz65_3, hcz65_4⟩ := kk5 BK480
                 obtain ⟨hfz65_0, hfz65_1, hfz65_2, hfz65_3, hfz65_4⟩ := kg5 BK480
                 have p495 : 0 ≤ (x6_4 : Int) := zA
                 have q495 : x6_4 < (l0_4.length : Int) := zA
                 obtain ⟨ad495, e495, hx495_0, hx495_1, hx495_2, hx495_3⟩ := at_T42 HR0_4.out x6_4 p495 q495
                 obtain rfl : ad489 = ad495 := (by injection e495)
                 replace hx495_0 := hX HB hx495_0
                 replace hx495_1 := hX HB hx495_1
                 replace hx495_2 := hX HB hx495_2
                 replace hx495_3 := hX HB hx495_3
                 replace p495 := eq_true p495
                 replace q495 := eq_true q495
                 obtain ⟨hcz66_0, hcz66_1, hcz66_2, hcz66_3⟩ := kk4 BK490
                 obtain ⟨hfz66_0, hfz66_1, hfz66_2, hfz66_3⟩ := kg4 BK490
                 go_wp2
                 repeat (go_quiet (fail); try go_wp2)
                 go_roundg k4
                 case measure => have := HJ1.out; have := HK2.out; have := HJ35.out; have := HK4.out; omega
                 case rel => exact ⟨(wrap64 (x6_4 + 1)), zS, H', ⟨by have := HJ1.out; have := HK2.out; have := HJ35.out; have := HK4.out; omega⟩, ⟨zK BK480⟩, ⟨zK BK490⟩, ⟨zH⟩⟩
               ·rw [if_neg c59] at H
                exact absurd H (by simp)
              ·rw [if_neg c58] at H
               exact absurd H (by simp)
             ·rw [if_neg c57] at H
              have c57b0 : decide (x6_4 < x4_2) = false := decide_eq_false c57
              clear c57
              have H' := aM H
              clear H
              have hnb67 := NB490_480.out
              have hnc67 := NB480_490.out
              obtain ⟨hcz68_0, hcz68_1, hcz68_2, hcz68_3⟩ := kk4 BK490
              obtain ⟨hfz68_0, hfz68_1, hfz68_2, hfz68_3⟩ := kg4 BK490
              go_wp2
              repeat (go_quiet (fail); try go_wp2)
              go_roundg k4
              case measure => have := HJ1.out; have := HK2.out; have := HJ35.out; have := HK4.out; omega
              case rel => exact ⟨(wrap64 (x3_2 + (wrap64 (((rd_T42 l0_4 x4_2).f1) * ((rd_T42 l0_4 x4_2).f2))))), (wrap64 (x4_2 + 1)), zS, zS, H', ⟨by have := HJ1.out; have := HK2.out; have := HJ35.out; have := HK4.out; omega⟩, ⟨zK BK480⟩, ⟨zH⟩⟩
       ·rw [if_neg c35] at H
        exact absurd H (by simp)
      ·rw [if_neg c34] at H
       have c34b0 : decide (x4_2 < (l0_4.length : Int)) = false := decide_eq_false c34
       clear c34
       obtain rfl := Option.some.inj H
       obtain ⟨hcz69_0, hcz69_1, hcz69_2, hcz69_3, hcz69_4⟩ := kk5 BK480
       obtain ⟨hfz69_0, hfz69_1, hfz69_2, hfz69_3, hfz69_4⟩ := kg5 BK480
       go_wp2
       repeat (go_quiet (fail); try go_wp2)
       go_ret
       exact ⟨zR, zH⟩

end Go.Proofs.Ythajjjpblkhmmaa.CP
