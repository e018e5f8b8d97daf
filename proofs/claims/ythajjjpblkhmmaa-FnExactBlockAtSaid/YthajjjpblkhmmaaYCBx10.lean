/- Functions that a law of this seat reaches: written by a program of this session (wip/xprint.py), and by hand. -/
import Derived.Test.YthajjjpblkhmmaaYMac
import Derived.Test.YthajjjpblkhmmaaYCBx0
import Derived.Test.YthajjjpblkhmmaaYCBx9
namespace Go.Proofs.Ythajjjpblkhmmaa.CB
open Go.RowKit Go.Proofs.Ythajjjpblkhmmaa.B Go.Proofs.YthajjjpblkhmmaaW.PrintWords Go.Proofs.YthajjjpblkhmmaaW.PrintLast Go.Proofs.YthajjjpblkhmmaaW.PrintMore
attribute [local go_sem] max2_int min2_int max_two min_two max_three min_three max_four min_four   -- for this text's walks alone
set_option linter.unusedVariables false
set_option linter.unusedSimpArgs false

/-! ### impl_FrameOk: function 92 -/
mutual
def impl_FrameOk.j0 : Nat → Bool → Int → Int → Int → Int → List (S42) → Option (Bool)
  | 0, _, _, _, _, _, _ => none
  | k + 1, x46, x272000, x272001, x272002, x272003, x272004 => if x46 = true then (some false) else (impl_FrameOk.l0 k 0 x272004 (x272004.length : Int) 0 x272000 x272001 x272002 x272003 x272004)
def impl_FrameOk.l0 : Nat → Int → List (S42) → Int → Int → Int → Int → Int → Int → List (S42) → Option (Bool)
  | 0, _, _, _, _, _, _, _, _, _ => none
  | k + 1, x3, x48, x49, x50, x272000, x272001, x272002, x272003, x272004 => if x50 < x49 then (if 0 ≤ x50 then (if x50 < (x48.length : Int) then ((impl_within.f ((rd_T42 x48 x50).f0) 0 255).bind fun t282 => (if t282 = true then ((impl_within.f ((rd_T42 x48 x50).f1) 1 4).bind fun t283 => (if t283 = true then ((impl_within.f ((rd_T42 x48 x50).f2) 1 4).bind fun t284 => (if t284 = true then ((impl_within.f ((rd_T42 x48 x50).f3) 0 3).bind fun t285 => (impl_FrameOk.j2 k x3 x50 x48 x49 x50 (!t285) x272000 x272001 x272002 x272003 x272004 ((rd_T42 x48 x50).f0) ((rd_T42 x48 x50).f1) ((rd_T42 x48 x50).f2) ((rd_T42 x48 x50).f3))) else (impl_FrameOk.j2 k x3 x50 x48 x49 x50 true x272000 x272001 x272002 x272003 x272004 ((rd_T42 x48 x50).f0) ((rd_T42 x48 x50).f1) ((rd_T42 x48 x50).f2) ((rd_T42 x48 x50).f3)))) else (impl_FrameOk.j2 k x3 x50 x48 x49 x50 true x272000 x272001 x272002 x272003 x272004 ((rd_T42 x48 x50).f0) ((rd_T42 x48 x50).f1) ((rd_T42 x48 x50).f2) ((rd_T42 x48 x50).f3)))) else (impl_FrameOk.j2 k x3 x50 x48 x49 x50 true x272000 x272001 x272002 x272003 x272004 ((rd_T42 x48 x50).f0) ((rd_T42 x48 x50).f1) ((rd_T42 x48 x50).f2) ((rd_T42 x48 x50).f3)))) else (none)) else (none)) else (some (decide (x3 ≤ 10)))
def impl_FrameOk.j2 : Nat → Int → Int → List (S42) → Int → Int → Bool → Int → Int → Int → Int → List (S42) → Int → Int → Int → Int → Option (Bool)
  | 0, _, _, _, _, _, _, _, _, _, _, _, _, _, _, _ => none
  | k + 1, x3, x4, x48, x49, x50, x76, x272000, x272001, x272002, x272003, x272004, x282000, x282001, x282002, x282003 => if x76 = true then (some false) else (if 0 ≤ x4 then (if x4 ≤ (x272004.length : Int) then ((impl_FrameOk_1.f (x272004.take (x4 : Int).toNat) x282000 x282001 x282002 x282003).bind fun t290 => (if t290 = true then (some false) else (impl_FrameOk.l0 k (wrap64 (x3 + (wrap64 (x282001 * x282002)))) x48 x49 (wrap64 (x50 + 1)) x272000 x272001 x272002 x272003 x272004))) else (none)) else (none))
end
def impl_FrameOk.f (k : Nat) (a0_0 : Int) (a0_1 : Int) (a0_2 : Int) (a0_3 : Int) (l0_4 : List (S42)) : Option (Bool) := if a0_0 = 8 then ((impl_within.f a0_1 1 256).bind fun t272 => (if t272 = true then ((impl_within.f a0_2 1 256).bind fun t273 => (if t273 = true then (if (wrap64 (a0_1 * a0_2)) > 16384 then (impl_FrameOk.j0 k true a0_0 a0_1 a0_2 a0_3 l0_4) else ((impl_within.f a0_3 0 255).bind fun t274 => (if t274 = true then ((impl_within.f (l0_4.length : Int) 1 4).bind fun t275 => (impl_FrameOk.j0 k (!t275) a0_0 a0_1 a0_2 a0_3 l0_4)) else (impl_FrameOk.j0 k true a0_0 a0_1 a0_2 a0_3 l0_4)))) else (impl_FrameOk.j0 k true a0_0 a0_1 a0_2 a0_3 l0_4))) else (impl_FrameOk.j0 k true a0_0 a0_1 a0_2 a0_3 l0_4))) else (if a0_0 = 12 then ((impl_within.f a0_1 1 256).bind fun t276 => (if t276 = true then ((impl_within.f a0_2 1 256).bind fun t277 => (if t277 = true then (if (wrap64 (a0_1 * a0_2)) > 16384 then (impl_FrameOk.j0 k true a0_0 a0_1 a0_2 a0_3 l0_4) else ((impl_within.f a0_3 0 255).bind fun t278 => (if t278 = true then ((impl_within.f (l0_4.length : Int) 1 4).bind fun t279 => (impl_FrameOk.j0 k (!t279) a0_0 a0_1 a0_2 a0_3 l0_4)) else (impl_FrameOk.j0 k true a0_0 a0_1 a0_2 a0_3 l0_4)))) else (impl_FrameOk.j0 k true a0_0 a0_1 a0_2 a0_3 l0_4))) else (impl_FrameOk.j0 k true a0_0 a0_1 a0_2 a0_3 l0_4))) else (impl_FrameOk.j0 k true a0_0 a0_1 a0_2 a0_3 l0_4))
set_option maxHeartbeats 8000000 in
set_option maxRecDepth 100000 in
theorem impl_FrameOk.calls (k : Nat) (a0_0 : Int) (a0_1 : Int) (a0_2 : Int) (a0_3 : Int) (A0_4 : Option Addr) (c0_4 : Nat) (l0_4 : List (S42)) (r : Bool) (w : World) (hr0_4 : Kd.C k42 w A0_4 l0_4.length l0_4) (hc0_4 : l0_4.length ≤ c0_4) (h : impl_FrameOk.f k a0_0 a0_1 a0_2 a0_3 l0_4 = some r) :
  Calls Try.prog 92 #[.agg #[.int .i64 a0_0, .int .i64 a0_1, .int .i64 a0_2, .int .i64 a0_3, .slice A0_4 l0_4.length c0_4]] w fun e w' => e = .returned (.bool r) ∧ Below w.heap.size w w' := by
 have hu45 := Try.underlying45
 have hu42 := Try.underlying42
 have hmf : ∀ (fn : Fn) (first cap : Array Value) (w : World), (Instr.makeFunc fn first cap).run Try.prog w = .ok (.func fn first cap) w := fun _ _ _ _ => rfl
 have HR0_4 := aM hr0_4
 have HC0_4 := aM hc0_4
 clear hr0_4 hc0_4
 have HB := aM (Below.refl w.heap.size w)
 have H : (if a0_0 = 8 then ((impl_within.f a0_1 1 256).bind fun t272 => (if t272 = true then ((impl_within.f a0_2 1 256).bind fun t273 => (if t273 = true then (if (wrap64 (a0_1 * a0_2)) > 16384 then (impl_FrameOk.j0 k true a0_0 a0_1 a0_2 a0_3 l0_4) else ((impl_within.f a0_3 0 255).bind fun t274 => (if t274 = true then ((impl_within.f (l0_4.length : Int) 1 4).bind fun t275 => (impl_FrameOk.j0 k (!t275) a0_0 a0_1 a0_2 a0_3 l0_4)) else (impl_FrameOk.j0 k true a0_0 a0_1 a0_2 a0_3 l0_4)))) else (impl_FrameOk.j0 k true a0_0 a0_1 a0_2 a0_3 l0_4))) else (impl_FrameOk.j0 k true a0_0 a0_1 a0_2 a0_3 l0_4))) else (if a0_0 = 12 then ((impl_within.f a0_1 1 256).bind fun t276 => (if t276 = true then ((impl_within.f a0_2 1 256).bind fun t277 => (if t277 = true then (if (wrap64 (a0_1 * a0_2)) > 16384 then (impl_FrameOk.j0 k true a0_0 a0_1 a0_2 a0_3 l0_4) else ((impl_within.f a0_3 0 255).bind fun t278 => (if t278 = true then ((impl_within.f (l0_4.length : Int) 1 4).bind fun t279 => (impl_FrameOk.j0 k (!t279) a0_0 a0_1 a0_2 a0_3 l0_4)) else (impl_FrameOk.j0 k true a0_0 a0_1 a0_2 a0_3 l0_4)))) else (impl_FrameOk.j0 k true a0_0 a0_1 a0_2 a0_3 l0_4))) else (impl_FrameOk.j0 k true a0_0 a0_1 a0_2 a0_3 l0_4))) else (impl_FrameOk.j0 k true a0_0 a0_1 a0_2 a0_3 l0_4))) = some r := h
 clear h
 have HC2 := aM H
 clear H
 go_enter Try.func92, Try.ntmps92
 go_upto_region 1 with (first | ((with_reducible refine gate_dst (N := 1) rfl ?_); (try (refine gate_guard (by rfl) ?_; dsimp only)); refine box_event ?hg (N := 1) ?hd (cs := #[.int .i64 a0_0, .int .i64 a0_1, .int .i64 a0_2, .int .i64 a0_3, .slice A0_4 l0_4.length c0_4]) (t := 45) ?hr ?_; (case hd => rfl); (case hg => rfl); (case hr => first | (go_simp; done) | (go_simp; rfl)); intro gb271 hg w3 hbox hb; have BK271 := aM hbox; have GW271 := aM (zG hg : w.heap.size ≤ gb271); have GE271 := aM (zG hg : w.heap.size ≤ gb271); replace HB := cH HB hb; clear hb hbox hg))
 (try simp only [Act.put, List.setIfInBounds_toArray, List.set_cons_zero, List.set_cons_succ])
 go_cut [46] (fun v46 wc => ∃ (kq : Nat) (x46_1 : Bool), v46 = .bool x46_1 ∧ Aside0 (impl_FrameOk.j0 kq x46_1 a0_0 a0_1 a0_2 a0_3 l0_4 = some r) ∧ Aside0 (kq ≤ k) ∧ Aside0 (wc.heap[gb271]? = some (.cells #[.int .i64 a0_0, .int .i64 a0_1, .int .i64 a0_2, .int .i64 a0_3, (.slice A0_4 l0_4.length c0_4)] 45 (0, 0))) ∧ Aside0 (Below w.heap.size w wc))
 case first =>
  have H := HC2.out
  clear HC2
  by_cases c4 : a0_0 = 8
  ·rw [if_pos c4] at H
   have c4b0 : (a0_0 == 8) = true := beq_iff_eq.mpr c4
   have c4b1 : (a0_0 != 8) = false := bne_eq_false_iff_eq.mpr c4
   clear c4
   (first | rw [c4b0] | (simp only [i64_w, i32_w]; rw [c4b0]) | skip)
   obtain ⟨t272, A5, H⟩ := oH H
   by_cases c6 : t272 = true
   ·subst c6
    replace H := iT H
    obtain ⟨t273, A7, H⟩ := oH H
    by_cases c8 : t273 = true
    ·subst c8
     replace H := iT H
     by_cases c9 : (wrap64 (a0_1 * a0_2)) > 16384
     ·rw [if_pos c9] at H
      have c9b0 : decide (16384 < (wrap64 (a0_1 * a0_2))) = true := decide_eq_true c9
      clear c9
      have H' := aM H
      clear H
      obtain ⟨hcz10_0, hcz10_1, hcz10_2, hcz10_3, hcz10_4⟩ := kk5 BK271
      obtain ⟨hfz10_0, hfz10_1, hfz10_2, hfz10_3, hfz10_4⟩ := kg5 BK271
      go_wp2_with (first | (go_at_call 101; (with_reducible refine (impl_within.calls a0_1 1 256 true _ A5.out).mono ?_); rintro e w' ⟨rfl, ⟨nd, rfl⟩⟩) | (go_at_call 101; (with_reducible refine (impl_within.calls a0_2 1 256 true _ A7.out).mono ?_); rintro e w' ⟨rfl, ⟨nd, rfl⟩⟩))
      go_meet
      case rel => exact ⟨_, (true), zS, H', zO, ⟨zK BK271⟩, ⟨zH⟩⟩
     ·rw [if_neg c9] at H
      have c9b0 : decide (16384 < (wrap64 (a0_1 * a0_2))) = false := decide_eq_false c9
      clear c9
      obtain ⟨t274, A11, H⟩ := oH H
      by_cases c12 : t274 = true
      ·subst c12
       replace H := iT H
       obtain ⟨t275, A13, H⟩ := oH H
       have H' := aM H
       clear H
       obtain ⟨hcz14_0, hcz14_1, hcz14_2, hcz14_3, hcz14_4⟩ := kk5 BK271
       obtain ⟨hfz14_0, hfz14_1, hfz14_2, hfz14_3, hfz14_4⟩ := kg5 BK271
       go_wp2_with (first | (go_at_call 101; (with_reducible refine (impl_within.calls a0_1 1 256 true _ A5.out).mono ?_); rintro e w' ⟨rfl, ⟨nd, rfl⟩⟩) | (go_at_call 101; (with_reducible refine (impl_within.calls a0_2 1 256 true _ A7.out).mono ?_); rintro e w' ⟨rfl, ⟨nd, rfl⟩⟩) | (go_at_call 101; (with_reducible refine (impl_within.calls a0_3 0 255 true _ A11.out).mono ?_); rintro e w' ⟨rfl, ⟨nd, rfl⟩⟩) | (go_at_call 101; (with_reducible refine (impl_within.calls (l0_4.length : Int) 1 4 t275 _ A13.out).mono ?_); rintro e w' ⟨rfl, ⟨nd, rfl⟩⟩))
       go_meet
       case rel => exact ⟨_, (!t275), zS, H', zO, ⟨zK BK271⟩, ⟨zH⟩⟩
      ·replace c12 := Bool.eq_false_iff.mpr c12
       subst c12
       replace H := iF H
       have H' := aM H
       clear H
       obtain ⟨hcz15_0, hcz15_1, hcz15_2, hcz15_3, hcz15_4⟩ := kk5 BK271
       obtain ⟨hfz15_0, hfz15_1, hfz15_2, hfz15_3, hfz15_4⟩ := kg5 BK271
       go_wp2_with (first | (go_at_call 101; (with_reducible refine (impl_within.calls a0_1 1 256 true _ A5.out).mono ?_); rintro e w' ⟨rfl, ⟨nd, rfl⟩⟩) | (go_at_call 101; (with_reducible refine (impl_within.calls a0_2 1 256 true _ A7.out).mono ?_); rintro e w' ⟨rfl, ⟨nd, rfl⟩⟩) | (go_at_call 101; (with_reducible refine (impl_within.calls a0_3 0 255 false _ A11.out).mono ?_); rintro e w' ⟨rfl, ⟨nd, rfl⟩⟩))
       go_meet
       case rel => exact ⟨_, (true), zS, H', zO, ⟨zK BK271⟩, ⟨zH⟩⟩
    ·replace c8 := Bool.eq_false_iff.mpr c8
     subst c8
     replace H := iF H
     have H' := aM H
     clear H
     obtain ⟨hcz16_0, hcz16_1, hcz16_2, hcz16_3, hcz16_4⟩ := kk5 BK271
     obtain ⟨hfz16_0, hfz16_1, hfz16_2, hfz16_3, hfz16_4⟩ := kg5 BK271
     go_wp2_with (first | (go_at_call 101; (with_reducible refine (impl_within.calls a0_1 1 256 true _ A5.out).mono ?_); rintro e w' ⟨rfl, ⟨nd, rfl⟩⟩) | (go_at_call 101; (with_reducible refine (impl_within.calls a0_2 1 256 false _ A7.out).mono ?_); rintro e w' ⟨rfl, ⟨nd, rfl⟩⟩))
     go_meet
     case rel => exact ⟨_, (true), zS, H', zO, ⟨zK BK271⟩, ⟨zH⟩⟩
   ·replace c6 := Bool.eq_false_iff.mpr c6
    subst c6
    replace H := iF H
    have H' := aM H
    clear H
    obtain ⟨hcz17_0, hcz17_1, hcz17_2, hcz17_3, hcz17_4⟩ := kk5 BK271
    obtain ⟨hfz17_0, hfz17_1, hfz17_2, hfz17_3, hfz17_4⟩ := kg5 BK271
    go_wp2_with (first | (go_at_call 101; (with_reducible refine (impl_within.calls a0_1 1 256 false _ A5.out).mono ?_); rintro e w' ⟨rfl, ⟨nd, rfl⟩⟩))
    go_meet
    case rel => exact ⟨_, (true), zS, H', zO, ⟨zK BK271⟩, ⟨zH⟩⟩
  ·rw [if_neg c4] at H
   have c4b0 : (a0_0 == 8) = false := beq_eq_false_iff_ne.mpr c4
   have c4b1 : (a0_0 != 8) = true := bne_iff_ne.mpr c4
   (first | rw [c4b0] | (simp only [i64_w, i32_w]; rw [c4b0]) | skip)
   by_cases c18 : a0_0 = 12
   ·rw [if_pos c18] at H
    have c18b0 : (a0_0 == 12) = true := beq_iff_eq.mpr c18
    have c18b1 : (a0_0 != 12) = false := bne_eq_false_iff_eq.mpr c18
    clear c18
    obtain ⟨t276, A19, H⟩ := oH H
    by_cases c20 : t276 = true
    ·subst c20
     replace H := iT H
     obtain ⟨t277, A21, H⟩ := oH H
     by_cases c22 : t277 = true
     ·subst c22
      replace H := iT H
      by_cases c23 : (wrap64 (a0_1 * a0_2)) > 16384
      ·rw [if_pos c23] at H
       have c23b0 : decide (16384 < (wrap64 (a0_1 * a0_2))) = true := decide_eq_true c23
       clear c23
       have H' := aM H
       clear H
       obtain ⟨hcz24_0, hcz24_1, hcz24_2, hcz24_3, hcz24_4⟩ := kk5 BK271
       obtain ⟨hfz24_0, hfz24_1, hfz24_2, hfz24_3, hfz24_4⟩ := kg5 BK271
       go_wp2_with (first | (go_at_call 101; (with_reducible refine (impl_within.calls a0_1 1 256 true _ A19.out).mono ?_); rintro e w' ⟨rfl, ⟨nd, rfl⟩⟩) | (go_at_call 101; (with_reducible refine (impl_within.calls a0_2 1 256 true _ A21.out).mono ?_); rintro e w' ⟨rfl, ⟨nd, rfl⟩⟩))
       go_meet
       case rel => exact ⟨_, (true), zS, H', zO, ⟨zK BK271⟩, ⟨zH⟩⟩
      ·rw [if_neg c23] at H
       have c23b0 : decide (16384 < (wrap64 (a0_1 * a0_2))) = false := decide_eq_false c23
       clear c23
       obtain ⟨t278, A25, H⟩ := oH H
       by_cases c26 : t278 = true
       ·subst c26
        replace H := iT H
        obtain ⟨t279, A27, H⟩ := oH H
        have H' := aM H
        clear H
        obtain ⟨hcz28_0, hcz28_1, hcz28_2, hcz28_3, hcz28_4⟩ := kk5 BK271
        obtain ⟨hfz28_0, hfz28_1, hfz28_2, hfz28_3, hfz28_4⟩ := kg5 BK271
        go_wp2_with (first | (go_at_call 101; (with_reducible refine (impl_within.calls a0_1 1 256 true _ A19.out).mono ?_); rintro e w' ⟨rfl, ⟨nd, rfl⟩⟩) | (go_at_call 101; (with_reducible refine (impl_within.calls a0_2 1 256 true _ A21.out).mono ?_); rintro e w' ⟨rfl, ⟨nd, rfl⟩⟩) | (go_at_call 101; (with_reducible refine (impl_within.calls a0_3 0 255 true _ A25.out).mono ?_); rintro e w' ⟨rfl, ⟨nd, rfl⟩⟩) | (go_at_call 101; (with_reducible refine (impl_within.calls (l0_4.length : Int) 1 4 t279 _ A27.out).mono ?_); rintro e w' ⟨rfl, ⟨nd, rfl⟩⟩))
        go_meet
        case rel => exact ⟨_, (!t279), zS, H', zO, ⟨zK BK271⟩, ⟨zH⟩⟩
       ·replace c26 := Bool.eq_false_iff.mpr c26
        subst c26
        replace H := iF H
        have H' := aM H
        clear H
        obtain ⟨hcz29_0, hcz29_1, hcz29_2, hcz29_3, hcz29_4⟩ := kk5 BK271
        obtain ⟨hfz29_0, hfz29_1, hfz29_2, hfz29_3, hfz29_4⟩ := kg5 BK271
        go_wp2_with (first | (go_at_call 101; (with_reducible refine (impl_within.calls a0_1 1 256 true _ A19.out).mono ?_); rintro e w' ⟨rfl, ⟨nd, rfl⟩⟩) | (go_at_call 101; (with_reducible refine (impl_within.calls a0_2 1 256 true _ A21.out).mono ?_); rintro e w' ⟨rfl, ⟨nd, rfl⟩⟩) | (go_at_call 101; (with_reducible refine (impl_within.calls a0_3 0 255 false _ A25.out).mono ?_); rintro e w' ⟨rfl, ⟨nd, rfl⟩⟩))
        go_meet
        case rel => exact ⟨_, (true), zS, H', zO, ⟨zK BK271⟩, ⟨zH⟩⟩
     ·replace c22 := Bool.eq_false_iff.mpr c22
      subst c22
      replace H := iF H
      have H' := aM H
      clear H
      obtain ⟨hcz30_0, hcz30_1, hcz30_2, hcz30_3, hcz30_4⟩ := kk5 BK271
      obtain ⟨hfz30_0, hfz30_1, hfz30_2, hfz30_3, hfz30_4⟩ := kg5 BK271
      go_wp2_with (first | (go_at_call 101; (with_reducible refine (impl_within.calls a0_1 1 256 true _ A19.out).mono ?_); rintro e w' ⟨rfl, ⟨nd, rfl⟩⟩) | (go_at_call 101; (with_reducible refine (impl_within.calls a0_2 1 256 false _ A21.out).mono ?_); rintro e w' ⟨rfl, ⟨nd, rfl⟩⟩))
      go_meet
      case rel => exact ⟨_, (true), zS, H', zO, ⟨zK BK271⟩, ⟨zH⟩⟩
    ·replace c20 := Bool.eq_false_iff.mpr c20
     subst c20
     replace H := iF H
     have H' := aM H
     clear H
     obtain ⟨hcz31_0, hcz31_1, hcz31_2, hcz31_3, hcz31_4⟩ := kk5 BK271
     obtain ⟨hfz31_0, hfz31_1, hfz31_2, hfz31_3, hfz31_4⟩ := kg5 BK271
     go_wp2_with (first | (go_at_call 101; (with_reducible refine (impl_within.calls a0_1 1 256 false _ A19.out).mono ?_); rintro e w' ⟨rfl, ⟨nd, rfl⟩⟩))
     go_meet
     case rel => exact ⟨_, (true), zS, H', zO, ⟨zK BK271⟩, ⟨zH⟩⟩
   ·rw [if_neg c18] at H
    have c18b0 : (a0_0 == 12) = false := beq_eq_false_iff_ne.mpr c18
    have c18b1 : (a0_0 != 12) = true := bne_iff_ne.mpr c18
    have H' := aM H
    clear H
    obtain ⟨hcz32_0, hcz32_1, hcz32_2, hcz32_3, hcz32_4⟩ := kk5 BK271
    obtain ⟨hfz32_0, hfz32_1, hfz32_2, hfz32_3, hfz32_4⟩ := kg5 BK271
    go_wp2
    go_meet
    case rel => exact ⟨_, (true), zS, H', zO, ⟨zK BK271⟩, ⟨zH⟩⟩
 case rest =>
  clear HC2
  obtain ⟨kq, x46_1, rfl, HA, HJ1, BK271, HB⟩ := hcut
  cases kq with
  | zero => exact absurd HA.out (by simp [impl_FrameOk.j0])
  | succ kj1 =>
   have H := HA.out
   clear HA
   simp only [impl_FrameOk.j0] at H
   by_cases c33 : x46_1 = true
   ·subst c33
    replace H := iT H
    obtain rfl := Option.some.inj H
    go_wp2
    go_ret
    exact ⟨zR, zH⟩
   ·replace c33 := Bool.eq_false_iff.mpr c33
    subst c33
    replace H := iF H
    have H' := aM H
    clear H
    obtain ⟨hcz34_0, hcz34_1, hcz34_2, hcz34_3, hcz34_4⟩ := kk5 BK271
    obtain ⟨hfz34_0, hfz34_1, hfz34_2, hfz34_3, hfz34_4⟩ := kg5 BK271
    go_wp2
    go_loopg [3, 50] kj1 (fun kq v3 v50 w' => ∃ (x3_2 : Int) (x50_2 : Int), v3 = .int .i64 x3_2 ∧ v50 = .int .i64 x50_2 ∧ Aside0 (impl_FrameOk.l0 kq x3_2 l0_4 (l0_4.length : Int) x50_2 a0_0 a0_1 a0_2 a0_3 l0_4 = some r) ∧ Aside0 (kq ≤ kj1) ∧ Aside0 (w'.heap[gb271]? = some (.cells #[.int .i64 a0_0, .int .i64 a0_1, .int .i64 a0_2, .int .i64 a0_3, (.slice A0_4 l0_4.length c0_4)] 45 (0, 0))) ∧ Aside0 (Below w.heap.size w w'))
    case atStart => exact ⟨(0), (0), zS, zS, H', ⟨Nat.le_refl _⟩, ⟨zK BK271⟩, ⟨zH⟩⟩
    case round =>
     clear H'
     (try clear c33); (try clear hcz34_0); (try clear hcz34_1); (try clear hcz34_2); (try clear hcz34_3); (try clear hcz34_4); (try clear hfz34_0); (try clear hfz34_1); (try clear hfz34_2); (try clear hfz34_3); (try clear hfz34_4)
     obtain ⟨x3_2, x50_2, rfl, rfl, HA, HK2, BK271, HB⟩ := hrel
     cases gk with
     | zero => exact absurd HA.out (by simp [impl_FrameOk.l0])
     | succ k2 =>
      have H := HA.out
      clear HA
      simp only [impl_FrameOk.l0] at H
      by_cases c35 : x50_2 < (l0_4.length : Int)
      ·rw [if_pos c35] at H
       have c35b0 : decide (x50_2 < (l0_4.length : Int)) = true := decide_eq_true c35
       clear c35
       by_cases c36 : 0 ≤ x50_2
       ·rw [if_pos c36] at H
        have c36b0 : decide (0 ≤ x50_2) = true := decide_eq_true c36
        clear c36
        by_cases c37 : x50_2 < (l0_4.length : Int)
        ·rw [if_pos c37] at H
         have c37b0 : decide (x50_2 < (l0_4.length : Int)) = true := decide_eq_true c37
         clear c37
         have HC38 := aM H
         clear H
         have p280 : 0 ≤ (x50_2 : Int) := zA
         have q280 : x50_2 < (l0_4.length : Int) := zA
         obtain ⟨ad280, e280, hx280_0, hx280_1, hx280_2, hx280_3⟩ := at_T42 HR0_4.out x50_2 p280 q280
         cases e280
         replace hx280_0 := hX HB hx280_0
         replace hx280_1 := hX HB hx280_1
         replace hx280_2 := hX HB hx280_2
         replace hx280_3 := hX HB hx280_3
         replace p280 := eq_true p280
         replace q280 := eq_true q280
         go_upto_region 7 with (first | ((with_reducible refine gate_dst (N := 5) rfl ?_); (try (refine gate_guard (by rfl) ?_; dsimp only)); refine box_event ?hg (N := 5) ?hd (cs := #[.int .i64 0, .int .i64 0, .int .i64 0, .int .i64 0]) (t := 42) ?hr ?_; (case hd => rfl); (case hg => rfl); (case hr => first | (go_simp; done) | (go_simp; rfl)); intro gb281 hg w39 hbox hb; have BK281 := aM hbox; have GW281 := aM (zG hg : w.heap.size ≤ gb281); have GE281 := aM (zG hg : w.heap.size ≤ gb281); replace HB := cH HB hb; have NB271_281 := aM ((zL hg BK271)); have NB281_271 := aM ((zM hg BK271)); replace BK271 := cB BK271 hb; clear hb hbox hg; have hnb40 := NB281_271.out; have hnc40 := NB271_281.out; obtain ⟨hcz41_0, hcz41_1, hcz41_2, hcz41_3⟩ := kk4 BK281; obtain ⟨hfz41_0, hfz41_1, hfz41_2, hfz41_3⟩ := kg4 BK281))
         (try simp only [Act.put, List.setIfInBounds_toArray, List.set_cons_zero, List.set_cons_succ])
         go_cut [76] (fun v76 wc => ∃ (kq : Nat) (x76_37 : Bool), v76 = .bool x76_37 ∧ Aside0 (impl_FrameOk.j2 kq x3_2 x50_2 l0_4 (l0_4.length : Int) x50_2 x76_37 a0_0 a0_1 a0_2 a0_3 l0_4 ((rd_T42 l0_4 x50_2).f0) ((rd_T42 l0_4 x50_2).f1) ((rd_T42 l0_4 x50_2).f2) ((rd_T42 l0_4 x50_2).f3) = some r) ∧ Aside0 (kq ≤ k2) ∧ Aside0 (wc.heap[gb271]? = some (.cells #[.int .i64 a0_0, .int .i64 a0_1, .int .i64 a0_2, .int .i64 a0_3, (.slice (some ad280) l0_4.length c0_4)] 45 (0, 0))) ∧ Aside0 (wc.heap[gb281]? = some (.cells #[.int .i64 ((rd_T42 l0_4 x50_2).f0), .int .i64 ((rd_T42 l0_4 x50_2).f1), .int .i64 ((rd_T42 l0_4 x50_2).f2), .int .i64 ((rd_T42 l0_4 x50_2).f3)] 42 (0, 0))) ∧ Aside0 (Below w.heap.size w wc))
         case first =>
          have H := HC38.out
          clear HC38
          obtain ⟨t282, A42, H⟩ := oH H
          by_cases c43 : t282 = true
          ·subst c43
           replace H := iT H
           obtain ⟨t283, A44, H⟩ := oH H
           by_cases c45 : t283 = true
           ·subst c45
            replace H := iT H
            obtain ⟨t284, A46, H⟩ := oH H
            by_cases c47 : t284 = true
            ·subst c47
             replace H := iT H
             obtain ⟨t285, A48, H⟩ := oH H
             have H' := aM H
             clear H
             have hnb49 := NB281_271.out
             have hnc49 := NB271_281.out
             obtain ⟨hcz50_0, hcz50_1, hcz50_2, hcz50_3⟩ := kk4 BK281
             obtain ⟨hfz50_0, hfz50_1, hfz50_2, hfz50_3⟩ := kg4 BK281
             go_wp2_with (first | ((with_reducible refine gate_callee (f := 101) rfl ?_); refine zGl (some 57) Try.func101 #[.int .i64 ((rd_T42 l0_4 x50_2).f0), .int .i64 0, .int .i64 255] ?_; (with_reducible refine (impl_within.calls ((rd_T42 l0_4 x50_2).f0) 0 255 true _ A42.out).mono ?_); rintro e w' ⟨rfl, ⟨nd, rfl⟩⟩; refine ⟨_, rfl, ?_⟩) | (go_at_call 101; (with_reducible refine (impl_within.calls ((rd_T42 l0_4 x50_2).f1) 1 4 true _ A44.out).mono ?_); rintro e w' ⟨rfl, ⟨nd, rfl⟩⟩) | (go_at_call 101; (with_reducible refine (impl_within.calls ((rd_T42 l0_4 x50_2).f2) 1 4 true _ A46.out).mono ?_); rintro e w' ⟨rfl, ⟨nd, rfl⟩⟩) | (go_at_call 101; (with_reducible refine (impl_within.calls ((rd_T42 l0_4 x50_2).f3) 0 3 t285 _ A48.out).mono ?_); rintro e w' ⟨rfl, ⟨nd, rfl⟩⟩))
             go_meet
             case rel => exact ⟨_, (!t285), zS, H', ⟨by have := HJ1.out; have := HK2.out; first | omega | exact Nat.le_refl _⟩, ⟨by (with_reducible repeat (first | apply kN | apply kD | apply kA)); refine blk_far ?_ NB271_281.out _; (with_reducible repeat (first | apply kN | apply kD | apply kA)); refine blk_far ?_ NB271_281.out _; (with_reducible repeat (first | apply kN | apply kD | apply kA)); refine blk_far ?_ NB271_281.out _; (with_reducible repeat (first | apply kN | apply kD | apply kA)); refine blk_far ?_ NB271_281.out _; (with_reducible repeat (first | apply kN | apply kD | apply kA)); exact BK271.out⟩, ⟨by (with_reducible repeat (first | apply kN | apply kD | apply kA)); refine blk_put (cs := #[.int .i64 ((rd_T42 l0_4 x50_2).f0), .int .i64 ((rd_T42 l0_4 x50_2).f1), .int .i64 ((rd_T42 l0_4 x50_2).f2), .int .i64 0]) ?_ 3 _ rfl; (with_reducible repeat (first | apply kN | apply kD | apply kA)); refine blk_put (cs := #[.int .i64 ((rd_T42 l0_4 x50_2).f0), .int .i64 ((rd_T42 l0_4 x50_2).f1), .int .i64 0, .int .i64 0]) ?_ 2 _ rfl; (with_reducible repeat (first | apply kN | apply kD | apply kA)); refine blk_put (cs := #[.int .i64 ((rd_T42 l0_4 x50_2).f0), .int .i64 0, .int .i64 0, .int .i64 0]) ?_ 1 _ rfl; (with_reducible repeat (first | apply kN | apply kD | apply kA)); refine blk_put (cs := #[.int .i64 0, .int .i64 0, .int .i64 0, .int .i64 0]) ?_ 0 _ rfl; (with_reducible repeat (first | apply kN | apply kD | apply kA)); exact BK281.out⟩, ⟨zH⟩⟩
            ·replace c47 := Bool.eq_false_iff.mpr c47
             subst c47
             replace H := iF H
             have H' := aM H
             clear H
             have hnb51 := NB281_271.out
             have hnc51 := NB271_281.out
             obtain ⟨hcz52_0, hcz52_1, hcz52_2, hcz52_3⟩ := kk4 BK281
             obtain ⟨hfz52_0, hfz52_1, hfz52_2, hfz52_3⟩ := kg4 BK281
             go_wp2_with (first | ((with_reducible refine gate_callee (f := 101) rfl ?_); refine zGl (some 57) Try.func101 #[.int .i64 ((rd_T42 l0_4 x50_2).f0), .int .i64 0, .int .i64 255] ?_; (with_reducible refine (impl_within.calls ((rd_T42 l0_4 x50_2).f0) 0 255 true _ A42.out).mono ?_); rintro e w' ⟨rfl, ⟨nd, rfl⟩⟩; refine ⟨_, rfl, ?_⟩) | (go_at_call 101; (with_reducible refine (impl_within.calls ((rd_T42 l0_4 x50_2).f1) 1 4 true _ A44.out).mono ?_); rintro e w' ⟨rfl, ⟨nd, rfl⟩⟩) | (go_at_call 101; (with_reducible refine (impl_within.calls ((rd_T42 l0_4 x50_2).f2) 1 4 false _ A46.out).mono ?_); rintro e w' ⟨rfl, ⟨nd, rfl⟩⟩))
             go_meet
             case rel => exact ⟨_, (true), zS, H', ⟨by have := HJ1.out; have := HK2.out; first | omega | exact Nat.le_refl _⟩, ⟨by (with_reducible repeat (first | apply kN | apply kD | apply kA)); refine blk_far ?_ NB271_281.out _; (with_reducible repeat (first | apply kN | apply kD | apply kA)); refine blk_far ?_ NB271_281.out _; (with_reducible repeat (first | apply kN | apply kD | apply kA)); refine blk_far ?_ NB271_281.out _; (with_reducible repeat (first | apply kN | apply kD | apply kA)); refine blk_far ?_ NB271_281.out _; (with_reducible repeat (first | apply kN | apply kD | apply kA)); exact BK271.out⟩, ⟨by (with_reducible repeat (first | apply kN | apply kD | apply kA)); refine blk_put (cs := #[.int .i64 ((rd_T42 l0_4 x50_2).f0), .int .i64 ((rd_T42 l0_4 x50_2).f1), .int .i64 ((rd_T42 l0_4 x50_2).f2), .int .i64 0]) ?_ 3 _ rfl; (with_reducible repeat (first | apply kN | apply kD | apply kA)); refine blk_put (cs := #[.int .i64 ((rd_T42 l0_4 x50_2).f0), .int .i64 ((rd_T42 l0_4 x50_2).f1), .int .i64 0, .int .i64 0]) ?_ 2 _ rfl; (with_reducible repeat (first | apply kN | apply kD | apply kA)); refine blk_put (cs := #[.int .i64 ((rd_T42 l0_4 x50_2).f0), .int .i64 0, .int .i64 0, .int .i64 0]) ?_ 1 _ rfl; (with_reducible repeat (first | apply kN | apply kD | apply kA)); refine blk_put (cs := #[.int .i64 0, .int .i64 0, .int .i64 0, .int .i64 0]) ?_ 0 _ rfl; (with_reducible repeat (first | apply kN | apply kD | apply kA)); exact BK281.out⟩, ⟨zH⟩⟩
           ·replace c45 := Bool.eq_false_iff.mpr c45
            subst c45
            replace H := iF H
            have H' := aM H
            clear H
            have hnb53 := NB281_271.out
            have hnc53 := NB271_281.out
            obtain ⟨hcz54_0, hcz54_1, hcz54_2, hcz54_3⟩ := kk4 BK281
            obtain ⟨hfz54_0, hfz54_1, hfz54_2, hfz54_3⟩ := kg4 BK281
            go_wp2_with (first | ((with_reducible refine gate_callee (f := 101) rfl ?_); refine zGl (some 57) Try.func101 #[.int .i64 ((rd_T42 l0_4 x50_2).f0), .int .i64 0, .int .i64 255] ?_; (with_reducible refine (impl_within.calls ((rd_T42 l0_4 x50_2).f0) 0 255 true _ A42.out).mono ?_); rintro e w' ⟨rfl, ⟨nd, rfl⟩⟩; refine ⟨_, rfl, ?_⟩) | (go_at_call 101; (with_reducible refine (impl_within.calls ((rd_T42 l0_4 x50_2).f1) 1 4 false _ A44.out).mono ?_); rintro e w' ⟨rfl, ⟨nd, rfl⟩⟩))
            go_meet
            case rel => exact ⟨_, (true), zS, H', ⟨by have := HJ1.out; have := HK2.out; first | omega | exact Nat.le_refl _⟩, ⟨by (with_reducible repeat (first | apply kN | apply kD | apply kA)); refine blk_far ?_ NB271_281.out _; (with_reducible repeat (first | apply kN | apply kD | apply kA)); refine blk_far ?_ NB271_281.out _; (with_reducible repeat (first | apply kN | apply kD | apply kA)); refine blk_far ?_ NB271_281.out _; (with_reducible repeat (first | apply kN | apply kD | apply kA)); refine blk_far ?_ NB271_281.out _; (with_reducible repeat (first | apply kN | apply kD | apply kA)); exact BK271.out⟩, ⟨by (with_reducible repeat (first | apply kN | apply kD | apply kA)); refine blk_put (cs := #[.int .i64 ((rd_T42 l0_4 x50_2).f0), .int .i64 ((rd_T42 l0_4 x50_2).f1), .int .i64 ((rd_T42 l0_4 x50_2).f2), .int .i64 0]) ?_ 3 _ rfl; (with_reducible repeat (first | apply kN | apply kD | apply kA)); refine blk_put (cs := #[.int .i64 ((rd_T42 l0_4 x50_2).f0), .int .i64 ((rd_T42 l0_4 x50_2).f1), .int .i64 0, .int .i64 0]) ?_ 2 _ rfl; (with_reducible repeat (first | apply kN | apply kD | apply kA)); refine blk_put (cs := #[.int .i64 ((rd_T42 l0_4 x50_2).f0), .int .i64 0, .int .i64 0, .int .i64 0]) ?_ 1 _ rfl; (with_reducible repeat (first | apply kN | apply kD | apply kA)); refine blk_put (cs := #[.int .i64 0, .int .i64 0, .int .i64 0, .int .i64 0]) ?_ 0 _ rfl; (with_reducible repeat (first | apply kN | apply kD | apply kA)); exact BK281.out⟩, ⟨zH⟩⟩
          ·replace c43 := Bool.eq_false_iff.mpr c43
           subst c43
           replace H := iF H
           have H' := aM H
           clear H
           have hnb55 := NB281_271.out
           have hnc55 := NB271_281.out
           obtain ⟨hcz56_0, hcz56_1, hcz56_2, hcz56_3⟩ := kk4 BK281
           obtain ⟨hfz56_0, hfz56_1, hfz56_2, hfz56_3⟩ := kg4 BK281
           go_wp2_with (first | ((with_reducible refine gate_callee (f := 101) rfl ?_); refine zGl (some 57) Try.func101 #[.int .i64 ((rd_T42 l0_4 x50_2).f0), .int .i64 0, .int .i64 255] ?_; (with_reducible refine (impl_within.calls ((rd_T42 l0_4 x50_2).f0) 0 255 false _ A42.out).mono ?_); rintro e w' ⟨rfl, ⟨nd, rfl⟩⟩; refine ⟨_, rfl, ?_⟩))
           go_meet
           case rel => exact ⟨_, (true), zS, H', ⟨by have := HJ1.out; have := HK2.out; first | omega | exact Nat.le_refl _⟩, ⟨by (with_reducible repeat (first | apply kN | apply kD | apply kA)); refine blk_far ?_ NB271_281.out _; (with_reducible repeat (first | apply kN | apply kD | apply kA)); refine blk_far ?_ NB271_281.out _; (with_reducible repeat (first | apply kN | apply kD | apply kA)); refine blk_far ?_ NB271_281.out _; (with_reducible repeat (first | apply kN | apply kD | apply kA)); refine blk_far ?_ NB271_281.out _; (with_reducible repeat (first | apply kN | apply kD | apply kA)); exact BK271.out⟩, ⟨by (with_reducible repeat (first | apply kN | apply kD | apply kA)); refine blk_put (cs := #[.int .i64 ((rd_T42 l0_4 x50_2).f0), .int .i64 ((rd_T42 l0_4 x50_2).f1), .int .i64 ((rd_T42 l0_4 x50_2).f2), .int .i64 0]) ?_ 3 _ rfl; (with_reducible repeat (first | apply kN | apply kD | apply kA)); refine blk_put (cs := #[.int .i64 ((rd_T42 l0_4 x50_2).f0), .int .i64 ((rd_T42 l0_4 x50_2).f1), .int .i64 0, .int .i64 0]) ?_ 2 _ rfl; (with_reducible repeat (first | apply kN | apply kD | apply kA)); refine blk_put (cs := #[.int .i64 ((rd_T42 l0_4 x50_2).f0), .int .i64 0, .int .i64 0, .int .i64 0]) ?_ 1 _ rfl; (with_reducible repeat (first | apply kN | apply kD | apply kA)); refine blk_put (cs := #[.int .i64 0, .int .i64 0, .int .i64 0, .int .i64 0]) ?_ 0 _ rfl; (with_reducible repeat (first | apply kN | apply kD | apply kA)); exact BK281.out⟩, ⟨zH⟩⟩
         case rest =>
          clear HC38
          (try clear c35b0); (try clear c36b0); (try clear c37b0); (try clear hcz41_0); (try clear hcz41_1); (try clear hcz41_2); (try clear hcz41_3); (try clear hfz41_0); (try clear hfz41_1); (try clear hfz41_2); (try clear hfz41_3); (try clear hx280_0); (try clear hx280_1); (try clear hx280_2); (try clear hx280_3); (try clear p280); (try clear q280)
          obtain ⟨kq, x76_37, rfl, HA, HJ37, BK271, BK281, HB⟩ := hcut
          cases kq with
          | zero => exact absurd HA.out (by simp [impl_FrameOk.j2])
          | succ kj37 =>
           have H := HA.out
           clear HA
           simp only [impl_FrameOk.j2] at H
           by_cases c57 : x76_37 = true
           ·subst c57
            replace H := iT H
            obtain rfl := Option.some.inj H
            go_wp2
            go_ret
            exact ⟨zR, zH⟩
           ·replace c57 := Bool.eq_false_iff.mpr c57
            subst c57
            replace H := iF H
            by_cases c58 : 0 ≤ x50_2
            ·rw [if_pos c58] at H
             have c58b0 := eq_true c58
             have c58b1 : decide (0 ≤ x50_2) = true := decide_eq_true c58
             clear c58
             by_cases c59 : x50_2 ≤ (l0_4.length : Int)
             ·rw [if_pos c59] at H
              have c59b0 := eq_true c59
              have c59b1 : decide (x50_2 ≤ (l0_4.length : Int)) = true := decide_eq_true c59
              clear c59
              obtain ⟨y286, hy286⟩ : ∃ y_ : List (S42), y_ = (l0_4.take (x50_2 : Int).toNat) := ⟨_, rfl⟩
              replace H : ((impl_FrameOk_1.f y286 ((rd_T42 l0_4 x50_2).f0) ((rd_T42 l0_4 x50_2).f1) ((rd_T42 l0_4 x50_2).f2) ((rd_T42 l0_4 x50_2).f3)).bind fun t290 => (if t290 = true then (some false) else (impl_FrameOk.l0 kj37 (wrap64 (x3_2 + (wrap64 (((rd_T42 l0_4 x50_2).f1) * ((rd_T42 l0_4 x50_2).f2))))) l0_4 (l0_4.length : Int) (wrap64 (x50_2 + 1)) a0_0 a0_1 a0_2 a0_3 l0_4))) = some r := by first | (rw [hy286]; with_reducible exact H) | (have H2_ := (Option.bind_some _ _).symm.trans H; rw [hy286]; with_reducible exact H2_) | (have H2_ := (Option.bind_some _ _).symm.trans H; with_reducible exact H2_) | with_reducible exact H | (rw [hy286]; exact H) | exact H
              have Ny286 := aM hy286
              clear hy286
              obtain ⟨t290, A60, H⟩ := oH H
              by_cases c61 : t290 = true
              ·subst c61
               replace H := iT H
               obtain rfl := Option.some.inj H
               have hnb62 := NB271_281.out
               have hnc62 := NB281_271.out
               obtain ⟨hcz63_0, hcz63_1, hcz63_2, hcz63_3, hcz63_4⟩ := kk5 BK271
               obtain ⟨hfz63_0, hfz63_1, hfz63_2, hfz63_3, hfz63_4⟩ := kg5 BK271
               have q64 : (x50_2 : Int) ≤ ((l0_4.length : Int) : Int) := zA
               obtain ⟨i064, hi064, _, hsz64, _⟩ := info_parts info42
               have hroom64 : l0_4.length ≤ c0_4 := HC0_4.out
               have hC64 : Kd.C k42 _ (some ad280) l0_4.length l0_4 := HR0_4.out
               have hcut64 := cut_to (P := Try.prog) 43 42 .i64 Try.underlying43 hi064 (some ad280) l0_4.length c0_4 x50_2 (zA) q64 hroom64
               have hr64 := Kd.C_take (m := (x50_2 : Int).toNat) hC64 (by omega)
               have hy64 : y286.length = (x50_2 : Int).toNat := (by rw [Ny286.out, List.length_take]; omega)
               rw [← Ny286.out] at hr64
               rw [← hy64] at hcut64
               have HR289 := aM hr64
               have HC289 := aM (show y286.length ≤ c0_4 from by omega)
               clear hr64 hC64 hroom64 hi064 hsz64
               have KY64 := aM hy64
               clear hy64
               replace q64 := eq_true q64
               go_wp2_with (first | (go_at_call 124; (with_reducible refine (impl_FrameOk_1.calls _ _ y286 gb281 ((rd_T42 l0_4 x50_2).f0) ((rd_T42 l0_4 x50_2).f1) ((rd_T42 l0_4 x50_2).f2) ((rd_T42 l0_4 x50_2).f3) true _ ?side1 ?side2 ?side3 A60.out).mono ?_); (case side1 => exact zC (Kd.C_below HR289.out HB.out)); (case side2 => exact HC289.out); (case side3 => exact (zK BK281)); rintro e w65 ⟨rfl, hb⟩; replace BK271 := cB BK271 hb; replace BK281 := cB BK281 hb; replace HB := cH HB hb; (try clear hb)))
               go_ret
               exact ⟨zR, zH⟩
              ·replace c61 := Bool.eq_false_iff.mpr c61
               subst c61
               replace H := iF H
               have H' := aM H
               clear H
               have hnb66 := NB271_281.out
               have hnc66 := NB281_271.out
               obtain ⟨hcz67_0, hcz67_1, hcz67_2, hcz67_3, hcz67_4⟩ := kk5 BK271
               obtain ⟨hfz67_0, hfz67_1, hfz67_2, hfz67_3, hfz67_4⟩ := kg5 BK271
               have q68 : (x50_2 : Int) ≤ ((l0_4.length : Int) : Int) := zA
               obtain ⟨i068, hi068, _, hsz68, _⟩ := info_parts info42
               have hroom68 : l0_4.length ≤ c0_4 := HC0_4.out
               have hC68 : Kd.C k42 _ (some ad280) l0_4.length l0_4 := HR0_4.out
               have hcut68 := cut_to (P := Try.prog) 43 42 .i64 Try.underlying43 hi068 (some ad280) l0_4.length c0_4 x50_2 (zA) q68 hroom68
               have hr68 := Kd.C_take (m := (x50_2 : Int).toNat) hC68 (by omega)
               have hy68 : y286.length = (x50_2 : Int).toNat := (by rw [Ny286.out, List.length_take]; omega)
               rw [← Ny286.out] at hr68
               rw [← hy68] at hcut68
               have HR289 := aM hr68
               have HC289 := aM (show y286.length ≤ c0_4 from by omega)
               clear hr68 hC68 hroom68 hi068 hsz68
               have KY68 := aM hy68
               clear hy68
               replace q68 := eq_true q68
               go_wp2_with (first | (go_at_call 124; (with_reducible refine (impl_FrameOk_1.calls _ _ y286 gb281 ((rd_T42 l0_4 x50_2).f0) ((rd_T42 l0_4 x50_2).f1) ((rd_T42 l0_4 x50_2).f2) ((rd_T42 l0_4 x50_2).f3) false _ ?side1 ?side2 ?side3 A60.out).mono ?_); (case side1 => exact zC (Kd.C_below HR289.out HB.out)); (case side2 => exact HC289.out); (case side3 => exact (zK BK281)); rintro e w69 ⟨rfl, hb⟩; replace BK271 := cB BK271 hb; replace BK281 := cB BK281 hb; replace HB := cH HB hb; (try clear hb); obtain ⟨hcz70_0, hcz70_1, hcz70_2, hcz70_3⟩ := kk4 BK281; obtain ⟨hfz70_0, hfz70_1, hfz70_2, hfz70_3⟩ := kg4 BK281))
               go_roundg kj37
               case measure => have := HJ1.out; have := HK2.out; have := HJ37.out; omega
               case rel => exact ⟨(wrap64 (x3_2 + (wrap64 (((rd_T42 l0_4 x50_2).f1) * ((rd_T42 l0_4 x50_2).f2))))), (wrap64 (x50_2 + 1)), zS, zS, H', ⟨by have := HJ1.out; have := HK2.out; have := HJ37.out; omega⟩, ⟨zK BK271⟩, ⟨zH⟩⟩
             ·rw [if_neg c59] at H
              exact absurd H (by simp)
            ·rw [if_neg c58] at H
             exact absurd H (by simp)
        ·rw [if_neg c37] at H
         exact absurd H (by simp)
       ·rw [if_neg c36] at H
        exact absurd H (by simp)
      ·rw [if_neg c35] at H
       have c35b0 : decide (x50_2 < (l0_4.length : Int)) = false := decide_eq_false c35
       clear c35
       obtain rfl := Option.some.inj H
       go_wp2
       go_ret
       exact ⟨zR, zH⟩

end Go.Proofs.Ythajjjpblkhmmaa.CB
