/- Functions that a law of this seat reaches: written by a program of this session (wip/xprint.py), and by hand. -/
import Derived.Test.YtpcfjobojdldnaaYMac
import Derived.Test.YtpcfjobojdldnaaYCVx0
import Derived.Test.YtpcfjobojdldnaaYCVx3
import Derived.Test.YtpcfjobojdldnaaYCVx4
import Derived.Test.YtpcfjobojdldnaaYCVx12
import Derived.Test.YtpcfjobojdldnaaYCVx13
import Derived.Test.YtpcfjobojdldnaaYCVx20
import Derived.Test.YtpcfjobojdldnaaYCVx21
namespace Go.Proofs.Ytpcfjobojdldnaa.CV
open Go.RowKit Go.Proofs.Ytpcfjobojdldnaa.B Go.Proofs.YtpcfjobojdldnaaW.PrintWords Go.Proofs.YtpcfjobojdldnaaW.PrintLast Go.Proofs.YtpcfjobojdldnaaW.PrintMore
attribute [local go_sem] max2_int min2_int max_two min_two max_three min_three max_four min_four   -- for this text's walks alone
set_option linter.unusedVariables false
set_option linter.unusedSimpArgs false

/-! ### laws_FnExactStreamOk: function 3 -/
def laws_FnExactStreamOk.f (k : Nat) (a0_0 : Int) (a0_1 : Int) (a0_2 : Int) (a0_3 : Int) (l0_4 : List (S98)) (l0_5 : List (List Int)) (l0_6 : List (List (List Int))) (a0_7 : Int) (l0_8 : List (S72)) (l0_9 : List Int) : Option (Bool) := (laws_szStream.f k a0_0 a0_1 a0_2 a0_3 l0_4 l0_5 l0_6 a0_7 l0_8 l0_9 1048576).bind fun t490 => (if t490 < 0 then (some true) else ((laws_toStream.f k a0_0 a0_1 a0_2 a0_3 l0_4 l0_5 l0_6 a0_7 l0_8 l0_9).bind fun bt491 => ((spec_StreamOk.f k bt491.1 bt491.2.1 bt491.2.2.1 bt491.2.2.2.1 bt491.2.2.2.2.1 bt491.2.2.2.2.2.1 bt491.2.2.2.2.2.2.1 bt491.2.2.2.2.2.2.2.1 bt491.2.2.2.2.2.2.2.2.1 bt491.2.2.2.2.2.2.2.2.2).bind fun t511 => ((laws_toStream.f k a0_0 a0_1 a0_2 a0_3 l0_4 l0_5 l0_6 a0_7 l0_8 l0_9).bind fun bt512 => ((impl_StreamOk.f k bt512.1 bt512.2.1 bt512.2.2.1 bt512.2.2.2.1 bt512.2.2.2.2.1 bt512.2.2.2.2.2.1 bt512.2.2.2.2.2.2.1 bt512.2.2.2.2.2.2.2.1 bt512.2.2.2.2.2.2.2.2.1 bt512.2.2.2.2.2.2.2.2.2).bind fun t533 => (if (t533 != t511) = true then (some false) else ((laws_toStream.f k a0_0 a0_1 a0_2 a0_3 l0_4 l0_5 l0_6 a0_7 l0_8 l0_9).bind fun bt534 => ((laws_eqStream.f k bt512.1 bt512.2.1 bt512.2.2.1 bt512.2.2.2.1 bt512.2.2.2.2.1 bt512.2.2.2.2.2.1 bt512.2.2.2.2.2.2.1 bt512.2.2.2.2.2.2.2.1 bt512.2.2.2.2.2.2.2.2.1 bt512.2.2.2.2.2.2.2.2.2 bt534.1 bt534.2.1 bt534.2.2.1 bt534.2.2.2.1 bt534.2.2.2.2.1 bt534.2.2.2.2.2.1 bt534.2.2.2.2.2.2.1 bt534.2.2.2.2.2.2.2.1 bt534.2.2.2.2.2.2.2.2.1 bt534.2.2.2.2.2.2.2.2.2).bind fun t554 => (if t554 = true then (some true) else (some false))))))))))
theorem laws_FnExactStreamOk.mono : ∀ a0 a1 a2 a3 a4 a5 a6 a7 a8 a9 k, LeO (laws_FnExactStreamOk.f k a0 a1 a2 a3 a4 a5 a6 a7 a8 a9) (laws_FnExactStreamOk.f (k + 1) a0 a1 a2 a3 a4 a5 a6 a7 a8 a9) := by
 intro a0 a1 a2 a3 a4 a5 a6 a7 a8 a9 k
 unfold laws_FnExactStreamOk.f
 repeat' first
   | (with_reducible exact impl_StreamOk.mono _ _ _ _ _ _ _ _ _ _ _)
   | (with_reducible exact laws_eqStream.mono _ _ _ _ _ _ _ _ _ _ _ _ _ _ _ _ _ _ _ _ _)
   | (with_reducible exact laws_szStream.mono _ _ _ _ _ _ _ _ _ _ _ _)
   | (with_reducible exact laws_toStream.mono _ _ _ _ _ _ _ _ _ _ _)
   | (with_reducible exact spec_StreamOk.mono _ _ _ _ _ _ _ _ _ _ _)
   | (with_reducible exact LeO.refl _)
   | (with_reducible exact LeO.none _)
   | (with_reducible refine LeO.ite ?_ ?_)
   | (with_reducible refine LeO.bind ?_ (fun _ => ?_))
   | exact impl_StreamOk.mono _ _ _ _ _ _ _ _ _ _ _
   | exact laws_eqStream.mono _ _ _ _ _ _ _ _ _ _ _ _ _ _ _ _ _ _ _ _ _
   | exact laws_szStream.mono _ _ _ _ _ _ _ _ _ _ _ _
   | exact laws_toStream.mono _ _ _ _ _ _ _ _ _ _ _
   | exact spec_StreamOk.mono _ _ _ _ _ _ _ _ _ _ _
   | exact LeO.none _
   | refine LeO.ite ?_ ?_
   | refine LeO.bind ?_ (fun _ => ?_)
set_option maxHeartbeats 8000000 in
set_option maxRecDepth 100000 in
theorem laws_FnExactStreamOk.calls (k : Nat) (a0_0 : Int) (a0_1 : Int) (a0_2 : Int) (a0_3 : Int) (A0_4 : Option Addr) (c0_4 : Nat) (l0_4 : List (S98)) (A0_5 : Option Addr) (c0_5 : Nat) (l0_5 : List (List Int)) (A0_6 : Option Addr) (c0_6 : Nat) (l0_6 : List (List (List Int))) (a0_7 : Int) (A0_8 : Option Addr) (c0_8 : Nat) (l0_8 : List (S72)) (A0_9 : Option Addr) (c0_9 : Nat) (l0_9 : List Int) (r : Bool) (w : World) (hr0_4 : Kd.C k98 w A0_4 l0_4.length l0_4) (hc0_4 : l0_4.length ≤ c0_4) (hr0_5 : Kd.C (Kd.slice 3 (Kd.int .i64)) w A0_5 l0_5.length l0_5) (hc0_5 : l0_5.length ≤ c0_5) (hr0_6 : Kd.C (Kd.slice 55 (Kd.slice 3 (Kd.int .i64))) w A0_6 l0_6.length l0_6) (hc0_6 : l0_6.length ≤ c0_6) (hr0_8 : Kd.C k72 w A0_8 l0_8.length l0_8) (hc0_8 : l0_8.length ≤ c0_8) (hr0_9 : Kd.C (Kd.int .u8) w A0_9 l0_9.length l0_9) (hc0_9 : l0_9.length ≤ c0_9) (HTRUE_ : Aside0 (r = true)) (h : laws_FnExactStreamOk.f k a0_0 a0_1 a0_2 a0_3 l0_4 l0_5 l0_6 a0_7 l0_8 l0_9 = some r) :
  Calls Try.prog 3 #[.agg #[.int .i64 a0_0, .int .i64 a0_1, .int .i64 a0_2, .int .i64 a0_3, .slice A0_4 l0_4.length c0_4, .slice A0_5 l0_5.length c0_5, .slice A0_6 l0_6.length c0_6, .int .i64 a0_7, .slice A0_8 l0_8.length c0_8, .slice A0_9 l0_9.length c0_9]] w fun e w' => e = .returned (.bool r) ∧ Below w.heap.size w w' := by
 have hu32 := Try.underlying32
 have hu41 := Try.underlying41
 have HR0_4 := aM hr0_4
 have HC0_4 := aM hc0_4
 clear hr0_4 hc0_4
 have HR0_5 := aM hr0_5
 have HC0_5 := aM hc0_5
 clear hr0_5 hc0_5
 have HR0_6 := aM hr0_6
 have HC0_6 := aM hc0_6
 clear hr0_6 hc0_6
 have HR0_8 := aM hr0_8
 have HC0_8 := aM hc0_8
 clear hr0_8 hc0_8
 have HR0_9 := aM hr0_9
 have HC0_9 := aM hc0_9
 clear hr0_9 hc0_9
 have HB := aM (Below.refl w.heap.size w)
 have H : ((laws_szStream.f k a0_0 a0_1 a0_2 a0_3 l0_4 l0_5 l0_6 a0_7 l0_8 l0_9 1048576).bind fun t490 => (if t490 < 0 then (some true) else ((laws_toStream.f k a0_0 a0_1 a0_2 a0_3 l0_4 l0_5 l0_6 a0_7 l0_8 l0_9).bind fun bt491 => ((spec_StreamOk.f k bt491.1 bt491.2.1 bt491.2.2.1 bt491.2.2.2.1 bt491.2.2.2.2.1 bt491.2.2.2.2.2.1 bt491.2.2.2.2.2.2.1 bt491.2.2.2.2.2.2.2.1 bt491.2.2.2.2.2.2.2.2.1 bt491.2.2.2.2.2.2.2.2.2).bind fun t511 => ((laws_toStream.f k a0_0 a0_1 a0_2 a0_3 l0_4 l0_5 l0_6 a0_7 l0_8 l0_9).bind fun bt512 => ((impl_StreamOk.f k bt512.1 bt512.2.1 bt512.2.2.1 bt512.2.2.2.1 bt512.2.2.2.2.1 bt512.2.2.2.2.2.1 bt512.2.2.2.2.2.2.1 bt512.2.2.2.2.2.2.2.1 bt512.2.2.2.2.2.2.2.2.1 bt512.2.2.2.2.2.2.2.2.2).bind fun t533 => (if (t533 != t511) = true then (some false) else ((laws_toStream.f k a0_0 a0_1 a0_2 a0_3 l0_4 l0_5 l0_6 a0_7 l0_8 l0_9).bind fun bt534 => ((laws_eqStream.f k bt512.1 bt512.2.1 bt512.2.2.1 bt512.2.2.2.1 bt512.2.2.2.2.1 bt512.2.2.2.2.2.1 bt512.2.2.2.2.2.2.1 bt512.2.2.2.2.2.2.2.1 bt512.2.2.2.2.2.2.2.2.1 bt512.2.2.2.2.2.2.2.2.2 bt534.1 bt534.2.1 bt534.2.2.1 bt534.2.2.2.1 bt534.2.2.2.2.1 bt534.2.2.2.2.2.1 bt534.2.2.2.2.2.2.1 bt534.2.2.2.2.2.2.2.1 bt534.2.2.2.2.2.2.2.2.1 bt534.2.2.2.2.2.2.2.2.2).bind fun t554 => (if t554 = true then (some true) else (some false))))))))))) = some r := h
 clear h
 obtain ⟨t490, A2, H⟩ := oH H
 by_cases c3 : t490 < 0
 ·rw [if_pos c3] at H
  have c3b0 : decide (t490 < 0) = true := decide_eq_true c3
  clear c3
  obtain rfl := Option.some.inj H
  go_enter Try.func3, Try.ntmps3
  go_wp2_with (first | ((with_reducible refine gate_dst (N := 1) rfl ?_); refine box_event ?hg (N := 1) ?hd (cs := #[.int .i64 a0_0, .int .i64 a0_1, .int .i64 a0_2, .int .i64 a0_3, .slice A0_4 l0_4.length c0_4, .slice A0_5 l0_5.length c0_5, .slice A0_6 l0_6.length c0_6, .int .i64 a0_7, .slice A0_8 l0_8.length c0_8, .slice A0_9 l0_9.length c0_9]) (t := 32) ?hr ?_; (case hd => rfl); (case hg => rfl); (case hr => first | (go_simp; done) | (go_simp; rfl)); intro gb489 hg w4 hbox hb; have BK489 := aM hbox; have GW489 := aM (zG hg : w.heap.size ≤ gb489); have GE489 := aM (zG hg : w.heap.size ≤ gb489); replace HB := cH HB hb; clear hb hbox hg; have hcz5_0 : w4.cell? ⟨gb489, 0, none⟩ = some (.int .i64 a0_0) := (kC BK489.out 0).trans rfl; have hcz5_1 : w4.cell? ⟨gb489, 1, none⟩ = some (.int .i64 a0_1) := (kC BK489.out 1).trans rfl; have hcz5_2 : w4.cell? ⟨gb489, 2, none⟩ = some (.int .i64 a0_2) := (kC BK489.out 2).trans rfl; have hcz5_3 : w4.cell? ⟨gb489, 3, none⟩ = some (.int .i64 a0_3) := (kC BK489.out 3).trans rfl; have hcz5_4 : w4.cell? ⟨gb489, 4, none⟩ = some (.slice A0_4 l0_4.length c0_4) := (kC BK489.out 4).trans rfl; have hcz5_5 : w4.cell? ⟨gb489, 5, none⟩ = some (.slice A0_5 l0_5.length c0_5) := (kC BK489.out 5).trans rfl; have hcz5_6 : w4.cell? ⟨gb489, 6, none⟩ = some (.slice A0_6 l0_6.length c0_6) := (kC BK489.out 6).trans rfl; have hcz5_7 : w4.cell? ⟨gb489, 7, none⟩ = some (.int .i64 a0_7) := (kC BK489.out 7).trans rfl; have hcz5_8 : w4.cell? ⟨gb489, 8, none⟩ = some (.slice A0_8 l0_8.length c0_8) := (kC BK489.out 8).trans rfl; have hcz5_9 : w4.cell? ⟨gb489, 9, none⟩ = some (.slice A0_9 l0_9.length c0_9) := (kC BK489.out 9).trans rfl; have hfz5_0 := blk_frozen BK489.out 0; have hfz5_1 := blk_frozen BK489.out 1; have hfz5_2 := blk_frozen BK489.out 2; have hfz5_3 := blk_frozen BK489.out 3; have hfz5_4 := blk_frozen BK489.out 4; have hfz5_5 := blk_frozen BK489.out 5; have hfz5_6 := blk_frozen BK489.out 6; have hfz5_7 := blk_frozen BK489.out 7; have hfz5_8 := blk_frozen BK489.out 8; have hfz5_9 := blk_frozen BK489.out 9) | (go_at_call 4; (with_reducible refine (laws_szStream.calls k a0_0 a0_1 a0_2 a0_3 _ _ l0_4 _ _ l0_5 _ _ l0_6 a0_7 _ _ l0_8 _ _ l0_9 1048576 t490 _ ?side1 ?side2 ?side3 ?side4 ?side5 ?side6 ?side7 ?side8 ?side9 ?side10 A2.out).mono ?_); (case side1 => exact zC (Kd.C_below HR0_4.out HB.out)); (case side2 => exact HC0_4.out); (case side3 => exact zC (Kd.C_below HR0_5.out HB.out)); (case side4 => exact HC0_5.out); (case side5 => exact zC (Kd.C_below HR0_6.out HB.out)); (case side6 => exact HC0_6.out); (case side7 => exact zC (Kd.C_below HR0_8.out HB.out)); (case side8 => exact HC0_8.out); (case side9 => exact zC (Kd.C_below HR0_9.out HB.out)); (case side10 => exact HC0_9.out); rintro e w6 ⟨rfl, hb⟩; replace BK489 := cB BK489 hb; replace HB := cH HB hb; (try clear hb)))
  go_ret
  exact ⟨zR, zH⟩
 ·rw [if_neg c3] at H
  have c3b0 : decide (t490 < 0) = false := decide_eq_false c3
  clear c3
  replace H := oB H
  obtain ⟨⟨t491, t492, t493, t494, t495, t498, t501, t504, t505, t508⟩, A70, H⟩ := H
  replace H : ((spec_StreamOk.f k t491 t492 t493 t494 t495 t498 t501 t504 t505 t508).bind fun t511 => ((laws_toStream.f k a0_0 a0_1 a0_2 a0_3 l0_4 l0_5 l0_6 a0_7 l0_8 l0_9).bind fun bt512 => ((impl_StreamOk.f k bt512.1 bt512.2.1 bt512.2.2.1 bt512.2.2.2.1 bt512.2.2.2.2.1 bt512.2.2.2.2.2.1 bt512.2.2.2.2.2.2.1 bt512.2.2.2.2.2.2.2.1 bt512.2.2.2.2.2.2.2.2.1 bt512.2.2.2.2.2.2.2.2.2).bind fun t533 => (if (t533 != t511) = true then (some false) else ((laws_toStream.f k a0_0 a0_1 a0_2 a0_3 l0_4 l0_5 l0_6 a0_7 l0_8 l0_9).bind fun bt534 => ((laws_eqStream.f k bt512.1 bt512.2.1 bt512.2.2.1 bt512.2.2.2.1 bt512.2.2.2.2.1 bt512.2.2.2.2.2.1 bt512.2.2.2.2.2.2.1 bt512.2.2.2.2.2.2.2.1 bt512.2.2.2.2.2.2.2.2.1 bt512.2.2.2.2.2.2.2.2.2 bt534.1 bt534.2.1 bt534.2.2.1 bt534.2.2.2.1 bt534.2.2.2.2.1 bt534.2.2.2.2.2.1 bt534.2.2.2.2.2.2.1 bt534.2.2.2.2.2.2.2.1 bt534.2.2.2.2.2.2.2.2.1 bt534.2.2.2.2.2.2.2.2.2).bind fun t554 => (if t554 = true then (some true) else (some false)))))))) = some r := H
  have A7 := aM A70
  clear A70
  obtain ⟨t511, A8, H⟩ := oH H
  replace H := oB H
  obtain ⟨⟨t512, t513, t514, t515, t516, t519, t522, t525, t526, t529⟩, A90, H⟩ := H
  replace H : ((impl_StreamOk.f k t512 t513 t514 t515 t516 t519 t522 t525 t526 t529).bind fun t533 => (if (t533 != t511) = true then (some false) else ((laws_toStream.f k a0_0 a0_1 a0_2 a0_3 l0_4 l0_5 l0_6 a0_7 l0_8 l0_9).bind fun bt534 => ((laws_eqStream.f k t512 t513 t514 t515 t516 t519 t522 t525 t526 t529 bt534.1 bt534.2.1 bt534.2.2.1 bt534.2.2.2.1 bt534.2.2.2.2.1 bt534.2.2.2.2.2.1 bt534.2.2.2.2.2.2.1 bt534.2.2.2.2.2.2.2.1 bt534.2.2.2.2.2.2.2.2.1 bt534.2.2.2.2.2.2.2.2.2).bind fun t554 => (if t554 = true then (some true) else (some false)))))) = some r := H
  have A9 := aM A90
  clear A90
  obtain ⟨t533, A10, H⟩ := oH H
  by_cases c11 : (t533 != t511) = true
  ·rw [if_pos c11] at H
   have c11b0 : (t533 != t511) = true := c11
   (try (have c11b1 : decide (t533 = t511) = false := by simpa using c11))
   (try (have c11b2 : (t533 == t511) = false := by simpa using c11))
   (try (have c11b3 : ¬ (t533 = t511) := by simpa using c11))
   clear c11
   exact noArm H HTRUE_.out
  ·rw [if_neg c11] at H
   have c11b0 : (t533 != t511) = false := by simpa using c11
   (try (have c11b1 : decide (t533 = t511) = true := by simpa using c11))
   (try (have c11b2 : (t533 == t511) = true := by simpa using c11))
   clear c11
   replace H := oB H
   obtain ⟨⟨t534, t535, t536, t537, t538, t541, t544, t547, t548, t551⟩, A120, H⟩ := H
   replace H : ((laws_eqStream.f k t512 t513 t514 t515 t516 t519 t522 t525 t526 t529 t534 t535 t536 t537 t538 t541 t544 t547 t548 t551).bind fun t554 => (if t554 = true then (some true) else (some false))) = some r := H
   have A12 := aM A120
   clear A120
   obtain ⟨t554, A13, H⟩ := oH H
   by_cases c14 : t554 = true
   ·subst c14
    replace H := iT H
    obtain rfl := Option.some.inj H
    go_enter Try.func3, Try.ntmps3
    try go_wp2_with (first | ((with_reducible refine gate_dst (N := 1) rfl ?_); refine box_event ?hg (N := 1) ?hd (cs := #[.int .i64 a0_0, .int .i64 a0_1, .int .i64 a0_2, .int .i64 a0_3, .slice A0_4 l0_4.length c0_4, .slice A0_5 l0_5.length c0_5, .slice A0_6 l0_6.length c0_6, .int .i64 a0_7, .slice A0_8 l0_8.length c0_8, .slice A0_9 l0_9.length c0_9]) (t := 32) ?hr ?_; (case hd => rfl); (case hg => rfl); (case hr => first | (go_simp; done) | (go_simp; rfl)); intro gb489 hg w15 hbox hb; have BK489 := aM hbox; have GW489 := aM (zG hg : w.heap.size ≤ gb489); have GE489 := aM (zG hg : w.heap.size ≤ gb489); replace HB := cH HB hb; clear hb hbox hg; have hcz16_0 : w15.cell? ⟨gb489, 0, none⟩ = some (.int .i64 a0_0) := (kC BK489.out 0).trans rfl; have hcz16_1 : w15.cell? ⟨gb489, 1, none⟩ = some (.int .i64 a0_1) := (kC BK489.out 1).trans rfl; have hcz16_2 : w15.cell? ⟨gb489, 2, none⟩ = some (.int .i64 a0_2) := (kC BK489.out 2).trans rfl; have hcz16_3 : w15.cell? ⟨gb489, 3, none⟩ = some (.int .i64 a0_3) := (kC BK489.out 3).trans rfl; have hcz16_4 : w15.cell? ⟨gb489, 4, none⟩ = some (.slice A0_4 l0_4.length c0_4) := (kC BK489.out 4).trans rfl; have hcz16_5 : w15.cell? ⟨gb489, 5, none⟩ = some (.slice A0_5 l0_5.length c0_5) := (kC BK489.out 5).trans rfl; have hcz16_6 : w15.cell? ⟨gb489, 6, none⟩ = some (.slice A0_6 l0_6.length c0_6) := (kC BK489.out 6).trans rfl; have hcz16_7 : w15.cell? ⟨gb489, 7, none⟩ = some (.int .i64 a0_7) := (kC BK489.out 7).trans rfl; have hcz16_8 : w15.cell? ⟨gb489, 8, none⟩ = some (.slice A0_8 l0_8.length c0_8) := (kC BK489.out 8).trans rfl; have hcz16_9 : w15.cell? ⟨gb489, 9, none⟩ = some (.slice A0_9 l0_9.length c0_9) := (kC BK489.out 9).trans rfl; have hfz16_0 := blk_frozen BK489.out 0; have hfz16_1 := blk_frozen BK489.out 1; have hfz16_2 := blk_frozen BK489.out 2; have hfz16_3 := blk_frozen BK489.out 3; have hfz16_4 := blk_frozen BK489.out 4; have hfz16_5 := blk_frozen BK489.out 5; have hfz16_6 := blk_frozen BK489.out 6; have hfz16_7 := blk_frozen BK489.out 7; have hfz16_8 := blk_frozen BK489.out 8; have hfz16_9 := blk_frozen BK489.out 9) | (go_at_call 4; (with_reducible refine (laws_szStream.calls k a0_0 a0_1 a0_2 a0_3 _ _ l0_4 _ _ l0_5 _ _ l0_6 a0_7 _ _ l0_8 _ _ l0_9 1048576 t490 _ ?side1 ?side2 ?side3 ?side4 ?side5 ?side6 ?side7 ?side8 ?side9 ?side10 A2.out).mono ?_); (case side1 => exact zC (Kd.C_below HR0_4.out HB.out)); (case side2 => exact HC0_4.out); (case side3 => exact zC (Kd.C_below HR0_5.out HB.out)); (case side4 => exact HC0_5.out); (case side5 => exact zC (Kd.C_below HR0_6.out HB.out)); (case side6 => exact HC0_6.out); (case side7 => exact zC (Kd.C_below HR0_8.out HB.out)); (case side8 => exact HC0_8.out); (case side9 => exact zC (Kd.C_below HR0_9.out HB.out)); (case side10 => exact HC0_9.out); rintro e w17 ⟨rfl, hb⟩; replace BK489 := cB BK489 hb; replace HB := cH HB hb; (try clear hb); have hcz18_0 : w17.cell? ⟨gb489, 0, none⟩ = some (.int .i64 a0_0) := (kC BK489.out 0).trans rfl; have hcz18_1 : w17.cell? ⟨gb489, 1, none⟩ = some (.int .i64 a0_1) := (kC BK489.out 1).trans rfl; have hcz18_2 : w17.cell? ⟨gb489, 2, none⟩ = some (.int .i64 a0_2) := (kC BK489.out 2).trans rfl; have hcz18_3 : w17.cell? ⟨gb489, 3, none⟩ = some (.int .i64 a0_3) := (kC BK489.out 3).trans rfl; have hcz18_4 : w17.cell? ⟨gb489, 4, none⟩ = some (.slice A0_4 l0_4.length c0_4) := (kC BK489.out 4).trans rfl; have hcz18_5 : w17.cell? ⟨gb489, 5, none⟩ = some (.slice A0_5 l0_5.length c0_5) := (kC BK489.out 5).trans rfl; have hcz18_6 : w17.cell? ⟨gb489, 6, none⟩ = some (.slice A0_6 l0_6.length c0_6) := (kC BK489.out 6).trans rfl; have hcz18_7 : w17.cell? ⟨gb489, 7, none⟩ = some (.int .i64 a0_7) := (kC BK489.out 7).trans rfl; have hcz18_8 : w17.cell? ⟨gb489, 8, none⟩ = some (.slice A0_8 l0_8.length c0_8) := (kC BK489.out 8).trans rfl; have hcz18_9 : w17.cell? ⟨gb489, 9, none⟩ = some (.slice A0_9 l0_9.length c0_9) := (kC BK489.out 9).trans rfl; have hfz18_0 := blk_frozen BK489.out 0; have hfz18_1 := blk_frozen BK489.out 1; have hfz18_2 := blk_frozen BK489.out 2; have hfz18_3 := blk_frozen BK489.out 3; have hfz18_4 := blk_frozen BK489.out 4; have hfz18_5 := blk_frozen BK489.out 5; have hfz18_6 := blk_frozen BK489.out 6; have hfz18_7 := blk_frozen BK489.out 7; have hfz18_8 := blk_frozen BK489.out 8; have hfz18_9 := blk_frozen BK489.out 9) | ((with_reducible refine gate_callee (f := 6) rfl ?_); refine zGl (some 13) Try.func6 #[.agg #[.int .i64 a0_0, .int .i64 a0_1, .int .i64 a0_2, .int .i64 a0_3, .slice A0_4 l0_4.length c0_4, .slice A0_5 l0_5.length c0_5, .slice A0_6 l0_6.length c0_6, .int .i64 a0_7, .slice A0_8 l0_8.length c0_8, .slice A0_9 l0_9.length c0_9]] ?_; (with_reducible refine (laws_toStream.calls k a0_0 a0_1 a0_2 a0_3 _ _ l0_4 _ _ l0_5 _ _ l0_6 a0_7 _ _ l0_8 _ _ l0_9 t491 t492 t493 t494 t495 t498 t501 t504 t505 t508 _ ?side1 ?side2 ?side3 ?side4 ?side5 ?side6 ?side7 ?side8 ?side9 ?side10 A7.out).mono ?_); (case side1 => exact zC (Kd.C_below HR0_4.out HB.out)); (case side2 => exact HC0_4.out); (case side3 => exact zC (Kd.C_below HR0_5.out HB.out)); (case side4 => exact HC0_5.out); (case side5 => exact zC (Kd.C_below HR0_6.out HB.out)); (case side6 => exact HC0_6.out); (case side7 => exact zC (Kd.C_below HR0_8.out HB.out)); (case side8 => exact HC0_8.out); (case side9 => exact zC (Kd.C_below HR0_9.out HB.out)); (case side10 => exact HC0_9.out); rintro e w19 ⟨v496, v499, v502, v506, v509, rfl, ho0, ho1, ho2, ho3, ho4, hb⟩; refine ⟨_, rfl, ?_⟩; have HO497 := aM (Kd.R_lower ho0 (below_size zH)); have HO500 := aM (Kd.S_lower ho1 (below_size zH)); have HO503 := aM (Kd.R_lower ho2 (below_size zH)); have HO507 := aM (Kd.S_lower ho3 (below_size zH)); have HO510 := aM (Kd.R_lower ho4 (below_size zH)); replace BK489 := cB BK489 hb; replace HB := cH HB hb; (try clear hb); (try clear ho0); (try clear ho1); (try clear ho2); (try clear ho3); (try clear ho4); obtain ⟨Ao20, co20, eo20⟩ := Kd.R_slice HO497.out; subst eo20; obtain ⟨Ao21, co21, eo21⟩ := Kd.S_slice HO500.out; subst eo21; obtain ⟨Ao22, co22, eo22⟩ := Kd.R_slice HO503.out; subst eo22; obtain ⟨Ao23, co23, eo23⟩ := Kd.S_slice HO507.out; subst eo23; obtain ⟨Ao24, co24, eo24⟩ := Kd.R_slice HO510.out; subst eo24) | (go_at_call 5; (with_reducible refine (spec_StreamOk.calls k t491 t492 t493 t494 _ _ t495 _ _ t498 _ _ t501 t504 _ _ t505 _ _ t508 t511 _ ?side1 ?side2 ?side3 ?side4 ?side5 ?side6 ?side7 ?side8 ?side9 ?side10 A8.out).mono ?_); (case side1 => exact zC (Kd.R_reads' HO497.out).2.2); (case side2 => exact (Kd.R_reads' HO497.out).2.1); (case side3 => exact zC (Kd.S_reads' HO500.out).2.2); (case side4 => exact (Kd.S_reads' HO500.out).2.1); (case side5 => exact zC (Kd.R_reads' HO503.out).2.2); (case side6 => exact (Kd.R_reads' HO503.out).2.1); (case side7 => exact zC (Kd.S_reads' HO507.out).2.2); (case side8 => exact (Kd.S_reads' HO507.out).2.1); (case side9 => exact zC (Kd.R_reads' HO510.out).2.2); (case side10 => exact (Kd.R_reads' HO510.out).2.1); rintro e w25 ⟨rfl, hb⟩; replace HO497 := aM (Kd.R_below (by (with_reducible repeat (first | apply Kd.R_alloc | apply Kd.R_drewN | apply Kd.R_drew)); exact HO497.out) hb); replace HO500 := aM (Kd.S_below (by (with_reducible repeat (first | apply Kd.S_alloc | apply Kd.S_drewN | apply Kd.S_drew)); exact HO500.out) hb); replace HO503 := aM (Kd.R_below (by (with_reducible repeat (first | apply Kd.R_alloc | apply Kd.R_drewN | apply Kd.R_drew)); exact HO503.out) hb); replace HO507 := aM (Kd.S_below (by (with_reducible repeat (first | apply Kd.S_alloc | apply Kd.S_drewN | apply Kd.S_drew)); exact HO507.out) hb); replace HO510 := aM (Kd.R_below (by (with_reducible repeat (first | apply Kd.R_alloc | apply Kd.R_drewN | apply Kd.R_drew)); exact HO510.out) hb); replace BK489 := cB BK489 hb; replace HB := cH HB hb; (try clear hb); have hcz26_0 : w25.cell? ⟨gb489, 0, none⟩ = some (.int .i64 a0_0) := (kC BK489.out 0).trans rfl; have hcz26_1 : w25.cell? ⟨gb489, 1, none⟩ = some (.int .i64 a0_1) := (kC BK489.out 1).trans rfl; have hcz26_2 : w25.cell? ⟨gb489, 2, none⟩ = some (.int .i64 a0_2) := (kC BK489.out 2).trans rfl; have hcz26_3 : w25.cell? ⟨gb489, 3, none⟩ = some (.int .i64 a0_3) := (kC BK489.out 3).trans rfl; have hcz26_4 : w25.cell? ⟨gb489, 4, none⟩ = some (.slice A0_4 l0_4.length c0_4) := (kC BK489.out 4).trans rfl; have hcz26_5 : w25.cell? ⟨gb489, 5, none⟩ = some (.slice A0_5 l0_5.length c0_5) := (kC BK489.out 5).trans rfl; have hcz26_6 : w25.cell? ⟨gb489, 6, none⟩ = some (.slice A0_6 l0_6.length c0_6) := (kC BK489.out 6).trans rfl; have hcz26_7 : w25.cell? ⟨gb489, 7, none⟩ = some (.int .i64 a0_7) := (kC BK489.out 7).trans rfl; have hcz26_8 : w25.cell? ⟨gb489, 8, none⟩ = some (.slice A0_8 l0_8.length c0_8) := (kC BK489.out 8).trans rfl; have hcz26_9 : w25.cell? ⟨gb489, 9, none⟩ = some (.slice A0_9 l0_9.length c0_9) := (kC BK489.out 9).trans rfl; have hfz26_0 := blk_frozen BK489.out 0; have hfz26_1 := blk_frozen BK489.out 1; have hfz26_2 := blk_frozen BK489.out 2; have hfz26_3 := blk_frozen BK489.out 3; have hfz26_4 := blk_frozen BK489.out 4; have hfz26_5 := blk_frozen BK489.out 5; have hfz26_6 := blk_frozen BK489.out 6; have hfz26_7 := blk_frozen BK489.out 7; have hfz26_8 := blk_frozen BK489.out 8; have hfz26_9 := blk_frozen BK489.out 9) | ((with_reducible refine gate_callee (f := 6) rfl ?_); refine zGl (some 16) Try.func6 #[.agg #[.int .i64 a0_0, .int .i64 a0_1, .int .i64 a0_2, .int .i64 a0_3, .slice A0_4 l0_4.length c0_4, .slice A0_5 l0_5.length c0_5, .slice A0_6 l0_6.length c0_6, .int .i64 a0_7, .slice A0_8 l0_8.length c0_8, .slice A0_9 l0_9.length c0_9]] ?_; (with_reducible refine (laws_toStream.calls k a0_0 a0_1 a0_2 a0_3 _ _ l0_4 _ _ l0_5 _ _ l0_6 a0_7 _ _ l0_8 _ _ l0_9 t512 t513 t514 t515 t516 t519 t522 t525 t526 t529 _ ?side1 ?side2 ?side3 ?side4 ?side5 ?side6 ?side7 ?side8 ?side9 ?side10 A9.out).mono ?_); (case side1 => exact zC (Kd.C_below HR0_4.out HB.out)); (case side2 => exact HC0_4.out); (case side3 => exact zC (Kd.C_below HR0_5.out HB.out)); (case side4 => exact HC0_5.out); (case side5 => exact zC (Kd.C_below HR0_6.out HB.out)); (case side6 => exact HC0_6.out); (case side7 => exact zC (Kd.C_below HR0_8.out HB.out)); (case side8 => exact HC0_8.out); (case side9 => exact zC (Kd.C_below HR0_9.out HB.out)); (case side10 => exact HC0_9.out); rintro e w27 ⟨v517, v520, v523, v527, v530, rfl, ho0, ho1, ho2, ho3, ho4, hb⟩; refine ⟨_, rfl, ?_⟩; obtain ⟨N_HO521, hN_HO521⟩ := sepN ho1; obtain ⟨N_HO528, hN_HO528⟩ := sepN ho3; replace HO507 := aM (sepO (by (with_reducible repeat (first | apply Kd.S_alloc | apply Kd.S_drewN | apply Kd.S_drew)); exact HO507.out) hN_HO528 hb); have HO518 := aM (Kd.R_lower (Kd.R_new' ho0 (Kd.R_lt (by (with_reducible repeat (first | apply Kd.R_alloc | apply Kd.R_drewN | apply Kd.R_drew)); exact HO497.out))) (below_size zH)); replace HO497 := aM (Kd.R_elder' (by (with_reducible repeat (first | apply Kd.R_alloc | apply Kd.R_drewN | apply Kd.R_drew)); exact HO497.out) (Kd.R_base ho0) hb); have HO521 := aM (Kd.S_lower (sepW ho1 hN_HO521) (below_size zH)); have HO524 := aM (Kd.R_lower (Kd.R_new' (Kd.R_new' ho2 (Kd.S_lt (by (with_reducible repeat (first | apply Kd.S_alloc | apply Kd.S_drewN | apply Kd.S_drew)); exact HO500.out))) (Kd.R_lt (by (with_reducible repeat (first | apply Kd.R_alloc | apply Kd.R_drewN | apply Kd.R_drew)); exact HO503.out))) (below_size zH)); replace HO500 := aM (sepO (by (with_reducible repeat (first | apply Kd.S_alloc | apply Kd.S_drewN | apply Kd.S_drew)); exact HO500.out) hN_HO521 hb); replace HO503 := aM (Kd.R_mono (Kd.R_told (Kd.R_told (Kd.R_old (by (with_reducible repeat (first | apply Kd.R_alloc | apply Kd.R_drewN | apply Kd.R_drew)); exact HO503.out) hb) (Kd.S_base ho1)) (Kd.R_base ho2)) (fun _ h_ => h_.1)); have HO528 := aM (Kd.S_lower (sepW ho3 hN_HO528) (below_size zH)); have HO531 := aM (Kd.R_lower (Kd.R_new' ho4 (Kd.R_lt (by (with_reducible repeat (first | apply Kd.R_alloc | apply Kd.R_drewN | apply Kd.R_drew)); exact HO510.out))) (below_size zH)); replace HO510 := aM (Kd.R_elder' (by (with_reducible repeat (first | apply Kd.R_alloc | apply Kd.R_drewN | apply Kd.R_drew)); exact HO510.out) (Kd.R_base ho4) hb); replace BK489 := cB BK489 hb; replace HB := cH HB hb; (try clear hb); (try clear ho0); (try clear ho1); (try clear ho2); (try clear ho3); (try clear ho4)) | ((with_reducible refine gate_dst (N := 5) rfl ?_); refine box_event ?hg (N := 5) ?hd (cs := #[.int .i64 0, .int .i64 0, .int .i64 0, .int .i64 0, .slice none 0 0, .slice none 0 0, .slice none 0 0, .int .i64 0, .slice none 0 0, .slice none 0 0]) (t := 41) ?hr ?_; (case hd => rfl); (case hg => rfl); (case hr => first | (go_simp; done) | (go_simp; rfl)); intro gb532 hg w28 hbox hb; replace HO497 := aM (Kd.R_below (by (with_reducible repeat (first | apply Kd.R_alloc | apply Kd.R_drewN | apply Kd.R_drew)); exact HO497.out) hb); replace HO500 := aM (Kd.S_below (by (with_reducible repeat (first | apply Kd.S_alloc | apply Kd.S_drewN | apply Kd.S_drew)); exact HO500.out) hb); replace HO503 := aM (Kd.R_below (by (with_reducible repeat (first | apply Kd.R_alloc | apply Kd.R_drewN | apply Kd.R_drew)); exact HO503.out) hb); replace HO507 := aM (Kd.S_below (by (with_reducible repeat (first | apply Kd.S_alloc | apply Kd.S_drewN | apply Kd.S_drew)); exact HO507.out) hb); replace HO510 := aM (Kd.R_below (by (with_reducible repeat (first | apply Kd.R_alloc | apply Kd.R_drewN | apply Kd.R_drew)); exact HO510.out) hb); replace HO518 := aM (Kd.R_below (by (with_reducible repeat (first | apply Kd.R_alloc | apply Kd.R_drewN | apply Kd.R_drew)); exact HO518.out) hb); replace HO521 := aM (Kd.S_below (by (with_reducible repeat (first | apply Kd.S_alloc | apply Kd.S_drewN | apply Kd.S_drew)); exact HO521.out) hb); replace HO524 := aM (Kd.R_below (by (with_reducible repeat (first | apply Kd.R_alloc | apply Kd.R_drewN | apply Kd.R_drew)); exact HO524.out) hb); replace HO528 := aM (Kd.S_below (by (with_reducible repeat (first | apply Kd.S_alloc | apply Kd.S_drewN | apply Kd.S_drew)); exact HO528.out) hb); replace HO531 := aM (Kd.R_below (by (with_reducible repeat (first | apply Kd.R_alloc | apply Kd.R_drewN | apply Kd.R_drew)); exact HO531.out) hb); have BK532 := aM hbox; have GW532 := aM (zG hg : w.heap.size ≤ gb532); have GE532 := aM (zG hg : w.heap.size ≤ gb532); replace HB := cH HB hb; have NB489_532 := aM ((zL hg BK489)); have NB532_489 := aM ((zM hg BK489)); replace BK489 := cB BK489 hb; clear hb hbox hg; have hnb29 := NB532_489.out; have hnc29 := NB489_532.out; have hcz30_0 : w28.cell? ⟨gb532, 0, none⟩ = some (.int .i64 0) := (kC BK532.out 0).trans rfl; have hcz30_1 : w28.cell? ⟨gb532, 1, none⟩ = some (.int .i64 0) := (kC BK532.out 1).trans rfl; have hcz30_2 : w28.cell? ⟨gb532, 2, none⟩ = some (.int .i64 0) := (kC BK532.out 2).trans rfl; have hcz30_3 : w28.cell? ⟨gb532, 3, none⟩ = some (.int .i64 0) := (kC BK532.out 3).trans rfl; have hcz30_4 : w28.cell? ⟨gb532, 4, none⟩ = some (.slice none 0 0) := (kC BK532.out 4).trans rfl; have hcz30_5 : w28.cell? ⟨gb532, 5, none⟩ = some (.slice none 0 0) := (kC BK532.out 5).trans rfl; have hcz30_6 : w28.cell? ⟨gb532, 6, none⟩ = some (.slice none 0 0) := (kC BK532.out 6).trans rfl; have hcz30_7 : w28.cell? ⟨gb532, 7, none⟩ = some (.int .i64 0) := (kC BK532.out 7).trans rfl; have hcz30_8 : w28.cell? ⟨gb532, 8, none⟩ = some (.slice none 0 0) := (kC BK532.out 8).trans rfl; have hcz30_9 : w28.cell? ⟨gb532, 9, none⟩ = some (.slice none 0 0) := (kC BK532.out 9).trans rfl; have hfz30_0 := blk_frozen BK532.out 0; have hfz30_1 := blk_frozen BK532.out 1; have hfz30_2 := blk_frozen BK532.out 2; have hfz30_3 := blk_frozen BK532.out 3; have hfz30_4 := blk_frozen BK532.out 4; have hfz30_5 := blk_frozen BK532.out 5; have hfz30_6 := blk_frozen BK532.out 6; have hfz30_7 := blk_frozen BK532.out 7; have hfz30_8 := blk_frozen BK532.out 8; have hfz30_9 := blk_frozen BK532.out 9; obtain ⟨Ao31, co31, eo31⟩ := Kd.R_slice HO518.out; subst eo31; obtain ⟨Ao32, co32, eo32⟩ := Kd.S_slice HO521.out; subst eo32; obtain ⟨Ao33, co33, eo33⟩ := Kd.R_slice HO524.out; subst eo33; obtain ⟨Ao34, co34, eo34⟩ := Kd.S_slice HO528.out; subst eo34; obtain ⟨Ao35, co35, eo35⟩ := Kd.R_slice HO531.out; subst eo35) | (go_at_call 7; (with_reducible refine (impl_StreamOk.calls k t512 t513 t514 t515 _ _ t516 _ _ t519 _ _ t522 t525 _ _ t526 _ _ t529 t533 _ ?side1 ?side2 ?side3 ?side4 ?side5 ?side6 ?side7 ?side8 ?side9 ?side10 A10.out).mono ?_); (case side1 => refine (Kd.R_reads' (e := 74) (base := w.heap.size) (ok := fun k_ => (True ∧ some k_ ≠ (.slice Ao20 t495.length co20 : Value).ownBlock)) (n := t516.length) (c := co31) ?_).2.2; exact (by (with_reducible repeat (first | apply Kd.R_alloc | apply Kd.R_drewN | apply Kd.R_drew)); exact (Kd.R_mono (Kd.R_far (p := ⟨gb532, 9, none⟩) (Kd.R_far (p := ⟨gb532, 8, none⟩) (Kd.R_far (p := ⟨gb532, 7, none⟩) (Kd.R_far (p := ⟨gb532, 6, none⟩) (Kd.R_far (p := ⟨gb532, 5, none⟩) (Kd.R_far (p := ⟨gb532, 4, none⟩) (Kd.R_far (p := ⟨gb532, 3, none⟩) (Kd.R_far (p := ⟨gb532, 2, none⟩) (Kd.R_far (p := ⟨gb532, 1, none⟩) (Kd.R_far (p := ⟨gb532, 0, none⟩) (Kd.R_types HO518.out BK532.out (by decide)) (fun _ hk => hk.2) (.int .i64 t512)) (fun _ hk => hk.2) (.int .i64 t513)) (fun _ hk => hk.2) (.int .i64 t514)) (fun _ hk => hk.2) (.int .i64 t515)) (fun _ hk => hk.2) (.slice Ao31 t516.length co31)) (fun _ hk => hk.2) (.slice Ao32 t519.length co32)) (fun _ hk => hk.2) (.slice Ao33 t522.length co33)) (fun _ hk => hk.2) (.int .i64 t525)) (fun _ hk => hk.2) (.slice Ao34 t526.length co34)) (fun _ hk => hk.2) (.slice Ao35 t529.length co35)) (fun _ h_ => h_.1)))); (case side2 => exact (Kd.R_reads' HO518.out).2.1); (case side3 => refine (Kd.S_reads' (e := 55) (base := w.heap.size) (ok := fun k_ => (True ∧ N_HO521 ≤ k_)) (n := t519.length) (c := co32) ?_).2.2; exact (by (with_reducible repeat (first | apply Kd.S_alloc | apply Kd.S_drewN | apply Kd.S_drew)); exact (Kd.S_mono (Kd.S_far (p := ⟨gb532, 9, none⟩) (Kd.S_far (p := ⟨gb532, 8, none⟩) (Kd.S_far (p := ⟨gb532, 7, none⟩) (Kd.S_far (p := ⟨gb532, 6, none⟩) (Kd.S_far (p := ⟨gb532, 5, none⟩) (Kd.S_far (p := ⟨gb532, 4, none⟩) (Kd.S_far (p := ⟨gb532, 3, none⟩) (Kd.S_far (p := ⟨gb532, 2, none⟩) (Kd.S_far (p := ⟨gb532, 1, none⟩) (Kd.S_far (p := ⟨gb532, 0, none⟩) (Kd.S_types HO521.out BK532.out (by decide)) (fun _ hk => hk.2) (.int .i64 t512)) (fun _ hk => hk.2) (.int .i64 t513)) (fun _ hk => hk.2) (.int .i64 t514)) (fun _ hk => hk.2) (.int .i64 t515)) (fun _ hk => hk.2) (.slice Ao31 t516.length co31)) (fun _ hk => hk.2) (.slice Ao32 t519.length co32)) (fun _ hk => hk.2) (.slice Ao33 t522.length co33)) (fun _ hk => hk.2) (.int .i64 t525)) (fun _ hk => hk.2) (.slice Ao34 t526.length co34)) (fun _ hk => hk.2) (.slice Ao35 t529.length co35)) (fun _ h_ => h_.1)))); (case side4 => exact (Kd.S_reads' HO521.out).2.1); (case side5 => refine (Kd.R_reads' (e := 25) (base := w.heap.size) (ok := fun k_ => ((some k_ ≠ (.slice Ao32 t519.length co32 : Value).ownBlock ∧ some k_ ≠ (.slice Ao21 t498.length co21 : Value).ownBlock) ∧ some k_ ≠ (.slice Ao22 t501.length co22 : Value).ownBlock)) (n := t522.length) (c := co33) ?_).2.2; exact (by (with_reducible repeat (first | apply Kd.R_alloc | apply Kd.R_drewN | apply Kd.R_drew)); exact (Kd.R_mono (Kd.R_far (p := ⟨gb532, 9, none⟩) (Kd.R_far (p := ⟨gb532, 8, none⟩) (Kd.R_far (p := ⟨gb532, 7, none⟩) (Kd.R_far (p := ⟨gb532, 6, none⟩) (Kd.R_far (p := ⟨gb532, 5, none⟩) (Kd.R_far (p := ⟨gb532, 4, none⟩) (Kd.R_far (p := ⟨gb532, 3, none⟩) (Kd.R_far (p := ⟨gb532, 2, none⟩) (Kd.R_far (p := ⟨gb532, 1, none⟩) (Kd.R_far (p := ⟨gb532, 0, none⟩) (Kd.R_types HO524.out BK532.out (by decide)) (fun _ hk => hk.2) (.int .i64 t512)) (fun _ hk => hk.2) (.int .i64 t513)) (fun _ hk => hk.2) (.int .i64 t514)) (fun _ hk => hk.2) (.int .i64 t515)) (fun _ hk => hk.2) (.slice Ao31 t516.length co31)) (fun _ hk => hk.2) (.slice Ao32 t519.length co32)) (fun _ hk => hk.2) (.slice Ao33 t522.length co33)) (fun _ hk => hk.2) (.int .i64 t525)) (fun _ hk => hk.2) (.slice Ao34 t526.length co34)) (fun _ hk => hk.2) (.slice Ao35 t529.length co35)) (fun _ h_ => h_.1)))); (case side6 => exact (Kd.R_reads' HO524.out).2.1); (case side7 => refine (Kd.S_reads' (e := 86) (base := w.heap.size) (ok := fun k_ => (True ∧ N_HO528 ≤ k_)) (n := t526.length) (c := co34) ?_).2.2; exact (by (with_reducible repeat (first | apply Kd.S_alloc | apply Kd.S_drewN | apply Kd.S_drew)); exact (Kd.S_mono (Kd.S_far (p := ⟨gb532, 9, none⟩) (Kd.S_far (p := ⟨gb532, 8, none⟩) (Kd.S_far (p := ⟨gb532, 7, none⟩) (Kd.S_far (p := ⟨gb532, 6, none⟩) (Kd.S_far (p := ⟨gb532, 5, none⟩) (Kd.S_far (p := ⟨gb532, 4, none⟩) (Kd.S_far (p := ⟨gb532, 3, none⟩) (Kd.S_far (p := ⟨gb532, 2, none⟩) (Kd.S_far (p := ⟨gb532, 1, none⟩) (Kd.S_far (p := ⟨gb532, 0, none⟩) (Kd.S_types HO528.out BK532.out (by decide)) (fun _ hk => hk.2) (.int .i64 t512)) (fun _ hk => hk.2) (.int .i64 t513)) (fun _ hk => hk.2) (.int .i64 t514)) (fun _ hk => hk.2) (.int .i64 t515)) (fun _ hk => hk.2) (.slice Ao31 t516.length co31)) (fun _ hk => hk.2) (.slice Ao32 t519.length co32)) (fun _ hk => hk.2) (.slice Ao33 t522.length co33)) (fun _ hk => hk.2) (.int .i64 t525)) (fun _ hk => hk.2) (.slice Ao34 t526.length co34)) (fun _ hk => hk.2) (.slice Ao35 t529.length co35)) (fun _ h_ => h_.1)))); (case side8 => exact (Kd.S_reads' HO528.out).2.1); (case side9 => refine (Kd.R_reads' (e := 5) (base := w.heap.size) (ok := fun k_ => (True ∧ some k_ ≠ (.slice Ao24 t508.length co24 : Value).ownBlock)) (n := t529.length) (c := co35) ?_).2.2; exact (by (with_reducible repeat (first | apply Kd.R_alloc | apply Kd.R_drewN | apply Kd.R_drew)); exact (Kd.R_mono (Kd.R_far (p := ⟨gb532, 9, none⟩) (Kd.R_far (p := ⟨gb532, 8, none⟩) (Kd.R_far (p := ⟨gb532, 7, none⟩) (Kd.R_far (p := ⟨gb532, 6, none⟩) (Kd.R_far (p := ⟨gb532, 5, none⟩) (Kd.R_far (p := ⟨gb532, 4, none⟩) (Kd.R_far (p := ⟨gb532, 3, none⟩) (Kd.R_far (p := ⟨gb532, 2, none⟩) (Kd.R_far (p := ⟨gb532, 1, none⟩) (Kd.R_far (p := ⟨gb532, 0, none⟩) (Kd.R_types HO531.out BK532.out (by decide)) (fun _ hk => hk.2) (.int .i64 t512)) (fun _ hk => hk.2) (.int .i64 t513)) (fun _ hk => hk.2) (.int .i64 t514)) (fun _ hk => hk.2) (.int .i64 t515)) (fun _ hk => hk.2) (.slice Ao31 t516.length co31)) (fun _ hk => hk.2) (.slice Ao32 t519.length co32)) (fun _ hk => hk.2) (.slice Ao33 t522.length co33)) (fun _ hk => hk.2) (.int .i64 t525)) (fun _ hk => hk.2) (.slice Ao34 t526.length co34)) (fun _ hk => hk.2) (.slice Ao35 t529.length co35)) (fun _ h_ => h_.1)))); (case side10 => exact (Kd.R_reads' HO531.out).2.1); rintro e w36 ⟨rfl, hb⟩; replace HO497 := aM (Kd.R_below (by (with_reducible repeat (first | apply Kd.R_alloc | apply Kd.R_drewN | apply Kd.R_drew)); exact (Kd.R_mono (Kd.R_far (p := ⟨gb532, 9, none⟩) (Kd.R_far (p := ⟨gb532, 8, none⟩) (Kd.R_far (p := ⟨gb532, 7, none⟩) (Kd.R_far (p := ⟨gb532, 6, none⟩) (Kd.R_far (p := ⟨gb532, 5, none⟩) (Kd.R_far (p := ⟨gb532, 4, none⟩) (Kd.R_far (p := ⟨gb532, 3, none⟩) (Kd.R_far (p := ⟨gb532, 2, none⟩) (Kd.R_far (p := ⟨gb532, 1, none⟩) (Kd.R_far (p := ⟨gb532, 0, none⟩) (Kd.R_types HO497.out BK532.out (by decide)) (fun _ hk => hk.2) (.int .i64 t512)) (fun _ hk => hk.2) (.int .i64 t513)) (fun _ hk => hk.2) (.int .i64 t514)) (fun _ hk => hk.2) (.int .i64 t515)) (fun _ hk => hk.2) (.slice Ao31 t516.length co31)) (fun _ hk => hk.2) (.slice Ao32 t519.length co32)) (fun _ hk => hk.2) (.slice Ao33 t522.length co33)) (fun _ hk => hk.2) (.int .i64 t525)) (fun _ hk => hk.2) (.slice Ao34 t526.length co34)) (fun _ hk => hk.2) (.slice Ao35 t529.length co35)) (fun _ h_ => h_.1))) hb); replace HO500 := aM (Kd.S_below (by (with_reducible repeat (first | apply Kd.S_alloc | apply Kd.S_drewN | apply Kd.S_drew)); exact (Kd.S_mono (Kd.S_far (p := ⟨gb532, 9, none⟩) (Kd.S_far (p := ⟨gb532, 8, none⟩) (Kd.S_far (p := ⟨gb532, 7, none⟩) (Kd.S_far (p := ⟨gb532, 6, none⟩) (Kd.S_far (p := ⟨gb532, 5, none⟩) (Kd.S_far (p := ⟨gb532, 4, none⟩) (Kd.S_far (p := ⟨gb532, 3, none⟩) (Kd.S_far (p := ⟨gb532, 2, none⟩) (Kd.S_far (p := ⟨gb532, 1, none⟩) (Kd.S_far (p := ⟨gb532, 0, none⟩) (Kd.S_types HO500.out BK532.out (by decide)) (fun _ hk => hk.2) (.int .i64 t512)) (fun _ hk => hk.2) (.int .i64 t513)) (fun _ hk => hk.2) (.int .i64 t514)) (fun _ hk => hk.2) (.int .i64 t515)) (fun _ hk => hk.2) (.slice Ao31 t516.length co31)) (fun _ hk => hk.2) (.slice Ao32 t519.length co32)) (fun _ hk => hk.2) (.slice Ao33 t522.length co33)) (fun _ hk => hk.2) (.int .i64 t525)) (fun _ hk => hk.2) (.slice Ao34 t526.length co34)) (fun _ hk => hk.2) (.slice Ao35 t529.length co35)) (fun _ h_ => h_.1))) hb); replace HO503 := aM (Kd.R_below (by (with_reducible repeat (first | apply Kd.R_alloc | apply Kd.R_drewN | apply Kd.R_drew)); exact (Kd.R_mono (Kd.R_far (p := ⟨gb532, 9, none⟩) (Kd.R_far (p := ⟨gb532, 8, none⟩) (Kd.R_far (p := ⟨gb532, 7, none⟩) (Kd.R_far (p := ⟨gb532, 6, none⟩) (Kd.R_far (p := ⟨gb532, 5, none⟩) (Kd.R_far (p := ⟨gb532, 4, none⟩) (Kd.R_far (p := ⟨gb532, 3, none⟩) (Kd.R_far (p := ⟨gb532, 2, none⟩) (Kd.R_far (p := ⟨gb532, 1, none⟩) (Kd.R_far (p := ⟨gb532, 0, none⟩) (Kd.R_types HO503.out BK532.out (by decide)) (fun _ hk => hk.2) (.int .i64 t512)) (fun _ hk => hk.2) (.int .i64 t513)) (fun _ hk => hk.2) (.int .i64 t514)) (fun _ hk => hk.2) (.int .i64 t515)) (fun _ hk => hk.2) (.slice Ao31 t516.length co31)) (fun _ hk => hk.2) (.slice Ao32 t519.length co32)) (fun _ hk => hk.2) (.slice Ao33 t522.length co33)) (fun _ hk => hk.2) (.int .i64 t525)) (fun _ hk => hk.2) (.slice Ao34 t526.length co34)) (fun _ hk => hk.2) (.slice Ao35 t529.length co35)) (fun _ h_ => h_.1))) hb); replace HO507 := aM (Kd.S_below (by (with_reducible repeat (first | apply Kd.S_alloc | apply Kd.S_drewN | apply Kd.S_drew)); exact (Kd.S_mono (Kd.S_far (p := ⟨gb532, 9, none⟩) (Kd.S_far (p := ⟨gb532, 8, none⟩) (Kd.S_far (p := ⟨gb532, 7, none⟩) (Kd.S_far (p := ⟨gb532, 6, none⟩) (Kd.S_far (p := ⟨gb532, 5, none⟩) (Kd.S_far (p := ⟨gb532, 4, none⟩) (Kd.S_far (p := ⟨gb532, 3, none⟩) (Kd.S_far (p := ⟨gb532, 2, none⟩) (Kd.S_far (p := ⟨gb532, 1, none⟩) (Kd.S_far (p := ⟨gb532, 0, none⟩) (Kd.S_types HO507.out BK532.out (by decide)) (fun _ hk => hk.2) (.int .i64 t512)) (fun _ hk => hk.2) (.int .i64 t513)) (fun _ hk => hk.2) (.int .i64 t514)) (fun _ hk => hk.2) (.int .i64 t515)) (fun _ hk => hk.2) (.slice Ao31 t516.length co31)) (fun _ hk => hk.2) (.slice Ao32 t519.length co32)) (fun _ hk => hk.2) (.slice Ao33 t522.length co33)) (fun _ hk => hk.2) (.int .i64 t525)) (fun _ hk => hk.2) (.slice Ao34 t526.length co34)) (fun _ hk => hk.2) (.slice Ao35 t529.length co35)) (fun _ h_ => h_.1))) hb); replace HO510 := aM (Kd.R_below (by (with_reducible repeat (first | apply Kd.R_alloc | apply Kd.R_drewN | apply Kd.R_drew)); exact (Kd.R_mono (Kd.R_far (p := ⟨gb532, 9, none⟩) (Kd.R_far (p := ⟨gb532, 8, none⟩) (Kd.R_far (p := ⟨gb532, 7, none⟩) (Kd.R_far (p := ⟨gb532, 6, none⟩) (Kd.R_far (p := ⟨gb532, 5, none⟩) (Kd.R_far (p := ⟨gb532, 4, none⟩) (Kd.R_far (p := ⟨gb532, 3, none⟩) (Kd.R_far (p := ⟨gb532, 2, none⟩) (Kd.R_far (p := ⟨gb532, 1, none⟩) (Kd.R_far (p := ⟨gb532, 0, none⟩) (Kd.R_types HO510.out BK532.out (by decide)) (fun _ hk => hk.2) (.int .i64 t512)) (fun _ hk => hk.2) (.int .i64 t513)) (fun _ hk => hk.2) (.int .i64 t514)) (fun _ hk => hk.2) (.int .i64 t515)) (fun _ hk => hk.2) (.slice Ao31 t516.length co31)) (fun _ hk => hk.2) (.slice Ao32 t519.length co32)) (fun _ hk => hk.2) (.slice Ao33 t522.length co33)) (fun _ hk => hk.2) (.int .i64 t525)) (fun _ hk => hk.2) (.slice Ao34 t526.length co34)) (fun _ hk => hk.2) (.slice Ao35 t529.length co35)) (fun _ h_ => h_.1))) hb); replace HO518 := aM (Kd.R_below (by (with_reducible repeat (first | apply Kd.R_alloc | apply Kd.R_drewN | apply Kd.R_drew)); exact (Kd.R_mono (Kd.R_far (p := ⟨gb532, 9, none⟩) (Kd.R_far (p := ⟨gb532, 8, none⟩) (Kd.R_far (p := ⟨gb532, 7, none⟩) (Kd.R_far (p := ⟨gb532, 6, none⟩) (Kd.R_far (p := ⟨gb532, 5, none⟩) (Kd.R_far (p := ⟨gb532, 4, none⟩) (Kd.R_far (p := ⟨gb532, 3, none⟩) (Kd.R_far (p := ⟨gb532, 2, none⟩) (Kd.R_far (p := ⟨gb532, 1, none⟩) (Kd.R_far (p := ⟨gb532, 0, none⟩) (Kd.R_types HO518.out BK532.out (by decide)) (fun _ hk => hk.2) (.int .i64 t512)) (fun _ hk => hk.2) (.int .i64 t513)) (fun _ hk => hk.2) (.int .i64 t514)) (fun _ hk => hk.2) (.int .i64 t515)) (fun _ hk => hk.2) (.slice Ao31 t516.length co31)) (fun _ hk => hk.2) (.slice Ao32 t519.length co32)) (fun _ hk => hk.2) (.slice Ao33 t522.length co33)) (fun _ hk => hk.2) (.int .i64 t525)) (fun _ hk => hk.2) (.slice Ao34 t526.length co34)) (fun _ hk => hk.2) (.slice Ao35 t529.length co35)) (fun _ h_ => h_.1))) hb); replace HO521 := aM (Kd.S_below (by (with_reducible repeat (first | apply Kd.S_alloc | apply Kd.S_drewN | apply Kd.S_drew)); exact (Kd.S_mono (Kd.S_far (p := ⟨gb532, 9, none⟩) (Kd.S_far (p := ⟨gb532, 8, none⟩) (Kd.S_far (p := ⟨gb532, 7, none⟩) (Kd.S_far (p := ⟨gb532, 6, none⟩) (Kd.S_far (p := ⟨gb532, 5, none⟩) (Kd.S_far (p := ⟨gb532, 4, none⟩) (Kd.S_far (p := ⟨gb532, 3, none⟩) (Kd.S_far (p := ⟨gb532, 2, none⟩) (Kd.S_far (p := ⟨gb532, 1, none⟩) (Kd.S_far (p := ⟨gb532, 0, none⟩) (Kd.S_types HO521.out BK532.out (by decide)) (fun _ hk => hk.2) (.int .i64 t512)) (fun _ hk => hk.2) (.int .i64 t513)) (fun _ hk => hk.2) (.int .i64 t514)) (fun _ hk => hk.2) (.int .i64 t515)) (fun _ hk => hk.2) (.slice Ao31 t516.length co31)) (fun _ hk => hk.2) (.slice Ao32 t519.length co32)) (fun _ hk => hk.2) (.slice Ao33 t522.length co33)) (fun _ hk => hk.2) (.int .i64 t525)) (fun _ hk => hk.2) (.slice Ao34 t526.length co34)) (fun _ hk => hk.2) (.slice Ao35 t529.length co35)) (fun _ h_ => h_.1))) hb); replace HO524 := aM (Kd.R_below (by (with_reducible repeat (first | apply Kd.R_alloc | apply Kd.R_drewN | apply Kd.R_drew)); exact (Kd.R_mono (Kd.R_far (p := ⟨gb532, 9, none⟩) (Kd.R_far (p := ⟨gb532, 8, none⟩) (Kd.R_far (p := ⟨gb532, 7, none⟩) (Kd.R_far (p := ⟨gb532, 6, none⟩) (Kd.R_far (p := ⟨gb532, 5, none⟩) (Kd.R_far (p := ⟨gb532, 4, none⟩) (Kd.R_far (p := ⟨gb532, 3, none⟩) (Kd.R_far (p := ⟨gb532, 2, none⟩) (Kd.R_far (p := ⟨gb532, 1, none⟩) (Kd.R_far (p := ⟨gb532, 0, none⟩) (Kd.R_types HO524.out BK532.out (by decide)) (fun _ hk => hk.2) (.int .i64 t512)) (fun _ hk => hk.2) (.int .i64 t513)) (fun _ hk => hk.2) (.int .i64 t514)) (fun _ hk => hk.2) (.int .i64 t515)) (fun _ hk => hk.2) (.slice Ao31 t516.length co31)) (fun _ hk => hk.2) (.slice Ao32 t519.length co32)) (fun _ hk => hk.2) (.slice Ao33 t522.length co33)) (fun _ hk => hk.2) (.int .i64 t525)) (fun _ hk => hk.2) (.slice Ao34 t526.length co34)) (fun _ hk => hk.2) (.slice Ao35 t529.length co35)) (fun _ h_ => h_.1))) hb); replace HO528 := aM (Kd.S_below (by (with_reducible repeat (first | apply Kd.S_alloc | apply Kd.S_drewN | apply Kd.S_drew)); exact (Kd.S_mono (Kd.S_far (p := ⟨gb532, 9, none⟩) (Kd.S_far (p := ⟨gb532, 8, none⟩) (Kd.S_far (p := ⟨gb532, 7, none⟩) (Kd.S_far (p := ⟨gb532, 6, none⟩) (Kd.S_far (p := ⟨gb532, 5, none⟩) (Kd.S_far (p := ⟨gb532, 4, none⟩) (Kd.S_far (p := ⟨gb532, 3, none⟩) (Kd.S_far (p := ⟨gb532, 2, none⟩) (Kd.S_far (p := ⟨gb532, 1, none⟩) (Kd.S_far (p := ⟨gb532, 0, none⟩) (Kd.S_types HO528.out BK532.out (by decide)) (fun _ hk => hk.2) (.int .i64 t512)) (fun _ hk => hk.2) (.int .i64 t513)) (fun _ hk => hk.2) (.int .i64 t514)) (fun _ hk => hk.2) (.int .i64 t515)) (fun _ hk => hk.2) (.slice Ao31 t516.length co31)) (fun _ hk => hk.2) (.slice Ao32 t519.length co32)) (fun _ hk => hk.2) (.slice Ao33 t522.length co33)) (fun _ hk => hk.2) (.int .i64 t525)) (fun _ hk => hk.2) (.slice Ao34 t526.length co34)) (fun _ hk => hk.2) (.slice Ao35 t529.length co35)) (fun _ h_ => h_.1))) hb); replace HO531 := aM (Kd.R_below (by (with_reducible repeat (first | apply Kd.R_alloc | apply Kd.R_drewN | apply Kd.R_drew)); exact (Kd.R_mono (Kd.R_far (p := ⟨gb532, 9, none⟩) (Kd.R_far (p := ⟨gb532, 8, none⟩) (Kd.R_far (p := ⟨gb532, 7, none⟩) (Kd.R_far (p := ⟨gb532, 6, none⟩) (Kd.R_far (p := ⟨gb532, 5, none⟩) (Kd.R_far (p := ⟨gb532, 4, none⟩) (Kd.R_far (p := ⟨gb532, 3, none⟩) (Kd.R_far (p := ⟨gb532, 2, none⟩) (Kd.R_far (p := ⟨gb532, 1, none⟩) (Kd.R_far (p := ⟨gb532, 0, none⟩) (Kd.R_types HO531.out BK532.out (by decide)) (fun _ hk => hk.2) (.int .i64 t512)) (fun _ hk => hk.2) (.int .i64 t513)) (fun _ hk => hk.2) (.int .i64 t514)) (fun _ hk => hk.2) (.int .i64 t515)) (fun _ hk => hk.2) (.slice Ao31 t516.length co31)) (fun _ hk => hk.2) (.slice Ao32 t519.length co32)) (fun _ hk => hk.2) (.slice Ao33 t522.length co33)) (fun _ hk => hk.2) (.int .i64 t525)) (fun _ hk => hk.2) (.slice Ao34 t526.length co34)) (fun _ hk => hk.2) (.slice Ao35 t529.length co35)) (fun _ h_ => h_.1))) hb); replace BK489 := aM (blk_below (g := gb489) (o := .cells #[.int .i64 a0_0, .int .i64 a0_1, .int .i64 a0_2, .int .i64 a0_3, .slice A0_4 l0_4.length c0_4, .slice A0_5 l0_5.length c0_5, .slice A0_6 l0_6.length c0_6, .int .i64 a0_7, .slice A0_8 l0_8.length c0_8, .slice A0_9 l0_9.length c0_9] 32 (0, 0)) (by (with_reducible repeat (first | apply kN | apply kD | apply kA)); refine blk_far ?_ NB489_532.out _; (with_reducible repeat (first | apply kN | apply kD | apply kA)); refine blk_far ?_ NB489_532.out _; (with_reducible repeat (first | apply kN | apply kD | apply kA)); refine blk_far ?_ NB489_532.out _; (with_reducible repeat (first | apply kN | apply kD | apply kA)); refine blk_far ?_ NB489_532.out _; (with_reducible repeat (first | apply kN | apply kD | apply kA)); refine blk_far ?_ NB489_532.out _; (with_reducible repeat (first | apply kN | apply kD | apply kA)); refine blk_far ?_ NB489_532.out _; (with_reducible repeat (first | apply kN | apply kD | apply kA)); refine blk_far ?_ NB489_532.out _; (with_reducible repeat (first | apply kN | apply kD | apply kA)); refine blk_far ?_ NB489_532.out _; (with_reducible repeat (first | apply kN | apply kD | apply kA)); refine blk_far ?_ NB489_532.out _; (with_reducible repeat (first | apply kN | apply kD | apply kA)); refine blk_far ?_ NB489_532.out _; (with_reducible repeat (first | apply kN | apply kD | apply kA)); exact BK489.out) hb); replace BK532 := aM (blk_below (g := gb532) (o := .cells #[.int .i64 t512, .int .i64 t513, .int .i64 t514, .int .i64 t515, .slice Ao31 t516.length co31, .slice Ao32 t519.length co32, .slice Ao33 t522.length co33, .int .i64 t525, .slice Ao34 t526.length co34, .slice Ao35 t529.length co35] 41 (0, 0)) (by (with_reducible repeat (first | apply kN | apply kD | apply kA)); refine blk_put (cs := #[.int .i64 t512, .int .i64 t513, .int .i64 t514, .int .i64 t515, .slice Ao31 t516.length co31, .slice Ao32 t519.length co32, .slice Ao33 t522.length co33, .int .i64 t525, .slice Ao34 t526.length co34, .slice none 0 0]) ?_ 9 _ rfl; (with_reducible repeat (first | apply kN | apply kD | apply kA)); refine blk_put (cs := #[.int .i64 t512, .int .i64 t513, .int .i64 t514, .int .i64 t515, .slice Ao31 t516.length co31, .slice Ao32 t519.length co32, .slice Ao33 t522.length co33, .int .i64 t525, .slice none 0 0, .slice none 0 0]) ?_ 8 _ rfl; (with_reducible repeat (first | apply kN | apply kD | apply kA)); refine blk_put (cs := #[.int .i64 t512, .int .i64 t513, .int .i64 t514, .int .i64 t515, .slice Ao31 t516.length co31, .slice Ao32 t519.length co32, .slice Ao33 t522.length co33, .int .i64 0, .slice none 0 0, .slice none 0 0]) ?_ 7 _ rfl; (with_reducible repeat (first | apply kN | apply kD | apply kA)); refine blk_put (cs := #[.int .i64 t512, .int .i64 t513, .int .i64 t514, .int .i64 t515, .slice Ao31 t516.length co31, .slice Ao32 t519.length co32, .slice none 0 0, .int .i64 0, .slice none 0 0, .slice none 0 0]) ?_ 6 _ rfl; (with_reducible repeat (first | apply kN | apply kD | apply kA)); refine blk_put (cs := #[.int .i64 t512, .int .i64 t513, .int .i64 t514, .int .i64 t515, .slice Ao31 t516.length co31, .slice none 0 0, .slice none 0 0, .int .i64 0, .slice none 0 0, .slice none 0 0]) ?_ 5 _ rfl; (with_reducible repeat (first | apply kN | apply kD | apply kA)); refine blk_put (cs := #[.int .i64 t512, .int .i64 t513, .int .i64 t514, .int .i64 t515, .slice none 0 0, .slice none 0 0, .slice none 0 0, .int .i64 0, .slice none 0 0, .slice none 0 0]) ?_ 4 _ rfl; (with_reducible repeat (first | apply kN | apply kD | apply kA)); refine blk_put (cs := #[.int .i64 t512, .int .i64 t513, .int .i64 t514, .int .i64 0, .slice none 0 0, .slice none 0 0, .slice none 0 0, .int .i64 0, .slice none 0 0, .slice none 0 0]) ?_ 3 _ rfl; (with_reducible repeat (first | apply kN | apply kD | apply kA)); refine blk_put (cs := #[.int .i64 t512, .int .i64 t513, .int .i64 0, .int .i64 0, .slice none 0 0, .slice none 0 0, .slice none 0 0, .int .i64 0, .slice none 0 0, .slice none 0 0]) ?_ 2 _ rfl; (with_reducible repeat (first | apply kN | apply kD | apply kA)); refine blk_put (cs := #[.int .i64 t512, .int .i64 0, .int .i64 0, .int .i64 0, .slice none 0 0, .slice none 0 0, .slice none 0 0, .int .i64 0, .slice none 0 0, .slice none 0 0]) ?_ 1 _ rfl; (with_reducible repeat (first | apply kN | apply kD | apply kA)); refine blk_put (cs := #[.int .i64 0, .int .i64 0, .int .i64 0, .int .i64 0, .slice none 0 0, .slice none 0 0, .slice none 0 0, .int .i64 0, .slice none 0 0, .slice none 0 0]) ?_ 0 _ rfl; (with_reducible repeat (first | apply kN | apply kD | apply kA)); exact BK532.out) hb); replace HB := cH HB hb; (try clear hb); (try clear hk)))
    have n0_ := aM (Kd.R_drew HO497.out)
    have n1_ := aM (Kd.S_drew HO500.out)
    have n2_ := aM (Kd.R_drew HO503.out)
    have n3_ := aM (Kd.S_drew HO507.out)
    have n4_ := aM (Kd.R_drew HO510.out)
    have n5_ := aM (Kd.R_drew HO518.out)
    have n6_ := aM (Kd.S_drew HO521.out)
    have n7_ := aM (Kd.R_drew HO524.out)
    have n8_ := aM (Kd.S_drew HO528.out)
    have n9_ := aM (Kd.R_drew HO531.out)
    have n10_ := aM (kD BK489.out)
    have n11_ := aM (kD BK532.out)
    have n12_ := aM (b1 HB.out)
    clear HO497
    clear HO500
    clear HO503
    clear HO507
    clear HO510
    clear HO518
    clear HO521
    clear HO524
    clear HO528
    clear HO531
    clear BK489
    clear BK532
    clear HB
    have HO497 := n0_
    have HO500 := n1_
    have HO503 := n2_
    have HO507 := n3_
    have HO510 := n4_
    have HO518 := n5_
    have HO521 := n6_
    have HO524 := n7_
    have HO528 := n8_
    have HO531 := n9_
    have BK489 := n10_
    have BK532 := n11_
    have HB := n12_
    clear n0_ n1_ n2_ n3_ n4_ n5_ n6_ n7_ n8_ n9_ n10_ n11_ n12_
    refine start_ (n := 5) (S := fun w' => w'.cell? ⟨gb532, 0, none⟩ = some (.int .i64 t512) ∧ w'.cell? ⟨gb532, 1, none⟩ = some (.int .i64 t513) ∧ w'.cell? ⟨gb532, 2, none⟩ = some (.int .i64 t514) ∧ w'.cell? ⟨gb532, 3, none⟩ = some (.int .i64 t515) ∧ w'.cell? ⟨gb532, 4, none⟩ = some (.slice Ao31 t516.length co31) ∧ w'.cell? ⟨gb532, 5, none⟩ = some (.slice Ao32 t519.length co32) ∧ w'.cell? ⟨gb532, 6, none⟩ = some (.slice Ao33 t522.length co33) ∧ w'.cell? ⟨gb532, 7, none⟩ = some (.int .i64 t525) ∧ w'.cell? ⟨gb532, 8, none⟩ = some (.slice Ao34 t526.length co34) ∧ w'.cell? ⟨gb532, 9, none⟩ = some (.slice Ao35 t529.length co35) ∧ w'.cell? ⟨gb489, 0, none⟩ = some (.int .i64 a0_0) ∧ w'.cell? ⟨gb489, 1, none⟩ = some (.int .i64 a0_1) ∧ w'.cell? ⟨gb489, 2, none⟩ = some (.int .i64 a0_2) ∧ w'.cell? ⟨gb489, 3, none⟩ = some (.int .i64 a0_3) ∧ w'.cell? ⟨gb489, 4, none⟩ = some (.slice A0_4 l0_4.length c0_4) ∧ w'.cell? ⟨gb489, 5, none⟩ = some (.slice A0_5 l0_5.length c0_5) ∧ w'.cell? ⟨gb489, 6, none⟩ = some (.slice A0_6 l0_6.length c0_6) ∧ w'.cell? ⟨gb489, 7, none⟩ = some (.int .i64 a0_7) ∧ w'.cell? ⟨gb489, 8, none⟩ = some (.slice A0_8 l0_8.length c0_8) ∧ w'.cell? ⟨gb489, 9, none⟩ = some (.slice A0_9 l0_9.length c0_9)) (ds := []) #[false, false, false, false, false] (by kernel_rfl) rfl rfl ⟨(kC BK532.out 0).trans rfl, (kC BK532.out 1).trans rfl, (kC BK532.out 2).trans rfl, (kC BK532.out 3).trans rfl, (kC BK532.out 4).trans rfl, (kC BK532.out 5).trans rfl, (kC BK532.out 6).trans rfl, (kC BK532.out 7).trans rfl, (kC BK532.out 8).trans rfl, (kC BK532.out 9).trans rfl, (kC BK489.out 0).trans rfl, (kC BK489.out 1).trans rfl, (kC BK489.out 2).trans rfl, (kC BK489.out 3).trans rfl, (kC BK489.out 4).trans rfl, (kC BK489.out 5).trans rfl, (kC BK489.out 6).trans rfl, (kC BK489.out 7).trans rfl, (kC BK489.out 8).trans rfl, (kC BK489.out 9).trans rfl⟩ (fun hHeld => ?_)
    generalize w36.drew = w37 at HO497 HO500 HO503 HO507 HO510 HO518 HO521 HO524 HO528 HO531 BK489 BK532 HB hHeld ⊢
    refine take_ (i := 0) (N := some 22) (v := ?_) (a' := ?_) #[true, false, false, false, false] rfl rfl (by kernel_rfl) (fun _ _ _ h => h) (Or.inl ⟨by rfl, ?_⟩) hHeld ?_ ?_
    rotate_left
    ·rintro w' ⟨s0, s1, s2, s3, s4, s5, s6, s7, s8, s9, s10, s11, s12, s13, s14, s15, s16, s17, s18, s19⟩
     go_simp
     with_reducible rfl
    rotate_left
    ·simp only [Act.put, List.setIfInBounds_toArray, List.set_cons_zero, List.set_cons_succ, i64_w, i32_w]
     rfl
    refine take_ (i := 1) (N := some 23) (v := ?_) (a' := ?_) #[true, true, false, false, false] rfl rfl (by kernel_rfl) (fun _ _ _ h => h) (Or.inl ⟨by rfl, ?_⟩) hHeld ?_ ?_
    rotate_left
    ·rintro w' ⟨s0, s1, s2, s3, s4, s5, s6, s7, s8, s9, s10, s11, s12, s13, s14, s15, s16, s17, s18, s19⟩
     go_simp
     with_reducible rfl
    rotate_left
    ·simp only [Act.put, List.setIfInBounds_toArray, List.set_cons_zero, List.set_cons_succ, i64_w, i32_w]
     rfl
    refine one_ (i := 2) (N := some 24) #[true, true, true, false, false] rfl rfl (by kernel_rfl) (by decide) (fun K hK => ?_)
    refine zGo Try.func6 #[.agg #[.int .i64 a0_0, .int .i64 a0_1, .int .i64 a0_2, .int .i64 a0_3, .slice A0_4 l0_4.length c0_4, .slice A0_5 l0_5.length c0_5, .slice A0_6 l0_6.length c0_6, .int .i64 a0_7, .slice A0_8 l0_8.length c0_8, .slice A0_9 l0_9.length c0_9]] ?_
    with_reducible refine (laws_toStream.calls k a0_0 a0_1 a0_2 a0_3 _ _ l0_4 _ _ l0_5 _ _ l0_6 a0_7 _ _ l0_8 _ _ l0_9 t534 t535 t536 t537 t538 t541 t544 t547 t548 t551 _ ?side1 ?side2 ?side3 ?side4 ?side5 ?side6 ?side7 ?side8 ?side9 ?side10 A12.out).mono ?_
    (case side1 => exact zC (Kd.C_below HR0_4.out HB.out))
    (case side2 => exact HC0_4.out)
    (case side3 => exact zC (Kd.C_below HR0_5.out HB.out))
    (case side4 => exact HC0_5.out)
    (case side5 => exact zC (Kd.C_below HR0_6.out HB.out))
    (case side6 => exact HC0_6.out)
    (case side7 => exact zC (Kd.C_below HR0_8.out HB.out))
    (case side8 => exact HC0_8.out)
    (case side9 => exact zC (Kd.C_below HR0_9.out HB.out))
    (case side10 => exact HC0_9.out)
    rintro e w38 ⟨v539, v542, v545, v549, v552, rfl, ho0, ho1, ho2, ho3, ho4, hb⟩
    refine ⟨_, rfl, ?_⟩
    obtain ⟨N_HO543, hN_HO543⟩ := sepN ho1
    obtain ⟨N_HO550, hN_HO550⟩ := sepN ho3
    have n0_ := aM (Kd.R_elder' (by (with_reducible repeat (first | apply Kd.R_alloc | apply Kd.R_drewN | apply Kd.R_drew)); exact HO497.out) (Kd.R_base ho0) hb)
    have n1_ := aM (sepO (by (with_reducible repeat (first | apply Kd.S_alloc | apply Kd.S_drewN | apply Kd.S_drew)); exact HO500.out) hN_HO543 hb)
    have n2_ := aM (Kd.R_mono (Kd.R_told (Kd.R_told (Kd.R_old (by (with_reducible repeat (first | apply Kd.R_alloc | apply Kd.R_drewN | apply Kd.R_drew)); exact HO503.out) hb) (Kd.S_base ho1)) (Kd.R_base ho2)) (fun _ h_ => h_.1))
    have n3_ := aM (sepO (by (with_reducible repeat (first | apply Kd.S_alloc | apply Kd.S_drewN | apply Kd.S_drew)); exact HO507.out) hN_HO550 hb)
    have n4_ := aM (Kd.R_elder' (by (with_reducible repeat (first | apply Kd.R_alloc | apply Kd.R_drewN | apply Kd.R_drew)); exact HO510.out) (Kd.R_base ho4) hb)
    have n5_ := aM (Kd.R_elder' (by (with_reducible repeat (first | apply Kd.R_alloc | apply Kd.R_drewN | apply Kd.R_drew)); exact HO518.out) (Kd.R_base ho0) hb)
    have n6_ := aM (sepO (by (with_reducible repeat (first | apply Kd.S_alloc | apply Kd.S_drewN | apply Kd.S_drew)); exact HO521.out) hN_HO543 hb)
    have n7_ := aM (Kd.R_mono (Kd.R_told (Kd.R_told (Kd.R_old (by (with_reducible repeat (first | apply Kd.R_alloc | apply Kd.R_drewN | apply Kd.R_drew)); exact HO524.out) hb) (Kd.S_base ho1)) (Kd.R_base ho2)) (fun _ h_ => h_.1))
    have n8_ := aM (sepO (by (with_reducible repeat (first | apply Kd.S_alloc | apply Kd.S_drewN | apply Kd.S_drew)); exact HO528.out) hN_HO550 hb)
    have n9_ := aM (Kd.R_elder' (by (with_reducible repeat (first | apply Kd.R_alloc | apply Kd.R_drewN | apply Kd.R_drew)); exact HO531.out) (Kd.R_base ho4) hb)
    have n10_ := aM (Kd.R_lower (Kd.R_new' (Kd.R_new' ho0 (Kd.R_lt (by (with_reducible repeat (first | apply Kd.R_alloc | apply Kd.R_drewN | apply Kd.R_drew)); exact HO497.out))) (Kd.R_lt (by (with_reducible repeat (first | apply Kd.R_alloc | apply Kd.R_drewN | apply Kd.R_drew)); exact HO518.out))) (below_size zH))
    have n11_ := aM (Kd.S_lower (sepW (sepW ho1 hN_HO543) hN_HO543) (below_size zH))
    have n12_ := aM (Kd.R_lower (Kd.R_new' (Kd.R_new' (Kd.R_new' (Kd.R_new' ho2 (Kd.S_lt (by (with_reducible repeat (first | apply Kd.S_alloc | apply Kd.S_drewN | apply Kd.S_drew)); exact HO500.out))) (Kd.R_lt (by (with_reducible repeat (first | apply Kd.R_alloc | apply Kd.R_drewN | apply Kd.R_drew)); exact HO503.out))) (Kd.S_lt (by (with_reducible repeat (first | apply Kd.S_alloc | apply Kd.S_drewN | apply Kd.S_drew)); exact HO521.out))) (Kd.R_lt (by (with_reducible repeat (first | apply Kd.R_alloc | apply Kd.R_drewN | apply Kd.R_drew)); exact HO524.out))) (below_size zH))
    have n13_ := aM (Kd.S_lower (sepW (sepW ho3 hN_HO550) hN_HO550) (below_size zH))
    have n14_ := aM (Kd.R_lower (Kd.R_new' (Kd.R_new' ho4 (Kd.R_lt (by (with_reducible repeat (first | apply Kd.R_alloc | apply Kd.R_drewN | apply Kd.R_drew)); exact HO510.out))) (Kd.R_lt (by (with_reducible repeat (first | apply Kd.R_alloc | apply Kd.R_drewN | apply Kd.R_drew)); exact HO531.out))) (below_size zH))
    have n15_ := cB BK489 hb
    have n16_ := cB BK532 hb
    have n17_ := cH HB hb
    clear HO497
    clear HO500
    clear HO503
    clear HO507
    clear HO510
    clear HO518
    clear HO521
    clear HO524
    clear HO528
    clear HO531
    clear BK489
    clear BK532
    clear HB
    have HO497 := n0_
    have HO500 := n1_
    have HO503 := n2_
    have HO507 := n3_
    have HO510 := n4_
    have HO518 := n5_
    have HO521 := n6_
    have HO524 := n7_
    have HO528 := n8_
    have HO531 := n9_
    have HO540 := n10_
    have HO543 := n11_
    have HO546 := n12_
    have HO550 := n13_
    have HO553 := n14_
    have BK489 := n15_
    have BK532 := n16_
    have HB := n17_
    clear n0_ n1_ n2_ n3_ n4_ n5_ n6_ n7_ n8_ n9_ n10_ n11_ n12_ n13_ n14_ n15_ n16_ n17_
    (try clear hb)
    (try clear hb2)
    (try clear hk)
    (try clear hi)
    (try clear ho0)
    (try clear ho1)
    (try clear ho2)
    (try clear ho3)
    (try clear ho4)
    obtain ⟨Ao39, co39, eo39⟩ := Kd.R_slice HO540.out
    (first | subst eo39 | (injection eo39 with f1_ f2_ f3_; have f4_ := f1_.symm; have f5_ := f3_.symm; clear f1_ f2_ f3_; subst f4_; subst f5_))
    obtain ⟨Ao40, co40, eo40⟩ := Kd.S_slice HO543.out
    (first | subst eo40 | (injection eo40 with f1_ f2_ f3_; have f4_ := f1_.symm; have f5_ := f3_.symm; clear f1_ f2_ f3_; subst f4_; subst f5_))
    obtain ⟨Ao41, co41, eo41⟩ := Kd.R_slice HO546.out
    (first | subst eo41 | (injection eo41 with f1_ f2_ f3_; have f4_ := f1_.symm; have f5_ := f3_.symm; clear f1_ f2_ f3_; subst f4_; subst f5_))
    obtain ⟨Ao42, co42, eo42⟩ := Kd.S_slice HO550.out
    (first | subst eo42 | (injection eo42 with f1_ f2_ f3_; have f4_ := f1_.symm; have f5_ := f3_.symm; clear f1_ f2_ f3_; subst f4_; subst f5_))
    obtain ⟨Ao43, co43, eo43⟩ := Kd.R_slice HO553.out
    (first | subst eo43 | (injection eo43 with f1_ f2_ f3_; have f4_ := f1_.symm; have f5_ := f3_.symm; clear f1_ f2_ f3_; subst f4_; subst f5_))
    refine hK.out _ _ ⟨(kC BK532.out 0).trans rfl, (kC BK532.out 1).trans rfl, (kC BK532.out 2).trans rfl, (kC BK532.out 3).trans rfl, (kC BK532.out 4).trans rfl, (kC BK532.out 5).trans rfl, (kC BK532.out 6).trans rfl, (kC BK532.out 7).trans rfl, (kC BK532.out 8).trans rfl, (kC BK532.out 9).trans rfl, (kC BK489.out 0).trans rfl, (kC BK489.out 1).trans rfl, (kC BK489.out 2).trans rfl, (kC BK489.out 3).trans rfl, (kC BK489.out 4).trans rfl, (kC BK489.out 5).trans rfl, (kC BK489.out 6).trans rfl, (kC BK489.out 7).trans rfl, (kC BK489.out 8).trans rfl, (kC BK489.out 9).trans rfl⟩ (fun hHeld => ?_)
    clear hK K
    refine zNo ?_
    refine one_ (i := 3) (N := some 25) #[true, true, true, true, false] rfl rfl (by kernel_rfl) (by decide) (fun K hK => ?_)
    refine zGo Try.func8 #[.agg #[.int .i64 t512, .int .i64 t513, .int .i64 t514, .int .i64 t515, .slice Ao31 t516.length co31, .slice Ao32 t519.length co32, .slice Ao33 t522.length co33, .int .i64 t525, .slice Ao34 t526.length co34, .slice Ao35 t529.length co35], .agg #[.int .i64 t534, .int .i64 t535, .int .i64 t536, .int .i64 t537, .slice Ao39 t538.length co39, .slice Ao40 t541.length co40, .slice Ao41 t544.length co41, .int .i64 t547, .slice Ao42 t548.length co42, .slice Ao43 t551.length co43]] ?_
    with_reducible refine (laws_eqStream.calls k t512 t513 t514 t515 _ _ t516 _ _ t519 _ _ t522 t525 _ _ t526 _ _ t529 t534 t535 t536 t537 _ _ t538 _ _ t541 _ _ t544 t547 _ _ t548 _ _ t551 true _ ?side1 ?side2 ?side3 ?side4 ?side5 ?side6 ?side7 ?side8 ?side9 ?side10 ?side11 ?side12 ?side13 ?side14 ?side15 ?side16 ?side17 ?side18 ?side19 ?side20 ⟨rfl⟩ A13.out).mono ?_
    (case side1 => exact zC (Kd.R_reads' HO518.out).2.2)
    (case side2 => exact (Kd.R_reads' HO518.out).2.1)
    (case side3 => exact zC (Kd.S_reads' HO521.out).2.2)
    (case side4 => exact (Kd.S_reads' HO521.out).2.1)
    (case side5 => exact zC (Kd.R_reads' HO524.out).2.2)
    (case side6 => exact (Kd.R_reads' HO524.out).2.1)
    (case side7 => exact zC (Kd.S_reads' HO528.out).2.2)
    (case side8 => exact (Kd.S_reads' HO528.out).2.1)
    (case side9 => exact zC (Kd.R_reads' HO531.out).2.2)
    (case side10 => exact (Kd.R_reads' HO531.out).2.1)
    (case side11 => exact zC (Kd.R_reads' HO540.out).2.2)
    (case side12 => exact (Kd.R_reads' HO540.out).2.1)
    (case side13 => exact zC (Kd.S_reads' HO543.out).2.2)
    (case side14 => exact (Kd.S_reads' HO543.out).2.1)
    (case side15 => exact zC (Kd.R_reads' HO546.out).2.2)
    (case side16 => exact (Kd.R_reads' HO546.out).2.1)
    (case side17 => exact zC (Kd.S_reads' HO550.out).2.2)
    (case side18 => exact (Kd.S_reads' HO550.out).2.1)
    (case side19 => exact zC (Kd.R_reads' HO553.out).2.2)
    (case side20 => exact (Kd.R_reads' HO553.out).2.1)
    rintro e w44 ⟨rfl, hb⟩
    refine ⟨_, rfl, ?_⟩
    have n0_ := aM (Kd.R_below (by (with_reducible repeat (first | apply Kd.R_alloc | apply Kd.R_drewN | apply Kd.R_drew)); exact HO497.out) hb)
    have n1_ := aM (Kd.S_below (by (with_reducible repeat (first | apply Kd.S_alloc | apply Kd.S_drewN | apply Kd.S_drew)); exact HO500.out) hb)
    have n2_ := aM (Kd.R_below (by (with_reducible repeat (first | apply Kd.R_alloc | apply Kd.R_drewN | apply Kd.R_drew)); exact HO503.out) hb)
    have n3_ := aM (Kd.S_below (by (with_reducible repeat (first | apply Kd.S_alloc | apply Kd.S_drewN | apply Kd.S_drew)); exact HO507.out) hb)
    have n4_ := aM (Kd.R_below (by (with_reducible repeat (first | apply Kd.R_alloc | apply Kd.R_drewN | apply Kd.R_drew)); exact HO510.out) hb)
    have n5_ := aM (Kd.R_below (by (with_reducible repeat (first | apply Kd.R_alloc | apply Kd.R_drewN | apply Kd.R_drew)); exact HO518.out) hb)
    have n6_ := aM (Kd.S_below (by (with_reducible repeat (first | apply Kd.S_alloc | apply Kd.S_drewN | apply Kd.S_drew)); exact HO521.out) hb)
    have n7_ := aM (Kd.R_below (by (with_reducible repeat (first | apply Kd.R_alloc | apply Kd.R_drewN | apply Kd.R_drew)); exact HO524.out) hb)
    have n8_ := aM (Kd.S_below (by (with_reducible repeat (first | apply Kd.S_alloc | apply Kd.S_drewN | apply Kd.S_drew)); exact HO528.out) hb)
    have n9_ := aM (Kd.R_below (by (with_reducible repeat (first | apply Kd.R_alloc | apply Kd.R_drewN | apply Kd.R_drew)); exact HO531.out) hb)
    have n10_ := aM (Kd.R_below (by (with_reducible repeat (first | apply Kd.R_alloc | apply Kd.R_drewN | apply Kd.R_drew)); exact HO540.out) hb)
    have n11_ := aM (Kd.S_below (by (with_reducible repeat (first | apply Kd.S_alloc | apply Kd.S_drewN | apply Kd.S_drew)); exact HO543.out) hb)
    have n12_ := aM (Kd.R_below (by (with_reducible repeat (first | apply Kd.R_alloc | apply Kd.R_drewN | apply Kd.R_drew)); exact HO546.out) hb)
    have n13_ := aM (Kd.S_below (by (with_reducible repeat (first | apply Kd.S_alloc | apply Kd.S_drewN | apply Kd.S_drew)); exact HO550.out) hb)
    have n14_ := aM (Kd.R_below (by (with_reducible repeat (first | apply Kd.R_alloc | apply Kd.R_drewN | apply Kd.R_drew)); exact HO553.out) hb)
    have n15_ := cB BK489 hb
    have n16_ := cB BK532 hb
    have n17_ := cH HB hb
    clear HO497
    clear HO500
    clear HO503
    clear HO507
    clear HO510
    clear HO518
    clear HO521
    clear HO524
    clear HO528
    clear HO531
    clear HO540
    clear HO543
    clear HO546
    clear HO550
    clear HO553
    clear BK489
    clear BK532
    clear HB
    have HO497 := n0_
    have HO500 := n1_
    have HO503 := n2_
    have HO507 := n3_
    have HO510 := n4_
    have HO518 := n5_
    have HO521 := n6_
    have HO524 := n7_
    have HO528 := n8_
    have HO531 := n9_
    have HO540 := n10_
    have HO543 := n11_
    have HO546 := n12_
    have HO550 := n13_
    have HO553 := n14_
    have BK489 := n15_
    have BK532 := n16_
    have HB := n17_
    clear n0_ n1_ n2_ n3_ n4_ n5_ n6_ n7_ n8_ n9_ n10_ n11_ n12_ n13_ n14_ n15_ n16_ n17_
    (try clear hb)
    (try clear hb2)
    (try clear hk)
    (try clear hi)
    refine hK.out _ _ ⟨(kC BK532.out 0).trans rfl, (kC BK532.out 1).trans rfl, (kC BK532.out 2).trans rfl, (kC BK532.out 3).trans rfl, (kC BK532.out 4).trans rfl, (kC BK532.out 5).trans rfl, (kC BK532.out 6).trans rfl, (kC BK532.out 7).trans rfl, (kC BK532.out 8).trans rfl, (kC BK532.out 9).trans rfl, (kC BK489.out 0).trans rfl, (kC BK489.out 1).trans rfl, (kC BK489.out 2).trans rfl, (kC BK489.out 3).trans rfl, (kC BK489.out 4).trans rfl, (kC BK489.out 5).trans rfl, (kC BK489.out 6).trans rfl, (kC BK489.out 7).trans rfl, (kC BK489.out 8).trans rfl, (kC BK489.out 9).trans rfl⟩ (fun hHeld => ?_)
    clear hK K
    refine zNo ?_
    refine pure_ (i := 4) (N := some 26) (v := ?_) (a' := ?_) #[true, true, true, true, true] rfl rfl (by kernel_rfl) (fun _ _ _ h => h) (Or.inl ⟨by rfl, ?_⟩) ?_ ?_
    rotate_left
    ·intro w'
     go_simp
     with_reducible rfl
    rotate_left
    ·simp only [Act.put, List.setIfInBounds_toArray, List.set_cons_zero, List.set_cons_succ, i64_w, i32_w]
     rfl
    refine done_ (by kernel_rfl) ?_
    try go_wp2
    go_ret
    exact ⟨zR, zH⟩
   ·replace c14 := Bool.eq_false_iff.mpr c14
    subst c14
    replace H := iF H
    exact noArm H HTRUE_.out

def wf98 (x : S98) : Prop := (Lit.int .i64 x.f0).wf = true ∧ (Lit.int .i64 x.f1).wf = true ∧ (Lit.int .i64 x.f2).wf = true ∧ (Lit.int .i64 x.f3).wf = true
theorem op98 : Op.Opens Try.prog 98 k98 wf98 := Op.opens_mono (Op.opens_struct (fun x_ => ⟨x_.1, x_.2.1, x_.2.2.1, x_.2.2.2⟩) (fun _ => rfl) Try.underlying98 (by kernel_rfl) (Op.opensF_cons rfl (by kernel_rfl) (Op.opens_int Try.underlying3) (Op.opensF_cons rfl (by kernel_rfl) (Op.opens_int Try.underlying3) (Op.opensF_cons rfl (by kernel_rfl) (Op.opens_int Try.underlying3) (Op.opensF_last rfl (by kernel_rfl) (Op.opens_int Try.underlying3)))))) (fun _ h_ => h_)
def wf24 (x : S24) : Prop := (Lit.int .i64 x.f0).wf = true ∧ (Lit.int .i64 x.f1).wf = true ∧ (Lit.int .i64 x.f2).wf = true ∧ (Lit.int .i64 x.f3).wf = true ∧ ((x.f4).length ≤ maxLen ∧ ∀ y_10 ∈ (x.f4), wf98 y_10)
theorem op24 : Op.Opens Try.prog 24 k24 wf24 := Op.opens_mono (Op.opens_struct (fun x_ => ⟨x_.1, x_.2.1, x_.2.2.1, x_.2.2.2.1, x_.2.2.2.2⟩) (fun _ => rfl) Try.underlying24 (by kernel_rfl) (Op.opensF_cons rfl (by kernel_rfl) (Op.opens_int Try.underlying3) (Op.opensF_cons rfl (by kernel_rfl) (Op.opens_int Try.underlying3) (Op.opensF_cons rfl (by kernel_rfl) (Op.opens_int Try.underlying3) (Op.opensF_cons rfl (by kernel_rfl) (Op.opens_int Try.underlying3) (Op.opensF_last rfl (by kernel_rfl) (Op.opens_slice Try.underlying22 (by kernel_rfl) op98))))))) (fun _ h_ => h_)
def wf28 (x : S28) : Prop := ((x.f0).length ≤ maxLen ∧ ∀ y_17 ∈ (x.f0), (y_17.length ≤ maxLen ∧ ∀ y_12 ∈ y_17, (y_12.length ≤ maxLen ∧ ∀ y_7 ∈ y_12, (Lit.int .i64 y_7).wf = true)))
theorem op28 : Op.Opens Try.prog 28 k28 wf28 := Op.opens_mono (Op.opens_struct (fun x_ => ⟨x_⟩) (fun _ => rfl) Try.underlying28 (by kernel_rfl) (Op.opensF_last rfl (by kernel_rfl) (Op.opens_slice Try.underlying26 (by kernel_rfl) (Op.opens_slice Try.underlying25 (by kernel_rfl) (Op.opens_slice Try.underlying55 (by kernel_rfl) (Op.opens_int Try.underlying3)))))) (fun _ h_ => h_)
def wf72 (x : S72) : Prop := ((x.f0).length ≤ maxLen ∧ ∀ y_7 ∈ (x.f0), (Lit.int .i64 y_7).wf = true) ∧ (Lit.int .i64 x.f1).wf = true ∧ (Lit.int .i64 x.f2).wf = true ∧ (Lit.int .i64 x.f3).wf = true ∧ (Lit.int .i64 x.f4).wf = true
theorem op72 : Op.Opens Try.prog 72 k72 wf72 := Op.opens_mono (Op.opens_struct (fun x_ => ⟨x_.1, x_.2.1, x_.2.2.1, x_.2.2.2.1, x_.2.2.2.2⟩) (fun _ => rfl) Try.underlying72 (by kernel_rfl) (Op.opensF_cons rfl (by kernel_rfl) (Op.opens_slice Try.underlying55 (by kernel_rfl) (Op.opens_int Try.underlying3)) (Op.opensF_cons rfl (by kernel_rfl) (Op.opens_int Try.underlying3) (Op.opensF_cons rfl (by kernel_rfl) (Op.opens_int Try.underlying3) (Op.opensF_cons rfl (by kernel_rfl) (Op.opens_int Try.underlying3) (Op.opensF_last rfl (by kernel_rfl) (Op.opens_int Try.underlying3))))))) (fun _ h_ => h_)
def wf32 (x : S32) : Prop := wf24 x.f0 ∧ ((x.f1).length ≤ maxLen ∧ ∀ y_12 ∈ (x.f1), (y_12.length ≤ maxLen ∧ ∀ y_7 ∈ y_12, (Lit.int .i64 y_7).wf = true)) ∧ wf28 x.f2 ∧ (Lit.int .i64 x.f3).wf = true ∧ ((x.f4).length ≤ maxLen ∧ ∀ y_10 ∈ (x.f4), wf72 y_10) ∧ ((x.f5).length ≤ maxLen ∧ ∀ y_6 ∈ (x.f5), (Lit.int .u8 y_6).wf = true)
theorem op32 : Op.Opens Try.prog 32 k32 wf32 := Op.opens_mono (Op.opens_struct (fun x_ => ⟨x_.1, x_.2.1, x_.2.2.1, x_.2.2.2.1, x_.2.2.2.2.1, x_.2.2.2.2.2⟩) (fun _ => rfl) Try.underlying32 (by kernel_rfl) (Op.opensF_cons rfl (by kernel_rfl) op24 (Op.opensF_cons rfl (by kernel_rfl) (Op.opens_slice Try.underlying25 (by kernel_rfl) (Op.opens_slice Try.underlying55 (by kernel_rfl) (Op.opens_int Try.underlying3))) (Op.opensF_cons rfl (by kernel_rfl) op28 (Op.opensF_cons rfl (by kernel_rfl) (Op.opens_int Try.underlying3) (Op.opensF_cons rfl (by kernel_rfl) (Op.opens_slice Try.underlying29 (by kernel_rfl) op72) (Op.opensF_last rfl (by kernel_rfl) (Op.opens_slice Try.underlying30 (by kernel_rfl) (Op.opens_int Try.underlying5))))))))) (fun _ h_ => h_)
/-- The one pure statement of laws_FnExactStreamOk. -/
def laws_FnExactStreamOk.Pure : Prop := ∀ (a0_0 : Int) (a0_1 : Int) (a0_2 : Int) (a0_3 : Int) (l0_4 : List (S98)) (l0_5 : List (List Int)) (l0_6 : List (List (List Int))) (a0_7 : Int) (l0_8 : List (S72)) (l0_9 : List Int), (Lit.int .i64 a0_0).wf = true → (Lit.int .i64 a0_1).wf = true → (Lit.int .i64 a0_2).wf = true → (Lit.int .i64 a0_3).wf = true → (l0_4.length ≤ maxLen ∧ ∀ y_10 ∈ l0_4, wf98 y_10) → (l0_5.length ≤ maxLen ∧ ∀ y_12 ∈ l0_5, (y_12.length ≤ maxLen ∧ ∀ y_7 ∈ y_12, (Lit.int .i64 y_7).wf = true)) → (l0_6.length ≤ maxLen ∧ ∀ y_17 ∈ l0_6, (y_17.length ≤ maxLen ∧ ∀ y_12 ∈ y_17, (y_12.length ≤ maxLen ∧ ∀ y_7 ∈ y_12, (Lit.int .i64 y_7).wf = true))) → (Lit.int .i64 a0_7).wf = true → (l0_8.length ≤ maxLen ∧ ∀ y_10 ∈ l0_8, wf72 y_10) → (l0_9.length ≤ maxLen ∧ ∀ y_6 ∈ l0_9, (Lit.int .u8 y_6).wf = true) → ∃ k, laws_FnExactStreamOk.f k a0_0 a0_1 a0_2 a0_3 l0_4 l0_5 l0_6 a0_7 l0_8 l0_9 = some true
theorem laws_FnExactStreamOk.walk (P : laws_FnExactStreamOk.Pure) (a0_0 : Int) (a0_1 : Int) (a0_2 : Int) (a0_3 : Int) (A0_4 : Option Addr) (c0_4 : Nat) (l0_4 : List (S98)) (A0_5 : Option Addr) (c0_5 : Nat) (l0_5 : List (List Int)) (A0_6 : Option Addr) (c0_6 : Nat) (l0_6 : List (List (List Int))) (a0_7 : Int) (A0_8 : Option Addr) (c0_8 : Nat) (l0_8 : List (S72)) (A0_9 : Option Addr) (c0_9 : Nat) (l0_9 : List Int) (w : World) (hr0_4 : Kd.C k98 w A0_4 l0_4.length l0_4) (hc0_4 : l0_4.length ≤ c0_4) (hr0_5 : Kd.C (Kd.slice 3 (Kd.int .i64)) w A0_5 l0_5.length l0_5) (hc0_5 : l0_5.length ≤ c0_5) (hr0_6 : Kd.C (Kd.slice 55 (Kd.slice 3 (Kd.int .i64))) w A0_6 l0_6.length l0_6) (hc0_6 : l0_6.length ≤ c0_6) (hr0_8 : Kd.C k72 w A0_8 l0_8.length l0_8) (hc0_8 : l0_8.length ≤ c0_8) (hr0_9 : Kd.C (Kd.int .u8) w A0_9 l0_9.length l0_9) (hc0_9 : l0_9.length ≤ c0_9) (qa0_0 : (Lit.int .i64 a0_0).wf = true) (qa0_1 : (Lit.int .i64 a0_1).wf = true) (qa0_2 : (Lit.int .i64 a0_2).wf = true) (qa0_3 : (Lit.int .i64 a0_3).wf = true) (ql0_4 : (l0_4.length ≤ maxLen ∧ ∀ y_10 ∈ l0_4, wf98 y_10)) (ql0_5 : (l0_5.length ≤ maxLen ∧ ∀ y_12 ∈ l0_5, (y_12.length ≤ maxLen ∧ ∀ y_7 ∈ y_12, (Lit.int .i64 y_7).wf = true))) (ql0_6 : (l0_6.length ≤ maxLen ∧ ∀ y_17 ∈ l0_6, (y_17.length ≤ maxLen ∧ ∀ y_12 ∈ y_17, (y_12.length ≤ maxLen ∧ ∀ y_7 ∈ y_12, (Lit.int .i64 y_7).wf = true)))) (qa0_7 : (Lit.int .i64 a0_7).wf = true) (ql0_8 : (l0_8.length ≤ maxLen ∧ ∀ y_10 ∈ l0_8, wf72 y_10)) (ql0_9 : (l0_9.length ≤ maxLen ∧ ∀ y_6 ∈ l0_9, (Lit.int .u8 y_6).wf = true)) :
    Calls Try.prog 3 #[.agg #[.int .i64 a0_0, .int .i64 a0_1, .int .i64 a0_2, .int .i64 a0_3, .slice A0_4 l0_4.length c0_4, .slice A0_5 l0_5.length c0_5, .slice A0_6 l0_6.length c0_6, .int .i64 a0_7, .slice A0_8 l0_8.length c0_8, .slice A0_9 l0_9.length c0_9]] w fun e w' => e = .returned (.bool true) ∧ Below w.heap.size w w' := by
  obtain ⟨k, h⟩ := P a0_0 a0_1 a0_2 a0_3 l0_4 l0_5 l0_6 a0_7 l0_8 l0_9 qa0_0 qa0_1 qa0_2 qa0_3 ql0_4 ql0_5 ql0_6 qa0_7 ql0_8 ql0_9
  refine (laws_FnExactStreamOk.calls k a0_0 a0_1 a0_2 a0_3 A0_4 c0_4 l0_4 A0_5 c0_5 l0_5 A0_6 c0_6 l0_6 a0_7 A0_8 c0_8 l0_8 A0_9 c0_9 l0_9 true w hr0_4 hc0_4 hr0_5 hc0_5 hr0_6 hc0_6 hr0_8 hc0_8 hr0_9 hc0_9 ⟨rfl⟩ h).mono ?_
  rintro e w' ⟨rfl, hd⟩
  exact ⟨rfl, hd⟩

theorem pure_StreamOk : laws_FnExactStreamOk.Pure := by
  intro p w h r l T c m J N _ _ _ _ hql hqT hqc _ hqJ hqN
  refine Ev.rounds (g := fun k => laws_FnExactStreamOk.f k p w h r l T c m J N) ?_
  unfold laws_FnExactStreamOk.f
  have e1 := hql.1
  have e2 := hqT.1
  have e3 := hqc.1
  have e4 := hqJ.1
  have e5 := hqN.1
  unfold maxLen at e1 e2 e3 e4 e5
  obtain ⟨z, hz, hz2⟩ := szStream_f p w h r l T c m J N e1 e2 (fun x hx => by have := (hqT.2 x hx).1; unfold maxLen at this; exact this) e3
    (fun x hx => by
      have h1 := hqc.2 x hx
      have h2 := h1.1
      unfold maxLen at h2
      exact ⟨h2, fun y hy => by have h3 := (h1.2 y hy).1; unfold maxLen at h3; exact h3⟩) e4 (fun x hx => by have := (hqJ.2 x hx).1; unfold maxLen at this; omega) e5
  refine evBind hz (evIf (fun _ => Ev.now _) (fun hs => ?_))
  obtain ⟨bl, ⟨bT, bTx⟩, ⟨bc, bcx⟩, ⟨bJ, bJx⟩, bN⟩ := hz2 (by omega)
  have hm : (l.map convC).length ≤ 1048576 := by rw [List.length_map]; exact bl
  have hk : (J.map convS).length ≤ 1048576 := by rw [List.length_map]; exact bJ
  have hkx : ∀ x ∈ J.map convS, x.f0.length ≤ 1048576 := fun x hx => by
    obtain ⟨y, hy, rfl⟩ := List.mem_map.1 hx
    exact bJx y hy
  have TS := toStream_f p w h r l T c m J N bl bT bTx bc bcx bJ bJx bN
  refine evBind TS (evBind (sStreamOk_f p w h r (l.map convC) T c m (J.map convS) N hm bcx hk hkx) (evBind TS (evBind (iStreamOk_f p w h r (l.map convC) T c m (J.map convS) N hm bcx hk hkx) ?_)))
  refine evNeg (by simp) (evBind TS (evBind (eqStream_f p w h r (l.map convC) T c m (J.map convS) N hm bT bTx bc bcx hk hkx bN) (evPos rfl (Ev.now _))))

end Go.Proofs.Ytpcfjobojdldnaa.CV
